/- Contracts of journal: piece, Lines, All, Crash, Recover. Conditions: none. -/
import Derived.Test.YtcfmnoimehcfnaaGreatDoorC17
import Derived.Test.YtcfmnoimehcfnaaGreatDoorC3
set_option linter.unusedVariables false
set_option maxRecDepth 100000
namespace Go.Proofs.YtcfmnoimehcfnaaGreatDoor
open Go Go.Sh

theorem Holds.right {w0 w : World} {b : List Hp} : ∀ {a : List Hp}, Sh.Holds w0 (a ++ b) w → Sh.Holds w0 b w
  | [], H => H
  | _ :: a, H => Holds.right (a := a) H.tail
theorem Holds.mid {w0 w : World} {x a b : List Hp} (H : Sh.Holds w0 (x ++ (a ++ b)) w) : Sh.Holds w0 (a ++ (x ++ b)) w := H.perm (by
  simp only [List.flatten_append]
  exact List.perm_append_comm_assoc _ _ _)
theorem clone_c {w0 w : World} {hs : List Hp} {K : KV} {ls : List ByteArray} {p : Option Addr} {n c : Nat} (hsl : Sl (Sh.Holds w0 hs) p n 1 (ls.map St)) (hl : ls.length ≤ 5000) (H : Sh.Holds w0 hs w)
    (k : ∀ (r : Row) w', r.Ok 1 (ls.map St) → Sh.Holds w0 (r.hp 9 :: hs) w' → K r.v w') : gocall Tryz.prog 275 [.slice p n c] K w := by
  have hn : n = ls.length := by have := hsl.len; simp at this; omega
  apply F275_go; unfold F275
  cases hp : p with
  | none =>
    have hn0 := hsl.no hp
    have : ls = [] := List.eq_nil_of_length_eq_zero (by omega)
    subst this
    exact br_t rfl (k Row.nil _ (Row.nil_ok 1) (Holds.nil H))
  | some a =>
    subst hp
    refine br_f rfl ?_
    refine nw_h H (fun k5 w H => ?_)
    have ok0 : (Row.mk (some k5) 0 0 #[]).Ok 1 [] := ⟨rfl, fun h => by simp at h, fun g hg => ⟨by simp, by simp [maxLen], rfl, rfl⟩⟩
    refine bapp_s (r := ⟨some k5, 0, 0, #[]⟩) el80 H (by simp) ok0 (hsl.mono fun w H => H.tail) (by simp [Value.oneCell']) (by simp only; omega) (by simp only; unfold maxLen; omega) (fun r' w1 hr1 hr2 H1 => ?_)
    refine asSl_h ?_
    exact k r' _ (by simpa using hr2) H1
theorem Lines_c {w0 w : World} {hs : List Hp} {K : KV} {J : Jr} (i : Nat) (H : Sh.Holds w0 hs w) (hi : hs[i]? = some J.hp) (ok : J.Ok) (hl : J.lines.length ≤ 5000)
    (k : ∀ (r : Row) w', r.Ok 1 (J.lines.map St) → Sh.Holds w0 (r.hp 9 :: hs) w' → K r.v w') : gocall Tryz.prog 217 [J.v] K w := by
  apply F217_go; unfold F217
  refine br_f rfl ?_
  refine nn_h ?_
  replace H := H.open2 i hi
  apply ld_h 0 H rfl rfl; refine asSl_h ?_
  have H' := H.shut2 i hi
  refine clone_c (ls := J.lines) ((Sl.row (w0 := w0) (hs := [(J.j, .cells #[I J.room, J.r.v, I J.sure, .bool J.down] 235 (0, 0))] :: J.r.hp 9 :: hs.eraseIdx i) 1 rfl ok.row).mono fun w H => H.open2 i hi) hl H' (fun r w ok H => ?_)
  refine asSl_h ?_
  exact k r w ok H
def okS (s : ByteArray) : Bool := (parseE s.data.toList).1 == 0
def goodL (ls : List ByteArray) : List ByteArray := ls.takeWhile okS
theorem good_take : ∀ (ls : List ByteArray) (i : Nat), (ls.take i).all okS = true → (h : ∀ s, ls[i]? = some s → okS s = false) → i ≤ ls.length → goodL ls = ls.take i
  | [], i, _, _, _ => by simp [goodL]
  | s :: ls, 0, _, h, _ => by
    have := h s rfl
    simp [goodL, this]
  | s :: ls, i + 1, ha, h, hi => by
    simp only [List.take_succ_cons, List.all_cons, Bool.and_eq_true] at ha
    have ih := good_take ls i ha.2 (fun t ht => h t (by simpa using ht)) (by simpa using hi)
    have : goodL (s :: ls) = s :: goodL ls := by simp [goodL, ha.1]
    rw [this, ih]; rfl
theorem all_c {w0 w : World} {cs0 : List Hp} {K : KV} {J : Jr} {y kb ij : Nat} (C : Nat → List Hp → Prop) (Cx : List Hp → Prop) (E : Errs w0) (T : Tab w0) (hl : ∀ s ∈ J.lines, s.size ≤ 100000) (hn : J.lines.length ≤ 5000) (ok : J.Ok)
    (H : Sh.Holds w0 (cs0 ++ [[(kb, .cells #[J.v] 131 (0, 0))]]) w) (hj : cs0[ij]? = some J.hp) (h0 : C 0 cs0)
    (hy : ∀ (i : Nat) (s : ByteArray) (p : Option Addr) (n c : Nat) (cs fr : List Hp) (K' : KV) (w : World), J.lines[i]? = some s → (parseE s.data.toList).1 = 0 → C i cs → Sl (Sh.Holds w0 fr) p n 1 ((parseE s.data.toList).2.l.map I) → Sh.Holds w0 (cs ++ fr) w →
      (∀ cs' w', C (i + 1) cs' → Sh.Holds w0 (cs' ++ fr) w' → K' (.bool true) w') → (∀ cs' w', Cx cs' → Sh.Holds w0 (cs' ++ fr) w' → K' (.bool false) w') → goyield Tryz.prog y [enV (parseE s.data.toList).2 (.slice p n c)] K' w)
    (k1 : ∀ cs' w', C (goodL J.lines).length cs' → Sh.Holds w0 cs' w' → K (.tuple #[]) w') (k2 : ∀ cs' w', Cx cs' → Sh.Holds w0 cs' w' → K (.tuple #[]) w') :
    gocall Tryz.prog 216 [yv y, .pointer (some ⟨kb, 0, none⟩)] K w := by
  have left : ∀ {a b : List Hp} {w}, Sh.Holds w0 (a ++ b) w → Sh.Holds w0 a w := fun H => Holds.right (Holds.swap H)
  apply F216_go; unfold F216
  have H' := Holds.swap H
  apply ld_h 0 H' rfl rfl; refine asPtr_h ?_
  refine Lines_c (J := J) ij H (by rw [List.getElem?_append_left (List.getElem?_eq_some_iff.1 hj).1]; exact hj) ok hn (fun r w okr H => ?_)
  refine asSl_h ?_
  have hrn : r.n = J.lines.length := by have := okr.len; simp at this; omega
  obtain ⟨fr0, hfr⟩ : ∃ fr0 : List Hp, fr0 = [r.hp 9, [(kb, .cells #[J.v] 131 (0, 0))]] := ⟨_, rfl⟩
  have H0 : Sh.Holds w0 (cs0 ++ fr0) w := by rw [hfr]; exact Holds.mid (x := [r.hp 9]) (a := cs0) H
  have s0 : ∀ cs : List Hp, Sl (Sh.Holds w0 (cs ++ fr0)) r.p r.n 1 (J.lines.map St) := fun cs => (Sl.row (w0 := w0) (hs := fr0) 0 (by rw [hfr]; rfl) okr).mono fun w H => Holds.right H
  refine ⟨fun y w => ∃ cs, Sh.Holds w0 (cs ++ fr0) w ∧ C y.1.toNat cs ∧ 0 ≤ y.1 ∧ y.1 ≤ J.lines.length ∧ (J.lines.take y.1.toNat).all okS = true, fun y _ => (J.lines.length - y.1).toNat, ⟨cs0, H0, h0, by simp, by simp, by simp⟩, ?_⟩
  clear H H' H0 h0 hj
  rintro ⟨i, u⟩ w ⟨cs, H, hc, g0, g1, ha⟩
  simp only at hc g0 g1 ha
  refine br_s (fun h => ?_) (fun h => ?_)
  · simp only [decide_eq_true_eq] at h
    have hil : i.toNat < J.lines.length := by omega
    have hg := List.getElem?_eq_getElem hil
    have hmem := List.getElem_mem hil
    refine slAt_s (s0 cs) g0 h (fun b1 o1 hp => ?_)
    refine ldS_s (s0 cs) hp H (v := St J.lines[i.toNat]) (by simp [hg]) ?_
    refine asStr_h ?_
    generalize hs : J.lines[i.toNat] = s at *
    have hsB : s = B s.data.toList := (B_data _).symm
    rw [hsB]
    refine Parse_c (s := s.data.toList) E T H (by have := hl s hmem; exact this) (fun r2 w ok2 H => ?_)
    refine resE_h (e := (parseE s.data.toList).2) ?_
    refine nw3_h (k := (parseE s.data.toList).2.k) H (fun k38 w H => ?_)
    refine br_s (fun hb => ?_) (fun hb => ?_)
    · have hb : okS s = false := by simpa [okS] using hb
      have hgl := good_take J.lines i.toNat ha (fun t ht => by rw [hg] at ht; cases ht; exact hb) (by omega)
      refine k1 cs w ?_ (left H.tail.tail)
      rw [hgl, List.length_take, Nat.min_eq_left (by omega)]
      exact hc
    have hb : (parseE s.data.toList).1 = 0 := by simpa using hb
    apply ld3_h 0 H rfl
    refine hy i.toNat s _ _ _ cs (eHp k38 (parseE s.data.toList).2.k (parseE s.data.toList).2.id r2.v :: r2.hp 3 :: fr0) _ _ hg hb hc (Sl.row 1 rfl ok2) (Holds.mid (x := [_, _]) H) (fun cs' w hc' H => ?_) (fun cs' w hc' H => ?_)
    · refine asBoo_h ?_
      refine br_f rfl ?_
      have hw : IntKind.wrap .i64 (i + 1) = i + 1 := wrap64 (by omega) (by omega)
      simp only [hw]
      have e1 : (i + 1).toNat = i.toNat + 1 := by omega
      refine ⟨⟨cs', (Holds.mid (x := cs') (a := [_, _]) H).tail.tail, by rw [e1]; exact hc', by omega, by omega, ?_⟩, by omega⟩
      rw [e1, List.take_add_one, hg, List.all_append, ha]
      simp [okS, hb]
    · refine asBoo_h ?_
      refine br_t rfl ?_
      exact k2 cs' w hc' (left H)
  · simp only [decide_eq_false_iff_not] at h
    have hgl := good_take J.lines J.lines.length (by rw [List.take_of_length_le (by omega)] at ha ⊢; exact ha) (fun t ht => by simp at ht) (by omega)
    refine k1 cs w ?_ (left H)
    rw [hgl, List.take_of_length_le (by omega)]
    rwa [show i.toNat = J.lines.length by omega] at hc
end Go.Proofs.YtcfmnoimehcfnaaGreatDoor
