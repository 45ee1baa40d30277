/- Contracts of a range over a journal's entries. Conditions: none. -/
import Derived.Test.YtcfmnoimehcfnaaGreatDoorCJ2
set_option linter.unusedVariables false
set_option maxRecDepth 100000
namespace Go.Proofs.YtcfmnoimehcfnaaGreatDoor
open Go Go.Sh


theorem Holds.mid2 {w0 w : World} {A x a b : List Hp} (H : Sh.Holds w0 (A ++ (a ++ (x ++ b))) w) : Sh.Holds w0 (A ++ (x ++ (a ++ b))) w := H.perm (by
  simp only [List.flatten_append]
  exact List.Perm.append_left _ (List.perm_append_comm_assoc _ _ _))
theorem all2_c {w0 w : World} {cs0 : List Hp} {K : KV} {J : Jr} {y kb ij : Nat} (C : Nat → List Hp → Prop) (Cx : List Hp → Prop) (E : Errs w0) (T : Tab w0) (hl : ∀ s ∈ J.lines, s.size ≤ 100000) (hn : J.lines.length ≤ 5000) (ok : J.Ok)
    (H : Sh.Holds w0 (cs0 ++ [[(kb, .cells #[J.v] 131 (0, 0))]]) w) (hj : cs0[ij]? = some J.hp) (h0 : C 0 cs0)
    (hy : ∀ (i : Nat) (s : ByteArray) (r : Row) (cs fr : List Hp) (K' : KV) (w : World), J.lines[i]? = some s → okS s = true → (goodL J.lines)[i]? = some s → C i cs → r.Ok 1 ((parseE s.data.toList).2.l.map I) → Sh.Holds w0 (cs ++ (r.hp 3 :: fr)) w →
      (∀ cs' w', C (i + 1) cs' → Sh.Holds w0 (cs' ++ fr) w' → K' (.bool true) w') → (∀ cs' w', Cx cs' → Sh.Holds w0 (cs' ++ fr) w' → K' (.bool false) w') → goyield Tryz.prog y [enV (parseE s.data.toList).2 r.v] K' w)
    (k1 : ∀ cs' w', C (goodL J.lines).length cs' → Sh.Holds w0 cs' w' → K (.tuple #[]) w') (k2 : ∀ cs' w', Cx cs' → Sh.Holds w0 cs' w' → K (.tuple #[]) w') :
    gocall Tryz.prog 216 [yv y, .pointer (some ⟨kb, 0, none⟩)] K w := by
  have left : ∀ {a b : List Hp} {w}, Sh.Holds w0 (a ++ b) w → Sh.Holds w0 a w := fun H => Holds.right (Holds.swap H)
  apply F216_go; unfold F216
  have H' := Holds.swap H
  apply ld_h 0 H' rfl rfl; refine asPtr_h ?_
  refine Lines_c (J := J) ij H (by rw [List.getElem?_append_left (List.getElem?_eq_some_iff.1 hj).1]; exact hj) ok hn (fun r w okr H => ?_)
  refine asSl_h ?_
  have hrn : r.n = J.lines.length := by have := okr.len; simp at this; omega
  obtain ⟨fr0, hfr⟩ : ∃ fr0 : List Hp, fr0 = [r.hp 9, [(kb, .cells #[J.v] 131 (0, 0))]] := ⟨_, rfl⟩
  have H0 : Sh.Holds w0 (cs0 ++ fr0) w := by rw [hfr]; exact Holds.mid (x := [r.hp 9]) (a := cs0) H
  have s0 : ∀ cs : List Hp, Sl (Sh.Holds w0 (cs ++ fr0)) r.p r.n 1 (J.lines.map St) := fun cs => (Sl.row (w0 := w0) (hs := fr0) 0 (by rw [hfr]; rfl) okr).mono fun w H => Holds.right H
  refine ⟨fun y w => ∃ cs, Sh.Holds w0 (cs ++ fr0) w ∧ C y.1.toNat cs ∧ 0 ≤ y.1 ∧ y.1 ≤ J.lines.length ∧ (J.lines.take y.1.toNat).all okS = true, fun y _ => (J.lines.length - y.1).toNat, ⟨cs0, H0, h0, by simp, by simp, by simp⟩, ?_⟩
  clear H H' H0 h0 hj
  rintro ⟨i, u⟩ w ⟨cs, H, hc, g0, g1, ha⟩
  simp only at hc g0 g1 ha
  refine br_s (fun h => ?_) (fun h => ?_)
  · simp only [decide_eq_true_eq] at h
    have hil : i.toNat < J.lines.length := by omega
    have hg := List.getElem?_eq_getElem hil
    have hmem := List.getElem_mem hil
    refine slAt_s (s0 cs) g0 h (fun b1 o1 hp => ?_)
    refine ldS_s (s0 cs) hp H (v := St J.lines[i.toNat]) (by simp [hg]) ?_
    refine asStr_h ?_
    generalize hs : J.lines[i.toNat] = s at *
    have hsB : s = B s.data.toList := (B_data _).symm
    rw [hsB]
    refine Parse_c (s := s.data.toList) E T H (by have := hl s hmem; exact this) (fun r2 w ok2 H => ?_)
    refine resE_h (e := (parseE s.data.toList).2) ?_
    refine nw3_h (k := (parseE s.data.toList).2.k) H (fun k38 w H => ?_)
    refine br_s (fun hb => ?_) (fun hb => ?_)
    · have hb : okS s = false := by simpa [okS] using hb
      have hgl := good_take J.lines i.toNat ha (fun t ht => by rw [hg] at ht; cases ht; exact hb) (by omega)
      refine k1 cs w ?_ (left H.tail.tail)
      rw [hgl, List.length_take, Nat.min_eq_left (by omega)]
      exact hc
    have hb : okS s = true := by simp [okS] at hb ⊢; exact hb
    have e1 : (i + 1).toNat = i.toNat + 1 := by omega
    have ha1 : (J.lines.take (i.toNat + 1)).all okS = true := by
      rw [List.take_add_one, hg, List.all_append, ha]
      simp [hb]
    have hgi : (goodL J.lines)[i.toNat]? = some s := by
      have hpre : J.lines.take (i.toNat + 1) <+: goodL J.lines := by
        unfold goodL
        have : ∀ (ls : List ByteArray) (n : Nat), (ls.take n).all okS = true → ls.take n <+: ls.takeWhile okS := by
          intro ls
          induction ls with
          | nil => intro n _; simp
          | cons a l ih =>
            intro n hn
            cases n with
            | zero => simp
            | succ n =>
              simp only [List.take_succ_cons, List.all_cons, Bool.and_eq_true] at hn
              rw [List.take_succ_cons, List.takeWhile_cons, if_pos hn.1]
              exact List.cons_prefix_cons.2 ⟨rfl, ih n hn.2⟩
        exact this _ _ ha1
      obtain ⟨t, ht⟩ := hpre
      rw [← ht, List.getElem?_append_left (by rw [List.length_take]; omega), List.getElem?_take, if_pos (by omega)]
      exact hg
    apply ld3_h 0 H rfl
    refine hy i.toNat s r2 cs (eHp k38 (parseE s.data.toList).2.k (parseE s.data.toList).2.id r2.v :: fr0) _ _ hg hb hgi hc ok2 (Holds.mid (x := [_, _]) (H.bring 1 rfl)) (fun cs' w hc' H => ?_) (fun cs' w hc' H => ?_)
    · refine asBoo_h ?_
      refine br_f rfl ?_
      have hw : IntKind.wrap .i64 (i + 1) = i + 1 := wrap64 (by omega) (by omega)
      simp only [hw]
      exact ⟨⟨cs', (Holds.mid (x := cs') (a := [_]) H).tail, by rw [e1]; exact hc', by omega, by omega, by rw [e1]; exact ha1⟩, by omega⟩
    · refine asBoo_h ?_
      refine br_t rfl ?_
      exact k2 cs' w hc' (left H)
  · simp only [decide_eq_false_iff_not] at h
    have hgl := good_take J.lines J.lines.length (by rw [List.take_of_length_le (by omega)] at ha ⊢; exact ha) (fun t ht => by simp at ht) (by omega)
    refine k1 cs w ?_ (left H)
    rw [hgl, List.take_of_length_le (by omega)]
    rwa [show i.toNat = J.lines.length by omega] at hc
def entL (ls : List ByteArray) : List En := (goodL ls).map fun s => (parseE s.data.toList).2
end Go.Proofs.YtcfmnoimehcfnaaGreatDoor
