/- What law3's EntryWords computes: true, of any entry. Conditions: none. -/
import Derived.Test.YtkhmhgleglhcjaaDoorC17
import Derived.Test.YtkhmhgleglhcjaaDoorFEWo
set_option linter.unusedVariables false
set_option maxRecDepth 100000
namespace Go.Proofs.YtkhmhgleglhcjaaDoor
open Go Go.Sh

theorem B_get (t : List UInt8) (n : Nat) : (B t)[n]? = t[n]? := by
  by_cases h : n < t.length
  · rw [getElem?_pos (B t) n (by rw [B_size]; exact h), getElem?_pos t n h]
    simp [B, ByteArray.getElem_eq_getElem_data]
  · rw [getElem?_neg (B t) n (by rw [B_size]; exact h), getElem?_neg t n h]
theorem strAt_B {t : List UInt8} {i : Int} {K : UInt8 → World → Prop} {w : World} (h0 : 0 ≤ i) (h1 : i < t.length) (k : ∀ c, t[i.toNat]? = some c → K c w) : strAt (B t) i K w := by
  have h : i.toNat < t.length := by omega
  have e := getElem?_pos t i.toNat h
  exact ⟨_, h0, by rw [B_get, e], k _ e⟩
theorem Sl.take {S : World → Prop} {p : Option Addr} {n : Nat} {vals : List Value} (h : Sl S p n 1 vals) (m : Nat) (hm : m ≤ n) : Sl S p m 1 (vals.take m) := by
  refine ⟨by rw [List.length_take]; have := h.len; omega, fun e => by have := h.no e; omega, fun a ha => ⟨(h.yes a ha).1, fun j v hv w hw => ?_⟩⟩
  refine (h.yes a ha).2 j v ?_ w hw
  rw [List.getElem?_take] at hv
  split at hv
  · exact hv
  · cases hv
def e5 (e : En) : En := ⟨e.k, e.id, e.l ++ [5]⟩
theorem entT_5 (e : En) : entT e.k (e.id :: e.l) ++ [32, 53] = entT (e5 e).k ((e5 e).id :: (e5 e).l) := by
  have i5 : Lib.itoa 5 = [53] := by rw [itoa_dec (by omega), Lib.decDigits, dif_pos (by decide)]; rfl
  simp [entT, joinL, e5, i5]
theorem mayN_5 {e : En} (h : mayN e = true) (hl : e.l.length ≠ 4) : mayN (e5 e) = true := by
  simp only [mayN, e5, mayE, Bool.and_eq_true, numberedB, decide_eq_true_eq] at h ⊢
  obtain ⟨h1, h2, h3, h4, h5⟩ := h
  refine ⟨h1, decide_eq_true h2, decide_eq_true h3, by simp; omega, ?_⟩
  rw [List.any_append]
  simp only [Bool.not_eq_true'] at h5 ⊢
  rw [h5]; rfl
theorem mayN_6 {e : En} (hl : e.l.length = 4) : mayN (e5 e) = false := by
  have : numberedB (e5 e).l = false := by simp [numberedB, e5, hl]
  simp [mayN, mayE, this]
theorem parse_5 {e : En} (h : mayN e = true) (hl : e.l.length = 4) : parseE (lineL (e5 e)) = (2, En.zero) := by
  obtain ⟨h1, -, -, -, h2, h3, h4, h5⟩ := mayN_out h
  unfold parseE
  split
  · rfl
  · rw [lineL, readS_sign]
    simp only
    have : okW (entT (e5 e).k ((e5 e).id :: (e5 e).l)) = none := by
      rw [okW, readW_back (k := (e5 e).k) (id := (e5 e).id) (l := (e5 e).l) h1 (by unfold smallN; show _ ≤ e.id ∧ e.id ≤ _; omega) (fun n hn => ?_)]
      · simp only
        rw [if_neg]
        have := mayN_6 hl
        show ¬ (mayN (e5 e) = true)
        rw [this]; simp
      · rcases List.mem_append.1 hn with hn | hn
        · exact h5 n hn
        · simp at hn; subst hn; unfold smallN; omega
    rw [this]
theorem count_join {w : List UInt8} {ws : List (List UInt8)} (h : 32 ∉ w) (hs : ∀ v ∈ ws, 32 ∉ v) : (joinL (w :: ws)).count 32 = ws.length := by
  induction ws generalizing w with
  | nil => simpa [joinL, List.count_eq_zero] using h
  | cons v ws ih =>
    have e : joinL (w :: v :: ws) = w ++ 32 :: joinL (v :: ws) := by simp [joinL]
    rw [e, List.count_append, List.count_cons_self, ih (hs v (by simp)) (fun u hu => hs u (by simp [hu])), List.count_eq_zero.2 h]
    simp
theorem count_ent {e : En} (h : mayN e = true) : (entT e.k (e.id :: e.l)).count 32 = e.l.length + 1 := by
  rw [entT, count_join (mayN_out h).1 (fun v hv => by
    obtain ⟨n, -, rfl⟩ := List.mem_map.1 hv
    exact itoa_no32 n)]
  simp
theorem take_ent (e : En) : (entT e.k (e.id :: e.l)).take e.k.length = e.k := by simp [entT, joinL]
theorem Words_c {w0 w : World} {hs : List Hp} {K : KV} {e : En} {p : Option Addr} {n c : Nat} (E : Errs w0) (T : Tab w0) (H : Sh.Holds w0 hs w) (hsl : Sl (Sh.Holds w0 hs) p n 1 (e.l.map I))
    (k : ∀ w', Sh.Holds w0 hs w' → K (.bool true) w') : gocall Tryd.prog 5 [enV e (.slice p n c)] K w := by
  have hn : n = e.l.length := by have := hsl.len; simp at this; omega
  apply F5_go; unfold F5
  refine nwE_h H (fun k5 w H => ?_)
  have s1 := hsl.mono (S' := Sh.Holds w0 (eHp k5 e.k e.id (.slice p n c) :: hs)) fun w H => H.tail
  have aw : ∀ {w}, Sh.Holds w0 (eHp k5 e.k e.id (.slice p n c) :: hs) w → gocall Tryd.prog 14 [] (fun v w => asBoo (v) (fun b w => K (Value.bool (b)) (w)) (w)) w := by
    intro w H
    refine awake3_c E T H (fun w H => ?_)
    refine asBoo_h ?_
    exact k _ H.tail
  apply ld3_h 0 H rfl
  refine light_c (e := e) H (fun w H => ?_)
  refine asBoo_h ?_
  refine br_s (fun _ => aw H) (fun h1 => ?_)
  simp only [Bool.not_eq_false', Bool.and_eq_true, decide_eq_true_eq] at h1
  apply ld3_h 0 H rfl
  refine MayE_c (by rw [B_size]; omega) s1 H (fun w H => ?_)
  refine asBoo_h ?_
  refine br_s (fun _ => aw H) (fun hm => ?_)
  have hm : mayN e = true := by simpa [mayN] using hm
  have hlt := entT_len hm
  have hll : (lineL e).length ≤ 73 := by rw [lineL, signL_len]; omega
  apply ld3_h 0 H rfl
  refine Line3_c (e := e) T (by omega) s1 H (fun w H => ?_)
  rw [show lineR e = (lineL e, 0) by rw [lineR, if_pos hm]]
  refine asT_e [_, _] rfl rfl ?_
  refine asStr_e rfl ?_
  refine asI_e rfl ?_
  refine Read_c (s := lineL e) (by omega) H (fun w H => ?_)
  rw [show readS (lineL e) = some (entT e.k (e.id :: e.l)) from readS_sign _]
  generalize ht : entT e.k (e.id :: e.l) = t at *
  refine asT_e [_, _] rfl rfl ?_
  refine asStr_e (b := B t) rfl ?_
  refine asBoo_e rfl ?_
  refine br_f rfl ?_
  refine br_f rfl ?_
  refine ⟨fun y w => Sh.Holds w0 (eHp k5 e.k e.id (.slice p n c) :: hs) w ∧ 0 ≤ y.1 ∧ y.1 ≤ t.length ∧ y.2.1 = 1 + (t.take y.1.toNat).count 32, fun y _ => (t.length - y.1).toNat, ⟨H, by simp, by simp, by simp⟩, ?_⟩
  clear H
  rintro ⟨y, z, u⟩ w ⟨H, h0, h1', hf⟩
  simp only at h0 h1' hf
  have hcl : (t.take y.toNat).count 32 ≤ 73 := by
    have := List.count_le_length (a := (32 : UInt8)) (l := t.take y.toNat)
    rw [List.length_take] at this; omega
  refine br_s (fun h2 => ?_) (fun h2 => ?_)
  · simp only [decide_eq_true_eq, B_size] at h2
    refine strAt_B h0 (by omega) (fun x hx => ?_)
    have hw : IntKind.wrap .i64 (y + 1) = y + 1 := wrap64 (by omega) (by omega)
    have hz : IntKind.wrap .i64 (z + 1) = z + 1 := wrap64 (by omega) (by omega)
    have ht1 : t.take (y + 1).toNat = t.take y.toNat ++ [x] := by rw [show (y + 1).toNat = y.toNat + 1 by omega, List.take_add_one, hx]; rfl
    refine br_s (fun h3 => ?_) (fun h3 => ?_)
    · simp only [hw, hz]
      have hx2 : x = 32 := by
        have : x.toNat = 32 := by simp at h3; omega
        exact UInt8.toNat_inj.1 this
      refine ⟨⟨H, by omega, by omega, ?_⟩, by omega⟩
      rw [ht1, List.count_append, hf, hx2]; simp; omega
    · simp only [hw]
      have hx2 : x ≠ 32 := by
        rintro rfl; simp at h3
      refine ⟨⟨H, by omega, by omega, ?_⟩, by omega⟩
      rw [ht1, List.count_append, hf, show List.count 32 [x] = 0 from List.count_eq_zero.2 (by simpa using Ne.symm hx2)]; rfl
  simp only [decide_eq_false_iff_not, B_size] at h2
  have hz : z = 2 + e.l.length := by
    rw [hf, List.take_of_length_le (by omega), ← ht, count_ent hm]; omega
  refine cat_B (b := [32, 53]) (by simp; omega) ?_
  have e1 : t ++ [32, 53] = entT (e5 e).k ((e5 e).id :: (e5 e).l) := by rw [← ht, entT_5]
  have hl5 : (lineL (e5 e)).length ≤ 75 := by rw [lineL, signL_len, ← e1]; simp; omega
  refine Sign_c (by rw [B_size]; simp; omega) H (fun w H => ?_)
  refine asStr_h ?_
  rw [signL_B, e1]
  refine Parse_c (s := lineL (e5 e)) E T H (by omega) (fun r w ok H => ?_)
  refine resE_h (e := (parseE (lineL (e5 e))).2) ?_
  refine nw3_h (k := (parseE (lineL (e5 e))).2.k) H (fun b w H => ?_)
  replace H := H.drew
  have H' := H
  unfold eHp at H'
  apply ld_h 2 H' rfl rfl; refine asSl_h ?_
  have hw : IntKind.wrap .i64 (2 + (n : Int)) = 2 + n := wrap64 (by omega) (by omega)
  rw [hw]
  refine br_f (by rw [hz, hn]; simp) ?_
  apply ld_h 2 H' rfl rfl; refine asStr_h ?_
  rw [B_size]
  refine sl_take (by rw [← ht]; simp [entT, joinL]) ?_
  apply ld_h 2 H' rfl rfl; refine asStr_h ?_
  rw [strEq_B]
  refine br_f (by rw [← ht, take_ent]; simp) ?_
  apply ld_h 2 H' rfl rfl; refine asSl_h ?_
  by_cases h4 : e.l.length = 4
  · rw [parse_5 hm h4] at H ⊢
    refine br_t (by rw [hn, h4]; rfl) ?_
    refine br_t rfl ?_
    exact aw H.tail.tail
  rw [parse_line (mayN_5 hm h4)] at ok H H' ⊢
  have hk : r.n = e.l.length + 1 := by have := ok.len; simp [e5] at this; omega
  refine br_f (by rw [hn]; simp; omega) ?_
  replace H := H.drew
  replace H' := H'.drew
  refine br_t rfl ?_
  apply ld_h 0 H' rfl rfl; refine asSl_h ?_
  apply ld_h 2 H' rfl rfl; refine asSl_h ?_
  have hw : IntKind.wrap .i64 ((n : Int) + 1) = n + 1 := wrap64 (by omega) (by omega)
  rw [hw]
  refine br_t (by rw [hk, hn]; simp) ?_
  apply ld_h 0 H' rfl rfl; refine asSl_h ?_
  apply ld_h 2 H' rfl rfl; refine asSl_h ?_
  refine slAt_h ok (by omega) (by omega) (fun g hg => ?_)
  refine ldR_h 1 H rfl ok hg (v := I 5) (by simp [e5, hn]) ?_
  refine asI_h ?_
  refine br_t rfl ?_
  apply ld_h 0 H' rfl rfl; refine asSl_h ?_
  apply ld_h 2 H' rfl rfl; refine asSl_h ?_
  have hc := (ok.yes g hg).1
  refine ⟨by omega, by omega, by omega, ?_⟩
  have ea : (if r.c = Int.toNat 0 then r.p else r.p.map (·.add (Int.toNat 0 * 1))) = r.p := by
    split
    · rfl
    · simp [Row.p, hg, Addr.add_lit]
  rw [ea]
  apply ld_h 2 H' rfl rfl; refine asSl_h ?_
  have sr := Sl.take (Sl.row (w0 := w0) (hs := eHp b (e5 e).k (e5 e).id r.v :: r.hp 3 :: eHp k5 e.k e.id (.slice p n c) :: hs) 1 rfl ok) n (by omega)
  have et : ((e5 e).l.map I).take n = e.l.map I := by simp [e5, hn]
  rw [et] at sr
  refine SameInts_c (l := e.l) (m := e.l) H (by simpa using sr) (s1.mono fun w H => H.tail.tail) (by omega) (fun w H => ?_)
  refine asBoo_h ?_
  refine br_t (by simp [eqB]) ?_
  exact aw H.tail.tail
end Go.Proofs.YtkhmhgleglhcjaaDoor
