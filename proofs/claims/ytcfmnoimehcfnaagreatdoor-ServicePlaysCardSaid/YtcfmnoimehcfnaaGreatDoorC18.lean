/- Contracts of the reference's Letters, Sign, Read, MayEntry, Line, number, Cuts. Conditions: none. -/
import Derived.Test.YtcfmnoimehcfnaaGreatDoorCB
import Derived.Test.YtcfmnoimehcfnaaGreatDoorFR1
set_option linter.unusedVariables false
set_option maxRecDepth 100000
namespace Go.Proofs.YtcfmnoimehcfnaaGreatDoor
open Go Go.Sh

theorem Letters2_c {w0 w : World} {hs : List Hp} {K : KV} {s : ByteArray} (hl : s.size < 1000000000) (H : Holds w0 hs w) (k : ∀ w', Holds w0 hs w' → K (.string (lettersB s)) w') : gocall Tryz.prog 326 [.string s] K w := by
  have hsz : s.size = s.data.size := rfl
  apply F326_go; unfold F326
  refine ⟨fun y w => Holds w0 hs w ∧ 0 ≤ y.1 ∧ y.1 ≤ s.size ∧ (y.2.1, y.2.2.1) = (s.data.toList.take y.1.toNat).foldl letStep (1, 0), fun y _ => (s.size - y.1).toNat, ⟨H, by simp, by simp, by simp⟩, ?_⟩
  rintro ⟨y, a, b, u⟩ w ⟨H, h0, h1, hf⟩
  simp only at h0 h1 hf
  refine br_s (fun h => ?_) (fun h => ?_)
  · simp only [decide_eq_true_eq] at h
    have hy : y.toNat < s.size := by omega
    have hc : s[y.toNat]? = some s[y.toNat] := getElem?_pos s y.toNat hy
    refine ⟨s[y.toNat], h0, hc, ?_⟩
    refine ⟨by decide, ?_⟩
    refine ⟨by decide, ?_⟩
    have hw : IntKind.wrap .i64 (y + 1) = y + 1 := wrap64 (by omega) (by omega)
    simp only [hw]
    refine ⟨⟨H, by omega, by omega, ?_⟩, by omega⟩
    rw [show (y + 1).toNat = y.toNat + 1 by omega, List.take_add_one, List.foldl_append, ← hf]
    have hg : s.data.toList[y.toNat]? = some s[y.toNat] := by
      rw [List.getElem?_eq_getElem (by simpa using hy)]
      simp [ByteArray.getElem_eq_getElem_data]
    rw [hg]
    rfl
  · simp only [decide_eq_false_iff_not] at h
    have ht : s.data.toList.take y.toNat = s.data.toList := List.take_of_length_le (by simp; omega)
    rw [ht] at hf
    have hb : b = (letFold s).2 := by unfold letFold; rw [← hf]
    refine ⟨by decide, ?_⟩
    refine ⟨by decide, ?_⟩
    (repeat first | ((with_reducible apply asI_e); rfl) | ((with_reducible apply asBoo_e); rfl) | ((with_reducible apply asStr_e); rfl) | ((with_reducible apply asSl_e); rfl) | ((with_reducible apply asPtr_e); rfl) | ((with_reducible apply asMap_e); rfl) | ((with_reducible apply nn_e); rfl) | ((with_reducible apply ld_h 0); (first | assumption | (apply Holds.drew; assumption)); rfl; rfl) | ((with_reducible apply ld_h 1); (first | assumption | (apply Holds.drew; assumption)); rfl; rfl) | ((with_reducible apply ld_h 2); (first | assumption | (apply Holds.drew; assumption)); rfl; rfl) | ((with_reducible apply ld_h 3); (first | assumption | (apply Holds.drew; assumption)); rfl; rfl) | ((with_reducible apply ld_h 4); (first | assumption | (apply Holds.drew; assumption)); rfl; rfl) | ((with_reducible apply ld_h 5); (first | assumption | (apply Holds.drew; assumption)); rfl; rfl) | ((with_reducible apply ld_h 6); (first | assumption | (apply Holds.drew; assumption)); rfl; rfl) | ((with_reducible apply ldS_h 0); rfl; rfl) | ((with_reducible apply ldS_h 1); rfl; rfl) | ((with_reducible apply ldS_h 2); rfl; rfl) | ((with_reducible apply ldS_h 3); rfl; rfl) | ((with_reducible apply ldS_h 4); rfl; rfl) | ((with_reducible apply ldS_h 5); rfl; rfl) | ((with_reducible apply ldS_h 6); rfl; rfl) | ((with_reducible apply nw_h); (first | assumption | (apply Holds.drew; assumption)); intro _ _ _) | ((with_reducible apply st_h 0); (first | assumption | (apply Holds.drew; assumption)); rfl; rfl; rfl; intro _ _) | ((with_reducible apply st_h 1); (first | assumption | (apply Holds.drew; assumption)); rfl; rfl; rfl; intro _ _) | ((with_reducible apply st_h 2); (first | assumption | (apply Holds.drew; assumption)); rfl; rfl; rfl; intro _ _) | ((with_reducible apply st_h 3); (first | assumption | (apply Holds.drew; assumption)); rfl; rfl; rfl; intro _ _) | ((with_reducible apply st_h 4); (first | assumption | (apply Holds.drew; assumption)); rfl; rfl; rfl; intro _ _) | ((with_reducible apply st_h 5); (first | assumption | (apply Holds.drew; assumption)); rfl; rfl; rfl; intro _ _) | ((with_reducible apply st_h 6); (first | assumption | (apply Holds.drew; assumption)); rfl; rfl; rfl; intro _ _) | ((with_reducible apply kp_s); (first | assumption | (apply Holds.drew; assumption)); (focus ((repeat first | exact Sub.refl _ | (refine Sub.cons 0 rfl ?_) | (refine Sub.cons 1 rfl ?_) | (refine Sub.cons 2 rfl ?_) | (refine Sub.cons 3 rfl ?_) | (refine Sub.cons 4 rfl ?_) | (refine Sub.cons 5 rfl ?_) | (refine Sub.cons 6 rfl ?_) | (refine Sub.cons 7 rfl ?_) | refine Sub.skip ?_ | exact Sub.nil _); done))))
    refine cnv_h (ns := [IntKind.u8.wrap (IntKind.i64.wrap (97 + IntKind.i64.wrap (Int.tdiv b 26))), IntKind.u8.wrap (IntKind.i64.wrap (97 + Int.tmod b 26))]) bt 0 (by assumption) rfl rfl ?_
    (repeat first | ((with_reducible apply asI_e); rfl) | ((with_reducible apply asBoo_e); rfl) | ((with_reducible apply asStr_e); rfl) | ((with_reducible apply asSl_e); rfl) | ((with_reducible apply asPtr_e); rfl) | ((with_reducible apply asMap_e); rfl) | ((with_reducible apply nn_e); rfl) | ((with_reducible apply ld_h 0); (first | assumption | (apply Holds.drew; assumption)); rfl; rfl) | ((with_reducible apply ld_h 1); (first | assumption | (apply Holds.drew; assumption)); rfl; rfl) | ((with_reducible apply ld_h 2); (first | assumption | (apply Holds.drew; assumption)); rfl; rfl) | ((with_reducible apply ld_h 3); (first | assumption | (apply Holds.drew; assumption)); rfl; rfl) | ((with_reducible apply ld_h 4); (first | assumption | (apply Holds.drew; assumption)); rfl; rfl) | ((with_reducible apply ld_h 5); (first | assumption | (apply Holds.drew; assumption)); rfl; rfl) | ((with_reducible apply ld_h 6); (first | assumption | (apply Holds.drew; assumption)); rfl; rfl) | ((with_reducible apply ldS_h 0); rfl; rfl) | ((with_reducible apply ldS_h 1); rfl; rfl) | ((with_reducible apply ldS_h 2); rfl; rfl) | ((with_reducible apply ldS_h 3); rfl; rfl) | ((with_reducible apply ldS_h 4); rfl; rfl) | ((with_reducible apply ldS_h 5); rfl; rfl) | ((with_reducible apply ldS_h 6); rfl; rfl) | ((with_reducible apply nw_h); (first | assumption | (apply Holds.drew; assumption)); intro _ _ _) | ((with_reducible apply st_h 0); (first | assumption | (apply Holds.drew; assumption)); rfl; rfl; rfl; intro _ _) | ((with_reducible apply st_h 1); (first | assumption | (apply Holds.drew; assumption)); rfl; rfl; rfl; intro _ _) | ((with_reducible apply st_h 2); (first | assumption | (apply Holds.drew; assumption)); rfl; rfl; rfl; intro _ _) | ((with_reducible apply st_h 3); (first | assumption | (apply Holds.drew; assumption)); rfl; rfl; rfl; intro _ _) | ((with_reducible apply st_h 4); (first | assumption | (apply Holds.drew; assumption)); rfl; rfl; rfl; intro _ _) | ((with_reducible apply st_h 5); (first | assumption | (apply Holds.drew; assumption)); rfl; rfl; rfl; intro _ _) | ((with_reducible apply st_h 6); (first | assumption | (apply Holds.drew; assumption)); rfl; rfl; rfl; intro _ _) | ((with_reducible apply kp_s); (first | assumption | (apply Holds.drew; assumption)); (focus ((repeat first | exact Sub.refl _ | (refine Sub.cons 0 rfl ?_) | (refine Sub.cons 1 rfl ?_) | (refine Sub.cons 2 rfl ?_) | (refine Sub.cons 3 rfl ?_) | (refine Sub.cons 4 rfl ?_) | (refine Sub.cons 5 rfl ?_) | (refine Sub.cons 6 rfl ?_) | (refine Sub.cons 7 rfl ?_) | refine Sub.skip ?_ | exact Sub.nil _); done))))
    have := k _ (Holds.tail (by assumption))
    unfold lettersB at this
    rwa [← hb] at this
theorem Sign2_c {w0 w : World} {hs : List Hp} {K : KV} {s : ByteArray} (hl : s.size < 1000000000) (H : Holds w0 hs w) (k : ∀ w', Holds w0 hs w' → K (.string (signB s)) w') : gocall Tryz.prog 308 [.string s] K w := by
  apply F308_go; unfold F308
  refine ⟨by show s.size + 1 ≤ _; omega, ?_⟩
  refine Letters2_c hl H (fun w H => ?_)
  refine asStr_h ?_
  refine ⟨?_, k w H⟩
  rw [size_letters, ByteArray.size_append]
  show s.size + 1 + 2 ≤ _
  omega
theorem Read2_c {w0 w : World} {hs : List Hp} {K : KV} {s : List UInt8} (hl : s.length ≤ 1000000) (H : Sh.Holds w0 hs w) (k : ∀ w', Sh.Holds w0 hs w' → K (.tuple #[.string (B ((readS s).getD [])), .bool (readS s).isSome]) w') : gocall Tryz.prog 282 [.string (B s)] K w := by
  have bad : readS s = none → ∀ w, Sh.Holds w0 hs w → K (.tuple #[.string ⟨#[]⟩, .bool false]) w := fun e w H => by have := k w H; rwa [e] at this
  apply F282_go; unfold F282
  have e1 : IntKind.i64.wrap (((B s).size : Int) - 3) = (s.length : Int) - 3 := by rw [B_size]; exact wrap64 (by omega) (by omega)
  rw [e1]
  refine br_s (fun h => ?_) (fun h => ?_)
  · refine bad ?_ _ H
    rw [readS, if_neg]
    rintro ⟨h2, -⟩
    simp at h; omega
  have h3 : 3 ≤ s.length := by simp at h; omega
  obtain ⟨n, hn⟩ : ∃ n : Nat, (s.length : Int) - 3 = n ∧ n = s.length - 3 := ⟨s.length - 3, by omega, rfl⟩
  rw [hn.1]
  refine sl_take (by omega) ?_
  refine Sign2_c (by rw [B_size, List.length_take]; omega) H (fun w H => ?_)
  refine asStr_h ?_
  rw [signL_B, strEq_B]
  refine br_s (fun h4 => ?_) (fun h4 => ?_)
  · refine bad ?_ _ H
    rw [readS, if_neg]
    rintro ⟨-, h5⟩
    rw [← hn.2] at h5
    simp [h5] at h4
  · refine sl_take (by omega) ?_
    have h5 : signL (s.take n) = s := by simpa using h4
    have e : readS s = some (s.take n) := by rw [readS, hn.2, if_pos ⟨h3, by rw [← hn.2]; exact h5⟩]
    have := k w H
    rwa [e] at this

theorem mayN_iff {e : En} : mayN e = true ↔ e.k.all okc = true ∧ 1 ≤ e.k.length ∧ e.k.length ≤ 8 ∧ 0 ≤ e.id ∧ e.id ≤ 999 ∧ e.l.length ≤ 4 ∧ e.l.any badN = false := by
  simp only [mayN, mayE, namedB, numberedB, Bool.and_eq_true, decide_eq_true_eq, Bool.not_eq_true', B_size]
  constructor
  · rintro ⟨⟨⟨h1, h2⟩, h3⟩, h4, h5, h6, h7⟩
    exact ⟨h1, h2, h3, by simpa using h4, by simpa using h5, by simpa using h6, h7⟩
  · rintro ⟨h1, h2, h3, h4, h5, h6, h7⟩
    exact ⟨⟨⟨h1, h2⟩, h3⟩, by simpa using h4, by simpa using h5, by simpa using h6, h7⟩
theorem MayR_c {w0 w : World} {hs : List Hp} {K : KV} {e : En} {p : Option Addr} {n c : Nat} (hsl : Sl (Sh.Holds w0 hs) p n 1 (e.l.map I)) (H : Sh.Holds w0 hs w) (k : ∀ w', Sh.Holds w0 hs w' → K (.bool (mayN e)) w') : gocall Tryz.prog 285 [enV e (.slice p n c)] K w := by
  have hn : n = e.l.length := by have := hsl.len; simp at this; omega
  apply F285_go; unfold F285
  refine nwE_h H (fun k5 w H => ?_)
  have bad : ¬ mayN e = true → ∀ w, Sh.Holds w0 (eHp k5 e.k e.id (.slice p n c) :: hs) w → K (.bool false) w := fun hb w H => by
    have := k w H.tail
    rwa [show mayN e = false by simpa using hb] at this
  rw [mayN_iff] at bad
  have H' := H
  unfold eHp at H'
  apply ld_h 0 H' rfl rfl; refine asStr_h ?_
  rw [B_size]
  refine br_s (fun h => bad (fun q => by simp at h; omega) w H) (fun h1 => ?_)
  apply ld_h 0 H' rfl rfl; refine asStr_h ?_
  rw [B_size]
  refine br_s (fun h => bad (fun q => by simp at h; omega) w H) (fun h2 => ?_)
  simp only [decide_eq_false_iff_not] at h1 h2
  apply ld_h 0 H' rfl rfl; refine asI_h ?_
  refine br_s (fun h => bad (fun q => by simp at h; omega) w H) (fun h3 => ?_)
  apply ld_h 0 H' rfl rfl; refine asI_h ?_
  refine br_s (fun h => bad (fun q => by simp at h; omega) w H) (fun h4 => ?_)
  apply ld_h 0 H' rfl rfl; refine asSl_h ?_
  refine br_s (fun h => bad (fun q => by simp at h; omega) w H) (fun h5 => ?_)
  simp only [decide_eq_false_iff_not] at h3 h4 h5
  apply ld_h 0 H' rfl rfl; refine asStr_h ?_
  clear H'
  refine ⟨fun y w => Sh.Holds w0 (eHp k5 e.k e.id (.slice p n c) :: hs) w ∧ 0 ≤ y.1 ∧ y.1 ≤ e.k.length ∧ (e.k.take y.1.toNat).all okc = true, fun y _ => (e.k.length - y.1).toNat, ⟨H, by simp, by simp, by simp⟩, ?_⟩
  clear H
  rintro ⟨y, b, u⟩ w ⟨H, g0, g1, hf⟩
  simp only at g0 g1 hf
  have H' := H
  unfold eHp at H'
  refine br_s (fun h => ?_) (fun h => ?_)
  · simp only [decide_eq_true_eq, B_size] at h
    have hy : y.toNat < e.k.length := by omega
    have hg := List.getElem?_eq_getElem hy
    have nok : okc e.k[y.toNat] = false → ¬ e.k.all okc = true := fun hb ha => by
      have := List.all_eq_true.1 ha _ (List.getElem_mem hy)
      rw [hb] at this; cases this
    apply ld_h 0 H' rfl rfl; refine asStr_h ?_
    refine strAt_B g0 (by omega) (fun x hx => ?_)
    rw [hg] at hx; cases hx
    refine br_s (fun hb => bad (fun q => nok (by simp at hb; simp [okc]; omega) q.1) w H) (fun hb => ?_)
    apply ld_h 0 H' rfl rfl; refine asStr_h ?_
    refine strAt_B g0 (by omega) (fun x hx => ?_)
    rw [hg] at hx; cases hx
    refine br_s (fun hb => bad (fun q => nok (by simp at hb; simp [okc]; omega) q.1) w H) (fun hb' => ?_)
    have hw : IntKind.wrap .i64 (y + 1) = y + 1 := wrap64 (by omega) (by omega)
    simp only [hw]
    refine ⟨⟨H, by omega, by omega, ?_⟩, by omega⟩
    rw [show (y + 1).toNat = y.toNat + 1 by omega, List.take_add_one, hg, List.all_append, hf]
    simp at hb hb'
    simp [okc]; omega
  simp only [decide_eq_false_iff_not, B_size] at h
  rw [List.take_of_length_le (by omega)] at hf
  apply ld_h 0 H' rfl rfl; refine asSl_h ?_
  clear H'
  refine ⟨fun y w => Sh.Holds w0 (eHp k5 e.k e.id (.slice p n c) :: hs) w ∧ 0 ≤ y.1 ∧ y.1 ≤ e.l.length ∧ (e.l.take y.1.toNat).any badN = false, fun y _ => (e.l.length - y.1).toNat, ⟨H, by simp, by simp, by simp⟩, ?_⟩
  clear H
  rintro ⟨z, b2, u2⟩ w ⟨H, g2, g3, hf2⟩
  simp only at g2 g3 hf2
  refine br_s (fun h => ?_) (fun h => ?_)
  · simp only [decide_eq_true_eq] at h
    have hy : z.toNat < e.l.length := by omega
    have hg := List.getElem?_eq_getElem hy
    have nok : badN e.l[z.toNat] = true → ¬ e.l.any badN = false := fun hb ha => by
      have := List.any_eq_false.1 ha _ (List.getElem_mem hy)
      exact this hb
    have s1 := hsl.mono (S' := Sh.Holds w0 (eHp k5 e.k e.id (.slice p n c) :: hs)) fun w H => H.tail
    refine slAt_s s1 g2 h (fun b1 o1 hp => ?_)
    refine ldS_s s1 hp H (v := I e.l[z.toNat]) (by simp [hg]) ?_
    refine asI_h ?_
    refine br_s (fun hb => bad (fun q => nok (by simp at hb; simp [badN]; omega) q.2.2.2.2.2.2) w H) (fun hb => ?_)
    refine br_s (fun hb => bad (fun q => nok (by simp at hb; simp [badN]; omega) q.2.2.2.2.2.2) w H) (fun hb' => ?_)
    have hw : IntKind.wrap .i64 (z + 1) = z + 1 := wrap64 (by omega) (by omega)
    simp only [hw]
    refine ⟨⟨H, by omega, by omega, ?_⟩, by omega⟩
    rw [show (z + 1).toNat = z.toNat + 1 by omega, List.take_add_one, hg, List.any_append, hf2]
    simp at hb hb'
    simp [badN]; omega
  · simp only [decide_eq_false_iff_not] at h
    rw [List.take_of_length_le (by omega)] at hf2
    have := k w H.tail
    rwa [mayN_iff.2 ⟨hf, by omega, by omega, by omega, by omega, by omega, hf2⟩] at this
theorem flat12 : ∀ l : List Int, (∀ n ∈ l, smallN n) → (l.flatMap fun n => 32 :: Lib.itoa n).length ≤ 12 * l.length
  | [], _ => by simp
  | n :: l, hl => by
    have := flat12 l (fun m hm => hl m (by simp [hm]))
    have := itoa_len11 (hl n (by simp))
    simp only [List.flatMap_cons, List.length_append, List.length_cons]
    omega
theorem Line2_c {w0 w : World} {hs : List Hp} {K : KV} {e : En} {p : Option Addr} {n c : Nat} (T : Tab w0) (hsl : Sl (Sh.Holds w0 hs) p n 1 (e.l.map I)) (H : Sh.Holds w0 hs w)
    (k : ∀ w', Sh.Holds w0 hs w' → K (.tuple #[.string (B (lineR e).1), I (lineR e).2]) w') : gocall Tryz.prog 286 [enV e (.slice p n c)] K w := by
  have hn : n = e.l.length := by have := hsl.len; simp at this; omega
  apply F286_go; unfold F286
  refine nwE_h H (fun k5 w H => ?_)
  apply ld3_h 0 H rfl
  have s1 := hsl.mono (S' := Sh.Holds w0 (eHp k5 e.k e.id (.slice p n c) :: hs)) fun w H => H.tail
  refine MayR_c (e := e) s1 H (fun w H => ?_)
  refine asBoo_h ?_
  cases hm : mayN e with
  | false =>
    rw [show lineR e = ([], 1) by rw [lineR, if_neg (by simp [hm])]] at k
    exact br_t rfl (k _ H.tail)
  | true =>
  rw [show lineR e = (lineL e, 0) by rw [lineR, if_pos hm]] at k
  obtain ⟨-, -, h1, h8, h2, h3, h4, h5⟩ := mayN_out hm
  refine br_f rfl ?_
  replace H := H.drew
  refine keeps_h H ?_
  apply ldS_h 0 rfl rfl; refine asStr_h ?_
  refine cat_B (b := [32]) (by simp; omega) ?_
  apply ldS_h 0 rfl rfl; refine asI_h ?_
  refine Itoa_c T (by omega) (by omega) H (fun w H => ?_)
  refine asStr_h ?_
  refine kp_h H ?_
  have hid := itoa_len11 (n := e.id) (by unfold smallN; omega)
  refine cat_B (b := Lib.itoa e.id) (by simp; omega) ?_
  have H' := H
  unfold eHp at H'
  apply ld_h 0 H' rfl rfl; refine asSl_h ?_
  clear H'
  refine ⟨fun y w => Sh.Holds w0 (eHp k5 e.k e.id (.slice p n c) :: hs) w ∧ 0 ≤ y.1 ∧ y.1 ≤ e.l.length ∧ y.2.1 = B (e.k ++ [32] ++ Lib.itoa e.id ++ (e.l.take y.1.toNat).flatMap fun n => 32 :: Lib.itoa n), fun y _ => (e.l.length - y.1).toNat, ⟨H, by simp, by simp, by simp⟩, ?_⟩
  clear H
  rintro ⟨y, a, u⟩ w ⟨H, g0, g1, hf⟩
  simp only at g0 g1 hf
  subst hf
  have hfl := flat12 (e.l.take y.toNat) (fun m hm => h5 m (List.mem_of_mem_take hm))
  rw [List.length_take] at hfl
  refine br_s (fun h => ?_) (fun h => ?_)
  · simp only [decide_eq_true_eq] at h
    have hy : y.toNat < e.l.length := by omega
    have hg := List.getElem?_eq_getElem hy
    have hsm := h5 _ (List.getElem_mem hy)
    have h11 := itoa_len11 hsm
    unfold smallN at hsm
    refine slAt_s s1 g0 h (fun b1 o1 hp => ?_)
    refine ldS_s s1 hp H (v := I e.l[y.toNat]) (by simp [hg]) ?_
    refine asI_h ?_
    refine Itoa_c T (by omega) (by omega) H (fun w H => ?_)
    refine asStr_h ?_
    refine cat_B (a := [32]) (b := Lib.itoa e.l[y.toNat]) (by simp; omega) ?_
    refine cat_B (by simp only [List.length_append, List.length_cons, List.length_nil]; omega) ?_
    have hw : IntKind.wrap .i64 (y + 1) = y + 1 := wrap64 (by omega) (by omega)
    simp only [hw]
    refine ⟨⟨H, by omega, by omega, ?_⟩, by omega⟩
    rw [show (y + 1).toNat = y.toNat + 1 by omega, List.take_add_one, hg, List.flatMap_append]
    simp
  · simp only [decide_eq_false_iff_not] at h
    rw [List.take_of_length_le (by omega)]
    have he : e.k ++ [32] ++ Lib.itoa e.id ++ (e.l.flatMap fun n => 32 :: Lib.itoa n) = entT e.k (e.id :: e.l) := by simp [entT, joinL, List.flatMap_map]
    rw [he]
    have := entT_len hm
    refine Sign2_c (by rw [B_size]; omega) H (fun w H => ?_)
    refine asStr_h ?_
    rw [signL_B]
    exact k _ H.tail
def stepN (n : Int) (c : UInt8) : Option Int := if c.toNat < 48 ∨ c.toNat > 57 ∨ n > 1099511627776 then none else some (10 * n + (c.toNat - 48))
def foldN : Int → List UInt8 → Option Int
  | n, [] => some n
  | n, c :: l => (stepN n c).bind fun m => foldN m l
theorem foldN_app : ∀ (l m : List UInt8) (n : Int), foldN n (l ++ m) = (foldN n l).bind fun a => foldN a m
  | [], m, n => by simp [foldN]
  | c :: l, m, n => by
    simp only [List.cons_append, foldN]
    cases stepN n c with
    | none => rfl
    | some a => exact foldN_app l m a
theorem foldN_dec (u : Nat) : u ≤ 10000000000 → foldN 0 (Lib.decDigits u) = some (u : Int) := by
  induction u using Nat.strongRecOn with
  | _ u ih =>
    intro hu
    have dv : ∀ k, k < 10 → (UInt8.ofNat (48 + k)).toNat = 48 + k := by intro k hk; simp; omega
    rw [Lib.decDigits]
    split
    · rename_i h
      simp only [foldN, stepN, dv u h]
      rw [if_neg (by omega)]
      simp only [Option.bind_some]
      congr 1
      omega
    · rename_i h
      rw [foldN_app, ih (u / 10) (by omega) (by omega)]
      simp only [Option.bind_some, foldN, stepN, dv (u % 10) (by omega)]
      rw [if_neg (by omega)]
      simp only [Option.bind_some]
      congr 1
      omega
def numX (t s : List UInt8) (sg : Int) : Int × Bool := match foldN 0 t with
  | none => (0, false)
  | some n => (n * sg, decide (t ≠ []) && decide (Lib.itoa (n * sg) = s))
def numV (s : List UInt8) : Int × Bool := match s with
  | [] => numX [] [] 1
  | c :: t => if c = 45 then numX t (c :: t) (-1) else numX (c :: t) (c :: t) 1
theorem numX_yes {t s : List UInt8} {sg : Int} (h : (numX t s sg).2 = true) : Lib.itoa (numX t s sg).1 = s := by
  unfold numX at h ⊢
  split at h
  · cases h
  · simp only [Bool.and_eq_true, decide_eq_true_eq] at h
    exact h.2
theorem numV_yes {s : List UInt8} (h : (numV s).2 = true) : Lib.itoa (numV s).1 = s := by
  unfold numV at h ⊢
  split at h
  · exact numX_yes h
  · split at h
    · rename_i hc; rw [if_pos hc]; exact numX_yes h
    · rename_i hc; rw [if_neg hc]; exact numX_yes h
theorem numV_itoa {m : Int} (h : smallN m) : numV (Lib.itoa m) = (m, true) := by
  unfold smallN at h
  rcases itoa_parts (n := m) with ⟨h1, e⟩ | ⟨h1, e⟩
  · have hd := dec_ne m.toNat
    have hall := dec_all m.toNat
    have key : numX (Lib.decDigits m.toNat) (Lib.decDigits m.toNat) 1 = (m, true) := by
      have e2 : (m.toNat : Int) * 1 = m := by omega
      rw [numX, foldN_dec m.toNat (by omega)]
      simp only [e2, e]
      simp [hd]
    rw [e]
    cases hL : Lib.decDigits m.toNat with
    | nil => exact absurd hL hd
    | cons c t =>
      rw [hL] at key hall
      have hc : c ≠ 45 := by
        intro hc
        have := hall c (by simp)
        subst hc
        simp [isD] at this
      simp only [numV]
      rw [if_neg hc, key]
  · rw [e]
    simp only [numV]
    rw [if_pos trivial, numX, foldN_dec m.natAbs (by omega)]
    have e2 : (m.natAbs : Int) * -1 = m := by omega
    simp only [e2, e]
    simp [dec_ne]
def numLoop (s5 s0 : ByteArray) (sg : Int) (K : KV) (w6 : World) : Prop :=
  loop (X := (Int) × (Int) × (Bool) × (Int) × Unit) (0, (0, (false, (0, ())))) (fun x7 rec8 w9 =>
    br (decide (x7.fst < (↑s5.size : Int))) (fun w10 =>
      strAt (s5) (x7.fst) (fun x11 w12 =>
        br (decide ((↑x11.toNat : Int) < 48)) (fun w13 =>
          K (Value.tuple #[(Value.int IntKind.i64 (0)), (Value.bool (false))]) (w13)) (fun w14 =>
          strAt (s5) (x7.fst) (fun x15 w16 =>
            br (decide ((↑x15.toNat : Int) > 57)) (fun w17 =>
              K (Value.tuple #[(Value.int IntKind.i64 (0)), (Value.bool (false))]) (w17)) (fun w18 =>
              br (decide (x7.snd.fst > 1099511627776)) (fun w19 =>
                K (Value.tuple #[(Value.int IntKind.i64 (0)), (Value.bool (false))]) (w19)) (fun w20 =>
                strAt (s5) (x7.fst) (fun x21 w22 =>
                  rec8 (IntKind.i64.wrap (x7.fst + 1), (IntKind.i64.wrap (IntKind.i64.wrap (10 * x7.snd.fst) + IntKind.i64.wrap (IntKind.u8.wrap ((↑x21.toNat : Int) - 48))), (x7.snd.snd.fst, (x7.snd.snd.snd.fst, ())))) (w22)) (w20)) (w18)) (w16)) (w14)) (w12)) (w10)) (fun w23 =>
      br (!strEq s5 { data := #[] }) (fun w24 =>
        gocall Tryz.prog (279) [(Value.int IntKind.i64 (IntKind.i64.wrap (x7.snd.fst * sg)))] (fun v25 w26 =>
          asStr (v25) (fun s27 w28 =>
            K (Value.tuple #[(Value.int IntKind.i64 (IntKind.i64.wrap (x7.snd.fst * sg))), (Value.bool (strEq s27 s0))]) (w28)) (w26)) (w24)) (fun w29 =>
        K (Value.tuple #[(Value.int IntKind.i64 (IntKind.i64.wrap (x7.snd.fst * sg))), (Value.bool (false))]) (w29)) (w23)) (w9)) (w6)

theorem numLoop_c {w0 w : World} {hs : List Hp} {K : KV} {t s : List UInt8} {sg : Int} (hsg : sg = 1 ∨ sg = -1) (T : Tab w0) (hl : t.length ≤ 100000) (H : Sh.Holds w0 hs w) (k : ∀ w', Sh.Holds w0 hs w' → K (.tuple #[I (numX t s sg).1, .bool (numX t s sg).2]) w') : numLoop (B t) (B s) sg K w := by
  have bad : foldN 0 t = none → ∀ w, Sh.Holds w0 hs w → K (.tuple #[I 0, .bool false]) w := fun h w H => by
    have := k w H
    rwa [show numX t s sg = (0, false) by rw [numX, h]] at this
  unfold numLoop
  refine ⟨fun y w => Sh.Holds w0 hs w ∧ 0 ≤ y.1 ∧ y.1 ≤ t.length ∧ foldN 0 (t.take y.1.toNat) = some y.2.1 ∧ 0 ≤ y.2.1 ∧ y.2.1 ≤ 10995116277769, fun y _ => (t.length - y.1).toNat, ⟨H, by simp, by simp, by simp [foldN], by simp, by simp⟩, ?_⟩
  clear H
  rintro ⟨y, n, b, q, u⟩ w ⟨H, g0, g1, hf, n0, n1⟩
  simp only at g0 g1 hf n0 n1
  refine br_s (fun h => ?_) (fun h => ?_)
  · simp only [decide_eq_true_eq, B_size] at h
    have hy : y.toNat < t.length := by omega
    have hg := List.getElem?_eq_getElem hy
    have ht : t = t.take y.toNat ++ t[y.toNat] :: t.drop (y.toNat + 1) := by rw [← List.drop_eq_getElem_cons hy, List.take_append_drop]
    have none_of : stepN n t[y.toNat] = none → foldN 0 t = none := fun hs => by
      rw [ht, foldN_app, hf]
      simp only [Option.bind_some, foldN, hs, Option.bind_none]
    refine strAt_B g0 (by omega) (fun x hx => ?_)
    rw [hg] at hx; cases hx
    refine br_s (fun hb => bad (none_of (by simp at hb; rw [stepN, if_pos (by omega)])) w H) (fun hb => ?_)
    refine strAt_B g0 (by omega) (fun x hx => ?_)
    rw [hg] at hx; cases hx
    refine br_s (fun hb => bad (none_of (by simp at hb; rw [stepN, if_pos (by omega)])) w H) (fun hb2 => ?_)
    refine br_s (fun hb => bad (none_of (by simp at hb; rw [stepN, if_pos (by omega)])) w H) (fun hb3 => ?_)
    simp only [decide_eq_false_iff_not] at hb hb2 hb3
    refine strAt_B g0 (by omega) (fun x hx => ?_)
    rw [hg] at hx; cases hx
    have hw : IntKind.wrap .i64 (y + 1) = y + 1 := wrap64 (by omega) (by omega)
    have e1 : IntKind.u8.wrap ((t[y.toNat].toNat : Int) - 48) = (t[y.toNat].toNat : Int) - 48 := by
      rw [show IntKind.u8.wrap ((t[y.toNat].toNat : Int) - 48) = ((t[y.toNat].toNat : Int) - 48) % 256 by simp [IntKind.wrap, IntKind.bits, IntKind.signed]]; omega
    have e2 : IntKind.i64.wrap (IntKind.i64.wrap (10 * n) + IntKind.i64.wrap (IntKind.u8.wrap ((t[y.toNat].toNat : Int) - 48))) = 10 * n + ((t[y.toNat].toNat : Int) - 48) := by
      rw [e1, wrap64 (n := 10 * n) (by omega) (by omega), wrap64 (n := (t[y.toNat].toNat : Int) - 48) (by omega) (by omega), wrap64 (by omega) (by omega)]
    simp only [hw, e2]
    refine ⟨⟨H, by omega, by omega, ?_, by omega, by omega⟩, by omega⟩
    rw [show (y + 1).toNat = y.toNat + 1 by omega, List.take_add_one, hg, foldN_app, hf]
    simp only [Option.bind_some, Option.toList_some, foldN, stepN]
    rw [if_neg (by omega)]
    rfl
  · simp only [decide_eq_false_iff_not, B_size] at h
    rw [List.take_of_length_le (by omega)] at hf
    have hm : IntKind.i64.wrap (n * sg) = n * sg := by rcases hsg with rfl | rfl <;> exact wrap64 (by omega) (by omega)
    have hk : numX t s sg = (n * sg, decide (t ≠ []) && decide (Lib.itoa (n * sg) = s)) := by rw [numX, hf]
    rw [hk] at k
    simp only [hm]
    refine br_s (fun h2 => ?_) (fun h2 => ?_)
    · have h2' : t ≠ [] := by
        have h3 : (!strEq (B t) (B [])) = true := h2
        rw [strEq_B] at h3
        simpa using h3
      refine Itoa_c T (by rcases hsg with rfl | rfl <;> omega) (by rcases hsg with rfl | rfl <;> omega) H (fun w H => ?_)
      refine asStr_e (b := B (Lib.itoa (n * sg))) rfl ?_
      have := k w H
      simp only [h2', ne_eq, not_false_eq_true, decide_true, Bool.true_and] at this
      rwa [strEq_B]
    · have h2' : t = [] := by
        have h3 : (!strEq (B t) (B [])) = false := h2
        rw [strEq_B] at h3
        simpa using h3
      have := k w H
      simpa [h2'] using this
theorem number_c {w0 w : World} {hs : List Hp} {K : KV} {s : List UInt8} (T : Tab w0) (hl : s.length ≤ 100000) (H : Sh.Holds w0 hs w) (k : ∀ w', Sh.Holds w0 hs w' → K (.tuple #[I (numV s).1, .bool (numV s).2]) w') : gocall Tryz.prog 284 [.string (B s)] K w := by
  apply F284_go; unfold F284
  cases s with
  | nil =>
    refine br_f rfl ?_
    show numLoop (B []) (B []) 1 K w
    exact numLoop_c (.inl rfl) T (by simp) H k
  | cons c t =>
    simp only [List.length_cons] at hl
    refine br_t (by rw [B_size]; simp <;> omega) ?_
    refine strAt_B (by omega) (by simp <;> omega) (fun x hx => ?_)
    have hx : c = x := by simpa using hx
    subst hx
    simp only [numV] at k
    refine br_s (fun h => ?_) (fun h => ?_)
    · have h9 : (c.toNat : Int) = 45 := by simpa using h
      have hc : c = 45 := UInt8.toNat_inj.1 (by show c.toNat = 45; omega)
      rw [if_pos hc] at k
      refine sl_drop (t := c :: t) (m := 1) (by simp) ?_
      show numLoop (B t) (B (c :: t)) (-1) K w
      exact numLoop_c (.inr rfl) T (by omega) H k
    · have hc : c ≠ 45 := by rintro rfl; simp at h
      rw [if_neg hc] at k
      show numLoop (B (c :: t)) (B (c :: t)) 1 K w
      exact numLoop_c (.inl rfl) T (by simp; omega) H k
abbrev Sw (v : List UInt8) : Value := .string (B v)
theorem el79 : ElTy Tryz.prog 62 9 1 16 := ⟨⟨_, _, rfl, rfl, rfl, rfl, rfl, rfl⟩, by decide⟩
theorem B_mid (l : List UInt8) (a b : Nat) (h : b ≤ l.length) : (B l).extract a b = B ((l.take b).drop a) := ByteArray.ext (by simp [B, List.extract_eq_take_drop, List.drop_take])
theorem sl_mid {t : List UInt8} {a b : Int} {K : ByteArray → World → Prop} {w : World} (h0 : 0 ≤ a) (h1 : a ≤ b) (h2 : b ≤ t.length) (k : K (B ((t.take b.toNat).drop a.toNat)) w) : strSl (B t) a b K w :=
  ⟨h0, h1, by rw [B_size]; omega, by rw [B_mid _ _ _ (by omega)]; exact k⟩
theorem Holds.tail2 {w0 w : World} {hs : List Hp} {a b : Hp} (H : Sh.Holds w0 (a :: b :: hs) w) : Sh.Holds w0 (a :: hs) w := (H.bring 1 rfl).tail
theorem Cuts_c {w0 w : World} {hs : List Hp} {K : KV} {s : List UInt8} (hl : s.length ≤ 1000) (H : Sh.Holds w0 hs w)
    (k : ∀ (r : Row) w', r.Ok 1 ((wordsL s).map Sw) → Sh.Holds w0 (r.hp 9 :: hs) w' → K r.v w') : gocall Tryz.prog 283 [.string (B s), .int .u8 32] K w := by
  apply F283_go; unfold F283
  refine ⟨fun y w => ∃ (r : Row) (ws : List (List UInt8)), Sh.Holds w0 (r.hp 9 :: hs) w ∧ y.2.2.1 = (r.p, r.n, r.c) ∧ r.Ok 1 (ws.map Sw) ∧ 0 ≤ y.1 ∧ 0 ≤ y.2.1 ∧ ws.length ≤ y.1 ∧ y.1 ≤ s.length + 1 ∧
      ((y.2.1 ≤ y.1 ∧ y.1 ≤ s.length ∧ 32 ∉ (s.take y.1.toNat).drop y.2.1.toNat ∧ wordsL s = ws ++ wordsL (s.drop y.2.1.toNat)) ∨ (y.1 = s.length + 1 ∧ ws = wordsL s)), fun y _ => (s.length + 1 - y.1).toNat,
    ⟨Row.nil, [], H.nil, rfl, by simpa using Row.nil_ok 1, by simp, by simp, by simp, by simp; omega, .inl ⟨by simp, by simp, by simp, by simp⟩⟩, ?_⟩
  clear H
  rintro ⟨y, a, q, u⟩ w ⟨r, ws, H, hq, ok, g0, g1, g2, g3, hc⟩
  simp only at hq g0 g1 g2 g3 hc
  subst hq
  have hrn : r.n = ws.length := by have := ok.len; simp at this; omega
  have hw : y ≤ s.length → IntKind.wrap .i64 (y + 1) = y + 1 := fun _ => wrap64 (by omega) (by omega)
  refine br_s (fun h => ?_) (fun h => ?_)
  · simp only [decide_eq_true_eq, B_size] at h
    rcases hc with ⟨c1, c2, c3, c4⟩ | ⟨c1, c2⟩
    case inr => omega
    refine br_s (fun h2 => ?_) (fun h2 => ?_)
    · have h2 : y = s.length := by rw [B_size] at h2; simpa using h2
      refine sl_mid g1 c1 c2 ?_
      refine nw_h H (fun kb w H => ?_)
      refine bapp1_h (news := [Sw ((s.take y.toNat).drop a.toNat)]) el79 0 (H := Holds.bring 1 H rfl) rfl ok rfl (by simp [Value.oneCell']) (by omega) (by unfold maxLen; omega) (fun r' w hr1 hr2 H => ?_)
      refine asSl_h ?_
      simp only [hw c2]
      have e2 : s.drop a.toNat = (s.take y.toNat).drop a.toNat := by rw [List.take_of_length_le (by omega)]
      refine ⟨⟨r', ws ++ [(s.take y.toNat).drop a.toNat], Holds.tail2 H, rfl, by simpa using hr2, by omega, by omega, by simp; omega, by omega, .inr ⟨by omega, ?_⟩⟩, by omega⟩
      rw [c4, e2, words_one _ c3]
    · have h2 : y ≠ s.length := by rw [B_size] at h2; simpa using h2
      refine strAt_B g0 (by omega) (fun x hx => ?_)
      have hy : y.toNat < s.length := by omega
      have hx' := List.getElem?_eq_getElem hy
      rw [hx'] at hx; cases hx
      have e3 : s.drop a.toNat = (s.take y.toNat).drop a.toNat ++ s[y.toNat] :: s.drop (y.toNat + 1) := by
        have : s.drop a.toNat = (s.take y.toNat ++ s[y.toNat] :: s.drop (y.toNat + 1)).drop a.toNat := by rw [← List.drop_eq_getElem_cons hy, List.take_append_drop]
        rw [this, List.drop_append_of_le_length (by rw [List.length_take]; omega)]
      have ey : (y + 1).toNat = y.toNat + 1 := by omega
      refine br_s (fun h3 => ?_) (fun h3 => ?_)
      · have h3 : s[y.toNat] = 32 := UInt8.toNat_inj.1 (by simp at h3; simp; omega)
        refine sl_mid g1 c1 c2 ?_
        refine nw_h H (fun kb w H => ?_)
        refine bapp1_h (news := [Sw ((s.take y.toNat).drop a.toNat)]) el79 0 (H := Holds.bring 1 H rfl) rfl ok rfl (by simp [Value.oneCell']) (by omega) (by unfold maxLen; omega) (fun r' w hr1 hr2 H => ?_)
        refine asSl_h ?_
        simp only [hw c2]
        refine ⟨⟨r', ws ++ [(s.take y.toNat).drop a.toNat], Holds.tail2 H, rfl, by simpa using hr2, by omega, by omega, by simp; omega, by omega, .inl ⟨by omega, by omega, ?_, ?_⟩⟩, by omega⟩
        · rw [ey, List.drop_eq_nil_of_le (by rw [List.length_take]; omega)]; simp
        · rw [c4, e3, h3, words_cut _ _ c3, ey]; simp
      · have h3 : s[y.toNat] ≠ 32 := by intro e; rw [e] at h3; simp at h3
        simp only [hw c2]
        refine ⟨⟨r, ws, H, rfl, ok, by omega, by omega, by omega, by omega, .inl ⟨by omega, by omega, ?_, c4⟩⟩, by omega⟩
        rw [ey, List.take_add_one, hx', List.drop_append_of_le_length (by rw [List.length_take]; omega)]
        simp only [List.mem_append, not_or]
        exact ⟨c3, by simpa using Ne.symm h3⟩
  · simp only [decide_eq_false_iff_not, B_size] at h
    rcases hc with ⟨c1, c2, c3, c4⟩ | ⟨c1, c2⟩
    · omega
    subst c2
    exact k r w ok H
end Go.Proofs.YtcfmnoimehcfnaaGreatDoor
