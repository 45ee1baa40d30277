/- Contracts of the reference's Note, of its parcels and of SameMsgs. Conditions: none. -/
import Derived.Test.YtcfmnoimehcfnaaGreatDoorR1
import Derived.Test.YtcfmnoimehcfnaaGreatDoorR0
set_option linter.unusedVariables false
set_option linter.unusedSimpArgs false
set_option maxRecDepth 100000
namespace Go.Proofs.YtcfmnoimehcfnaaGreatDoor
open Go Go.Sh

section
variable {w0 w : World} {hs R : List Hp} {K : KV}
theorem id1_c {n : Int} (H : Sh.Holds w0 hs w) (k : ∀ w', Sh.Holds w0 hs w' → K (.bool (decide (1 ≤ n) && decide (n ≤ 999))) w') : gocall Tryz.prog 95 [I n] K w := by
  apply F95_go; unfold F95
  refine br_s (fun h => ?_) (fun h => ?_)
  · have := k _ H
    rw [show decide (1 ≤ n) = true by simpa using h, Bool.true_and] at this
    exact this
  · have := k _ H
    rw [show decide (1 ≤ n) = false by simpa using h, Bool.false_and] at this
    exact this
theorem place_c {n : Int} (H : Sh.Holds w0 hs w) (k : ∀ w', Sh.Holds w0 hs w' → K (.bool (decide (0 ≤ n) && decide (n < 8))) w') : gocall Tryz.prog 221 [I n] K w := by
  apply F221_go; unfold F221
  refine br_s (fun h => ?_) (fun h => ?_)
  · have := k _ H
    rw [show decide (0 ≤ n) = true by simpa using h, Bool.true_and] at this
    exact this
  · have := k _ H
    rw [show decide (0 ≤ n) = false by simpa using h, Bool.false_and] at this
    exact this
theorem above7_c {n : Int} (H : Sh.Holds w0 hs w) (k : ∀ w', Sh.Holds w0 hs w' → K (.bool (decide (1 ≤ n) && decide (n ≤ 1000000000))) w') : gocall Tryz.prog 222 [I n] K w := by
  apply F222_go; unfold F222
  refine br_s (fun h => ?_) (fun h => ?_)
  · have := k _ H
    rw [show decide (1 ≤ n) = true by simpa using h, Bool.true_and] at this
    exact this
  · have := k _ H
    rw [show decide (1 ≤ n) = false by simpa using h, Bool.false_and] at this
    exact this
/-- two rows of messages, as the numbers in them -/
theorem SameMsgs_c {l m : List Int} {p q : Option Addr} {n n' c c' : Nat} (H : Sh.Holds w0 hs w) (hsl : Sl (Sh.Holds w0 hs) p n 7 (l.map I)) (hsm : Sl (Sh.Holds w0 hs) q n' 7 (m.map I)) (hl : l.length < 1000000)
    (k : ∀ w', Sh.Holds w0 hs w' → K (.bool (eqB l m)) w') : gocall Tryz.prog 31 [.slice p n c, .slice q n' c'] K w := by
  have hn : l.length = n * 7 := by have := hsl.len; simpa using this
  have hn' : m.length = n' * 7 := by have := hsm.len; simpa using this
  have bad : l ≠ m → ∀ w, Sh.Holds w0 hs w → K (.bool false) w := fun h w H => by have := k w H; rwa [show eqB l m = false by simp [eqB, h]] at this
  apply F31_go; unfold F31
  refine br_s (fun h => ?_) (fun h => ?_)
  · refine bad (fun e => ?_) _ H
    subst e
    have h : (n : Int) ≠ n' := by simpa using h
    omega
  have hlen : n = n' := by have h : (n : Int) = n' := by simpa using h
                           omega
  subst hlen
  refine ⟨fun y w => Sh.Holds w0 hs w ∧ 0 ≤ y.1 ∧ y.1 ≤ n ∧ ∀ j : Nat, j < y.1.toNat * 7 → l[j]? = m[j]?, fun y _ => (n - y.1).toNat, ⟨H, by simp, by simp, fun j hj => by simp at hj⟩, ?_⟩
  clear H
  rintro ⟨y, b, u⟩ w ⟨H, h0, h1, hf⟩
  simp only at h0 h1 hf
  refine br_s (fun h2 => ?_) (fun h2 => ?_)
  · simp only [decide_eq_true_eq] at h2
    have get : ∀ (l : List Int), l.length = n * 7 → ∀ i : Nat, i < 7 → ∃ x, l[y.toNat * 7 + i]? = some x := fun l hl i hi => ⟨_, List.getElem?_eq_getElem (by omega)⟩
    obtain ⟨x0, a0⟩ := get l hn 0 (by omega)
    obtain ⟨x1, a1⟩ := get l hn 1 (by omega)
    obtain ⟨x2, a2⟩ := get l hn 2 (by omega)
    obtain ⟨x3, a3⟩ := get l hn 3 (by omega)
    obtain ⟨x4, a4⟩ := get l hn 4 (by omega)
    obtain ⟨x5, a5⟩ := get l hn 5 (by omega)
    obtain ⟨x6, a6⟩ := get l hn 6 (by omega)
    obtain ⟨z0, b0⟩ := get m hn' 0 (by omega)
    obtain ⟨z1, b1⟩ := get m hn' 1 (by omega)
    obtain ⟨z2, b2⟩ := get m hn' 2 (by omega)
    obtain ⟨z3, b3⟩ := get m hn' 3 (by omega)
    obtain ⟨z4, b4⟩ := get m hn' 4 (by omega)
    obtain ⟨z5, b5⟩ := get m hn' 5 (by omega)
    obtain ⟨z6, b6⟩ := get m hn' 6 (by omega)
    replace H := H.drew
    refine slAt_s hsl h0 h2 (fun s1 o1 hp => ?_)
    refine ldS_s (j := y.toNat * 7) hsl hp H (v := I x0) (by simpa using a0) ?_; refine asI_h ?_
    refine ldS_s (j := y.toNat * 7 + 1) hsl hp H (v := I x1) (by simp [a1]) ?_; refine asI_h ?_
    refine ldS_s (j := y.toNat * 7 + 2) hsl hp H (v := I x2) (by simp [a2]) ?_; refine asI_h ?_
    refine ldS_s (j := y.toNat * 7 + 3) hsl hp H (v := I x3) (by simp [a3]) ?_; refine asI_h ?_
    refine ldS_s (j := y.toNat * 7 + 4) hsl hp H (v := I x4) (by simp [a4]) ?_; refine asI_h ?_
    refine ldS_s (j := y.toNat * 7 + 5) hsl hp H (v := I x5) (by simp [a5]) ?_; refine asI_h ?_
    refine ldS_s (j := y.toNat * 7 + 6) hsl hp H (v := I x6) (by simp [a6]) ?_; refine asI_h ?_
    refine slAt_s hsm h0 h2 (fun s2 o2 hq => ?_)
    refine ldS_s (j := y.toNat * 7) hsm hq H (v := I z0) (by simpa using b0) ?_; refine asI_h ?_
    refine ldS_s (j := y.toNat * 7 + 1) hsm hq H (v := I z1) (by simp [b1]) ?_; refine asI_h ?_
    refine ldS_s (j := y.toNat * 7 + 2) hsm hq H (v := I z2) (by simp [b2]) ?_; refine asI_h ?_
    refine ldS_s (j := y.toNat * 7 + 3) hsm hq H (v := I z3) (by simp [b3]) ?_; refine asI_h ?_
    refine ldS_s (j := y.toNat * 7 + 4) hsm hq H (v := I z4) (by simp [b4]) ?_; refine asI_h ?_
    refine ldS_s (j := y.toNat * 7 + 5) hsm hq H (v := I z5) (by simp [b5]) ?_; refine asI_h ?_
    refine ldS_s (j := y.toNat * 7 + 6) hsm hq H (v := I z6) (by simp [b6]) ?_; refine asI_h ?_
    refine ⟨by kernel_rfl, ?_⟩
    have eqs : l = m → x0 = z0 ∧ x1 = z1 ∧ x2 = z2 ∧ x3 = z3 ∧ x4 = z4 ∧ x5 = z5 ∧ x6 = z6 := fun e => by
      subst e
      refine ⟨?_, ?_, ?_, ?_, ?_, ?_, ?_⟩
      · rw [a0] at b0; exact Option.some.inj b0
      · rw [a1] at b1; exact Option.some.inj b1
      · rw [a2] at b2; exact Option.some.inj b2
      · rw [a3] at b3; exact Option.some.inj b3
      · rw [a4] at b4; exact Option.some.inj b4
      · rw [a5] at b5; exact Option.some.inj b5
      · rw [a6] at b6; exact Option.some.inj b6
    refine br_s (fun h3 => ?_) (fun h3 => ?_)
    · refine bad (fun e => ?_) _ H
      obtain ⟨rfl, rfl, rfl, rfl, rfl, rfl, rfl⟩ := eqs e
      simp at h3
    · have hw : IntKind.wrap .i64 (y + 1) = y + 1 := wrap64 (by omega) (by omega)
      simp only [hw]
      simp only [Bool.not_eq_false', Bool.and_eq_true, beq_iff_eq, and_true] at h3
      obtain ⟨rfl, rfl, rfl, rfl, rfl, rfl, rfl⟩ := h3
      refine ⟨⟨H, by omega, by omega, fun j hj => ?_⟩, by omega⟩
      by_cases hj' : j < y.toNat * 7
      · exact hf j hj'
      · have : j = y.toNat * 7 + 0 ∨ j = y.toNat * 7 + 1 ∨ j = y.toNat * 7 + 2 ∨ j = y.toNat * 7 + 3 ∨ j = y.toNat * 7 + 4 ∨ j = y.toNat * 7 + 5 ∨ j = y.toNat * 7 + 6 := by omega
        rcases this with e | e | e | e | e | e | e <;> rw [e]
        · rw [a0, b0]
        · rw [a1, b1]
        · rw [a2, b2]
        · rw [a3, b3]
        · rw [a4, b4]
        · rw [a5, b5]
        · rw [a6, b6]
  · simp only [decide_eq_false_iff_not] at h2
    have e : l = m := by
      apply List.ext_getElem?
      intro j
      by_cases hj : j < l.length
      · exact hf j (by omega)
      · rw [List.getElem?_eq_none (by omega), List.getElem?_eq_none (by omega)]
    have := k _ H
    rwa [show eqB l m = true by simp [eqB, e]] at this
theorem entryR_c {s : ByteArray} {x : Int} {p : Option Addr} {n c : Nat} (H : Sh.Holds w0 hs w) (k : ∀ w', Sh.Holds w0 hs w' → K (.agg #[.string s, I x, .slice p n c]) w') : gocall Tryz.prog 132 [.string s, I x, .slice p n c] K w := by
  apply F132_go; unfold F132
  refine nw_h H (fun k5 w H => ?_)
  replace H : Sh.Holds w0 ([(k5, .cells #[.string ⟨#[]⟩, I 0, .slice none 0 0] 139 (0, 0))] :: hs) w := H
  (with_reducible repeat first|refine ldA (by assumption) ?_|refine Stp.imp ?_|refine stA (by assumption) rfl fun _ _=>?_|refine nw_h (by assumption) fun _ _ _=>?_|refine ldSA ?_|refine asT_e [] rfl rfl ?_|refine ldD (by assumption) ?_|refine nwD (by assumption) fun _ _ _=>?_)
  exact k _ (Holds.tail (by assumption))
theorem openJ {J : Rj} (H : Sh.Holds w0 (J.hp :: R) w) : Sh.Holds w0 ([(J.j, .cells #[I J.room, J.r.v, I J.sure, .bool J.down] 64 (0, 0))] :: J.r.hp 9 :: R) w := H.perm (by simp [Rj.hp])
theorem shutJ {J : Rj} (H : Sh.Holds w0 ([(J.j, .cells #[I J.room, J.r.v, I J.sure, .bool J.down] 64 (0, 0))] :: J.r.hp 9 :: R) w) : Sh.Holds w0 (J.hp :: R) w := H.perm (by simp [Rj.hp])
/-- one entry noted, and made sure -/
theorem note1_c {J : Rj} {e : En} {p : Option Addr} {n c q : Nat} (T : Tab w0) (H : Sh.Holds w0 hs w) [D : Del hs J.hp R] (ok : J.Ok) (hln : J.lines.length ≤ 5000) (hm : mayN e = true)
    (hq : CellAt R q 0 (.string (B e.k))) (hq1 : CellAt R q 1 (I e.id)) (hq2 : CellAt R q 2 (.slice p n c)) (hsl : Sl (Sh.Holds w0 R) p n 1 (e.l.map I))
    (k0 : (J.down = true ∨ J.room ≤ J.lines.length) → ∀ w', Sh.Holds w0 (J.hp :: R) w' → K (.bool false) w')
    (k1 : J.down = false → (J.lines.length : Int) < J.room → ∀ (J' : Rj) w', J' = { J with r := J'.r, lines := J.lines ++ [LB e], sure := J.lines.length + 1 } → J'.Ok → Sh.Holds w0 (J'.hp :: R) w' → K (.bool true) w') :
    gocall Tryz.prog 131 [J.v, .bool true, .slice (some ⟨q, 0, none⟩) 1 1] K w := by
  replace H := H.get J.hp
  have hn := Rj.n ok
  have hr := ok.room
  apply F131_go; unfold F131
  have H0 := H.drew
  replace H := openJ H0
  refine nn_h ?_
  refine ldA H ?_; refine asBoo_h ?_
  refine br_s (fun hd => k0 (.inl hd) _ H0) (fun hd => ?_)
  refine nn_h ?_
  refine ldA H ?_; refine asSl_h ?_
  refine nn_h ?_
  refine ldA H ?_; refine asI_h ?_
  have hw : IntKind.wrap .i64 ((J.r.n : Int) + 1) = J.r.n + 1 := wrap64 (by omega) (by omega)
  refine br_s (fun h => k0 (.inr ?_) _ H0) (fun h => ?_)
  · have h : (J.r.n : Int) + 1 > J.room := by
      have h := of_decide_eq_true h
      have h : IntKind.wrap .i64 ((J.r.n : Int) + 1) > J.room := h
      omega
    omega
  have h : (J.lines.length : Int) < J.room := by
    have h := of_decide_eq_false h
    have h : ¬ IntKind.wrap .i64 ((J.r.n : Int) + 1) > J.room := h
    omega
  have ha : addR J e = 0 := by unfold addR; rw [if_neg (by simp [hd]), if_pos hm, if_neg (by omega)]
  refine ⟨fun y w => (y.1 = 0 ∧ Sh.Holds w0 (J.hp :: R) w) ∨ (y.1 = 1 ∧ ∃ J' : Rj, J' = { J with r := J'.r, lines := J.lines ++ [LB e] } ∧ J'.Ok ∧ Sh.Holds w0 (J'.hp :: R) w), fun y _ => (1 - y.1).toNat, .inl ⟨rfl, H0⟩, ?_⟩
  clear H H0
  rintro ⟨y, u⟩ w (⟨hy, H⟩ | ⟨hy, J', hJ, okJ, H⟩)
  · simp only at hy
    subst hy
    refine br_t rfl ?_
    refine slAt_b (by omega) (by omega) ?_
    refine ⟨_, hq.at_ H.tail, ?_⟩
    refine asStr_h ?_
    refine ⟨_, hq1.at_ H.tail, ?_⟩
    refine asI_h ?_
    refine ⟨_, hq2.at_ H.tail, ?_⟩
    refine asSl_h ?_
    refine nw_h H (fun k9 w H => ?_)
    replace H : Sh.Holds w0 ([(k9, .cells #[.string ⟨#[]⟩, I 0, .slice none 0 0] 139 (0, 0))] :: J.hp :: R) w := H
    (with_reducible repeat first|refine ldA (by assumption) ?_|refine Stp.imp ?_|refine stA (by assumption) rfl fun _ _=>?_|refine nw_h (by assumption) fun _ _ _=>?_|refine ldSA ?_|refine asT_e [] rfl rfl ?_|refine ldD (by assumption) ?_|refine nwD (by assumption) fun _ _ _=>?_)
    rename_i H9
    replace H := H9
    refine addR_c (J := J) (e := e) T 1 H rfl ok (hsl.mono fun w H => H.tail.tail) (fun J' w hJ okJ H => ?_)
    refine asI_h ?_
    rw [if_pos ha] at hJ
    refine ⟨.inr ⟨rfl, J', hJ, okJ, ?_⟩, (show (1 - IntKind.i64.wrap (0 + 1)).toNat < (1 - (0 : Int)).toNat by decide)⟩
    exact H.tail
  · simp only at hy
    subst hy
    refine br_f rfl ?_
    refine br_t rfl ?_
    rw [show J.j = J'.j by rw [hJ]]
    refine syncR_c (J := J') 0 H rfl okJ (fun J2 w hJ2 okJ2 H => ?_)
    refine asI_h ?_
    have hd' : J'.down = false := by rw [hJ]; exact hd
    rw [if_neg (by simp [hd'])] at hJ2
    refine k1 hd h J2 w ?_ okJ2 H
    rw [hJ2, hJ]; simp
end
end Go.Proofs.YtcfmnoimehcfnaaGreatDoor
