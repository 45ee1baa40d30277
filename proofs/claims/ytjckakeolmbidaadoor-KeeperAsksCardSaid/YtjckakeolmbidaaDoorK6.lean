/- What law20's awake and KeeperFull compute: true. Conditions: none. -/
import Derived.Test.YtjckakeolmbidaaDoorFKF
set_option linter.unusedVariables false
set_option maxRecDepth 100000
namespace Go.Proofs.YtjckakeolmbidaaDoor
open Go Go.Sh

section
variable {w0 w : World} {hs R : List Hp} {K : KV}
theorem freeS_c {S : Kp} (H : Sh.Holds w0 hs w) [D : Del hs S.hp R] (k : ∀ w', Sh.Holds w0 (S.hp :: R) w' → K (I S.G.B.f) w') : gocall Tryd.prog 16 [S.G.v, I 0] K w := by
  replace H := openK (H.get S.hp)
  exact free_c (G := S.G) H (fun w H => k w (shutK H.re))
theorem handS_c {S : Kp} (H : Sh.Holds w0 hs w) [D : Del hs S.hp R] (k : ∀ w', Sh.Holds w0 (S.hp :: R) w' → K (I S.G.B.hand) w') : gocall Tryd.prog 17 [S.G.v, I 0] K w := by
  replace H := openK (H.get S.hp)
  exact onhand_c (G := S.G) H (fun w H => k w (shutK H.re))
end
set_option maxHeartbeats 1000000 in
theorem awakeK_c {w0 w : World} {hs : List Hp} {K : KV} (T : Tab w0) (H : Sh.Holds w0 hs w) (k : ∀ w', Sh.Holds w0 hs w' → K (.bool true) w') : gocall Tryd.prog 14 [] K w := by
  apply F14_go; unfold F14
  refine nw_h H (fun k0 w H => ?_)
  refine newK_c 0 H rfl (fun S w I0 hg hr H => ?_)
  have hr : S.J.room = 20 := by rw [hr]; rfl
  refine asPtr_h ?_
  refine br_f rfl ?_
  refine nw_h H (fun k8 w H => ?_)
  refine stA H rfl (fun w H => ?_)
  refine stA H rfl (fun w H => ?_)
  refine stA H rfl (fun w H => ?_)
  refine stA H rfl (fun w H => ?_)
  refine stA H rfl (fun w H => ?_)
  refine stA H rfl (fun w H => ?_)
  refine stA H rfl (fun w H => ?_)
  refine ldA H ?_; refine asI_h ?_
  refine ldA H ?_; refine asI_h ?_
  refine ldA H ?_; refine asI_h ?_
  refine ldA H ?_; refine asI_h ?_
  refine ldA H ?_; refine asI_h ?_
  refine ldA H ?_; refine asI_h ?_
  refine ldA H ?_; refine asI_h ?_
  have e1 : ansK (KA.run S.g []) ([] : List KE).length S.J.room 6 0 1 7 0 2 = (some ⟨1, 7, [0, 2]⟩, 7) := by rw [hg, hr]; rfl
  refine handleK_c T H I0 (fun _ => rfl) (fun h => by rw [e1] at h; exact absurd h (by decide)) (fun _ q1 S1 w I1 c1 H => ?_)
  rw [e1] at I1 H
  refine asSl_h ?_
  rw [← c1.n]
  have g1 : S1.g = 5 := c1.g.trans hg
  have r1 : S1.J.room = 20 := c1.room.trans hr
  have e2 : ansK (KA.run S1.g ([] ++ (some (⟨1, 7, [0, 2]⟩ : KE)).toList)) ([] ++ (some (⟨1, 7, [0, 2]⟩ : KE)).toList).length S1.J.room 10 0 1 7 0 0 = (some ⟨3, 7, []⟩, 11) := by rw [g1, r1]; rfl
  refine handleK_c T H I1 (fun h => by omega) (fun h => by rw [e2] at h; exact absurd h (by decide)) (fun _ q2 S2 w I2 c2 H => ?_)
  rw [e2] at I2 H
  refine asSl_h ?_
  rw [← c2.n]
  have g2 : S2.g = 5 := c2.g.trans g1
  have r2 : S2.J.room = 20 := c2.room.trans r1
  refine ldA H ?_; refine asI_h ?_
  refine ldA H ?_; refine asI_h ?_
  refine ldA H ?_; refine asI_h ?_
  refine ldA H ?_; refine asI_h ?_
  refine ldA H ?_; refine asI_h ?_
  refine ldA H ?_; refine asI_h ?_
  refine ldA H ?_; refine asI_h ?_
  have e3 : ansK (KA.run S2.g ([] ++ (some (⟨1, 7, [0, 2]⟩ : KE)).toList ++ (some (⟨3, 7, []⟩ : KE)).toList)) ([] ++ (some (⟨1, 7, [0, 2]⟩ : KE)).toList ++ (some (⟨3, 7, []⟩ : KE)).toList).length S2.J.room 6 0 1 7 0 2 = (none, 8) := by rw [g2, r2]; rfl
  refine handleK_c T H I2 (fun _ => rfl) (fun h => by rw [e3] at h; exact absurd h (by decide)) (fun _ q3 S3 w I3 c3 H => ?_)
  rw [e3] at I3 H
  refine asSl_h ?_
  rw [← c3.n]
  have g3 : S3.g = 5 := c3.g.trans g2
  refine br_t rfl ?_
  refine slAt_b (by omega) (by omega) ?_
  refine ld_h (v := I 7) 3 H rfl rfl ?_; refine asI_h ?_
  refine br_t rfl ?_
  refine br_t rfl ?_
  refine slAt_b (by omega) (by omega) ?_
  refine ld_h (v := I 11) 2 H rfl rfl ?_; refine asI_h ?_
  refine br_t rfl ?_
  refine br_t rfl ?_
  refine slAt_b (by omega) (by omega) ?_
  refine ld_h (v := I 8) 0 H rfl rfl ?_; refine asI_h ?_
  refine br_t rfl ?_
  refine goodsK_c (S := S3) H (fun w H => ?_)
  refine asPtr_h ?_
  refine freeS_c (S := S3) H (fun w H => ?_)
  refine asI_h ?_
  have u := I3.up
  have ef : S3.G.B.f = 5 := by rw [u.B, g3]; rfl
  rw [ef]
  exact k _ H.re
/-- so many are ready, and no more -/
structure FullA (A : KA) (i : Int) : Prop where
  s : ∀ x, A.s x = if 1 ≤ x ∧ x ≤ i then 1 else 0
  f : A.B.f = 1000 - i
  q : ∀ x, i < x → qOf A.B.R x = none
  t : tot A.B.R = i
theorem FullA.resv {A : KA} {i : Int} (h : FullA A i) (h0 : 0 ≤ i) (h1 : i ≤ 20) {x : Int} (hx : i < x) (hx2 : x ≤ 999) : A.B.resv x 1 = 0 := by
  unfold GB.resv
  rw [if_neg (by omega), h.q x hx, if_neg (by simp), h.f, if_neg (by omega)]
theorem FullA.step {A : KA} {i : Int} (h : FullA A i) (h0 : 0 ≤ i) (h1 : i ≤ 20) : FullA (A.step ⟨1, 1 + i, [0, 1]⟩) (i + 1) := by
  have hr := h.resv h0 h1 (x := 1 + i) (by omega) (by omega)
  have e : (A.step ⟨1, 1 + i, [0, 1]⟩).B = ⟨A.B.f - 1, (1 + i, 1) :: A.B.R⟩ := by
    simp only [KA.step, GB.play, if_pos]
    unfold GB.take
    have : ([0, 1] : List Int).getD 1 0 = 1 := rfl
    rw [this, if_pos hr]
  refine ⟨fun x => ?_, by rw [e, h.f]; show 1000 - i - 1 = _; omega, fun x hx => ?_, ?_⟩
  · simp only [KA.step]
    rw [h.s]
    by_cases hx : x = 1 + i
    · rw [if_pos hx, if_pos (by omega)]
    · rw [if_neg hx]
      by_cases hx2 : 1 ≤ x ∧ x ≤ i
      · rw [if_pos hx2, if_pos (by omega)]
      · rw [if_neg hx2, if_neg (by omega)]
  · rw [e]
    simp only [qOf]
    rw [if_neg (by omega)]
    exact h.q x (by omega)
  · rw [e]
    have := h.t
    simp only [tot, List.map_cons, List.sum_cons] at this ⊢; omega
theorem idx_bare (x : Int) {n : Nat} (h0 : 0 < n) (hn : n ≤ 100000) : ∃ m : Int, 0 ≤ m ∧ m < n ∧ (IntKind.u64.wrap x).tmod (n : Int) = m := by
  have e2 : 0 ≤ IntKind.u64.wrap x := by rw [show IntKind.u64.wrap x = x % 18446744073709551616 by simp [IntKind.wrap, IntKind.bits, IntKind.signed]]; omega
  generalize IntKind.u64.wrap x = u at *
  rw [Int.tmod_eq_emod_of_nonneg e2]
  exact ⟨u % n, Int.emod_nonneg u (by omega), Int.emod_lt_of_pos u (by omega), rfl⟩
theorem idx_up (x : Int) {n : Nat} (h0 : 0 < n) (hn : n ≤ 100000) : ∃ m : Int, 1 ≤ m ∧ m ≤ n ∧ IntKind.i64.wrap (1 + IntKind.i64.wrap ((IntKind.u64.wrap x).tmod (n : Int))) = m := by
  obtain ⟨m, h1, h2, e⟩ := idx_bare x h0 hn
  refine ⟨1 + m, by omega, by omega, ?_⟩
  rw [e, wrap64 (n := m) (by omega) (by omega), wrap64 (by omega) (by omega)]
theorem ans_full {A : KA} {n : Nat} {room kind frm to id a b : Int} (h : (vNext (A.s id) kind (canB A kind id b)).1 ≠ A.s id) (hr : ¬ (n : Int) < room) : ansK A n room kind frm to id a b = (none, 0) := by
  unfold ansK
  by_cases hg : goodK frm to id
  · rw [if_pos hg, if_neg h, if_neg hr]
  · rw [if_neg hg]
set_option maxHeartbeats 2000000 in
theorem Full_c {w0 w : World} {hs : List Hp} {K : KV} {x0 x1 : Int} (T : Tab w0) (H : Sh.Holds w0 hs w) (k : ∀ w', Sh.Holds w0 hs w' → K (.bool true) w') : gocall Tryd.prog 4 [I x0, I x1] K w := by
  apply F4_go; unfold F4
  obtain ⟨m, hm1, hm2, em⟩ := idx_up x0 (n := 20) (by omega) (by omega)
  have em : IntKind.i64.wrap (1 + IntKind.i64.wrap ((IntKind.u64.wrap x0).tmod 20)) = m := em
  rw [em]
  refine ⟨by decide, ?_⟩
  refine nw_h H (fun k3 w H => ?_)
  refine newK_c 0 H rfl (fun S w I0 hg hr H => ?_)
  have hr : S.J.room = m := by
    rw [hr]; unfold roomB
    have h : (if 4096 < m then (4096 : Int) else m) = m := if_neg (by omega)
    rw [h]; split <;> omega
  refine asPtr_h ?_
  refine ⟨fun x w => ∃ (S' : Kp) (es : List KE), KpIs S' es false ∧ S'.n = S.n ∧ S'.g = 1000 ∧ S'.J.room = m ∧ (es.length : Int) = x.1 ∧ 0 ≤ x.1 ∧ x.1 ≤ m ∧ FullA (KA.run 1000 es) x.1 ∧ Sh.Holds w0 (S'.hp :: hs) w, fun x _ => (m - x.1).toNat, ⟨S, [], I0, rfl, hg, hr, rfl, by simp, by simp; omega, ⟨fun x => by simp only [KA.run, KA.zero, List.foldl_nil]; rw [if_neg (by omega)], rfl, fun x _ => rfl, rfl⟩, H.re⟩, ?_⟩
  clear H I0 hg hr
  generalize S.n = nn
  rintro ⟨i, b, u⟩ w ⟨S, es, I0, en, hg, hr, hl, h0, h1, hF, H⟩
  simp only at hl h0 h1 hF
  subst en
  refine br_s (fun h2 => ?_) (fun h2 => ?_)
  · simp only [decide_eq_true_eq] at h2
    have w1 : IntKind.wrap .i64 (1 + i) = 1 + i := wrap64 (by omega) (by omega)
    have w2 : IntKind.wrap .i64 (i + 1) = i + 1 := wrap64 (by omega) (by omega)
    simp only [w1, w2]
    have hs0 : (KA.run 1000 es).s (1 + i) = 0 := by rw [hF.s, if_neg (by omega)]
    have hcan : canB (KA.run 1000 es) 6 (1 + i) 1 = true := by
      unfold canB
      rw [hs0, hF.resv h0 (by omega) (by omega) (by omega)]; rfl
    have e1 : ansK (KA.run S.g es) es.length S.J.room 6 0 1 (1 + i) 0 1 = (some ⟨1, 1 + i, [0, 1]⟩, 7) := by
      unfold ansK
      rw [hg, hr, if_pos ⟨rfl, by omega, .inl rfl⟩, hs0, hcan, hl]
      have ev : vNext 0 6 true = (1, 7) := rfl
      rw [ev, if_neg (by decide), if_pos (by omega)]
      rfl
    refine handleK_c T H I0 (fun _ => rfl) (fun h => by rw [e1] at h; simp at h) (fun _ q1 S1 w I1 c1 H => ?_)
    rw [e1] at I1 H
    refine asSl_h ?_
    refine br_f rfl ?_
    refine slAt_b (by omega) (by omega) ?_
    refine ld_h (v := I 7) 0 H rfl rfl ?_; refine asI_h ?_
    refine br_f rfl ?_
    exact ⟨⟨S1, es ++ [⟨1, 1 + i, [0, 1]⟩], I1, c1.n, c1.g.trans hg, c1.room.trans hr, by simp; omega, by omega, by omega, by rw [KA.run_add]; exact hF.step h0 (by omega), H.tail⟩, by omega⟩
  · simp only [decide_eq_false_iff_not] at h2
    have him : i = m := by omega
    subst him
    have hfull : ¬ (es.length : Int) < S.J.room := by omega
    obtain ⟨t, ht0, ht1, et⟩ := idx_bare x1 (n := 4) (by omega) (by omega)
    have et : (IntKind.u64.wrap x1).tmod 4 = t := et
    rw [et]
    refine nw_h H (fun k30 w H => ?_)
    refine ⟨by decide, ?_⟩
    refine slAt_b ht0 ht1 ?_
    obtain ⟨kd, hkd, hkv⟩ : ∃ kd : Int, (kd = 6 ∨ kd = 9 ∨ kd = 10 ∨ kd = 12) ∧ (#[I 6, I 9, I 10, I 12] : Array Value)[t.toNat * 1]? = some (I kd) := by
      have ht : t = 0 ∨ t = 1 ∨ t = 2 ∨ t = 3 := by omega
      rcases ht with rfl | rfl | rfl | rfl
      · exact ⟨6, by omega, rfl⟩
      · exact ⟨9, by omega, rfl⟩
      · exact ⟨10, by omega, rfl⟩
      · exact ⟨12, by omega, rfl⟩
    refine ld_h 0 H rfl hkv ?_; refine asI_h ?_
    replace H := H.tail
    refine nw_h H (fun k9 w H => ?_)
    refine stA H rfl (fun w H => ?_)
    refine stA H rfl (fun w H => ?_)
    refine stA H rfl (fun w H => ?_)
    refine stA H rfl (fun w H => ?_)
    refine stA H rfl (fun w H => ?_)
    refine stA H rfl (fun w H => ?_)
    refine stA H rfl (fun w H => ?_)
    refine ⟨fun _ w => ∃ id : Int, ((kd = 9 ∧ id = 1) ∨ (kd ≠ 9 ∧ id = 500)) ∧ Sh.Holds w0 ([(k9, .cells #[I kd, I 0, I 1, I id, I 0, I 0, I 1] 30 (0, 0))] :: S.hp :: hs) w, ?_, ?_⟩
    · refine ldA H ?_; refine asI_h ?_
      refine br_s (fun h3 => ?_) (fun h3 => ?_)
      · refine stA H rfl (fun w H => ?_)
        exact ⟨1, .inl ⟨by simpa using h3, rfl⟩, H⟩
      · exact ⟨500, .inr ⟨by simpa using h3, rfl⟩, H⟩
    · clear H
      rintro u2 w ⟨id, hid, H⟩
      refine goodsK_c (S := S) H (fun w H => ?_)
      refine asPtr_h ?_
      refine freeS_c (S := S) H (fun w H => ?_)
      refine asI_h ?_
      have u0 := I0.up
      rw [hg] at u0
      refine ldA H ?_; refine asI_h ?_
      refine ldA H ?_; refine asI_h ?_
      refine ldA H ?_; refine asI_h ?_
      refine ldA H ?_; refine asI_h ?_
      refine ldA H ?_; refine asI_h ?_
      refine ldA H ?_; refine asI_h ?_
      refine ldA H ?_; refine asI_h ?_
      have s1 : (KA.run 1000 es).s 1 = 1 := by rw [hF.s, if_pos (by omega)]
      have s500 : (KA.run 1000 es).s 500 = 0 := by rw [hF.s, if_neg (by omega)]
      have e1 : ansK (KA.run S.g es) es.length S.J.room kd 0 1 id 0 1 = (none, 0) := by
        refine ans_full ?_ hfull
        rw [hg]
        rcases hid with ⟨rfl, rfl⟩ | ⟨h9, rfl⟩
        · rw [s1]; generalize canB _ _ _ _ = cc; cases cc <;> decide
        · rw [s500]
          generalize canB _ _ _ _ = cc
          rcases hkd with rfl | rfl | rfl | rfl
          · cases cc <;> decide
          · exact absurd rfl h9
          · cases cc <;> decide
          · cases cc <;> decide
      refine handleK_c T H I0 (fun _ => rfl) (fun _ S1 w I1 c1 H => ?_) (fun h => by rw [e1] at h; exact absurd rfl h)
      rw [e1] at I1
      simp only [Option.toList_none, List.append_nil] at I1
      refine asSl_h ?_
      rw [← c1.n]
      have g1 : S1.g = 1000 := c1.g.trans hg
      have r1 : S1.J.room = i := c1.room.trans hr
      have e2 : ansK (KA.run S1.g es) es.length S1.J.room 6 0 1 1 0 1 = (none, 7) := by
        unfold ansK
        rw [g1, if_pos (by decide), s1]
        have ev : ∀ c, vNext 1 6 c = (1, 7) := fun c => by cases c <;> rfl
        rw [ev, if_pos rfl]
      refine handleK_c T H I1 (fun _ => rfl) (fun h => by rw [e2] at h; exact absurd h (by decide)) (fun _ q2 S2 w I2 c2 H => ?_)
      rw [e2] at I2 H
      simp only [Option.toList_none, List.append_nil] at I2
      refine asSl_h ?_
      rw [← c2.n]
      have g2 : S2.g = 1000 := c2.g.trans g1
      have r2 : S2.J.room = i := c2.room.trans r1
      have u2 := I2.up
      rw [g2] at u2
      refine br_t rfl ?_
      refine stateK_c (S := S2) H I2.ok (fun w H => ?_)
      refine asI_h ?_
      rw [u2.s, s500]
      refine br_t rfl ?_
      refine stateK_c (S := S2) H I2.ok (fun w H => ?_)
      refine asI_h ?_
      rw [u2.s, s1]
      refine br_t rfl ?_
      refine goodsK_c (S := S2) H (fun w H => ?_)
      refine asPtr_h ?_
      refine freeS_c (S := S2) H (fun w H => ?_)
      refine asI_h ?_
      refine br_t (by rw [u2.B, u0.B]; simp) ?_
      refine goodsK_c (S := S2) H (fun w H => ?_)
      refine asPtr_h ?_
      refine handS_c (S := S2) H (fun w H => ?_)
      refine asI_h ?_
      refine br_t (by rw [u2.B]; unfold GB.hand; rw [hF.f, hF.t]; simp) ?_
      have e3 : forceE (KA.run S2.g es) es.length S2.J.room 1 true = (none, 5) := by
        unfold forceE
        rw [g2, r2, if_neg (by omega), s1]
        have ev : fF 1 true = (4, 0) := rfl
        rw [ev, if_pos rfl, if_neg (by omega)]
      refine forceK_c (yes := true) T H I2 (fun S3 w I3 c3 H => ?_)
      rw [e3]
      refine asI_h ?_
      refine br_t rfl ?_
      refine br_t rfl ?_
      refine slAt_b (by omega) (by omega) ?_
      refine ld_h (v := I 7) 1 H rfl rfl ?_; refine asI_h ?_
      refine br_t rfl ?_
      refine awakeK_c T H (fun w H => ?_)
      refine asBoo_h ?_
      exact k _ H.tail.tail.tail
end Go.Proofs.YtjckakeolmbidaaDoor
