/- What law20's awake computes: true. Conditions: none. -/
import Derived.Test.YtcfmnoimehcfnaaGreatDoorK7
set_option linter.unusedVariables false
set_option maxRecDepth 100000
namespace Go.Proofs.YtcfmnoimehcfnaaGreatDoor
open Go Go.Sh

section
variable {w0 w : World} {hs R : List Hp} {K : KV}
theorem freeS_c {S : Kp} (H : Sh.Holds w0 hs w) [D : Del hs S.hp R] (k : ∀ w', Sh.Holds w0 (S.hp :: R) w' → K (I S.G.B.f) w') : gocall Tryz.prog 65 [S.G.v, I 0] K w := by
  replace H := openK (H.get S.hp)
  exact free_c (G := S.G) H (fun w H => k w (shutK H.re))
theorem handS_c {S : Kp} (H : Sh.Holds w0 hs w) [D : Del hs S.hp R] (k : ∀ w', Sh.Holds w0 (S.hp :: R) w' → K (I S.G.B.hand) w') : gocall Tryz.prog 64 [S.G.v, I 0] K w := by
  replace H := openK (H.get S.hp)
  exact onhand_c (G := S.G) H (fun w H => k w (shutK H.re))
end
set_option maxHeartbeats 1000000 in
theorem awakeK_c {w0 w : World} {hs : List Hp} {K : KV} (T : Tab w0) (H : Sh.Holds w0 hs w) (k : ∀ w', Sh.Holds w0 hs w' → K (.bool true) w') : gocall Tryz.prog 67 [] K w := by
  apply F67_go; unfold F67
  refine nw_h H (fun k0 w H => ?_)
  refine newK_c 0 H rfl (fun S w I0 hg hr H => ?_)
  have hr : S.J.room = 20 := by rw [hr]; rfl
  refine asPtr_h ?_
  refine br_f rfl ?_
  refine nw_h H (fun k8 w H => ?_)
  refine stA H rfl (fun w H => ?_)
  refine stA H rfl (fun w H => ?_)
  refine stA H rfl (fun w H => ?_)
  refine stA H rfl (fun w H => ?_)
  refine stA H rfl (fun w H => ?_)
  refine stA H rfl (fun w H => ?_)
  refine stA H rfl (fun w H => ?_)
  refine ldA H ?_; refine asI_h ?_
  refine ldA H ?_; refine asI_h ?_
  refine ldA H ?_; refine asI_h ?_
  refine ldA H ?_; refine asI_h ?_
  refine ldA H ?_; refine asI_h ?_
  refine ldA H ?_; refine asI_h ?_
  refine ldA H ?_; refine asI_h ?_
  have e1 : ansK (KA.run S.g []) ([] : List KE).length S.J.room 6 0 1 7 0 2 = (some ⟨1, 7, [0, 2]⟩, 7) := by rw [hg, hr]; rfl
  refine handleK_c T H I0 (fun _ => rfl) (fun h => by rw [e1] at h; exact absurd h (by decide)) (fun _ q1 S1 w I1 c1 H => ?_)
  rw [e1] at I1 H
  refine asSl_h ?_
  rw [← c1.n]
  have g1 : S1.g = 5 := c1.g.trans hg
  have r1 : S1.J.room = 20 := c1.room.trans hr
  have e2 : ansK (KA.run S1.g ([] ++ (some (⟨1, 7, [0, 2]⟩ : KE)).toList)) ([] ++ (some (⟨1, 7, [0, 2]⟩ : KE)).toList).length S1.J.room 10 0 1 7 0 0 = (some ⟨3, 7, []⟩, 11) := by rw [g1, r1]; rfl
  refine handleK_c T H I1 (fun h => by omega) (fun h => by rw [e2] at h; exact absurd h (by decide)) (fun _ q2 S2 w I2 c2 H => ?_)
  rw [e2] at I2 H
  refine asSl_h ?_
  rw [← c2.n]
  have g2 : S2.g = 5 := c2.g.trans g1
  have r2 : S2.J.room = 20 := c2.room.trans r1
  refine ldA H ?_; refine asI_h ?_
  refine ldA H ?_; refine asI_h ?_
  refine ldA H ?_; refine asI_h ?_
  refine ldA H ?_; refine asI_h ?_
  refine ldA H ?_; refine asI_h ?_
  refine ldA H ?_; refine asI_h ?_
  refine ldA H ?_; refine asI_h ?_
  have e3 : ansK (KA.run S2.g ([] ++ (some (⟨1, 7, [0, 2]⟩ : KE)).toList ++ (some (⟨3, 7, []⟩ : KE)).toList)) ([] ++ (some (⟨1, 7, [0, 2]⟩ : KE)).toList ++ (some (⟨3, 7, []⟩ : KE)).toList).length S2.J.room 6 0 1 7 0 2 = (none, 8) := by rw [g2, r2]; rfl
  refine handleK_c T H I2 (fun _ => rfl) (fun h => by rw [e3] at h; exact absurd h (by decide)) (fun _ q3 S3 w I3 c3 H => ?_)
  rw [e3] at I3 H
  refine asSl_h ?_
  rw [← c3.n]
  have g3 : S3.g = 5 := c3.g.trans g2
  refine br_t rfl ?_
  refine slAt_b (by omega) (by omega) ?_
  refine ld_h (v := I 7) 3 H rfl rfl ?_; refine asI_h ?_
  refine br_t rfl ?_
  refine br_t rfl ?_
  refine slAt_b (by omega) (by omega) ?_
  refine ld_h (v := I 11) 2 H rfl rfl ?_; refine asI_h ?_
  refine br_t rfl ?_
  refine br_t rfl ?_
  refine slAt_b (by omega) (by omega) ?_
  refine ld_h (v := I 8) 0 H rfl rfl ?_; refine asI_h ?_
  refine br_t rfl ?_
  refine goodsK_c (S := S3) H (fun w H => ?_)
  refine asPtr_h ?_
  refine freeS_c (S := S3) H (fun w H => ?_)
  refine asI_h ?_
  have u := I3.up
  have ef : S3.G.B.f = 5 := by rw [u.B, g3]; rfl
  rw [ef]
  exact k _ H.re
theorem idx_bare (x : Int) {n : Nat} (h0 : 0 < n) (hn : n ≤ 100000) : ∃ m : Int, 0 ≤ m ∧ m < n ∧ (IntKind.u64.wrap x).tmod (n : Int) = m := by
  have e2 : 0 ≤ IntKind.u64.wrap x := by rw [show IntKind.u64.wrap x = x % 18446744073709551616 by simp [IntKind.wrap, IntKind.bits, IntKind.signed]]; omega
  generalize IntKind.u64.wrap x = u at *
  rw [Int.tmod_eq_emod_of_nonneg e2]
  exact ⟨u % n, Int.emod_nonneg u (by omega), Int.emod_lt_of_pos u (by omega), rfl⟩
theorem idx_up (x : Int) {n : Nat} (h0 : 0 < n) (hn : n ≤ 100000) : ∃ m : Int, 1 ≤ m ∧ m ≤ n ∧ IntKind.i64.wrap (1 + IntKind.i64.wrap ((IntKind.u64.wrap x).tmod (n : Int))) = m := by
  obtain ⟨m, h1, h2, e⟩ := idx_bare x h0 hn
  refine ⟨1 + m, by omega, by omega, ?_⟩
  rw [e, wrap64 (n := m) (by omega) (by omega), wrap64 (by omega) (by omega)]
end Go.Proofs.YtcfmnoimehcfnaaGreatDoor
