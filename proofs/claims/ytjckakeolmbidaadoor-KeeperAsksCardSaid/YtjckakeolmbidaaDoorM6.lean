/- What law20's KeeperAsks computes: true. Conditions: none. -/
import Derived.Test.YtjckakeolmbidaaDoorFKA
import Derived.Test.YtjckakeolmbidaaDoorK6
set_option linter.unusedVariables false
set_option maxRecDepth 100000
namespace Go.Proofs.YtjckakeolmbidaaDoor
open Go Go.Sh

theorem tillS_c {w0 w : World} {hs R : List Hp} {K : KV} {S : Mp} (H : Sh.Holds w0 hs w) [D : Del hs S.hp R] (k : ∀ w', Sh.Holds w0 (S.hp :: R) w' → K (I S.G.B.t) w') : gocall Tryd.prog 13 [S.G.v] K w := by
  replace H := openM (H.get S.hp)
  exact till_c (G := S.G) H (fun w H => k w (shutM H.re))
set_option maxHeartbeats 1000000 in
theorem ringM_c {w0 w : World} {hs R : List Hp} {K : KV} {S : Mp} {es : List KE} {id : Int} (H : Sh.Holds w0 hs w) [D : Del hs S.hp R] (I0 : MpIs S es false)
    (k0 : S.s id ≠ 1 → ∀ w', Sh.Holds w0 (S.hp :: R) w' → K (.slice none 0 0) w')
    (k1 : S.s id = 1 → ∀ q w', Sh.Holds w0 ([(q, .cells #[I 12, I 2, I 0, I id, I 0, I 0, I 0, I 12, I 2, I 1, I id, I 0, I 0, I 0] 30 (0, 0))] :: S.hp :: R) w' → K (.slice (some ⟨q, 0, none⟩) 2 2) w') : gocall Tryd.prog 9 [S.v, I id] K w := by
  replace H := H.get S.hp
  apply F9_go; unfold F9
  refine br_f rfl ?_
  refine downM_c (S := S) H (fun w H => ?_)
  refine asBoo_h ?_
  rw [I0.dn]
  refine br_f rfl ?_
  refine stateM_c (S := S) H I0.ok (fun w H => ?_)
  refine asI_h ?_
  refine br_s (fun h => ?_) (fun h => ?_)
  · exact k0 (by simpa using h) _ H
  have h : S.s id = 1 := by simpa using h
  refine nn_h ?_
  replace H := openM H
  refine ldA H ?_; refine asI_h ?_
  refine nw_h H (fun k2 w H => ?_)
  iterate 7 refine stA H rfl (fun w H => ?_)
  iterate 7 (refine ldA H ?_; refine asI_h ?_)
  refine nw_h H (fun k3 w H => ?_)
  iterate 7 refine stA H rfl (fun w H => ?_)
  have H2 : Sh.Holds w0 (S.hp :: [(k3, .cells #[I 12, I 2, I 0, I id, I 0, I 0, I 0] 30 (0, 0))] :: [(k2, .cells #[I 12, I 2, I 0, I id, I 0, I 0, I 0] 30 (0, 0))] :: R) w := shutM H.re
  refine otherM_c (S := S) H2 (fun w H => ?_)
  refine asI_h ?_
  refine stA H rfl (fun w H => ?_)
  iterate 14 (refine ldA H ?_; refine asI_h ?_)
  refine nw_h H (fun q w H => ?_)
  exact k1 h q _ H.re
set_option maxHeartbeats 1000000 in
theorem Asks_c {w0 w : World} {hs : List Hp} {K : KV} {x0 : Int} {b : Bool} (T : Tab w0) (H : Sh.Holds w0 hs w) (k : ∀ w', Sh.Holds w0 hs w' → K (.bool true) w') : gocall Tryd.prog 3 [I x0, .bool b] K w := by
  apply F3_go; unfold F3
  obtain ⟨q, hq1, hq2, eq⟩ := idx_up x0 (n := 1000) (by omega) (by omega)
  have eq : IntKind.i64.wrap (1 + IntKind.i64.wrap ((IntKind.u64.wrap x0).tmod 1000)) = q := eq
  rw [eq]
  refine ⟨by decide, ?_⟩
  refine nw_h H (fun k0 w H => ?_)
  refine newM_c 0 H rfl (fun S w I0 hg hr H => ?_)
  have hr : S.J.room = 50 := by rw [hr]; rfl
  refine asPtr_h ?_
  refine br_f rfl ?_
  have u0 := I0.up
  refine ringM_c (S := S) H I0 (fun _ w H => ?_) (fun h => by rw [u0.s] at h; exact absurd h (by show (0 : Int) ≠ 1; decide))
  refine asSl_h ?_
  refine br_f rfl ?_
  have hres : (MA.run 1000 []).B.resv 4 q = 0 := by
    show PB.resv ⟨clampB 1000, 0, [], fun _ => none⟩ 4 q = 0
    have hc : clampB 1000 = 1000 := rfl
    unfold PB.resv
    rw [hc]
    simp only [qOf, tot, List.map_nil, List.sum_nil]
    rw [if_neg (by omega), if_neg (by simp), if_neg (by omega), if_neg (by omega)]
  have hcan : canM (MA.run 1000 []) 6 4 q = true := by
    unfold canM
    rw [hres]; rfl
  have e1 : ansM (MA.run S.g []) ([] : List KE).length S.J.room 6 0 2 4 0 q = (some ⟨1, 4, [0, q]⟩, 7) := by
    unfold ansM
    rw [hg, hr, if_pos (by decide), hcan]
    have es : (MA.run 1000 []).s 4 = 0 := rfl
    have ev : vNext 0 6 true = (1, 7) := rfl
    rw [es, ev]
    rfl
  refine handleM_c T H I0 (fun _ => rfl) (fun h => by rw [e1] at h; exact absurd h (by simp)) (fun _ q1 S1 w I1 c1 H => ?_)
  rw [e1] at I1
  simp only [Option.toList_some, List.nil_append] at I1
  have g1 : S1.g = 1000 := c1.g.trans hg
  have r1 : S1.J.room = 50 := c1.room.trans hr
  have u1 := I1.up
  rw [g1] at u1
  have eB : (MA.run 1000 [⟨1, 4, [0, q]⟩]).B = ⟨1000, 0, [(4, q)], fun _ => none⟩ := by
    show PB.play (MA.run 1000 []).B 1 4 [0, q] = _
    unfold PB.play
    rw [if_pos rfl]
    show PB.take (MA.run 1000 []).B 4 q = _
    unfold PB.take
    rw [if_pos hres]; rfl
  refine asSl_h ?_
  rw [← c1.n]
  refine ringM_c (S := S1) H I1 (fun h => absurd (u1.s 4) (fun e => h (by rw [e]; rfl))) (fun _ q2 w H => ?_)
  refine asSl_h ?_
  refine br_f rfl ?_
  refine slAt_b (by omega) (by omega) ?_
  refine ld_h (v := I 0) 0 H rfl rfl ?_; refine asI_h ?_
  refine br_f rfl ?_
  refine slAt_b (by omega) (by omega) ?_
  refine ld_h (v := I 1) 0 H rfl rfl ?_; refine asI_h ?_
  refine br_f rfl ?_
  refine slAt_b (by omega) (by omega) ?_
  refine ld_h (v := I 12) 0 H rfl rfl ?_; refine asI_h ?_
  refine br_f rfl ?_
  refine slAt_b (by omega) (by omega) ?_
  refine ld_h (v := I 12) 0 H rfl rfl ?_; refine asI_h ?_
  refine br_f rfl ?_
  refine slAt_b (by omega) (by omega) ?_
  refine ld_h (v := I 2) 0 H rfl rfl ?_; refine asI_h ?_
  refine br_f rfl ?_
  refine slAt_b (by omega) (by omega) ?_
  refine ld_h (v := I 4) 0 H rfl rfl ?_; refine asI_h ?_
  refine br_f rfl ?_
  have s1 : (MA.run 1000 [⟨1, 4, [0, q]⟩]).s 4 = 1 := rfl
  refine br_s (fun hb => ?_) (fun hb => ?_)
  · have e2 : ansM (MA.run S1.g [⟨1, 4, [0, q]⟩]) ([⟨1, 4, [0, q]⟩] : List KE).length S1.J.room 13 1 2 4 0 0 = (some ⟨2, 4, []⟩, 11) := by
      unfold ansM
      rw [g1, r1, if_pos (by decide), s1]
      have ev : ∀ c, vNext 1 13 c = (2, 11) := fun c => by cases c <;> rfl
      rw [ev]; rfl
    refine handleM_c T H I1 (fun h => by omega) (fun h => by rw [e2] at h; exact absurd h (by simp)) (fun _ q3 S2 w I2 c2 H => ?_)
    rw [e2] at I2 H
    simp only [Option.toList_some, List.singleton_append] at I2
    have g2 : S2.g = 1000 := c2.g.trans g1
    have u2 := I2.up
    rw [g2] at u2
    have eB2 : (MA.run 1000 [⟨1, 4, [0, q]⟩, ⟨2, 4, []⟩]).B.t = q := by
      show (PB.play (MA.run 1000 [⟨1, 4, [0, q]⟩]).B 2 4 []).t = q
      rw [eB]
      show 0 + q = q
      omega
    refine asSl_h ?_
    rw [← c2.n]
    refine br_t rfl ?_
    refine slAt_b (by omega) (by omega) ?_
    refine ld_h (v := I 11) 0 H rfl rfl ?_; refine asI_h ?_
    refine br_t rfl ?_
    refine slAt_b (by omega) (by omega) ?_
    refine ld_h (v := I 0) 0 H rfl rfl ?_; refine asI_h ?_
    refine br_t rfl ?_
    refine stateM_c (S := S2) H I2.ok (fun w H => ?_)
    rw [u2.s]
    refine asI_h ?_
    refine br_t rfl ?_
    refine moneyM_c (S := S2) H (fun w H => ?_)
    refine asPtr_h ?_
    refine tillS_c (S := S2) H (fun w H => ?_)
    rw [u2.B, eB2]
    refine asI_h ?_
    refine br_t (by simp) ?_
    refine ringM_c (S := S2) H I2 (fun _ w H => ?_) (fun h => by rw [u2.s] at h; exact absurd h (by show (2 : Int) ≠ 1; decide))
    refine asSl_h ?_
    refine br_t rfl ?_
    refine awakeK_c T H (fun w H => ?_)
    refine asBoo_h ?_
    exact k _ H.re
  · have e2 : ansM (MA.run S1.g [⟨1, 4, [0, q]⟩]) ([⟨1, 4, [0, q]⟩] : List KE).length S1.J.room 14 1 2 4 0 0 = (some ⟨3, 4, []⟩, 11) := by
      unfold ansM
      rw [g1, r1, if_pos (by decide), s1]
      have ev : ∀ c, vNext 1 14 c = (3, 11) := fun c => by cases c <;> rfl
      rw [ev]; rfl
    refine handleM_c T H I1 (fun h => by omega) (fun h => by rw [e2] at h; exact absurd h (by simp)) (fun _ q3 S2 w I2 c2 H => ?_)
    rw [e2] at I2 H
    simp only [Option.toList_some, List.singleton_append] at I2
    have g2 : S2.g = 1000 := c2.g.trans g1
    have u2 := I2.up
    rw [g2] at u2
    have eB2 : (MA.run 1000 [⟨1, 4, [0, q]⟩, ⟨3, 4, []⟩]).B.t = 0 := by
      show (PB.play (MA.run 1000 [⟨1, 4, [0, q]⟩]).B 3 4 []).t = 0
      rw [eB]; rfl
    refine asSl_h ?_
    rw [← c2.n]
    refine br_t rfl ?_
    refine slAt_b (by omega) (by omega) ?_
    refine ld_h (v := I 11) 0 H rfl rfl ?_; refine asI_h ?_
    refine br_t rfl ?_
    refine slAt_b (by omega) (by omega) ?_
    refine ld_h (v := I 0) 0 H rfl rfl ?_; refine asI_h ?_
    refine br_t rfl ?_
    refine stateM_c (S := S2) H I2.ok (fun w H => ?_)
    rw [u2.s]
    refine asI_h ?_
    refine br_t rfl ?_
    refine moneyM_c (S := S2) H (fun w H => ?_)
    refine asPtr_h ?_
    refine tillS_c (S := S2) H (fun w H => ?_)
    rw [u2.B, eB2]
    refine asI_h ?_
    refine br_t (by simp) ?_
    refine ringM_c (S := S2) H I2 (fun _ w H => ?_) (fun h => by rw [u2.s] at h; exact absurd h (by show (3 : Int) ≠ 1; decide))
    refine asSl_h ?_
    refine br_t rfl ?_
    refine awakeK_c T H (fun w H => ?_)
    refine asBoo_h ?_
    exact k _ H.re
end Go.Proofs.YtjckakeolmbidaaDoor
