/- Contracts of the keeper of money: Till, Ring. Conditions: none. -/
import Derived.Test.YtjckakeolmbidaaGreatDoorM7
import Derived.Test.YtjckakeolmbidaaGreatDoorK6a
set_option linter.unusedVariables false
set_option maxRecDepth 100000
namespace Go.Proofs.YtjckakeolmbidaaGreatDoor
open Go Go.Sh

theorem tillS_c {w0 w : World} {hs R : List Hp} {K : KV} {S : Mp} (H : Sh.Holds w0 hs w) [D : Del hs S.hp R] (k : ∀ w', Sh.Holds w0 (S.hp :: R) w' → K (I S.G.B.t) w') : gocall Tryz.prog 53 [S.G.v] K w := by
  replace H := openM (H.get S.hp)
  exact till_c (G := S.G) H (fun w H => k w (shutM H.re))
set_option maxHeartbeats 1000000 in
theorem ringM_c {w0 w : World} {hs R : List Hp} {K : KV} {S : Mp} {es : List KE} {id : Int} (H : Sh.Holds w0 hs w) [D : Del hs S.hp R] (I0 : MpIs S es false)
    (k0 : S.s id ≠ 1 → ∀ w', Sh.Holds w0 (S.hp :: R) w' → K (.slice none 0 0) w')
    (k1 : S.s id = 1 → ∀ q w', Sh.Holds w0 ([(q, .cells #[I 12, I 2, I 0, I id, I 0, I 0, I 0, I 12, I 2, I 1, I id, I 0, I 0, I 0] 28 (0, 0))] :: S.hp :: R) w' → K (.slice (some ⟨q, 0, none⟩) 2 2) w') : gocall Tryz.prog 48 [S.v, I id] K w := by
  replace H := H.get S.hp
  apply F48_go; unfold F48
  refine br_f rfl ?_
  refine downM_c (S := S) H (fun w H => ?_)
  refine asBoo_h ?_
  rw [I0.dn]
  refine br_f rfl ?_
  refine stateM_c (S := S) H I0.ok (fun w H => ?_)
  refine asI_h ?_
  refine br_s (fun h => ?_) (fun h => ?_)
  · exact k0 (by simpa using h) _ H
  have h : S.s id = 1 := by simpa using h
  refine nn_h ?_
  replace H := openM H
  refine ldA H ?_; refine asI_h ?_
  refine nw_h H (fun k2 w H => ?_)
  iterate 7 refine stA H rfl (fun w H => ?_)
  iterate 7 (refine ldA H ?_; refine asI_h ?_)
  refine nw_h H (fun k3 w H => ?_)
  iterate 7 refine stA H rfl (fun w H => ?_)
  have H2 : Sh.Holds w0 (S.hp :: [(k3, .cells #[I 12, I 2, I 0, I id, I 0, I 0, I 0] 28 (0, 0))] :: [(k2, .cells #[I 12, I 2, I 0, I id, I 0, I 0, I 0] 28 (0, 0))] :: R) w := shutM H.re
  refine otherM_c (S := S) H2 (fun w H => ?_)
  refine asI_h ?_
  refine stA H rfl (fun w H => ?_)
  iterate 14 (refine ldA H ?_; refine asI_h ?_)
  refine nw_h H (fun q w H => ?_)
  exact k1 h q _ H.re
theorem forceDownM_c {w0 w : World} {hs R : List Hp} {K : KV} {S : Mp} {id : Int} {yes : Bool} (H : Sh.Holds w0 hs w) [D : Del hs S.hp R] (hd : S.J.down = true) (k : ∀ w', Sh.Holds w0 (S.hp :: R) w' → K (I 10) w') :
    gocall Tryz.prog 49 [S.v, I id, .bool yes] K w := by
  replace H := H.get S.hp
  apply F49_go; unfold F49
  refine br_f rfl ?_
  refine downM_c (S := S) H (fun w H => ?_)
  refine asBoo_h ?_
  rw [hd]
  exact br_t rfl (k w H)
end Go.Proofs.YtjckakeolmbidaaGreatDoor
