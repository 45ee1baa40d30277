/- What law20's KeeperNone computes: true. Conditions: none. -/
import Derived.Test.YtjckakeolmbidaaGreatDoorFKN
set_option linter.unusedVariables false
set_option maxRecDepth 100000
namespace Go.Proofs.YtjckakeolmbidaaGreatDoor
open Go Go.Sh

set_option maxHeartbeats 1000000 in
theorem None_c {w0 w : World} {hs : List Hp} {K : KV} {x0 : Int} {b : Bool} (E : Errs w0) (T : Tab w0) (H : Sh.Holds w0 hs w) (k : ∀ w', Sh.Holds w0 hs w' → K (.bool true) w') : gocall Tryz.prog 5 [I x0, .bool b] K w := by
  apply F5_go; unfold F5
  obtain ⟨q, hq1, hq2, eq⟩ := idx_up x0 (n := 50) (by omega) (by omega)
  have eq : IntKind.i64.wrap (1 + IntKind.i64.wrap ((IntKind.u64.wrap x0).tmod 50)) = q := eq
  rw [eq]
  refine ⟨by decide, ?_⟩
  refine nw_h H (fun k0 w H => ?_)
  refine newK_c 0 H rfl (fun S w I0 hg hr H => ?_)
  have hr : S.J.room = 50 := by rw [hr]; rfl
  refine asPtr_h ?_
  refine br_f rfl ?_
  have e1 : ansK (KA.run S.g []) ([] : List KE).length S.J.room 12 2 1 6 0 0 = (some ⟨3, 6, []⟩, 14) := by rw [hg, hr]; rfl
  refine handleK_c T H I0 (fun h => by omega) (fun h => by rw [e1] at h; exact absurd h (by decide)) (fun _ q1 S1 w I1 c1 H => ?_)
  rw [e1] at I1 H
  simp only [Option.toList_some, List.nil_append] at I1
  refine asSl_h ?_
  rw [← c1.n]
  have g1 : S1.g = 50 := c1.g.trans hg
  have r1 : S1.J.room = 50 := c1.room.trans hr
  replace H : Sh.Holds w0 ([(q1, .cells #[I 14, I 1, I 2, I 6, I 0, I 0, I 0] 28 (0, 0))] :: S1.hp :: [(k0, .cells #[I 50] 3 (0, 0))] :: hs) w := H
  refine ⟨fun _ w => ∃ S' : Kp, KpIs S' [⟨3, 6, []⟩] false ∧ S'.n = S1.n ∧ S'.g = 50 ∧ S'.J.room = 50 ∧ Sh.Holds w0 (S'.hp :: [(q1, .cells #[I 14, I 1, I 2, I 6, I 0, I 0, I 0] 28 (0, 0))] :: hs) w, ?_, ?_⟩
  · refine br_s (fun h => ?_) (fun h => ?_)
    · refine crashK_c H I1 (fun S2 w I2 c2 H => ?_)
      refine asT_e [] rfl rfl ?_
      rw [← c2.n]
      refine startK_c E T H I2 (fun S3 w I3 c3 H => ?_)
      refine asT_e [] rfl rfl ?_
      exact ⟨S3, I3, c3.n, c3.g.trans (c2.g.trans g1), c3.room.trans (c2.room.trans r1), H.re⟩
    · exact ⟨S1, I1, rfl, g1, r1, H.re⟩
  · clear H I1 g1 r1 c1
    generalize S1.n = nn
    rintro u w ⟨S2, I2, en, g2, r2, H⟩
    subst en
    have e2 : ansK (KA.run S2.g [⟨3, 6, []⟩]) ([⟨3, 6, []⟩] : List KE).length S2.J.room 6 0 1 6 0 q = (none, 8) := by
      unfold ansK
      have es : (KA.run S2.g [⟨3, 6, []⟩]).s 6 = 3 := rfl
      have ev : ∀ c, vNext 3 6 c = (3, 8) := fun c => by cases c <;> rfl
      rw [if_pos (by decide), es, ev, if_pos rfl]
    refine handleK_c T H I2 (fun _ => rfl) (fun h => by rw [e2] at h; exact absurd h (by decide)) (fun _ q2 S3 w I3 c3 H => ?_)
    rw [e2] at I3 H
    simp only [Option.toList_none, List.append_nil] at I3
    have u3 := I3.up
    have g3 : S3.g = 50 := c3.g.trans g2
    rw [g3] at u3
    refine asSl_h ?_
    rw [← c3.n]
    refine br_t rfl ?_
    refine slAt_b (by omega) (by omega) ?_
    refine ld_h (v := I 14) 2 H rfl rfl ?_; refine asI_h ?_
    refine br_t rfl ?_
    refine slAt_b (by omega) (by omega) ?_
    refine ld_h (v := I 2) 2 H rfl rfl ?_; refine asI_h ?_
    refine br_t rfl ?_
    refine br_t rfl ?_
    refine slAt_b (by omega) (by omega) ?_
    refine ld_h (v := I 8) 0 H rfl rfl ?_; refine asI_h ?_
    refine br_t rfl ?_
    refine goodsK_c (S := S3) H (fun w H => ?_)
    refine asPtr_h ?_
    refine freeS_c (S := S3) H (fun w H => ?_)
    refine asI_h ?_
    refine br_t (by rw [u3.B]; rfl) ?_
    refine stateK_c (S := S3) H I3.ok (fun w H => ?_)
    refine asI_h ?_
    refine br_t (by rw [u3.s]; rfl) ?_
    refine awakeK_c T H (fun w H => ?_)
    refine asBoo_h ?_
    exact k _ H.tail.tail.tail
end Go.Proofs.YtjckakeolmbidaaGreatDoor
