/- What law20's KeeperNil computes: true. Conditions: none. -/
import Derived.Test.YtjckakeolmbidaaGreatDoorFKNil
import Derived.Test.YtjckakeolmbidaaGreatDoorWr
set_option linter.unusedVariables false
set_option maxRecDepth 100000
namespace Go.Proofs.YtjckakeolmbidaaGreatDoor
open Go Go.Sh

theorem open_callK {W : World} {r : Reach} {b0 : Nat} {v : Value} (h : Value.okWide Tryz.prog W r b0 74 v) : ∃ (x0 x1 x2 : Int) (b3 : Bool) (x4 x5 x6 x7 x8 x9 x10 : Int), v = .agg #[I x0, I x1, I x2, .bool b3, I x4, I x5, I x6, I x7, I x8, I x9, I x10] := by
  unfold Value.okWide at h
  rw [Tryz.underlying74] at h
  obtain ⟨cs, rfl, hsz, ts, h1, -, h3⟩ := h
  rw [show Tryz.prog.cellTypes Tryz.prog.depth 74 = some [3, 3, 3, 4, 3, 3, 3, 3, 3, 3, 3] by kernel_rfl] at h1
  cases h1
  rw [show Tryz.prog.cellsOf 74 = 11 by kernel_rfl] at hsz
  have oi : ∀ (i : Nat) (v : Value), cs[i]? = some v → [3, 3, 3, 4, 3, 3, 3, 3, 3, 3, 3][i % 11]? = some 3 → ∃ n, v = I n := fun i v hv ht => by
    obtain ⟨u, hu, hc⟩ := h3 i v hv
    rw [show [3, 3, 3, 4, 3, 3, 3, 3, 3, 3, 3].length = 11 from rfl, ht] at hu
    cases hu
    refine Go.WideShapes.okWide_int (P := Tryz.prog) (w := W) (r := r) (base := b0) (t := 3) Tryz.underlying3 ?_
    unfold Value.okWide
    rw [Tryz.underlying3]
    exact hc
  obtain ⟨l⟩ := cs
  match l, hsz with
  | [c0, c1, c2, c3, c4, c5, c6, c7, c8, c9, c10], _ =>
    obtain ⟨x0, rfl⟩ := oi 0 _ rfl rfl
    obtain ⟨x1, rfl⟩ := oi 1 _ rfl rfl
    obtain ⟨x2, rfl⟩ := oi 2 _ rfl rfl
    obtain ⟨x4, rfl⟩ := oi 4 _ rfl rfl
    obtain ⟨x5, rfl⟩ := oi 5 _ rfl rfl
    obtain ⟨x6, rfl⟩ := oi 6 _ rfl rfl
    obtain ⟨x7, rfl⟩ := oi 7 _ rfl rfl
    obtain ⟨x8, rfl⟩ := oi 8 _ rfl rfl
    obtain ⟨x9, rfl⟩ := oi 9 _ rfl rfl
    obtain ⟨x10, rfl⟩ := oi 10 _ rfl rfl
    have hs : ∃ b, c3 = .bool b := by
      obtain ⟨u, hu, hc⟩ := h3 3 c3 rfl
      have hu : u = 4 := by simpa using hu.symm
      subst hu
      refine Go.WideShapes.okWide_bool (P := Tryz.prog) (w := W) (r := r) (base := b0) (t := 4) Tryz.underlying4 ?_
      unfold Value.okWide
      rw [Tryz.underlying4]
      exact hc
    obtain ⟨b3, rfl⟩ := hs
    exact ⟨x0, x1, x2, b3, x4, x5, x6, x7, x8, x9, x10, rfl⟩
theorem idsNil_c {w0 w : World} {hs : List Hp} {K : KV} {x : Int} (H : Sh.Holds w0 hs w) (k : ∀ w', Sh.Holds w0 hs w' → K (.slice none 0 0) w') : gocall Tryz.prog 54 [.pointer none, I x] K w := by
  apply F54_go; unfold F54
  refine nw_h H (fun k2 w H => ?_)
  refine nw_h H (fun k4 w H => ?_)
  apply F101_go; unfold F101
  refine br_t rfl ?_
  apply F138_go; unfold F138
  refine nw_h H (fun kb w H => ?_)
  refine ⟨false, .inr ⟨rfl, _, _, _, rfl⟩, ?_⟩
  refine br_f rfl ?_
  refine asFn_h ?_
  refine rfn_h H (fun D l R w hround H => ?_)
  show gocall Tryz.prog 166 [yv l, .pointer (some ⟨kb, 0, none⟩)] _ w
  apply F166_go; unfold F166
  apply ld_h 2 H rfl rfl; refine asSl_h ?_
  refine ⟨fun y w => Sh.Holds w0 ([(l, R .ready none)] :: [(D, .deferred (some []))] :: [(kb, .cells #[.slice none 0 0] 38 (0, 0))] :: [(k4, .cells #[.slice none 0 0] 38 (0, 0))] :: [(k2, .cells #[I x] 3 (0, 0))] :: hs) w ∧ y.1 = 0, fun y _ => 0, ⟨H, rfl⟩, ?_⟩
  clear H
  rintro ⟨y, u⟩ w ⟨H, rfl⟩
  refine br_f rfl ?_
  refine rfe_h 0 (st := .ready) (pe := none) (by simp) H rfl (fun w H => ?_)
  unfold rfj
  simp only
  apply ld_h 3 H rfl rfl; refine asSl_h ?_
  refine dfr_h 1 H rfl (fun w H => ?_)
  exact k _ H.tail.tail.tail.tail.tail
theorem NilK_c {w0 w : World} {hs : List Hp} {K : KV} {x0 x1 x2 x4 x5 x6 x7 x8 x9 x10 : Int} {b3 : Bool} (T : Tab w0) (H : Sh.Holds w0 hs w) (k : ∀ w', Sh.Holds w0 hs w' → K (.bool true) w') :
    gocall Tryz.prog 8 [.agg #[I x0, I x1, I x2, .bool b3, I x4, I x5, I x6, I x7, I x8, I x9, I x10]] K w := by
  apply F8_go; unfold F8
  refine nw_h H (fun k8 w H => ?_)
  refine ldA H ?_; refine asI_h ?_
  refine ldA H ?_; refine asI_h ?_
  apply F42_go; unfold F42
  refine br_t rfl ?_
  refine asT_e [] rfl rfl ?_
  apply F43_go; unfold F43
  refine nw_h H (fun k1 w H => ?_)
  refine ldA H ?_; refine asPtr_h ?_
  refine br_t rfl ?_
  refine asT_e [] rfl rfl ?_
  refine ldA H ?_; refine asI_h ?_
  refine ldA H ?_; refine asI_h ?_
  refine ldA H ?_; refine asI_h ?_
  refine ldA H ?_; refine asI_h ?_
  refine ldA H ?_; refine asI_h ?_
  refine ldA H ?_; refine asI_h ?_
  refine ldA H ?_; refine asI_h ?_
  apply F41_go; unfold F41
  refine nw_h H (fun k2 w H => ?_)
  refine ⟨fun _ w => False, ?_, fun _ _ h => h.elim⟩
  replace H := H.drew
  refine keepsA [] H ?_
  refine br_t rfl ?_
  refine asSl_h ?_
  refine br_t rfl ?_
  refine ldA H ?_; refine asI_h ?_
  apply F48_go; unfold F48
  refine br_t rfl ?_
  refine asSl_h ?_
  refine br_t rfl ?_
  refine ldA H ?_; refine asI_h ?_
  refine ldA H ?_; refine asBoo_h ?_
  apply F49_go; unfold F49
  refine br_t rfl ?_
  refine asI_h ?_
  refine br_t rfl ?_
  refine ldA H ?_; refine asI_h ?_
  apply F46_go; unfold F46
  refine br_t rfl ?_
  refine asI_h ?_
  refine br_t rfl ?_
  refine idsNil_c H (fun w H => ?_)
  refine asSl_h ?_
  refine br_t rfl ?_
  apply F44_go; unfold F44
  refine br_t rfl ?_
  refine asPtr_h ?_
  refine br_t rfl ?_
  apply F52_go; unfold F52
  refine br_t rfl ?_
  refine asPtr_h ?_
  refine br_t rfl ?_
  apply F55_go; unfold F55
  refine br_f rfl ?_
  refine asBoo_h ?_
  refine br_t rfl ?_
  refine awakeK_c T H (fun w H => ?_)
  refine asBoo_h ?_
  exact k _ H.tail.tail.tail
end Go.Proofs.YtjckakeolmbidaaGreatDoor
