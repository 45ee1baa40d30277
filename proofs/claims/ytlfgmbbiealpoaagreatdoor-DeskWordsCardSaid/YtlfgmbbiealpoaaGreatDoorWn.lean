/- Structs that come in, opened cell by cell. Conditions: none. -/
import Derived.Test.YtlfgmbbiealpoaaGreatDoorWr
set_option linter.unusedVariables false
set_option maxRecDepth 100000
namespace Go.Proofs.YtlfgmbbiealpoaaGreatDoor
open Go Go.ChangeShapes Go.WideShapes Go.ChangeAt Go.RowKit
theorem open_order0 {w : World} {r : Reach} {b0 : Nat} {v : Value} (hval : Value.okWide Tryz.prog w r b0 24 v) : ∃ (x0 : Int) (x1 : Int) (x2 : Int) (x3 : Int) (x4 : Int) (p5 : Option Addr) (n5 k5 : Nat), v = .agg #[I x0, I x1, I x2, I x3, I x4, .slice p5 n5 k5] := by
  unfold Value.okWide at hval
  rw [Tryz.underlying24] at hval
  obtain ⟨cs, rfl, hsz, ts, h1, -, h3⟩ := hval
  have hts : Tryz.prog.cellTypes Tryz.prog.depth 24 = some [3, 3, 3, 3, 3, 22] := by kernel_rfl
  rw [hts] at h1
  cases h1
  have hn : cs.size = 6 := hsz.trans (by kernel_rfl)
  obtain ⟨cs⟩ := cs
  match cs, hn, h3 with
  | [c0, c1, c2, c3, c4, c5], _, h3 =>
    obtain ⟨u0, hu0, hc0⟩ := h3 0 c0 rfl
    cases hu0
    obtain ⟨x0, rfl⟩ := okWide_int Tryz.underlying3 (by unfold Value.okWide; rw [Tryz.underlying3]; exact hc0)
    obtain ⟨u1, hu1, hc1⟩ := h3 1 c1 rfl
    cases hu1
    obtain ⟨x1, rfl⟩ := okWide_int Tryz.underlying3 (by unfold Value.okWide; rw [Tryz.underlying3]; exact hc1)
    obtain ⟨u2, hu2, hc2⟩ := h3 2 c2 rfl
    cases hu2
    obtain ⟨x2, rfl⟩ := okWide_int Tryz.underlying3 (by unfold Value.okWide; rw [Tryz.underlying3]; exact hc2)
    obtain ⟨u3, hu3, hc3⟩ := h3 3 c3 rfl
    cases hu3
    obtain ⟨x3, rfl⟩ := okWide_int Tryz.underlying3 (by unfold Value.okWide; rw [Tryz.underlying3]; exact hc3)
    obtain ⟨u4, hu4, hc4⟩ := h3 4 c4 rfl
    cases hu4
    obtain ⟨x4, rfl⟩ := okWide_int Tryz.underlying3 (by unfold Value.okWide; rw [Tryz.underlying3]; exact hc4)
    obtain ⟨u5, hu5, hc5⟩ := h3 5 c5 rfl
    cases hu5
    obtain ⟨p5, n5, k5, rfl⟩ := okWide_slice Tryz.underlying22 (by unfold Value.okWide; rw [Tryz.underlying22]; exact hc5)
    exact ⟨x0, x1, x2, x3, x4, p5, n5, k5, rfl⟩
end Go.Proofs.YtlfgmbbiealpoaaGreatDoor
