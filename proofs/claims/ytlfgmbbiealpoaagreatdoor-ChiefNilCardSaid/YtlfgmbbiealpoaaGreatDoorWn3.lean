/- Structs that come in, opened cell by cell. Conditions: none. -/
import Derived.Test.YtlfgmbbiealpoaaGreatDoorWr
set_option linter.unusedVariables false
set_option maxRecDepth 100000
namespace Go.Proofs.YtlfgmbbiealpoaaGreatDoor
open Go Go.ChangeShapes Go.WideShapes Go.ChangeAt Go.RowKit
theorem open_call0 {w : World} {r : Reach} {b0 : Nat} {v : Value} (hval : Value.okWide Tryz.prog w r b0 53 v) : ∃ (x0 : Int) (x1 : Int) (x2 : Int) (x3 : Int) (x4 : Int) (x5 : Int) (x6 : Int) (x7 : Int) (x8 : Int) (p9 : Option Addr) (n9 k9 : Nat) (x10 : Int) (x11 : Int) (x12 : Int) (x13 : Int) (x14 : Int) (x15 : Int) (x16 : Int), v = .agg #[I x0, I x1, I x2, I x3, I x4, I x5, I x6, I x7, I x8, .slice p9 n9 k9, I x10, I x11, I x12, I x13, I x14, I x15, I x16] := by
  unfold Value.okWide at hval
  rw [Tryz.underlying53] at hval
  obtain ⟨cs, rfl, hsz, ts, h1, -, h3⟩ := hval
  have hts : Tryz.prog.cellTypes Tryz.prog.depth 53 = some [3, 3, 3, 3, 3, 3, 3, 3, 3, 22, 3, 3, 3, 3, 3, 3, 3] := by kernel_rfl
  rw [hts] at h1
  cases h1
  have hn : cs.size = 17 := hsz.trans (by kernel_rfl)
  obtain ⟨cs⟩ := cs
  match cs, hn, h3 with
  | [c0, c1, c2, c3, c4, c5, c6, c7, c8, c9, c10, c11, c12, c13, c14, c15, c16], _, h3 =>
    obtain ⟨u0, hu0, hc0⟩ := h3 0 c0 rfl
    cases hu0
    obtain ⟨x0, rfl⟩ := okWide_int Tryz.underlying3 (by unfold Value.okWide; rw [Tryz.underlying3]; exact hc0)
    obtain ⟨u1, hu1, hc1⟩ := h3 1 c1 rfl
    cases hu1
    obtain ⟨x1, rfl⟩ := okWide_int Tryz.underlying3 (by unfold Value.okWide; rw [Tryz.underlying3]; exact hc1)
    obtain ⟨u2, hu2, hc2⟩ := h3 2 c2 rfl
    cases hu2
    obtain ⟨x2, rfl⟩ := okWide_int Tryz.underlying3 (by unfold Value.okWide; rw [Tryz.underlying3]; exact hc2)
    obtain ⟨u3, hu3, hc3⟩ := h3 3 c3 rfl
    cases hu3
    obtain ⟨x3, rfl⟩ := okWide_int Tryz.underlying3 (by unfold Value.okWide; rw [Tryz.underlying3]; exact hc3)
    obtain ⟨u4, hu4, hc4⟩ := h3 4 c4 rfl
    cases hu4
    obtain ⟨x4, rfl⟩ := okWide_int Tryz.underlying3 (by unfold Value.okWide; rw [Tryz.underlying3]; exact hc4)
    obtain ⟨u5, hu5, hc5⟩ := h3 5 c5 rfl
    cases hu5
    obtain ⟨x5, rfl⟩ := okWide_int Tryz.underlying3 (by unfold Value.okWide; rw [Tryz.underlying3]; exact hc5)
    obtain ⟨u6, hu6, hc6⟩ := h3 6 c6 rfl
    cases hu6
    obtain ⟨x6, rfl⟩ := okWide_int Tryz.underlying3 (by unfold Value.okWide; rw [Tryz.underlying3]; exact hc6)
    obtain ⟨u7, hu7, hc7⟩ := h3 7 c7 rfl
    cases hu7
    obtain ⟨x7, rfl⟩ := okWide_int Tryz.underlying3 (by unfold Value.okWide; rw [Tryz.underlying3]; exact hc7)
    obtain ⟨u8, hu8, hc8⟩ := h3 8 c8 rfl
    cases hu8
    obtain ⟨x8, rfl⟩ := okWide_int Tryz.underlying3 (by unfold Value.okWide; rw [Tryz.underlying3]; exact hc8)
    obtain ⟨u9, hu9, hc9⟩ := h3 9 c9 rfl
    cases hu9
    obtain ⟨p9, n9, k9, rfl⟩ := okWide_slice Tryz.underlying22 (by unfold Value.okWide; rw [Tryz.underlying22]; exact hc9)
    obtain ⟨u10, hu10, hc10⟩ := h3 10 c10 rfl
    cases hu10
    obtain ⟨x10, rfl⟩ := okWide_int Tryz.underlying3 (by unfold Value.okWide; rw [Tryz.underlying3]; exact hc10)
    obtain ⟨u11, hu11, hc11⟩ := h3 11 c11 rfl
    cases hu11
    obtain ⟨x11, rfl⟩ := okWide_int Tryz.underlying3 (by unfold Value.okWide; rw [Tryz.underlying3]; exact hc11)
    obtain ⟨u12, hu12, hc12⟩ := h3 12 c12 rfl
    cases hu12
    obtain ⟨x12, rfl⟩ := okWide_int Tryz.underlying3 (by unfold Value.okWide; rw [Tryz.underlying3]; exact hc12)
    obtain ⟨u13, hu13, hc13⟩ := h3 13 c13 rfl
    cases hu13
    obtain ⟨x13, rfl⟩ := okWide_int Tryz.underlying3 (by unfold Value.okWide; rw [Tryz.underlying3]; exact hc13)
    obtain ⟨u14, hu14, hc14⟩ := h3 14 c14 rfl
    cases hu14
    obtain ⟨x14, rfl⟩ := okWide_int Tryz.underlying3 (by unfold Value.okWide; rw [Tryz.underlying3]; exact hc14)
    obtain ⟨u15, hu15, hc15⟩ := h3 15 c15 rfl
    cases hu15
    obtain ⟨x15, rfl⟩ := okWide_int Tryz.underlying3 (by unfold Value.okWide; rw [Tryz.underlying3]; exact hc15)
    obtain ⟨u16, hu16, hc16⟩ := h3 16 c16 rfl
    cases hu16
    obtain ⟨x16, rfl⟩ := okWide_int Tryz.underlying3 (by unfold Value.okWide; rw [Tryz.underlying3]; exact hc16)
    exact ⟨x0, x1, x2, x3, x4, x5, x6, x7, x8, p9, n9, k9, x10, x11, x12, x13, x14, x15, x16, rfl⟩
end Go.Proofs.YtlfgmbbiealpoaaGreatDoor
