/- Structs that come in, opened cell by cell. Conditions: none. -/
import Derived.Test.YtlfgmbbiealpoaaGreatDoorWr
set_option linter.unusedVariables false
set_option maxRecDepth 100000
namespace Go.Proofs.YtlfgmbbiealpoaaGreatDoor
open Go Go.ChangeShapes Go.WideShapes Go.ChangeAt Go.RowKit
theorem open_cmd0 {w : World} {r : Reach} {b0 : Nat} {v : Value} (hval : Value.okWide Tryz.prog w r b0 74 v) : ∃ (x0 : Int) (x1 : Int) (x2 : Int) (x3 : Int) (x4 : Bool) (x5 : Int) (x6 : Int) (x7 : Int) (x8 : Int) (x9 : Int) (p10 : Option Addr) (n10 k10 : Nat), v = .agg #[I x0, I x1, I x2, I x3, .bool x4, I x5, I x6, I x7, I x8, I x9, .slice p10 n10 k10] := by
  unfold Value.okWide at hval
  rw [Tryz.underlying74] at hval
  obtain ⟨cs, rfl, hsz, ts, h1, -, h3⟩ := hval
  have hts : Tryz.prog.cellTypes Tryz.prog.depth 74 = some [3, 3, 3, 3, 4, 3, 3, 3, 3, 3, 22] := by kernel_rfl
  rw [hts] at h1
  cases h1
  have hn : cs.size = 11 := hsz.trans (by kernel_rfl)
  obtain ⟨cs⟩ := cs
  match cs, hn, h3 with
  | [c0, c1, c2, c3, c4, c5, c6, c7, c8, c9, c10], _, h3 =>
    obtain ⟨u0, hu0, hc0⟩ := h3 0 c0 rfl
    cases hu0
    obtain ⟨x0, rfl⟩ := okWide_int Tryz.underlying3 (by unfold Value.okWide; rw [Tryz.underlying3]; exact hc0)
    obtain ⟨u1, hu1, hc1⟩ := h3 1 c1 rfl
    cases hu1
    obtain ⟨x1, rfl⟩ := okWide_int Tryz.underlying3 (by unfold Value.okWide; rw [Tryz.underlying3]; exact hc1)
    obtain ⟨u2, hu2, hc2⟩ := h3 2 c2 rfl
    cases hu2
    obtain ⟨x2, rfl⟩ := okWide_int Tryz.underlying3 (by unfold Value.okWide; rw [Tryz.underlying3]; exact hc2)
    obtain ⟨u3, hu3, hc3⟩ := h3 3 c3 rfl
    cases hu3
    obtain ⟨x3, rfl⟩ := okWide_int Tryz.underlying3 (by unfold Value.okWide; rw [Tryz.underlying3]; exact hc3)
    obtain ⟨u4, hu4, hc4⟩ := h3 4 c4 rfl
    cases hu4
    obtain ⟨x4, rfl⟩ := okWide_bool Tryz.underlying4 (by unfold Value.okWide; rw [Tryz.underlying4]; exact hc4)
    obtain ⟨u5, hu5, hc5⟩ := h3 5 c5 rfl
    cases hu5
    obtain ⟨x5, rfl⟩ := okWide_int Tryz.underlying3 (by unfold Value.okWide; rw [Tryz.underlying3]; exact hc5)
    obtain ⟨u6, hu6, hc6⟩ := h3 6 c6 rfl
    cases hu6
    obtain ⟨x6, rfl⟩ := okWide_int Tryz.underlying3 (by unfold Value.okWide; rw [Tryz.underlying3]; exact hc6)
    obtain ⟨u7, hu7, hc7⟩ := h3 7 c7 rfl
    cases hu7
    obtain ⟨x7, rfl⟩ := okWide_int Tryz.underlying3 (by unfold Value.okWide; rw [Tryz.underlying3]; exact hc7)
    obtain ⟨u8, hu8, hc8⟩ := h3 8 c8 rfl
    cases hu8
    obtain ⟨x8, rfl⟩ := okWide_int Tryz.underlying3 (by unfold Value.okWide; rw [Tryz.underlying3]; exact hc8)
    obtain ⟨u9, hu9, hc9⟩ := h3 9 c9 rfl
    cases hu9
    obtain ⟨x9, rfl⟩ := okWide_int Tryz.underlying3 (by unfold Value.okWide; rw [Tryz.underlying3]; exact hc9)
    obtain ⟨u10, hu10, hc10⟩ := h3 10 c10 rfl
    cases hu10
    obtain ⟨p10, n10, k10, rfl⟩ := okWide_slice Tryz.underlying22 (by unfold Value.okWide; rw [Tryz.underlying22]; exact hc10)
    exact ⟨x0, x1, x2, x3, x4, x5, x6, x7, x8, x9, p10, n10, k10, rfl⟩
theorem open_setup0 {w : World} {r : Reach} {b0 : Nat} {v : Value} (hval : Value.okWide Tryz.prog w r b0 92 v) : ∃ (p0 : Option Addr) (n0 k0 : Nat) (p1 : Option Addr) (n1 k1 : Nat) (p2 : Option Addr) (n2 k2 : Nat) (x3 : Int) (x4 : Int) (x5 : Int), v = .agg #[.slice p0 n0 k0, .slice p1 n1 k1, .slice p2 n2 k2, I x3, I x4, I x5] := by
  unfold Value.okWide at hval
  rw [Tryz.underlying92] at hval
  obtain ⟨cs, rfl, hsz, ts, h1, -, h3⟩ := hval
  have hts : Tryz.prog.cellTypes Tryz.prog.depth 92 = some [30, 30, 30, 3, 3, 3] := by kernel_rfl
  rw [hts] at h1
  cases h1
  have hn : cs.size = 6 := hsz.trans (by kernel_rfl)
  obtain ⟨cs⟩ := cs
  match cs, hn, h3 with
  | [c0, c1, c2, c3, c4, c5], _, h3 =>
    obtain ⟨u0, hu0, hc0⟩ := h3 0 c0 rfl
    cases hu0
    obtain ⟨p0, n0, k0, rfl⟩ := okWide_slice Tryz.underlying30 (by unfold Value.okWide; rw [Tryz.underlying30]; exact hc0)
    obtain ⟨u1, hu1, hc1⟩ := h3 1 c1 rfl
    cases hu1
    obtain ⟨p1, n1, k1, rfl⟩ := okWide_slice Tryz.underlying30 (by unfold Value.okWide; rw [Tryz.underlying30]; exact hc1)
    obtain ⟨u2, hu2, hc2⟩ := h3 2 c2 rfl
    cases hu2
    obtain ⟨p2, n2, k2, rfl⟩ := okWide_slice Tryz.underlying30 (by unfold Value.okWide; rw [Tryz.underlying30]; exact hc2)
    obtain ⟨u3, hu3, hc3⟩ := h3 3 c3 rfl
    cases hu3
    obtain ⟨x3, rfl⟩ := okWide_int Tryz.underlying3 (by unfold Value.okWide; rw [Tryz.underlying3]; exact hc3)
    obtain ⟨u4, hu4, hc4⟩ := h3 4 c4 rfl
    cases hu4
    obtain ⟨x4, rfl⟩ := okWide_int Tryz.underlying3 (by unfold Value.okWide; rw [Tryz.underlying3]; exact hc4)
    obtain ⟨u5, hu5, hc5⟩ := h3 5 c5 rfl
    cases hu5
    obtain ⟨x5, rfl⟩ := okWide_int Tryz.underlying3 (by unfold Value.okWide; rw [Tryz.underlying3]; exact hc5)
    exact ⟨p0, n0, k0, p1, n1, k1, p2, n2, k2, x3, x4, x5, rfl⟩
end Go.Proofs.YtlfgmbbiealpoaaGreatDoor
