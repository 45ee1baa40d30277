/- What ServiceLasts' row needs: a slice of deeds that comes in, opened. Conditions: none. -/
import Derived.Test.YtjckakeolmbidaaDoorWr
import Derived.Test.YtjckakeolmbidaaDoorV4
set_option linter.unusedVariables false
set_option maxRecDepth 100000
namespace Go.Proofs.YtjckakeolmbidaaDoor
open Go Go.ChangeShapes Go.WideShapes Go.ChangeAt Go.RowKit

theorem trod_deed {H : Type} {enc : TypeId × Value → H} {W : World} {sp : Nat → Bool} {fuel : Nat} {cs : List Value} {x : DataW H × List MemPlace} (h : DataW.trod enc Tryd.prog W 0 sp true fuel 57 cs = some x) :
    ∃ q : Deed, cs = q.cells := by
  obtain ⟨xs, n, -, -, hl, hx, hall⟩ := DataW.trod_struct Tryd.underlying57 h
  have hl5 : cs.length = 5 := hl.trans (by kernel_rfl)
  have hx5 : xs.length = 5 := hx
  match cs, hl5 with
  | [c0, c1, c2, c3, c4], _ =>
    have e0 : Tryd.prog.cellsOf 4 = 1 := by kernel_rfl
    have e1 : Tryd.prog.cellsOf 3 = 1 := by kernel_rfl
    have a0 : DataW.trod enc Tryd.prog W 0 sp true n 4 (([c0, c1, c2, c3, c4].drop 0).take (Tryd.prog.cellsOf 4)) = xs[0]? := hall 0 _ rfl
    have a1 : DataW.trod enc Tryd.prog W 0 sp true n 4 (([c0, c1, c2, c3, c4].drop 1).take (Tryd.prog.cellsOf 4)) = xs[1]? := hall 1 _ rfl
    have a2 : DataW.trod enc Tryd.prog W 0 sp true n 3 (([c0, c1, c2, c3, c4].drop 2).take (Tryd.prog.cellsOf 3)) = xs[2]? := hall 2 _ rfl
    have a3 : DataW.trod enc Tryd.prog W 0 sp true n 3 (([c0, c1, c2, c3, c4].drop 3).take (Tryd.prog.cellsOf 3)) = xs[3]? := hall 3 _ rfl
    have a4 : DataW.trod enc Tryd.prog W 0 sp true n 3 (([c0, c1, c2, c3, c4].drop 4).take (Tryd.prog.cellsOf 3)) = xs[4]? := hall 4 _ rfl
    rw [List.getElem?_eq_getElem (by omega), e0] at a0
    rw [List.getElem?_eq_getElem (by omega), e0] at a1
    rw [List.getElem?_eq_getElem (by omega), e1] at a2
    rw [List.getElem?_eq_getElem (by omega), e1] at a3
    rw [List.getElem?_eq_getElem (by omega), e1] at a4
    obtain ⟨n0, g0, -⟩ := DataW.trod_bool Tryd.underlying4 a0
    obtain ⟨n1, g1, -⟩ := DataW.trod_bool Tryd.underlying4 a1
    obtain ⟨n2, g2, -, -⟩ := DataW.trod_int Tryd.underlying3 a2
    obtain ⟨n3, g3, -, -⟩ := DataW.trod_int Tryd.underlying3 a3
    obtain ⟨n4, g4, -, -⟩ := DataW.trod_int Tryd.underlying3 a4
    simp at g0 g1 g2 g3 g4
    subst g0 g1 g2 g3 g4
    exact ⟨⟨n0, n1, n2, n3, n4⟩, rfl⟩
theorem open_deeds {H : Type} {enc : TypeId × Value → H} {W : World} {sp : Nat → Bool} {v : Value} {d : DataW H} {ps : List MemPlace} {r : Reach} {b0 : Nat} (h : DataW.Trod enc Tryd.prog W 0 sp true 53 v d ps) (hok : Value.okWide Tryd.prog W r b0 53 v) :
    ∃ (p : Option Addr) (n c : Nat) (ds : List Deed), v = .slice p n c ∧ Sh.Sl (Sh.Holds W []) p n 5 (ds.flatMap Deed.cells) := by
  obtain ⟨fuel, h⟩ := h
  obtain ⟨a, n, c, rfl⟩ := okWide_slice Tryd.underlying53 hok
  have h : DataW.trod enc Tryd.prog W 0 sp true fuel 53 [.slice a n c] = some (d, ps) := h
  obtain ⟨p, n', c', l, hv, hsl⟩ := open_sl (z := 5) (f := Deed.cells) Tryd.underlying53 (by kernel_rfl) (fun q => rfl) (fun fuel cs x h => trod_deed h) (by omega) h
  cases hv
  exact ⟨_, _, _, l, rfl, hsl⟩
end Go.Proofs.YtjckakeolmbidaaDoor
