/- What the rows of law3 share: an entry that comes in, opened. Conditions: none. -/
import Derived.Test.YtkhmhgleglhcjaaDoorWr
import Derived.Test.YtkhmhgleglhcjaaDoorC16
set_option linter.unusedVariables false
set_option maxRecDepth 100000
namespace Go.Proofs.YtkhmhgleglhcjaaDoor
open Go Go.ChangeShapes Go.WideShapes Go.ChangeAt Go.RowKit

theorem flat_one : ∀ (l : List Int), (l.flatMap fun n => [I n]) = l.map I
  | [] => rfl
  | n :: l => by simp only [List.flatMap_cons, List.map_cons, flat_one l]; rfl
theorem open_entry {H : Type} {enc : TypeId × Value → H} {W : World} {sp : Nat → Bool} {v : Value} {d : DataW H} {ps : List MemPlace} {r : Reach} {b0 : Nat} (h : DataW.Trod enc Tryd.prog W 0 sp true 24 v d ps) (hok : Value.okWide Tryd.prog W r b0 24 v) :
    ∃ (e : En) (p : Option Addr) (n c : Nat), v = enV e (.slice p n c) ∧ Sh.Sl (Sh.Holds W []) p n 1 (e.l.map I) := by
  obtain ⟨fuel, h⟩ := h
  unfold Value.okWide at hok
  rw [Tryd.underlying24] at hok
  obtain ⟨cs, rfl, hsz, ts, h1, -, h3⟩ := hok
  rw [show Tryd.prog.cellTypes Tryd.prog.depth 24 = some [9, 3, 22] by kernel_rfl] at h1
  cases h1
  have h : DataW.trod enc Tryd.prog W 0 sp true fuel 24 cs.toList = some (d, ps) := h
  obtain ⟨xs, n, -, -, hl, hx, hall⟩ := DataW.trod_struct Tryd.underlying24 h
  have hl6 : cs.toList.length = 3 := hl.trans (by kernel_rfl)
  have hx6 : xs.length = 3 := hx
  obtain ⟨cs⟩ := cs
  match cs, hl6 with
  | [c0, c1, c2], _ =>
    have e1 : Tryd.prog.cellsOf 3 = 1 := by kernel_rfl
    have e2 : Tryd.prog.cellsOf 22 = 1 := by kernel_rfl
    have e3 : Tryd.prog.cellsOf 9 = 1 := by kernel_rfl
    have a0 : DataW.trod enc Tryd.prog W 0 sp true n 9 (([c0, c1, c2].drop 0).take (Tryd.prog.cellsOf 9)) = xs[0]? := hall 0 _ rfl
    have a1 : DataW.trod enc Tryd.prog W 0 sp true n 3 (([c0, c1, c2].drop 1).take (Tryd.prog.cellsOf 3)) = xs[1]? := hall 1 _ rfl
    have a2 : DataW.trod enc Tryd.prog W 0 sp true n 22 (([c0, c1, c2].drop 2).take (Tryd.prog.cellsOf 22)) = xs[2]? := hall 2 _ rfl
    rw [List.getElem?_eq_getElem (by omega), e3] at a0
    rw [List.getElem?_eq_getElem (by omega), e1] at a1
    rw [List.getElem?_eq_getElem (by omega), e2] at a2
    obtain ⟨s, g0, -, -⟩ := DataW.trod_string Tryd.underlying9 a0
    obtain ⟨n1, g1, -, -⟩ := DataW.trod_int Tryd.underlying3 a1
    obtain ⟨u, hu, hcell⟩ := h3 2 c2 rfl
    have hu' : u = 22 := by simpa using hu.symm
    subst hu'
    obtain ⟨p, n, c, l, rfl, hsl⟩ := open_sl (v := c2) (f := fun n => [I n]) Tryd.underlying22 (by kernel_rfl) (fun _ => rfl) (fun _ _ _ h => by
      obtain ⟨m, rfl, -, -⟩ := DataW.trod_int Tryd.underlying3 h
      exact ⟨m, rfl⟩) a2 hcell
    simp at g0 g1
    subst g0 g1
    rw [flat_one] at hsl
    exact ⟨⟨s.data.toList, n1, l⟩, p, n, c, by simp only [enV], hsl⟩
end Go.Proofs.YtkhmhgleglhcjaaDoor
