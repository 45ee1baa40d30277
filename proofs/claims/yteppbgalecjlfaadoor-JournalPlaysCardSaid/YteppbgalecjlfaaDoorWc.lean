/- What JournalSure's row needs: a slice of calls that comes in, opened. Conditions: none. -/
import Derived.Test.YteppbgalecjlfaaDoorWr
import Derived.Test.YteppbgalecjlfaaDoorCSu
set_option linter.unusedVariables false
set_option maxRecDepth 100000
namespace Go.Proofs.YteppbgalecjlfaaDoor
open Go Go.ChangeShapes Go.WideShapes Go.ChangeAt Go.RowKit

theorem flat_one : ∀ (l : List Int), (l.flatMap fun n => [I n]) = l.map I
  | [] => rfl
  | n :: l => by simp only [List.flatMap_cons, List.map_cons, flat_one l]; rfl
theorem trod_entry {H : Type} {enc : TypeId × Value → H} {W : World} {sp : Nat → Bool} {fuel : Nat} {cs : List Value} {x : DataW H × List MemPlace} (h : DataW.trod enc Tryd.prog W 0 sp true fuel 29 cs = some x) :
    ∃ (q : Xe), cs = q.cells ∧ Sh.Sl (Sh.Holds W []) q.p q.n 1 (q.e.l.map I) := by
  obtain ⟨xs, n, -, -, hl, hx, hall⟩ := DataW.trod_struct Tryd.underlying29 h
  have hl3 : cs.length = 3 := hl.trans (by kernel_rfl)
  have hx3 : xs.length = 3 := hx
  match cs, hl3 with
  | [c0, c1, c2], _ =>
    have e1 : Tryd.prog.cellsOf 3 = 1 := by kernel_rfl
    have e2 : Tryd.prog.cellsOf 27 = 1 := by kernel_rfl
    have e3 : Tryd.prog.cellsOf 9 = 1 := by kernel_rfl
    have a0 : DataW.trod enc Tryd.prog W 0 sp true n 9 (([c0, c1, c2].drop 0).take (Tryd.prog.cellsOf 9)) = xs[0]? := hall 0 _ rfl
    have a1 : DataW.trod enc Tryd.prog W 0 sp true n 3 (([c0, c1, c2].drop 1).take (Tryd.prog.cellsOf 3)) = xs[1]? := hall 1 _ rfl
    have a2 : DataW.trod enc Tryd.prog W 0 sp true n 27 (([c0, c1, c2].drop 2).take (Tryd.prog.cellsOf 27)) = xs[2]? := hall 2 _ rfl
    rw [List.getElem?_eq_getElem (by omega), e3] at a0
    rw [List.getElem?_eq_getElem (by omega), e1] at a1
    rw [List.getElem?_eq_getElem (by omega), e2] at a2
    obtain ⟨s, g0, -, -⟩ := DataW.trod_string Tryd.underlying9 a0
    obtain ⟨n1, g1, -, -⟩ := DataW.trod_int Tryd.underlying3 a1
    obtain ⟨p, n, c, l, rfl, hsl⟩ := open_sl (v := c2) (z := 1) (f := fun n => [I n]) Tryd.underlying27 (by kernel_rfl) (fun _ => rfl) (fun _ _ _ h => by
      obtain ⟨m, rfl, -, -⟩ := DataW.trod_int Tryd.underlying3 h
      exact ⟨m, rfl⟩) (by omega) a2
    simp at g0 g1
    subst g0 g1
    rw [flat_one] at hsl
    exact ⟨⟨⟨s.data.toList, n1, l⟩, p, n, c⟩, by simp only [Xe.cells], hsl⟩
theorem open_calls {H : Type} {enc : TypeId × Value → H} {W : World} {sp : Nat → Bool} {v : Value} {d : DataW H} {ps : List MemPlace} {r : Reach} {b0 : Nat} (h : DataW.Trod enc Tryd.prog W 0 sp true 41 v d ps) (hok : Value.okWide Tryd.prog W r b0 41 v) :
    ∃ (p : Option Addr) (n c : Nat) (qs : List Xc), v = .slice p n c ∧ CallSl (Sh.Holds W []) p n qs := by
  obtain ⟨fuel, h⟩ := h
  obtain ⟨a, n, c, rfl⟩ := okWide_slice Tryd.underlying41 hok
  have h : DataW.trod enc Tryd.prog W 0 sp true fuel 41 [.slice a n c] = some (d, ps) := h
  obtain ⟨p, n', c', l, hv, hsl⟩ := open_sl (z := 6) (α := { q : Xc // Sh.Sl (Sh.Holds W []) q.x.p q.x.n 1 (q.x.e.l.map I) }) (f := fun q => q.1.cells) Tryd.underlying41 (by kernel_rfl) (fun _ => rfl) (fun fuel cs x h => by
    obtain ⟨xs, n, -, -, hl, hx, hall⟩ := DataW.trod_struct Tryd.underlying46 h
    have hl6 : cs.length = 6 := hl.trans (by kernel_rfl)
    have hx4 : xs.length = 4 := hx
    match cs, hl6 with
    | [c0, c1, c2, c3, c4, c5], _ =>
      have e1 : Tryd.prog.cellsOf 3 = 1 := by kernel_rfl
      have e2 : Tryd.prog.cellsOf 29 = 3 := by kernel_rfl
      have a0 : DataW.trod enc Tryd.prog W 0 sp true n 3 (([c0, c1, c2, c3, c4, c5].drop 0).take (Tryd.prog.cellsOf 3)) = xs[0]? := hall 0 _ rfl
      have a1 : DataW.trod enc Tryd.prog W 0 sp true n 3 (([c0, c1, c2, c3, c4, c5].drop 1).take (Tryd.prog.cellsOf 3)) = xs[1]? := hall 1 _ rfl
      have a2 : DataW.trod enc Tryd.prog W 0 sp true n 3 (([c0, c1, c2, c3, c4, c5].drop 2).take (Tryd.prog.cellsOf 3)) = xs[2]? := hall 2 _ rfl
      have a3 : DataW.trod enc Tryd.prog W 0 sp true n 29 (([c0, c1, c2, c3, c4, c5].drop 3).take (Tryd.prog.cellsOf 29)) = xs[3]? := hall 3 _ rfl
      rw [List.getElem?_eq_getElem (by omega), e1] at a0
      rw [List.getElem?_eq_getElem (by omega), e1] at a1
      rw [List.getElem?_eq_getElem (by omega), e1] at a2
      rw [List.getElem?_eq_getElem (by omega), e2] at a3
      obtain ⟨n0, g0, -, -⟩ := DataW.trod_int Tryd.underlying3 a0
      obtain ⟨n1, g1, -, -⟩ := DataW.trod_int Tryd.underlying3 a1
      obtain ⟨n2, g2, -, -⟩ := DataW.trod_int Tryd.underlying3 a2
      obtain ⟨q, g3, hsl⟩ := trod_entry a3
      replace g3 : [c3, c4, c5] = q.cells := g3
      simp at g0 g1 g2
      subst g0 g1 g2
      refine ⟨⟨⟨n0, n1, n2, q⟩, hsl⟩, ?_⟩
      exact congrArg (fun l => I n0 :: I n1 :: I n2 :: l) g3) (by omega) h
  cases hv
  refine ⟨_, _, _, l.map (·.1), rfl, ⟨by rw [List.flatMap_map]; exact hsl, fun q hq => ?_⟩⟩
  obtain ⟨q', -, rfl⟩ := List.mem_map.1 hq
  exact q'.2
end Go.Proofs.YteppbgalecjlfaaDoor
