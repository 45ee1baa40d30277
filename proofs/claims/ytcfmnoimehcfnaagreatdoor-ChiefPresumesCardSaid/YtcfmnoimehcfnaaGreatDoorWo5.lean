/- An order that comes in, opened. Conditions: none. -/
import Derived.Test.YtcfmnoimehcfnaaGreatDoorWr
import Derived.Test.YtcfmnoimehcfnaaGreatDoorC10
import Derived.Test.YtcfmnoimehcfnaaGreatDoorXA
set_option linter.unusedVariables false
set_option maxRecDepth 100000
namespace Go.Proofs.YtcfmnoimehcfnaaGreatDoor
open Go Go.ChangeShapes Go.WideShapes Go.ChangeAt Go.RowKit

theorem step_trod {H : Type} {enc : TypeId × Value → H} {W : World} {sp : Nat → Bool} {fuel : Nat} {cs : List Value} {x : DataW H × List MemPlace} (h : DataW.trod enc Tryz.prog W 0 sp true fuel 81 cs = some x) : ∃ a, cs = Sp.cells a := by
  obtain ⟨xs, n, -, -, hl, hx, hall⟩ := DataW.trod_struct Tryz.underlying81 h
  have hl2 : cs.length = 2 := hl.trans (by kernel_rfl)
  have hx2 : xs.length = 2 := hx
  match cs, hl2 with
  | [c0, c1], _ =>
    have e1 : Tryz.prog.cellsOf 3 = 1 := by kernel_rfl
    have h0 : DataW.trod enc Tryz.prog W 0 sp true n 3 (([c0, c1].drop 0).take (Tryz.prog.cellsOf 3)) = xs[0]? := hall 0 _ rfl
    have h1 : DataW.trod enc Tryz.prog W 0 sp true n 3 (([c0, c1].drop 1).take (Tryz.prog.cellsOf 3)) = xs[1]? := hall 1 _ rfl
    rw [List.getElem?_eq_getElem (by omega), e1] at h0 h1
    obtain ⟨n0, e0, -, -⟩ := DataW.trod_int Tryz.underlying3 h0
    obtain ⟨n1, e1, -, -⟩ := DataW.trod_int Tryz.underlying3 h1
    simp at e0 e1
    exact ⟨⟨n0, n1⟩, by simp [Sp.cells, e0, e1]⟩
theorem sl_cap {H : Type} {enc : TypeId × Value → H} {P : Program} {W : World} {sp : Nat → Bool} {fuel : Nat} {t e : TypeId} {x : DataW H × List MemPlace} {p : Option Addr} {n c : Nat} (ht : P.underlying t = some (.slice e)) (h : DataW.trod enc P W 0 sp true fuel t [.slice p n c] = some x) : n ≤ c := by
  rcases DataW.trod_slice ht h with ⟨h1, -⟩ | ⟨a, len, cap, elems, rest, m, -, h1, -, -, hc, -⟩
  · cases h1; exact Nat.le_refl _
  · cases h1; exact hc
/-- an order in cells -/
theorem order_trod {H : Type} {enc : TypeId × Value → H} {W : World} {sp : Nat → Bool} {fuel : Nat} {cs : List Value} {x : DataW H × List MemPlace} (h : DataW.trod enc Tryz.prog W 0 sp true fuel 24 cs = some x) :
    ∃ (o : Od) (p : Option Addr) (n c : Nat), (Sh.Sl (Sh.Holds W []) p n 2 (sps o.steps) ∧ n ≤ c) ∧ cs = [I o.id, I o.item, I o.qty, I o.client, I o.price, .slice p n c] := by
  obtain ⟨xs, n, -, -, hl, hx, hall⟩ := DataW.trod_struct Tryz.underlying24 h
  have hl6 : cs.length = 6 := hl.trans (by kernel_rfl)
  have hx6 : xs.length = 6 := hx
  match cs, hl6 with
  | [c0, c1, c2, c3, c4, c5], _ =>
    have e1 : Tryz.prog.cellsOf 3 = 1 := by kernel_rfl
    have e2 : Tryz.prog.cellsOf 22 = 1 := by kernel_rfl
    have a0 : DataW.trod enc Tryz.prog W 0 sp true n 3 (([c0, c1, c2, c3, c4, c5].drop 0).take (Tryz.prog.cellsOf 3)) = xs[0]? := hall 0 _ rfl
    have a1 : DataW.trod enc Tryz.prog W 0 sp true n 3 (([c0, c1, c2, c3, c4, c5].drop 1).take (Tryz.prog.cellsOf 3)) = xs[1]? := hall 1 _ rfl
    have a2 : DataW.trod enc Tryz.prog W 0 sp true n 3 (([c0, c1, c2, c3, c4, c5].drop 2).take (Tryz.prog.cellsOf 3)) = xs[2]? := hall 2 _ rfl
    have a3 : DataW.trod enc Tryz.prog W 0 sp true n 3 (([c0, c1, c2, c3, c4, c5].drop 3).take (Tryz.prog.cellsOf 3)) = xs[3]? := hall 3 _ rfl
    have a4 : DataW.trod enc Tryz.prog W 0 sp true n 3 (([c0, c1, c2, c3, c4, c5].drop 4).take (Tryz.prog.cellsOf 3)) = xs[4]? := hall 4 _ rfl
    have a5 : DataW.trod enc Tryz.prog W 0 sp true n 22 (([c0, c1, c2, c3, c4, c5].drop 5).take (Tryz.prog.cellsOf 22)) = xs[5]? := hall 5 _ rfl
    rw [List.getElem?_eq_getElem (by omega), e1] at a0 a1 a2 a3 a4
    rw [List.getElem?_eq_getElem (by omega), e2] at a5
    obtain ⟨n0, g0, -, -⟩ := DataW.trod_int Tryz.underlying3 a0
    obtain ⟨n1, g1, -, -⟩ := DataW.trod_int Tryz.underlying3 a1
    obtain ⟨n2, g2, -, -⟩ := DataW.trod_int Tryz.underlying3 a2
    obtain ⟨n3, g3, -, -⟩ := DataW.trod_int Tryz.underlying3 a3
    obtain ⟨n4, g4, -, -⟩ := DataW.trod_int Tryz.underlying3 a4
    have a5' : DataW.trod enc Tryz.prog W 0 sp true n 22 [c5] = some xs[5] := a5
    obtain ⟨p, n, c, l, rfl, hsl⟩ := open_sl (v := c5) Tryz.underlying22 (by kernel_rfl) Sp.len (fun _ _ _ h => step_trod h) (by omega) a5'
    have hcap := sl_cap Tryz.underlying22 a5'
    simp at g0 g1 g2 g3 g4
    subst g0 g1 g2 g3 g4
    exact ⟨⟨n0, n1, n2, n3, n4, l⟩, p, n, c, ⟨hsl, hcap⟩, rfl⟩
/-- an order that comes in -/
theorem open_order {H : Type} {enc : TypeId × Value → H} {W : World} {sp : Nat → Bool} {v : Value} {d : DataW H} {ps : List MemPlace} {r : Reach} {b0 : Nat} (h : DataW.Trod enc Tryz.prog W 0 sp true 24 v d ps) (hok : Value.okWide Tryz.prog W r b0 24 v) :
    ∃ (o : Od) (p : Option Addr) (n c : Nat) (_ : Sh.Sl (Sh.Holds W []) p n 2 (sps o.steps) ∧ n ≤ c), v = odV o (.slice p n c) := by
  obtain ⟨fuel, h⟩ := h
  unfold Value.okWide at hok
  rw [Tryz.underlying24] at hok
  obtain ⟨cs, rfl, hsz, -⟩ := hok
  have h : DataW.trod enc Tryz.prog W 0 sp true fuel 24 cs.toList = some (d, ps) := h
  obtain ⟨o, p, n, c, hh, e⟩ := order_trod h
  obtain ⟨cs⟩ := cs
  simp only at e
  subst e
  exact ⟨o, p, n, c, hh, rfl⟩
end Go.Proofs.YtcfmnoimehcfnaaGreatDoor
