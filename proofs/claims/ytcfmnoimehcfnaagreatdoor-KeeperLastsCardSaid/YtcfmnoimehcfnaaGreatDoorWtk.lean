/- What KeeperLasts' row needs: a slice of calls that comes in, opened. Conditions: none. -/
import Derived.Test.YtcfmnoimehcfnaaGreatDoorWr
import Derived.Test.YtcfmnoimehcfnaaGreatDoorKLc
set_option linter.unusedVariables false
set_option maxRecDepth 100000
namespace Go.Proofs.YtcfmnoimehcfnaaGreatDoor
open Go Go.ChangeShapes Go.WideShapes Go.ChangeAt Go.RowKit

theorem trod_msg {H : Type} {enc : TypeId × Value → H} {W : World} {sp : Nat → Bool} {fuel : Nat} {cs : List Value} {x : DataW H × List MemPlace} (h : DataW.trod enc Tryz.prog W 0 sp true fuel 35 cs = some x) :
    ∃ q : List Int, q.length = 7 ∧ cs = q.map I := by
  obtain ⟨xs, n, -, -, hl, hx, hall⟩ := DataW.trod_struct Tryz.underlying35 h
  have hl7 : cs.length = 7 := hl.trans (by kernel_rfl)
  have hx7 : xs.length = 7 := hx
  match cs, hl7 with
  | [c0, c1, c2, c3, c4, c5, c6], _ =>
    have e1 : Tryz.prog.cellsOf 3 = 1 := by kernel_rfl
    have a0 : DataW.trod enc Tryz.prog W 0 sp true n 3 (([c0, c1, c2, c3, c4, c5, c6].drop 0).take (Tryz.prog.cellsOf 3)) = xs[0]? := hall 0 _ rfl
    have a1 : DataW.trod enc Tryz.prog W 0 sp true n 3 (([c0, c1, c2, c3, c4, c5, c6].drop 1).take (Tryz.prog.cellsOf 3)) = xs[1]? := hall 1 _ rfl
    have a2 : DataW.trod enc Tryz.prog W 0 sp true n 3 (([c0, c1, c2, c3, c4, c5, c6].drop 2).take (Tryz.prog.cellsOf 3)) = xs[2]? := hall 2 _ rfl
    have a3 : DataW.trod enc Tryz.prog W 0 sp true n 3 (([c0, c1, c2, c3, c4, c5, c6].drop 3).take (Tryz.prog.cellsOf 3)) = xs[3]? := hall 3 _ rfl
    have a4 : DataW.trod enc Tryz.prog W 0 sp true n 3 (([c0, c1, c2, c3, c4, c5, c6].drop 4).take (Tryz.prog.cellsOf 3)) = xs[4]? := hall 4 _ rfl
    have a5 : DataW.trod enc Tryz.prog W 0 sp true n 3 (([c0, c1, c2, c3, c4, c5, c6].drop 5).take (Tryz.prog.cellsOf 3)) = xs[5]? := hall 5 _ rfl
    have a6 : DataW.trod enc Tryz.prog W 0 sp true n 3 (([c0, c1, c2, c3, c4, c5, c6].drop 6).take (Tryz.prog.cellsOf 3)) = xs[6]? := hall 6 _ rfl
    rw [List.getElem?_eq_getElem (by omega), e1] at a0
    rw [List.getElem?_eq_getElem (by omega), e1] at a1
    rw [List.getElem?_eq_getElem (by omega), e1] at a2
    rw [List.getElem?_eq_getElem (by omega), e1] at a3
    rw [List.getElem?_eq_getElem (by omega), e1] at a4
    rw [List.getElem?_eq_getElem (by omega), e1] at a5
    rw [List.getElem?_eq_getElem (by omega), e1] at a6
    obtain ⟨n0, g0, -, -⟩ := DataW.trod_int Tryz.underlying3 a0
    obtain ⟨n1, g1, -, -⟩ := DataW.trod_int Tryz.underlying3 a1
    obtain ⟨n2, g2, -, -⟩ := DataW.trod_int Tryz.underlying3 a2
    obtain ⟨n3, g3, -, -⟩ := DataW.trod_int Tryz.underlying3 a3
    obtain ⟨n4, g4, -, -⟩ := DataW.trod_int Tryz.underlying3 a4
    obtain ⟨n5, g5, -, -⟩ := DataW.trod_int Tryz.underlying3 a5
    obtain ⟨n6, g6, -, -⟩ := DataW.trod_int Tryz.underlying3 a6
    simp at g0 g1 g2 g3 g4 g5 g6
    subst g0 g1 g2 g3 g4 g5 g6
    exact ⟨[n0, n1, n2, n3, n4, n5, n6], rfl, rfl⟩
theorem trod_call {H : Type} {enc : TypeId × Value → H} {W : World} {sp : Nat → Bool} {fuel : Nat} {cs : List Value} {x : DataW H × List MemPlace} (h : DataW.trod enc Tryz.prog W 0 sp true fuel 90 cs = some x) :
    ∃ q : Kc, cs = q.cells := by
  obtain ⟨xs, n, -, -, hl, hx, hall⟩ := DataW.trod_struct Tryz.underlying90 h
  have hl11 : cs.length = 11 := hl.trans (by kernel_rfl)
  have hx5 : xs.length = 5 := hx
  match cs, hl11 with
  | [c0, c1, c2, c3, c4, c5, c6, c7, c8, c9, c10], _ =>
    have e0 : Tryz.prog.cellsOf 4 = 1 := by kernel_rfl
    have e1 : Tryz.prog.cellsOf 3 = 1 := by kernel_rfl
    have e2 : Tryz.prog.cellsOf 35 = 7 := by kernel_rfl
    have a0 : DataW.trod enc Tryz.prog W 0 sp true n 3 (([c0, c1, c2, c3, c4, c5, c6, c7, c8, c9, c10].drop 0).take (Tryz.prog.cellsOf 3)) = xs[0]? := hall 0 _ rfl
    have a1 : DataW.trod enc Tryz.prog W 0 sp true n 3 (([c0, c1, c2, c3, c4, c5, c6, c7, c8, c9, c10].drop 1).take (Tryz.prog.cellsOf 3)) = xs[1]? := hall 1 _ rfl
    have a2 : DataW.trod enc Tryz.prog W 0 sp true n 3 (([c0, c1, c2, c3, c4, c5, c6, c7, c8, c9, c10].drop 2).take (Tryz.prog.cellsOf 3)) = xs[2]? := hall 2 _ rfl
    have a3 : DataW.trod enc Tryz.prog W 0 sp true n 4 (([c0, c1, c2, c3, c4, c5, c6, c7, c8, c9, c10].drop 3).take (Tryz.prog.cellsOf 4)) = xs[3]? := hall 3 _ rfl
    have a4 : DataW.trod enc Tryz.prog W 0 sp true n 35 (([c0, c1, c2, c3, c4, c5, c6, c7, c8, c9, c10].drop 4).take (Tryz.prog.cellsOf 35)) = xs[4]? := hall 4 _ rfl
    rw [List.getElem?_eq_getElem (by omega), e1] at a0
    rw [List.getElem?_eq_getElem (by omega), e1] at a1
    rw [List.getElem?_eq_getElem (by omega), e1] at a2
    rw [List.getElem?_eq_getElem (by omega), e0] at a3
    rw [List.getElem?_eq_getElem (by omega), e2] at a4
    obtain ⟨n0, g0, -, -⟩ := DataW.trod_int Tryz.underlying3 a0
    obtain ⟨n1, g1, -, -⟩ := DataW.trod_int Tryz.underlying3 a1
    obtain ⟨n2, g2, -, -⟩ := DataW.trod_int Tryz.underlying3 a2
    obtain ⟨n3, g3, -⟩ := DataW.trod_bool Tryz.underlying4 a3
    obtain ⟨q, hq, g4⟩ := trod_msg a4
    replace g4 : [c4, c5, c6, c7, c8, c9, c10] = q.map I := g4
    match q, hq with
    | [p0, p1, p2, p3, p4, p5, p6], _ =>
      simp at g0 g1 g2 g3 g4
      obtain ⟨q0, q1, q2, q3, q4, q5, q6⟩ := g4
      subst g0 g1 g2 g3 q0 q1 q2 q3 q4 q5 q6
      exact ⟨⟨n0, n1, n2, n3, p0, p1, p2, p3, p4, p5, p6⟩, rfl⟩
theorem open_kc {H : Type} {enc : TypeId × Value → H} {W : World} {sp : Nat → Bool} {v : Value} {d : DataW H} {ps : List MemPlace} {r : Reach} {b0 : Nat} (h : DataW.Trod enc Tryz.prog W 0 sp true 84 v d ps) (hok : Value.okWide Tryz.prog W r b0 84 v) :
    ∃ (p : Option Addr) (n c : Nat) (ds : List Kc), v = .slice p n c ∧ Sh.Sl (Sh.Holds W []) p n 11 (ds.flatMap Kc.cells) := by
  obtain ⟨fuel, h⟩ := h
  obtain ⟨a, n, c, rfl⟩ := okWide_slice Tryz.underlying84 hok
  have h : DataW.trod enc Tryz.prog W 0 sp true fuel 84 [.slice a n c] = some (d, ps) := h
  obtain ⟨p, n', c', l, hv, hsl⟩ := open_sl (z := 11) (f := Kc.cells) Tryz.underlying84 (by kernel_rfl) (fun q => rfl) (fun fuel cs x h => trod_call h) (by omega) h
  cases hv
  exact ⟨_, _, _, l, rfl, hsl⟩
end Go.Proofs.YtcfmnoimehcfnaaGreatDoor
