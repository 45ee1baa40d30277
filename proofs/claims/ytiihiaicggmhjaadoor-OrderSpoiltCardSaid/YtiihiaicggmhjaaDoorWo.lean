/- What the rows of law5 share: the five listed variables at the program's own start; an order that comes in, opened. Conditions: none. -/
import Derived.Test.YtiihiaicggmhjaaDoorWr
import Derived.Test.YtiihiaicggmhjaaDoorC12
set_option linter.unusedVariables false
set_option maxRecDepth 100000
namespace Go.Proofs.YtiihiaicggmhjaaDoor
open Go Go.ChangeShapes Go.WideShapes Go.ChangeAt Go.RowKit

abbrev laid5 : List (String × DataW Unit) := [("math/bits.deBruijn32tab", Rows.laid_math_bits_deBruijn32tab), ("math/bits.deBruijn64tab", Rows.laid_math_bits_deBruijn64tab), ("internal/strconv.uint64pow10", Rows.laid_internal_strconv_uint64pow10), ("strconv.ErrRange", Rows.laid_strconv_ErrRange), ("strconv.ErrSyntax", Rows.laid_strconv_ErrSyntax)]
theorem door_met5 (os : Os) (args : Array Value) : laidMetH Tryd.prog laid5 ((World.doorLaid Tryd.prog 62 os).forCall (fun _ _ => 0) ⟨#[], args, []⟩).memory :=
  laidMetH_of_parts3 (fuel := 8) (laidMet_of_run' 8 (by kernel_rfl) (by kernel_rfl)) (by kernel_rfl) (by kernel_rfl)
theorem tab_of5 {W : World} (h : laidMetH Tryd.prog laid5 W) : Tab W := by
  rw [MakeChecks.laidMetH_plain _ _ _ (by kernel_rfl)] at h
  have h2 : laidMet Tryd.prog [("internal/strconv.uint64pow10", Lib.tabData .u64 Lib.pow10Tab), ("strconv.ErrRange", Rows.laid_strconv_ErrRange), ("strconv.ErrSyntax", Rows.laid_strconv_ErrSyntax)] W := h.tail.tail
  exact Lib.tabBelow_of_tabIs (Lib.tabIs_of_head (g := 0) (t := 128) (e := 35) (n := 20) (by kernel_rfl) (by kernel_rfl) (by kernel_rfl) (by kernel_rfl) (by kernel_rfl) (by kernel_rfl) h2)
/-- a listed variable that holds an interface value -/
theorem laid_iface {P : Program} {n nm : String} {d : DataW Unit} {r : List (String × DataW Unit)} {W : World} {g : Nat} {ti : TypeId} {ms : Array (String × TypeId)}
    (h : laidMet P ((n, .iface nm d) :: r) W) (hg : P.globalNamed n = some g) (ht : (P.globals[g]?).map (·.type) = some ti) (hi : P.underlying ti = some (.interface ms)) : ∃ tp p, W.var? P n = some #[.iface tp p] := by
  obtain ⟨ps, ⟨g0, t0, cs0, f0, p0, q0, hg0, ht0, hv0, hd0, _, e0⟩, _, hrows⟩ := h
  obtain rfl := Option.some.inj (hg.symm.trans hg0)
  obtain rfl := Option.some.inj (ht.symm.trans ht0)
  obtain ⟨l0⟩ := cs0
  cases f0 with
  | zero => simp [DataW.trod] at hd0
  | succ f =>
    unfold DataW.trod at hd0
    simp only [hi] at hd0
    split at hd0 <;> first | (cases hd0; done) | skip
    all_goals first | (simp at hd0; done) | skip
    all_goals first | exact ⟨_, _, hv0⟩ | (simp_all; done)
theorem errs_of5 {W : World} (h : laidMetH Tryd.prog laid5 W) : Errs W := by
  rw [MakeChecks.laidMetH_plain _ _ _ (by kernel_rfl)] at h
  have h2 : laidMet Tryd.prog [("strconv.ErrRange", Rows.laid_strconv_ErrRange), ("strconv.ErrSyntax", Rows.laid_strconv_ErrSyntax)] W := h.tail.tail.tail
  obtain ⟨t1, p1, v1⟩ := laid_iface (g := 2) (ti := 100) h2 (by kernel_rfl) (by kernel_rfl) Tryd.underlying100
  obtain ⟨t2, p2, v2⟩ := laid_iface (g := 1) (ti := 100) h2.tail (by kernel_rfl) (by kernel_rfl) Tryd.underlying100
  exact fun w' hb => ⟨⟨t2, p2, Joins.var_stays (g := 1) (by kernel_rfl) v2 hb (Nat.le_refl _)⟩, ⟨t1, p1, Joins.var_stays (g := 2) (by kernel_rfl) v1 hb (Nat.le_refl _)⟩⟩

/-! ### a slice of structs that comes in -/
theorem add_add (a : Addr) (h : a.spot = none) (i j : Nat) : (a.add i).add j = ⟨a.block, a.off + (i + j), none⟩ := by
  obtain ⟨b, o, s⟩ := a
  simp only at h
  subst h
  unfold Addr.add
  by_cases hi : i = 0 <;> by_cases hj : j = 0 <;> simp [hi, hj] <;> omega
theorem cell_stays {W w' : World} {a : Addr} {v : Value} (hb : Below W.heap.size W w') (h : W.cell? a = some v) : w'.cell? a = some v := by
  unfold World.cell? at h ⊢
  split at h
  · rename_i c e z hc
    have hlt : a.block < W.heap.size := by
      rcases Nat.lt_or_ge a.block W.heap.size with h' | h'
      · exact h'
      · rw [Array.getElem?_eq_none h'] at hc; cases hc
    rw [hb.block _ hlt, hc]
    exact h
  · cases h
theorem open_sl {H : Type} {enc : TypeId × Value → H} {P : Program} {W : World} {sp : Nat → Bool} {fuel z : Nat} {t e : TypeId} {α : Type} {f : α → List Value} {v : Value} {x : DataW H × List MemPlace} {r : Reach} {b0 : Nat}
    (ht : P.underlying t = some (.slice e)) (hz : P.cellsOf e = z) (hf : ∀ a, (f a).length = z)
    (he : ∀ fuel cs x, DataW.trod enc P W 0 sp true fuel e cs = some x → ∃ a, cs = f a) (h : DataW.trod enc P W 0 sp true fuel t [v] = some x) (hok : Cell.okWide P W r b0 t v) :
    ∃ (p : Option Addr) (n c : Nat) (l : List α), v = .slice p n c ∧ Sh.Sl (Sh.Holds W []) p n z (l.flatMap f) := by
  rcases DataW.trod_slice ht h with ⟨h1, -⟩ | ⟨a, len, cap, elems, rest, m, -, h1, -, -, -, -, hlen, hel, -, -⟩
  · cases h1
    exact ⟨none, 0, 0, [], rfl, Sh.Sl.nil⟩
  · cases h1
    have hsp : a.spot = none := by
      unfold Cell.okWide at hok
      rw [ht] at hok
      unfold Cell.ok at hok
      rw [ht] at hok
      exact hok.2.2.2.1
    have key : ∀ k, k ≤ len → ∃ l : List α, l.length = k ∧ ∀ i b, l[i]? = some b → ∀ j u, (f b)[j]? = some u → W.cell? ⟨a.block, a.off + (i * z + j), none⟩ = some u := by
      intro k
      induction k with
      | zero => intro _; exact ⟨[], rfl, fun i b hb => by simp at hb⟩
      | succ k ih =>
        intro hk
        obtain ⟨l, hl, hc⟩ := ih (by omega)
        have hb := hel k (by omega)
        have hk2 : k < elems.length := by omega
        rw [List.getElem?_eq_getElem hk2, Option.bind_eq_some_iff] at hb
        obtain ⟨cs, hcs, hy⟩ := hb
        obtain ⟨b, rfl⟩ := he _ _ _ hy
        refine ⟨l ++ [b], by simp [hl], fun i b' hb' j u hu => ?_⟩
        by_cases hi : i < l.length
        · rw [List.getElem?_append_left hi] at hb'
          exact hc i b' hb' j u hu
        · rw [List.getElem?_append_right (by omega)] at hb'
          have hi2 : i = k := by
            have := (List.getElem?_eq_some_iff.1 hb').1
            simp at this; omega
          subst hi2
          rw [hl, Nat.sub_self] at hb'
          cases hb'
          have hj : j < z := by
            have := (List.getElem?_eq_some_iff.1 hu).1
            rw [hf] at this; exact this
          obtain ⟨hc1, hc2, hc3⟩ := World.cells?_some hcs
          have := hc3 j (by rw [hz]; exact hj)
          rw [hz, add_add a hsp, hu] at this
          exact this
    obtain ⟨l, hl, hc⟩ := key len (Nat.le_refl _)
    refine ⟨some a, len, cap, l, rfl, ⟨?_, fun h => (by cases h), fun a' ha => ?_⟩⟩
    · rw [Sh.flat_len hf, hl]
    · cases ha
      refine ⟨hsp, fun j v hv w' H => ?_⟩
      have hb : Below W.heap.size W w' := H.below
      refine cell_stays hb ?_
      have hz0 : 0 < z := by
        rcases Nat.eq_zero_or_pos z with h0 | h0
        · exfalso
          have := (List.getElem?_eq_some_iff.1 hv).1
          rw [Sh.flat_len hf, h0] at this; simp at this
        · exact h0
      have hjl : j / z < l.length := by
        have := (List.getElem?_eq_some_iff.1 hv).1
        rw [Sh.flat_len hf] at this
        exact Nat.div_lt_of_lt_mul (by rw [Nat.mul_comm]; exact this)
      have hb' := List.getElem?_eq_getElem hjl
      have h2 := Sh.flat_at hf hb' (Nat.mod_lt j hz0)
      have h3 : j / z * z + j % z = j := by rw [Nat.mul_comm]; exact Nat.div_add_mod j z
      rw [h3, hv] at h2
      have := hc _ _ hb' _ _ h2.symm
      rw [h3] at this
      exact this
theorem step_trod {H : Type} {enc : TypeId × Value → H} {W : World} {sp : Nat → Bool} {fuel : Nat} {cs : List Value} {x : DataW H × List MemPlace} (h : DataW.trod enc Tryd.prog W 0 sp true fuel 52 cs = some x) : ∃ a, cs = Sp.cells a := by
  obtain ⟨xs, n, -, -, hl, hx, hall⟩ := DataW.trod_struct Tryd.underlying52 h
  have hl2 : cs.length = 2 := hl.trans (by kernel_rfl)
  have hx2 : xs.length = 2 := hx
  match cs, hl2 with
  | [c0, c1], _ =>
    have e1 : Tryd.prog.cellsOf 3 = 1 := by kernel_rfl
    have h0 : DataW.trod enc Tryd.prog W 0 sp true n 3 (([c0, c1].drop 0).take (Tryd.prog.cellsOf 3)) = xs[0]? := hall 0 _ rfl
    have h1 : DataW.trod enc Tryd.prog W 0 sp true n 3 (([c0, c1].drop 1).take (Tryd.prog.cellsOf 3)) = xs[1]? := hall 1 _ rfl
    rw [List.getElem?_eq_getElem (by omega), e1] at h0 h1
    obtain ⟨n0, e0, -, -⟩ := DataW.trod_int Tryd.underlying3 h0
    obtain ⟨n1, e1, -, -⟩ := DataW.trod_int Tryd.underlying3 h1
    simp at e0 e1
    exact ⟨⟨n0, n1⟩, by simp [Sp.cells, e0, e1]⟩
/-- an order that comes in -/
theorem open_order {H : Type} {enc : TypeId × Value → H} {W : World} {sp : Nat → Bool} {v : Value} {d : DataW H} {ps : List MemPlace} {r : Reach} {b0 : Nat} (h : DataW.Trod enc Tryd.prog W 0 sp true 43 v d ps) (hok : Value.okWide Tryd.prog W r b0 43 v) :
    ∃ (o : Od) (p : Option Addr) (n c : Nat), v = odV o (.slice p n c) ∧ Sh.Sl (Sh.Holds W []) p n 2 (sps o.steps) := by
  obtain ⟨fuel, h⟩ := h
  unfold Value.okWide at hok
  rw [Tryd.underlying43] at hok
  obtain ⟨cs, rfl, hsz, ts, h1, -, h3⟩ := hok
  rw [show Tryd.prog.cellTypes Tryd.prog.depth 43 = some [3, 3, 3, 3, 3, 41] by kernel_rfl] at h1
  cases h1
  have h : DataW.trod enc Tryd.prog W 0 sp true fuel 43 cs.toList = some (d, ps) := h
  obtain ⟨xs, n, -, -, hl, hx, hall⟩ := DataW.trod_struct Tryd.underlying43 h
  have hl6 : cs.toList.length = 6 := hl.trans (by kernel_rfl)
  have hx6 : xs.length = 6 := hx
  obtain ⟨cs⟩ := cs
  match cs, hl6 with
  | [c0, c1, c2, c3, c4, c5], _ =>
    have e1 : Tryd.prog.cellsOf 3 = 1 := by kernel_rfl
    have e2 : Tryd.prog.cellsOf 41 = 1 := by kernel_rfl
    have a0 : DataW.trod enc Tryd.prog W 0 sp true n 3 (([c0, c1, c2, c3, c4, c5].drop 0).take (Tryd.prog.cellsOf 3)) = xs[0]? := hall 0 _ rfl
    have a1 : DataW.trod enc Tryd.prog W 0 sp true n 3 (([c0, c1, c2, c3, c4, c5].drop 1).take (Tryd.prog.cellsOf 3)) = xs[1]? := hall 1 _ rfl
    have a2 : DataW.trod enc Tryd.prog W 0 sp true n 3 (([c0, c1, c2, c3, c4, c5].drop 2).take (Tryd.prog.cellsOf 3)) = xs[2]? := hall 2 _ rfl
    have a3 : DataW.trod enc Tryd.prog W 0 sp true n 3 (([c0, c1, c2, c3, c4, c5].drop 3).take (Tryd.prog.cellsOf 3)) = xs[3]? := hall 3 _ rfl
    have a4 : DataW.trod enc Tryd.prog W 0 sp true n 3 (([c0, c1, c2, c3, c4, c5].drop 4).take (Tryd.prog.cellsOf 3)) = xs[4]? := hall 4 _ rfl
    have a5 : DataW.trod enc Tryd.prog W 0 sp true n 41 (([c0, c1, c2, c3, c4, c5].drop 5).take (Tryd.prog.cellsOf 41)) = xs[5]? := hall 5 _ rfl
    rw [List.getElem?_eq_getElem (by omega), e1] at a0 a1 a2 a3 a4
    rw [List.getElem?_eq_getElem (by omega), e2] at a5
    obtain ⟨n0, g0, -, -⟩ := DataW.trod_int Tryd.underlying3 a0
    obtain ⟨n1, g1, -, -⟩ := DataW.trod_int Tryd.underlying3 a1
    obtain ⟨n2, g2, -, -⟩ := DataW.trod_int Tryd.underlying3 a2
    obtain ⟨n3, g3, -, -⟩ := DataW.trod_int Tryd.underlying3 a3
    obtain ⟨n4, g4, -, -⟩ := DataW.trod_int Tryd.underlying3 a4
    obtain ⟨u, hu, hcell⟩ := h3 5 c5 rfl
    have hu' : u = 41 := by simpa using hu.symm
    subst hu'
    obtain ⟨p, n, c, l, rfl, hsl⟩ := open_sl (v := c5) Tryd.underlying41 (by kernel_rfl) Sp.len (fun _ _ _ h => step_trod h) a5 hcell
    simp at g0 g1 g2 g3 g4
    subst g0 g1 g2 g3 g4
    exact ⟨⟨n0, n1, n2, n3, n4, l⟩, p, n, c, rfl, hsl⟩
end Go.Proofs.YtiihiaicggmhjaaDoor
