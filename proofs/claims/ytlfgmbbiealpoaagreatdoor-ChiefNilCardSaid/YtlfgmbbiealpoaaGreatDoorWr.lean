/- What every row of this seat shares: the listed tables at the program's own start; an argument's reading carried over a call. Conditions: none. -/
import Derived.Test.YtlfgmbbiealpoaaGreatDoorRows
import Derived.Test.YtlfgmbbiealpoaaGreatDoorC2
import Derived.WalkKit
import Derived.ProofKit
import Derived.LaidMore
import Derived.Lay
import Derived.Test.YtlfgmbbiealpoaaGreatDoorAt
import Derived.OpenShut
import Derived.Carry
import Derived.Stop.Joined
import Derived.Stop.LaidErr
import Derived.Lib.LaidTab
import Derived.SevenTiedAt
set_option linter.unusedVariables false
set_option maxRecDepth 100000
namespace Go.Proofs.YtlfgmbbiealpoaaGreatDoor
open Go Go.ChangeShapes Go.WideShapes Go.ChangeAt Go.RowKit

theorem own : ownKnob Tryz.prog.godebug = none := by kernel_rfl
theorem laidOut : laidOutB Tryz.prog = true := by kernel_rfl
abbrev laid7 : List (String × DataW Unit) := [("math/bits.deBruijn32tab", Rows.laid_math_bits_deBruijn32tab), ("math/bits.deBruijn64tab", Rows.laid_math_bits_deBruijn64tab), ("internal/strconv.uint64pow10", Rows.laid_internal_strconv_uint64pow10), ("unicode/utf8.acceptRanges", Rows.laid_unicode_utf8_acceptRanges), ("strconv.ErrRange", Rows.laid_strconv_ErrRange), ("strconv.ErrSyntax", Rows.laid_strconv_ErrSyntax), ("unicode/utf8.first", Rows.laid_unicode_utf8_first)]
theorem door_met (os : Os) (args : Array Value) : laidMetH Tryz.prog laid7 ((World.laidAll Tryz.prog os laid7).forCall (fun _ _ => 0) ⟨#[], args, []⟩).memory := by
  rw [MakeChecks.laidMetH_plain _ _ _ (by kernel_rfl)]
  exact laidMet_laidAll _ (by kernel_rfl) (by kernel_rfl)
theorem tab_of {W : World} (h : laidMetH Tryz.prog laid7 W) : Tab W := by
  rw [MakeChecks.laidMetH_plain _ _ _ (by kernel_rfl)] at h
  have h2 : laidMet Tryz.prog [("internal/strconv.uint64pow10", Lib.tabData .u64 Lib.pow10Tab), ("unicode/utf8.acceptRanges", Rows.laid_unicode_utf8_acceptRanges), ("strconv.ErrRange", Rows.laid_strconv_ErrRange), ("strconv.ErrSyntax", Rows.laid_strconv_ErrSyntax), ("unicode/utf8.first", Rows.laid_unicode_utf8_first)] W := h.tail.tail
  exact Lib.tabBelow_of_tabIs (Lib.tabIs_of_head (g := 0) (t := 315) (e := 49) (n := 20) (by kernel_rfl) (by kernel_rfl) (by kernel_rfl) (by kernel_rfl) (by kernel_rfl) (by kernel_rfl) h2)
abbrev laid3 : List (String × DataW Unit) := [("math/bits.deBruijn32tab", Rows.laid_math_bits_deBruijn32tab), ("math/bits.deBruijn64tab", Rows.laid_math_bits_deBruijn64tab), ("internal/strconv.uint64pow10", Rows.laid_internal_strconv_uint64pow10)]
theorem door_met3 (os : Os) (args : Array Value) : laidMetH Tryz.prog laid3 ((World.laidAll Tryz.prog os laid3).forCall (fun _ _ => 0) ⟨#[], args, []⟩).memory := by
  rw [MakeChecks.laidMetH_plain _ _ _ (by kernel_rfl)]
  exact laidMet_laidAll _ (by kernel_rfl) (by kernel_rfl)
theorem tab_of3 {W : World} (h : laidMetH Tryz.prog laid3 W) : Tab W := by
  rw [MakeChecks.laidMetH_plain _ _ _ (by kernel_rfl)] at h
  have h2 : laidMet Tryz.prog [("internal/strconv.uint64pow10", Lib.tabData .u64 Lib.pow10Tab)] W := h.tail.tail
  exact Lib.tabBelow_of_tabIs (Lib.tabIs_of_head (g := 0) (t := 315) (e := 49) (n := 20) (by kernel_rfl) (by kernel_rfl) (by kernel_rfl) (by kernel_rfl) (by kernel_rfl) (by kernel_rfl) h2)
/-- every argument reads behind the call as it did, if below the heap's old size nothing has turned -/
theorem trodAll_below {H : Type} {enc : TypeId × Value → H} {P : Program} {W W' : World} (hl : laidOutB P = true) : ∀ {ts : List TypeId} {vs : List Value} {ds : List (DataW H)} {ps : List MemPlace}, (ts.all fun t => P.readableRec t && decide (t < P.types.size)) = true →
    DataW.TrodAll enc P W 0 (fun _ => true) true ts vs ds ps → Below W.heap.size W W' → (∀ x ∈ ps, x.block < W.heap.size) → DataW.TrodAll enc P W' 0 (fun b => decide (b < W.heap.size)) true ts vs ds ps
  | [], [], [], ps, _, h, _, _ => h
  | t :: ts, v :: vs, d :: ds, ps, hr, ⟨p, q, h1, h2, e⟩, hb, hlt => by
    simp only [List.all_cons, Bool.and_eq_true, decide_eq_true_eq] at hr
    subst e
    exact ⟨p, q, Below.trod hl hr.1.1 hr.1.2 h1 hb (fun x hx => hlt x (by simp [hx])), trodAll_below hl (by simpa using hr.2) h2 hb (fun x hx => hlt x (by simp [hx])), rfl⟩
  | [], _ :: _, _, _, _, h, _, _ => h.elim
  | [], [], _ :: _, _, _, h, _, _ => h.elim
  | _ :: _, [], _, _, _, h, _, _ => h.elim
  | _ :: _, _ :: _, [], _, _, h, _, _ => h.elim
/-- a struct of integers, opened -/
theorem open_ints {P : Program} {w : World} {r : Reach} {b0 : Nat} {t t0 : TypeId} {k : IntKind} {n : Nat} {fs : Array Field} {v : Value} (hu : P.underlying t = some (.struct fs)) (hts : P.cellTypes P.depth t = some (List.replicate n t0)) (hi : P.underlying t0 = some (.int k)) (hc : P.cellsOf t = n)
    (hval : Value.okWide P w r b0 t v) : ∃ l : List Int, l.length = n ∧ v = .agg (l.map (Value.int k)).toArray := by
  unfold Value.okWide at hval
  rw [hu] at hval
  obtain ⟨cs, rfl, hsz, ts, h1, -, h3⟩ := hval
  rw [hts] at h1
  cases h1
  rw [hc] at hsz
  have key : ∀ (l : List Value), (∀ v ∈ l, ∃ n, v = .int k n) → ∃ m : List Int, l = m.map (Value.int k) := by
    intro l
    induction l with
    | nil => intro _; exact ⟨[], rfl⟩
    | cons a l ih =>
      intro h
      obtain ⟨x, hx⟩ := h a (by simp)
      obtain ⟨m, hm⟩ := ih (fun v hv => h v (by simp [hv]))
      exact ⟨x :: m, by simp [hx, hm]⟩
  obtain ⟨m, hm⟩ := key cs.toList (fun v hv => by
    obtain ⟨i, hi', rfl⟩ := List.getElem_of_mem hv
    obtain ⟨u, hu', hcell⟩ := h3 i cs.toList[i] (by rw [← Array.getElem?_toList]; exact List.getElem?_eq_getElem hi')
    rw [List.getElem?_replicate] at hu'
    split at hu'
    · cases hu'
      refine okWide_int (P := P) (w := w) (r := r) (base := b0) (t := t0) hi ?_
      unfold Value.okWide
      rw [hi]
      exact hcell
    · cases hu')
  refine ⟨m, ?_, ?_⟩
  · have := congrArg List.length hm
    simp at this
    omega
  · rw [← hm]
/-- a listed variable that holds an interface value -/
theorem laid_iface {P : Program} {n nm : String} {d : DataW Unit} {r : List (String × DataW Unit)} {W : World} {g : Nat} {ti : TypeId} {ms : Array (String × TypeId)}
    (h : laidMet P ((n, .iface nm d) :: r) W) (hg : P.globalNamed n = some g) (ht : (P.globals[g]?).map (·.type) = some ti) (hi : P.underlying ti = some (.interface ms)) : ∃ tp p, W.var? P n = some #[.iface tp p] := by
  obtain ⟨ps, ⟨g0, t0, cs0, f0, p0, q0, hg0, ht0, hv0, hd0, _, e0⟩, _, hrows⟩ := h
  obtain rfl := Option.some.inj (hg.symm.trans hg0)
  obtain rfl := Option.some.inj (ht.symm.trans ht0)
  obtain ⟨l0⟩ := cs0
  cases f0 with
  | zero => simp [DataW.trod] at hd0
  | succ f =>
    unfold DataW.trod at hd0
    simp only [hi] at hd0
    split at hd0 <;> first | (cases hd0; done) | skip
    all_goals first | (simp at hd0; done) | skip
    all_goals first | exact ⟨_, _, hv0⟩ | (simp_all; done)
theorem errs_of {W : World} (h : laidMetH Tryz.prog laid7 W) : Errs W := by
  rw [MakeChecks.laidMetH_plain _ _ _ (by kernel_rfl)] at h
  have h2 : laidMet Tryz.prog [("strconv.ErrRange", Rows.laid_strconv_ErrRange), ("strconv.ErrSyntax", Rows.laid_strconv_ErrSyntax), ("unicode/utf8.first", Rows.laid_unicode_utf8_first)] W := h.tail.tail.tail.tail
  obtain ⟨t1, p1, v1⟩ := laid_iface (g := 2) (ti := 267) h2 (by kernel_rfl) (by kernel_rfl) Tryz.underlying267
  obtain ⟨t2, p2, v2⟩ := laid_iface (g := 1) (ti := 267) h2.tail (by kernel_rfl) (by kernel_rfl) Tryz.underlying267
  exact fun w' hb => ⟨⟨t2, p2, Joins.var_stays (g := 1) (by kernel_rfl) v2 hb (Nat.le_refl _)⟩, ⟨t1, p1, Joins.var_stays (g := 2) (by kernel_rfl) v1 hb (Nat.le_refl _)⟩⟩

/-! ### a slice of structs that comes in -/
theorem add_add (a : Addr) (h : a.spot = none) (i j : Nat) : (a.add i).add j = ⟨a.block, a.off + (i + j), none⟩ := by
  obtain ⟨b, o, s⟩ := a
  simp only at h
  subst h
  unfold Addr.add
  by_cases hi : i = 0 <;> by_cases hj : j = 0 <;> simp [hi, hj] <;> omega
theorem cell_stays {W w' : World} {a : Addr} {v : Value} (hb : Below W.heap.size W w') (h : W.cell? a = some v) : w'.cell? a = some v := by
  unfold World.cell? at h ⊢
  split at h
  · rename_i c e z hc
    have hlt : a.block < W.heap.size := by
      rcases Nat.lt_or_ge a.block W.heap.size with h' | h'
      · exact h'
      · rw [Array.getElem?_eq_none h'] at hc; cases hc
    rw [hb.block _ hlt, hc]
    exact h
  · cases h
theorem open_sl {H : Type} {enc : TypeId × Value → H} {P : Program} {W : World} {sp : Nat → Bool} {fuel z : Nat} {t e : TypeId} {α : Type} {f : α → List Value} {v : Value} {x : DataW H × List MemPlace}
    (ht : P.underlying t = some (.slice e)) (hz : P.cellsOf e = z) (hf : ∀ a, (f a).length = z)
    (he : ∀ fuel cs x, DataW.trod enc P W 0 sp true fuel e cs = some x → ∃ a, cs = f a) (hzp : 0 < z) (h : DataW.trod enc P W 0 sp true fuel t [v] = some x) :
    ∃ (p : Option Addr) (n c : Nat) (l : List α), v = .slice p n c ∧ Sh.Sl (Sh.Holds W []) p n z (l.flatMap f) := by
  rcases DataW.trod_slice ht h with ⟨h1, -⟩ | ⟨a, len, cap, elems, rest, m, -, h1, -, -, -, -, hlen, hel, -, -⟩
  · cases h1
    exact ⟨none, 0, 0, [], rfl, Sh.Sl.nil⟩
  · cases h1
    rcases Nat.eq_zero_or_pos len with hl0 | hl0
    · subst hl0
      exact ⟨some a, 0, cap, [], rfl, ⟨by simp, fun h => (by cases h), fun a' ha => ⟨.inl rfl, fun j v hv => by simp at hv⟩⟩⟩
    have hsp : a.spot = none := by
      have hb := hel 0 hl0
      rw [List.getElem?_eq_getElem (by omega), Option.bind_eq_some_iff] at hb
      obtain ⟨cs, hcs, hy⟩ := hb
      obtain ⟨b, rfl⟩ := he _ _ _ hy
      obtain ⟨hc1, hc2, hc3⟩ := World.cells?_some hcs
      have h0 := hc3 0 (by rw [hz]; exact hzp)
      have hu : ∃ u, (f b)[0]? = some u := ⟨_, List.getElem?_eq_getElem (by rw [hf]; exact hzp)⟩
      obtain ⟨u, hu⟩ := hu
      rw [hu] at h0
      have := World.cell?_spot h0
      simpa [Addr.add] using this
    have key : ∀ k, k ≤ len → ∃ l : List α, l.length = k ∧ ∀ i b, l[i]? = some b → ∀ j u, (f b)[j]? = some u → W.cell? ⟨a.block, a.off + (i * z + j), none⟩ = some u := by
      intro k
      induction k with
      | zero => intro _; exact ⟨[], rfl, fun i b hb => by simp at hb⟩
      | succ k ih =>
        intro hk
        obtain ⟨l, hl, hc⟩ := ih (by omega)
        have hb := hel k (by omega)
        have hk2 : k < elems.length := by omega
        rw [List.getElem?_eq_getElem hk2, Option.bind_eq_some_iff] at hb
        obtain ⟨cs, hcs, hy⟩ := hb
        obtain ⟨b, rfl⟩ := he _ _ _ hy
        refine ⟨l ++ [b], by simp [hl], fun i b' hb' j u hu => ?_⟩
        by_cases hi : i < l.length
        · rw [List.getElem?_append_left hi] at hb'
          exact hc i b' hb' j u hu
        · rw [List.getElem?_append_right (by omega)] at hb'
          have hi2 : i = k := by
            have := (List.getElem?_eq_some_iff.1 hb').1
            simp at this; omega
          subst hi2
          rw [hl, Nat.sub_self] at hb'
          cases hb'
          have hj : j < z := by
            have := (List.getElem?_eq_some_iff.1 hu).1
            rw [hf] at this; exact this
          obtain ⟨hc1, hc2, hc3⟩ := World.cells?_some hcs
          have := hc3 j (by rw [hz]; exact hj)
          rw [hz, add_add a hsp, hu] at this
          exact this
    obtain ⟨l, hl, hc⟩ := key len (Nat.le_refl _)
    refine ⟨some a, len, cap, l, rfl, ⟨?_, fun h => (by cases h), fun a' ha => ?_⟩⟩
    · rw [Sh.flat_len hf, hl]
    · cases ha
      refine ⟨.inr hsp, fun j v hv w' H => ?_⟩
      have hb : Below W.heap.size W w' := H.below
      refine cell_stays hb ?_
      have hz0 : 0 < z := by
        rcases Nat.eq_zero_or_pos z with h0 | h0
        · exfalso
          have := (List.getElem?_eq_some_iff.1 hv).1
          rw [Sh.flat_len hf, h0] at this; simp at this
        · exact h0
      have hjl : j / z < l.length := by
        have := (List.getElem?_eq_some_iff.1 hv).1
        rw [Sh.flat_len hf] at this
        exact Nat.div_lt_of_lt_mul (by rw [Nat.mul_comm]; exact this)
      have hb' := List.getElem?_eq_getElem hjl
      have h2 := Sh.flat_at hf hb' (Nat.mod_lt j hz0)
      have h3 : j / z * z + j % z = j := by rw [Nat.mul_comm]; exact Nat.div_add_mod j z
      rw [h3, hv] at h2
      have := hc _ _ hb' _ _ h2.symm
      rw [h3] at this
      exact this
theorem ten {l : List Int} (h : l.length = 10) : ∃ y0 y1 y2 y3 y4 y5 y6 y7 y8 y9, l = [y0, y1, y2, y3, y4, y5, y6, y7, y8, y9] := by
  iterate 10 (rcases l with _ | ⟨_, l⟩; · simp at h)
  rcases l with _ | ⟨_, l⟩
  · exact ⟨_, _, _, _, _, _, _, _, _, _, rfl⟩
  · simp at h

end Go.Proofs.YtlfgmbbiealpoaaGreatDoor
