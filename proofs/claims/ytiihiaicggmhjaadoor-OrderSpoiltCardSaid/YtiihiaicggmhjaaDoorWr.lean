/- What every row of this seat shares: the listed tables at the program's own start; an argument's reading carried over a call. Conditions: none. -/
import Derived.Test.YtiihiaicggmhjaaDoorRows
import Derived.Test.YtiihiaicggmhjaaDoorC2
import Derived.WalkKit
import Derived.ProofKit
import Derived.LaidMore
import Derived.OpenShut
import Derived.Carry
import Derived.Stop.Joined
import Derived.Stop.LaidErr
import Derived.Lib.LaidTab
import Derived.SevenTiedAt
set_option linter.unusedVariables false
set_option maxRecDepth 100000
namespace Go.Proofs.YtiihiaicggmhjaaDoor
open Go Go.ChangeShapes Go.WideShapes Go.ChangeAt Go.RowKit

theorem own : ownKnob Tryd.prog.godebug = none := by kernel_rfl
theorem laidOut : laidOutB Tryd.prog = true := by kernel_rfl
abbrev laid3 : List (String × DataW Unit) := [("math/bits.deBruijn32tab", Rows.laid_math_bits_deBruijn32tab), ("math/bits.deBruijn64tab", Rows.laid_math_bits_deBruijn64tab), ("internal/strconv.uint64pow10", Rows.laid_internal_strconv_uint64pow10)]
theorem door_met (os : Os) (args : Array Value) : laidMetH Tryd.prog laid3 ((World.doorLaid Tryd.prog 62 os).forCall (fun _ _ => 0) ⟨#[], args, []⟩).memory :=
  laidMetH_of_parts3 (fuel := 8) (laidMet_of_run' 8 (by kernel_rfl) (by kernel_rfl)) (by kernel_rfl) (by kernel_rfl)
theorem tab_of {W : World} (h : laidMetH Tryd.prog laid3 W) : Tab W := by
  rw [MakeChecks.laidMetH_plain _ _ _ (by kernel_rfl)] at h
  have h2 : laidMet Tryd.prog [("internal/strconv.uint64pow10", Lib.tabData .u64 Lib.pow10Tab)] W := h.tail.tail
  exact Lib.tabBelow_of_tabIs (Lib.tabIs_of_head (g := 0) (t := 128) (e := 35) (n := 20) (by kernel_rfl) (by kernel_rfl) (by kernel_rfl) (by kernel_rfl) (by kernel_rfl) (by kernel_rfl) h2)

/-- every argument reads behind the call as it did, if below the heap's old size nothing has turned -/
theorem trodAll_below {H : Type} {enc : TypeId × Value → H} {P : Program} {W W' : World} (hl : laidOutB P = true) : ∀ {ts : List TypeId} {vs : List Value} {ds : List (DataW H)} {ps : List MemPlace}, (ts.all fun t => P.readableRec t && decide (t < P.types.size)) = true →
    DataW.TrodAll enc P W 0 (fun _ => true) true ts vs ds ps → Below W.heap.size W W' → (∀ x ∈ ps, x.block < W.heap.size) → DataW.TrodAll enc P W' 0 (fun b => decide (b < W.heap.size)) true ts vs ds ps
  | [], [], [], ps, _, h, _, _ => h
  | t :: ts, v :: vs, d :: ds, ps, hr, ⟨p, q, h1, h2, e⟩, hb, hlt => by
    simp only [List.all_cons, Bool.and_eq_true, decide_eq_true_eq] at hr
    subst e
    exact ⟨p, q, Below.trod hl hr.1.1 hr.1.2 h1 hb (fun x hx => hlt x (by simp [hx])), trodAll_below hl (by simpa using hr.2) h2 hb (fun x hx => hlt x (by simp [hx])), rfl⟩
  | [], _ :: _, _, _, _, h, _, _ => h.elim
  | [], [], _ :: _, _, _, h, _, _ => h.elim
  | _ :: _, [], _, _, _, h, _, _ => h.elim
  | _ :: _, _ :: _, [], _, _, h, _, _ => h.elim
/-- a struct of integers, opened -/
theorem open_ints {P : Program} {w : World} {r : Reach} {b0 : Nat} {t t0 : TypeId} {k : IntKind} {n : Nat} {fs : Array Field} {v : Value} (hu : P.underlying t = some (.struct fs)) (hts : P.cellTypes P.depth t = some (List.replicate n t0)) (hi : P.underlying t0 = some (.int k)) (hc : P.cellsOf t = n)
    (hval : Value.okWide P w r b0 t v) : ∃ l : List Int, l.length = n ∧ v = .agg (l.map (Value.int k)).toArray := by
  unfold Value.okWide at hval
  rw [hu] at hval
  obtain ⟨cs, rfl, hsz, ts, h1, -, h3⟩ := hval
  rw [hts] at h1
  cases h1
  rw [hc] at hsz
  have key : ∀ (l : List Value), (∀ v ∈ l, ∃ n, v = .int k n) → ∃ m : List Int, l = m.map (Value.int k) := by
    intro l
    induction l with
    | nil => intro _; exact ⟨[], rfl⟩
    | cons a l ih =>
      intro h
      obtain ⟨x, hx⟩ := h a (by simp)
      obtain ⟨m, hm⟩ := ih (fun v hv => h v (by simp [hv]))
      exact ⟨x :: m, by simp [hx, hm]⟩
  obtain ⟨m, hm⟩ := key cs.toList (fun v hv => by
    obtain ⟨i, hi', rfl⟩ := List.getElem_of_mem hv
    obtain ⟨u, hu', hcell⟩ := h3 i cs.toList[i] (by rw [← Array.getElem?_toList]; exact List.getElem?_eq_getElem hi')
    rw [List.getElem?_replicate] at hu'
    split at hu'
    · cases hu'
      refine okWide_int (P := P) (w := w) (r := r) (base := b0) (t := t0) hi ?_
      unfold Value.okWide
      rw [hi]
      exact hcell
    · cases hu')
  refine ⟨m, ?_, ?_⟩
  · have := congrArg List.length hm
    simp at this
    omega
  · rw [← hm]
def msgW (kind frm to id step a b : Int) : Value := .agg #[.int .i64 kind, .int .i64 frm, .int .i64 to, .int .i64 id, .int .i64 step, .int .i64 a, .int .i64 b]
theorem open_msg {w : World} {r : Reach} {b0 : Nat} {v : Value} (hval : Value.okWide Tryd.prog w r b0 23 v) : ∃ kind frm to id step a b : Int, v = msgW kind frm to id step a b := by
  obtain ⟨l, hl, rfl⟩ := open_ints (n := 7) (t0 := 3) Tryd.underlying23 (by kernel_rfl) Tryd.underlying3 (by kernel_rfl) hval
  match l, hl with
  | [a0, a1, a2, a3, a4, a5, a6], _ => exact ⟨a0, a1, a2, a3, a4, a5, a6, rfl⟩
end Go.Proofs.YtiihiaicggmhjaaDoor
