/- Runs of the executor at this seat: a chief that there isn't. Conditions: none. -/
import Derived.Test.YtlfgmbbiealpoaaGreatDoorTBc
set_option linter.unusedVariables false
set_option maxRecDepth 100000
namespace Go.Proofs.YtlfgmbbiealpoaaGreatDoor
open Go Go.Sh Go.RowKit
/-- numbers and rows that are not looked into, as they came in -/
noncomputable def vOf (is : List Int) (bs : List Bool) (ss : List (Option Addr × Nat × Nat)) : Vl := ⟨fun _ => none, fun _ _ _ => default, fun l k => (match l with | .int _ => (is.getD k 0 : Int) | .bool => bs.getD k false | .str => ⟨#[]⟩ | .slice => ss.getD k (none, 0, 0) | .ptr => none | .map => none | .any => undef), fun _ => True⟩
theorem Rep.up {w0 w w' : World} {v : Vl} {s : XSt} (H : Rep w0 v s w) (b : Below w.heap.size w w') : Rep w0 v s w' :=
  H.grown (row := none) ⟨b.os, b.tape, b.output, b.size, fun j hj _ => b.block j hj⟩ (fun _ _ _ _ _ e => by cases e) (fun _ e => by cases e)
theorem Tab.at {w0 w : World} (T : Tab w0) (b : Below w0.heap.size w0 w) : Tab w := fun w' h => T w' (b.trans (h.mono b.size))
noncomputable def cxI : XCx := ⟨Tryz.prog, [], [], primI 59⟩
theorem isTrue_val {v : Vl} {x : EV} {s : XSt} {y : Value} (h : isTrueE x s = true) (hs : sh v x = some y) : y = .bool true := by
  unfold isTrueE at h
  split at h
  · cases hs; rfl
  · cases h
/-- numbers as texts, and a law's own trial, by their contracts -/
noncomputable def primA (aw f : FuncId) : Option (List EV → XSt → Option EV) := match Nat.beq f aw with
  | true => some (fun a _ => match a with | [] => some (.bool true) | _ => none)
  | false => primI 59 f
theorem primA_ok {w0 : World} (T : Tab w0) {Q : List (Nat × BinOp × Int × Bool)} {G : List (Nat × List EV)} {aw : FuncId} (ha : ∀ w, Tab w → gocall Tryz.prog aw [] (fun y w' => y = .bool true ∧ Below w.heap.size w w') w) : PrimOk ⟨Tryz.prog, Q, G, primA aw⟩ w0 := by
  intro f p hp v s w args vs e KK H hs he hK
  have hp' : primA aw f = some p := hp
  unfold primA at hp'
  split at hp'
  · cases hp'
    rename_i hf
    have := Nat.eq_of_beq_eq_true hf
    subst this
    simp only at he
    split at he <;> cases he
    rw [shL_nil] at hs; subst hs
    have h := ha w (Tab.at T H.below)
    refine ⟨h.1, h.2.mono ?_⟩
    rintro e w' ⟨y, he, rfl, hb⟩
    exact ⟨_, he, hK w' _ (Rep.up H hb) rfl⟩
  · exact primI_ok (Q := Q) (G := G) T f p hp' v s w args vs e KK H hs he hK
noncomputable def runC : Bool := xcall cxI ⟨tbL, 3000⟩ 2000 [] 37 [] st0 isTrueE
theorem runC_true : runC = true := by kernel_rfl
theorem awake22_x {w : World} (T : Tab w) : gocall Tryz.prog 37 [] (fun y w' => y = .bool true ∧ Below w.heap.size w w') w :=
  x_run (cx := cxI) (tb := ⟨tbL, 3000⟩) (n := 2000) (args := []) (v := vOf [] [] []) (K := isTrueE) (tbOk 3000) (primI_ok T) rfl ⟨fun g l h => (by cases h), fun i op n b h => (by cases h)⟩ rfl runC_true (fun v' s' w' x y h1 h2 h3 h4 => ⟨isTrue_val h4 h3, h2.below⟩)
noncomputable def cxC : XCx := ⟨Tryz.prog, [], [], primA 37⟩
def oq (i : Nat) : EV := .opq (.int .i64) i
noncomputable def callE : EV := .agg [oq 0, oq 1, oq 2, oq 3, oq 4, oq 5, oq 6, oq 7, oq 8, .opq .slice 0, oq 9, oq 10, oq 11, oq 12, oq 13, oq 14, oq 15]
noncomputable def runCN : Bool := xcall cxC ⟨tbL, 3000⟩ 2000 [] 8 [callE] st0 isTrueE
theorem runCN_true : runCN = true := by kernel_rfl
theorem chiefNil_c {w : World} (T : Tab w) {x0 x1 x2 x3 x4 x5 x6 x7 x8 x10 x11 x12 x13 x14 x15 x16 : Int} {p : Option Addr} {n k : Nat} {K : KV} (hK : ∀ w', Below w.heap.size w w' → K (.bool true) w') :
    gocall Tryz.prog 8 [.agg #[I x0, I x1, I x2, I x3, I x4, I x5, I x6, I x7, I x8, .slice p n k, I x10, I x11, I x12, I x13, I x14, I x15, I x16]] K w :=
  x_run (cx := cxC) (tb := ⟨tbL, 3000⟩) (n := 2000) (args := [callE]) (v := vOf [x0, x1, x2, x3, x4, x5, x6, x7, x8, x10, x11, x12, x13, x14, x15, x16] [] [(p, n, k)]) (K := isTrueE) (tbOk 3000) (primA_ok T fun w T => awake22_x T) rfl ⟨fun g l h => (by cases h), fun i op n t h => (by cases h)⟩ rfl runCN_true (fun v' s' w' x y h1 h2 h3 h4 => by rw [isTrue_val h4 h3]; exact hK w' h2.below)
end Go.Proofs.YtlfgmbbiealpoaaGreatDoor
