/- The executor at this seat: Itoa by its contract; the table of functions. Conditions: none. -/
import Derived.Test.YtlfgmbbiealpoaaGreatDoorE24
import Derived.Test.YtlfgmbbiealpoaaGreatDoorC2
set_option linter.unusedVariables false
set_option maxRecDepth 100000
namespace Go.Sh
open Go Go.RowKit
theorem tbl_mem {l : List (FuncId × Func × List (Nat × List Nat))} {f : FuncId} {x : Func × List (Nat × List Nat)} (h : tbl l f = some x) : (f, x) ∈ l := by
  induction l with
  | nil => cases h
  | cons p r ih =>
    have h' : (Bool.rec (motive := fun _ => Option (Func × List (Nat × List Nat))) (tbl r f) (some p.2) (Nat.beq p.1 f)) = some x := h
    cases hb : Nat.beq p.1 f with
    | true =>
      rw [hb] at h'
      cases h'
      have := Nat.eq_of_beq_eq_true hb
      subst this
      exact List.mem_cons_self ..
    | false => rw [hb] at h'; exact List.mem_cons_of_mem _ (ih h')
/-- one row of the table -/
def RowOk (P : Program) (x : FuncId × Func × List (Nat × List Nat)) : Prop := P.funcs[x.1]? = some x.2.1 ∧ isGo P x.1 = true ∧ codeOkF x.2.2 x.2.1 = true
def AllR (P : Program) : List (FuncId × Func × List (Nat × List Nat)) → Prop
  | [] => True
  | x :: r => RowOk P x ∧ AllR P r
theorem AllR.all {P : Program} : ∀ {l : List (FuncId × Func × List (Nat × List Nat))}, AllR P l → ∀ x ∈ l, RowOk P x
  | [], _, x, hx => by cases hx
  | y :: r, h, x, hx => by
    rcases List.mem_cons.1 hx with e | hx
    · subst e; exact h.1
    · exact AllR.all h.2 x hx
theorem tbOk_of {cx : XCx} {tb : XTb} (hm : cx.P.follows .mixedOrders = true) (h : ∀ x ∈ tb.l, RowOk cx.P x) : TbOk cx tb := ⟨hm, fun f fn T ht => h _ (tbl_mem ht)⟩
end Go.Sh
namespace Go.Proofs.YtlfgmbbiealpoaaGreatDoor
open Go Go.Sh
/-- Itoa, by its contract (numbers of 64 bits) -/
def primI (id : FuncId) (f : FuncId) : Option (List EV → XSt → Option EV) := match Nat.beq f id with
  | true => some (fun a _ => match a with
    | [.int .i64 n] => (match decide (-9223372036854775808 ≤ n), decide (n ≤ 9223372036854775807) with | true, true => some (.str (Lib.itoa n)) | _, _ => none)
    | _ => none)
  | false => none
theorem primI_ok {w0 : World} {Q : List (Nat × BinOp × Int × Bool)} {G : List (Nat × List EV)} (T : Tab w0) : PrimOk ⟨Tryz.prog, Q, G, primI 59⟩ w0 := by
  intro f p hp v s w args vs e KK H hs he hK
  have hp' : primI 59 f = some p := hp
  unfold primI at hp'
  split at hp' <;> cases hp'
  rename_i hf
  have := Nat.eq_of_beq_eq_true hf
  subst this
  simp only at he
  split at he
  · rename_i n
    split at he <;> cases he
    rename_i h0 h1
    obtain ⟨y, q, hy, hq, rfl⟩ := shL_cons.1 hs
    rw [shL_nil] at hq; subst hq
    cases hy
    refine ⟨by kernel_rfl, (Tryz.strconv_Itoa n (of_decide_eq_true h0) (of_decide_eq_true h1) w (T _ H.below)).mono ?_⟩
    rintro e w' ⟨rfl, k, os, rfl⟩
    refine ⟨_, rfl, hK _ _ (H.grown (row := none) ⟨rfl, rfl, rfl, ?_, fun j hj _ => ?_⟩ (fun _ _ _ _ _ e => by cases e) (fun _ e => by cases e)) rfl⟩
    · simp [Sort.grow]
    · simp only [Sort.grow, World.heap_drewN]
      exact Array.getElem?_append_left hj
  · cases he
end Go.Proofs.YtlfgmbbiealpoaaGreatDoor
