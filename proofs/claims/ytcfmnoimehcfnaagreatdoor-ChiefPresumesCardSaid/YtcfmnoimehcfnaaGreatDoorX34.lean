/- ChiefAnswers: what the chief does, plain. Conditions: none. -/
import Derived.Test.YtcfmnoimehcfnaaGreatDoorX30
set_option linter.unusedVariables false
set_option linter.unusedSimpArgs false
set_option maxRecDepth 100000
namespace Go.Proofs.YtcfmnoimehcfnaaGreatDoor
open Go Go.Sh

theorem playC_other {L : Int → Option Ld} {e : CE} {i : Int} (h : i ≠ e.id) : playC L e i = L i := by
  unfold playC
  split
  · simp [updI, h]
  · cases L e.id with
    | none => rfl
    | some x => simp [updI, h]
theorem runC_other {i : Int} : ∀ {es : List CE} {L : Int → Option Ld}, (∀ e ∈ es, i ≠ e.id) → L i = none → (es.foldl playC L) i = none
  | [], L, _, h => h
  | e :: es, L, he, h => by
    simp only [List.foldl_cons]
    exact runC_other (fun x hx => he x (List.mem_cons_of_mem _ hx)) (by rw [playC_other (he e (List.mem_cons_self ..))]; exact h)
theorem startStep_none {P : CP} {s : CS} {id i : Int} (h : s.L i = none) : (startStep P s id).L i = none := by
  unfold startStep
  split
  · exact h
  · rename_i x hx
    have hne : i ≠ id := fun e => by rw [e, hx] at h; cases h
    have hL : (if overF x.o x.f = true then s else hangC P s id).L i = none := by split <;> exact h
    simp only
    split
    · cases hs : suresC P (if overF x.o x.f = true then s else hangC P s id) [⟨7, id, []⟩] with
      | none => exact hL
      | some s' =>
        show s'.L i = none
        rw [sures_L hs]
        show (playC _ ⟨7, id, []⟩) i = none
        rw [playC_other hne]; exact hL
    · exact hL
theorem startC_other {P : CP} {es : List CE} {i : Int} (h : runC es i = none) : (startC P es).L i = none := by
  unfold startC
  generalize idsC (runC es) = l
  have key : ∀ (l : List Int) (t : CS), t.L i = none → (l.foldl (startStep P) t).L i = none := fun l => by
    induction l with
    | nil => exact fun t h => h
    | cons a r ih => exact fun t h => ih _ (startStep_none h)
  exact key l _ h
def oA : Od := ⟨5, 0, 1, 0, 1, []⟩
def PA : CP := ⟨3, 100, 3⟩
def aA (f id : Int) : Mg := ⟨12, f, 0, id, 0, 0, 0⟩
def A1 : CS := (beginC PA CS.zero oA).1
def A2y : CS := (handleC PA A1 ⟨7, 1, 0, 5, 0, 0, 0⟩).1
def A20 : CS := (handleC PA A2y ⟨7, 2, 0, 5, 0, 0, 0⟩).1
def A21 : CS := (cancelC PA A1 5).1
def A22 : CS := (handleC PA A1 ⟨8, 2, 0, 5, 0, 0, 0⟩).1
theorem inv1 : CInv A1 := CInv.zero.prims (begin_P PA CS.zero oA)
theorem inv2y : CInv A2y := inv1.prims (handle_P inv1.good _)
theorem inv20 : CInv A20 := inv2y.prims (handle_P inv2y.good _)
theorem inv21 : CInv A21 := inv1.prims (cancel_P PA A1 5)
theorem inv22 : CInv A22 := inv1.prims (handle_P inv1.good _)
theorem ask_h (P : CP) (s : CS) (f id : Int) : handleC P s (aA f id) = (s, tellsC s (aA f id)) := by
  unfold handleC aA; simp
theorem ask1 {f : Int} (h : f = 1 ∨ f = 2) : tellsC A1 (aA f 5) = [] := by
  rcases h with rfl | rfl <;> kernel_rfl
def esA (k : Int) : List CE := [⟨1, 5, [0, 1, 0, 1]⟩, ⟨3, 5, []⟩, ⟨k, 5, []⟩]
theorem es20 : A20.es.take A20.sure = esA 6 := by kernel_rfl
theorem es21 : A21.es.take A21.sure = esA 7 := by kernel_rfl
theorem es22 : A22.es.take A22.sure = esA 7 := by kernel_rfl
theorem le20 : A20.sure ≤ A20.es.length := by decide +kernel
theorem askY {f : Int} (h : f = 1 ∨ f = 2) : tellsC (startC PA (esA 6)) (aA f 5) = [⟨13, 0, f, 5, 0, 0, 0⟩] := by
  rcases h with rfl | rfl <;> kernel_rfl
theorem askN {f : Int} (h : f = 1 ∨ f = 2) : tellsC (startC PA (esA 7)) (aA f 5) = [⟨14, 0, f, 5, 0, 0, 0⟩] := by
  rcases h with rfl | rfl <;> kernel_rfl
theorem askO {f id k : Int} (h : f = 1 ∨ f = 2) (hi : id ≠ 5) : tellsC (startC PA (esA k)) (aA f id) = [⟨14, 0, f, id, 0, 0, 0⟩] := by
  have hn : (startC PA (esA k)).L id = none := startC_other (runC_other (fun e he => by
    unfold esA at he
    simp only [List.mem_cons, List.not_mem_nil, or_false] at he
    rcases he with rfl | rfl | rfl <;> exact hi) rfl)
  unfold tellsC aA
  simp only [hn]
  rcases h with rfl | rfl <;> rfl
end Go.Proofs.YtcfmnoimehcfnaaGreatDoor
