/- ChiefRoom: what the chief does, plain. Conditions: none. -/
import Derived.Test.YtcfmnoimehcfnaaGreatDoorX31
import Derived.Test.YtcfmnoimehcfnaaGreatDoorXE
set_option linter.unusedVariables false
set_option linter.unusedSimpArgs false
set_option maxRecDepth 100000
namespace Go.Proofs.YtcfmnoimehcfnaaGreatDoor
open Go Go.Sh

def oR (i : Int) : Od := ⟨i, 0, 1, 0, 1, [⟨5, 1⟩]⟩
def LR (k : Nat) : Int → Option Ld := fun i => if 1 ≤ i ∧ i ≤ (k : Int) then some (ledN (oR i)) else none
theorem openR : ∀ k, k ≤ 10 → openN (LR k) = k := by decide +kernel
theorem idsR : ∀ k, k ≤ 10 → (idsC (LR k)).length = k := by decide +kernel
theorem upR (k : Nat) : updI (LR k) ((k : Int) + 1) (some (ledN (oR ((k : Int) + 1)))) = LR (k + 1) := by
  funext i
  unfold updI LR
  by_cases h : i = (k : Int) + 1
  · subst h; rw [if_pos rfl, if_pos ⟨by omega, by omega⟩]
  · rw [if_neg h]
    by_cases h2 : 1 ≤ i ∧ i ≤ (k : Int)
    · rw [if_pos h2, if_pos ⟨h2.1, by omega⟩]
    · rw [if_neg h2, if_neg (by omega)]
structure RoomI (s : CS) (k : Nat) : Prop where
  L : s.L = LR k
  n : s.es.length = 2 * k
theorem factR {i : Int} (hi : 1 ≤ i ∧ i ≤ 12) : asksM (nextM (ledN (oR i)).o (ledN (oR i)).f) = false ∧ stateF (oR i) (ledN (oR i)).f = 1 := by
  have : ∀ j : Nat, j < 13 → 1 ≤ j → (asksM (nextM (ledN (oR (j : Int))).o (ledN (oR (j : Int))).f) = false ∧ stateF (oR (j : Int)) (ledN (oR (j : Int))).f = 1) := by decide +kernel
  have h := this i.toNat (by omega) (by omega)
  rwa [show ((i.toNat : Nat) : Int) = i by omega] at h
theorem goesR (P : CP) (s : CS) (i : Int) (hi : 1 ≤ i ∧ i ≤ 12) (h : s.L i = some (ledN (oR i))) : (goesC P s i).1.L = s.L ∧ (goesC P s i).1.es = s.es := by
  have h1 : overF (oR i) (ledN (oR i)).f = false := by
    unfold overF
    rw [show (decide (endsF (ledN (oR i)).f = 5) || decide (endsF (ledN (oR i)).f = 6)) = false by kernel_rfl, Bool.and_false]
  have h2 : asksM (nextM (ledN (oR i)).o (ledN (oR i)).f) = false := (factR hi).1
  unfold goesC
  rw [h]
  simp only
  have h3 : overF (ledN (oR i)).o (ledN (oR i)).f = false := h1
  rw [h3]
  unfold sendsC
  have h4 : (againC P s i).L i = some (ledN (oR i)) := h
  rw [if_neg (by simp), h4]
  simp only
  rw [h2]
  simp [againC]
theorem beginR {P : CP} {s : CS} {k : Nat} {i : Int} (I0 : RoomI s k) (hk : k ≤ 10) (hi : 1 ≤ i ∧ i ≤ 12) (hki : (k : Int) < i) :
    (if (k : Int) < P.most ∧ 2 * (k : Int) + 2 ≤ P.room then (beginC P s (oR i)).2.2 = 0 ∧ (i = (k : Int) + 1 → RoomI (beginC P s (oR i)).1 (k + 1)) else beginC P s (oR i) = (s, [], 5)) := by
  have hm : mayOd (oR i) = true := by
    have : ∀ j : Nat, j < 13 → 1 ≤ j → mayOd (oR (j : Int)) = true := by decide +kernel
    have h := this i.toNat (by omega) (by omega)
    rwa [show ((i.toNat : Nat) : Int) = i by omega] at h
  have hL : s.L (oR i).id = none := by rw [I0.L]; unfold LR; exact if_neg (by show ¬ (1 ≤ i ∧ i ≤ (k : Int)); omega)
  have ho : openN s.L = k := by rw [I0.L]; exact openR k hk
  have hn : suresC P s (beginEs (oR i)) = if 2 * (k : Int) + 2 > P.room then none else some ⟨s.es ++ beginEs (oR i), (s.es ++ beginEs (oR i)).length, updI s.L i (some (ledN (oR i))), s.B⟩ := by
    unfold suresC noteC
    rw [I0.n, show ((2 * k : Nat) : Int) + ((beginEs (oR i)).length : Nat) = 2 * (k : Int) + 2 by show ((2 * k : Nat) : Int) + ((2 : Nat) : Int) = _; omega, begin_play]
    split <;> rfl
  by_cases h1 : (k : Int) ≥ P.most
  · have hb : beginC P s (oR i) = (s, [], 5) := by
      unfold beginC
      rw [hm, if_neg (by simp), hL, if_neg (by simp), ho, if_pos h1]
    rw [if_neg (by omega), hb]
  · by_cases h2 : 2 * (k : Int) + 2 > P.room
    · have hb : beginC P s (oR i) = (s, [], 5) := by
        unfold beginC
        rw [hm, if_neg (by simp), hL, if_neg (by simp), ho, if_neg h1, hn, if_pos h2]
      rw [if_neg (by omega), hb]
    · have hb : beginC P s (oR i) = ((goesC P (hangC P ⟨s.es ++ beginEs (oR i), (s.es ++ beginEs (oR i)).length, updI s.L i (some (ledN (oR i))), s.B⟩ (oR i).id) (oR i).id).1, (goesC P (hangC P ⟨s.es ++ beginEs (oR i), (s.es ++ beginEs (oR i)).length, updI s.L i (some (ledN (oR i))), s.B⟩ (oR i).id) (oR i).id).2, 0) := by
        unfold beginC
        rw [hm, if_neg (by simp), hL, if_neg (by simp), ho, if_neg h1, hn, if_neg h2]
      rw [if_pos ⟨by omega, by omega⟩, hb]
      refine ⟨rfl, fun he => ?_⟩
      simp only
      have hg := goesR P (hangC P ⟨s.es ++ beginEs (oR i), (s.es ++ beginEs (oR i)).length, updI s.L i (some (ledN (oR i))), s.B⟩ (oR i).id) i hi (by simp [hangC, updI])
      refine ⟨?_, ?_⟩
      · rw [show (oR i).id = i from rfl] at hg ⊢
        rw [hg.1]
        show updI s.L i _ = _
        rw [I0.L, he]
        exact upR k
      · rw [show (oR i).id = i from rfl] at hg ⊢
        rw [hg.2]
        show (s.es ++ beginEs (oR i)).length = _
        rw [List.length_append, I0.n]
        show 2 * k + 2 = _
        omega
theorem stateR {s : CS} {k : Nat} {i : Int} (I0 : RoomI s k) (hi : 1 ≤ i ∧ i ≤ 12) : stateC s i = if i ≤ (k : Int) then 1 else 0 := by
  unfold stateC
  rw [I0.L]
  unfold LR
  by_cases h : i ≤ (k : Int)
  · rw [if_pos ⟨hi.1, h⟩, if_pos h]
    exact (factR hi).2
  · rw [if_neg (by omega), if_neg h]
end Go.Proofs.YtcfmnoimehcfnaaGreatDoor
