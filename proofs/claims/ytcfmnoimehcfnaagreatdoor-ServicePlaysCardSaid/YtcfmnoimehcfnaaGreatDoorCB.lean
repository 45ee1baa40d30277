/- Bytes of strings given as lists; a shorter slice. Conditions: none. -/
import Derived.Test.YtcfmnoimehcfnaaGreatDoorC17
set_option linter.unusedVariables false
set_option maxRecDepth 100000
namespace Go.Proofs.YtcfmnoimehcfnaaGreatDoor
open Go Go.Sh

theorem B_get (t : List UInt8) (n : Nat) : (B t)[n]? = t[n]? := by
  by_cases h : n < t.length
  · rw [getElem?_pos (B t) n (by rw [B_size]; exact h), getElem?_pos t n h]
    simp [B, ByteArray.getElem_eq_getElem_data]
  · rw [getElem?_neg (B t) n (by rw [B_size]; exact h), getElem?_neg t n h]
theorem strAt_B {t : List UInt8} {i : Int} {K : UInt8 → World → Prop} {w : World} (h0 : 0 ≤ i) (h1 : i < t.length) (k : ∀ c, t[i.toNat]? = some c → K c w) : strAt (B t) i K w := by
  have h : i.toNat < t.length := by omega
  have e := getElem?_pos t i.toNat h
  exact ⟨_, h0, by rw [B_get, e], k _ e⟩
theorem Sl.take {S : World → Prop} {p : Option Addr} {n : Nat} {vals : List Value} (h : Sl S p n 1 vals) (m : Nat) (hm : m ≤ n) : Sl S p m 1 (vals.take m) := by
  refine ⟨by rw [List.length_take]; have := h.len; omega, fun e => by have := h.no e; omega, fun a ha => ⟨(h.yes a ha).1.imp (fun h0 => by omega) fun h0 => h0, fun j v hv w hw => ?_⟩⟩
  refine (h.yes a ha).2 j v ?_ w hw
  rw [List.getElem?_take] at hv
  split at hv
  · exact hv
  · cases hv
end Go.Proofs.YtcfmnoimehcfnaaGreatDoor
