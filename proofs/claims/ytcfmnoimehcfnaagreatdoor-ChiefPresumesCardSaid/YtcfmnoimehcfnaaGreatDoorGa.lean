/- Arrays as a whole, and slices of rows of ints. Conditions: none. -/
import Derived.Test.YtcfmnoimehcfnaaGreatDoorAu
set_option linter.unusedVariables false
namespace Go.Sh
open Go Go.RowKit
section
variable {w0 w : World} {hs : List Hp}
theorem setCells_holds {k : Nat} {e : TypeId} : ∀ (vs pre old : List Value) {w : World}, old.length = vs.length → vs.all (·.oneCell') = true → Holds w0 ([(k, .cells (pre ++ old).toArray e (0, 0))] :: hs) w → Holds w0 ([(k, .cells (pre ++ vs).toArray e (0, 0))] :: hs) (w.setCells k pre.length vs)
  | [], pre, old, w, hl, _, H => by
    have : old = [] := by simpa using hl
    subst this; exact H
  | v :: vs, pre, [], w, hl, _, H => by simp at hl
  | v :: vs, pre, u :: old, w, hl, h1, H => by
    simp only [List.all_cons, Bool.and_eq_true] at h1
    have h2 : Holds w0 ([(k, .cells ((pre ++ u :: old).toArray.setIfInBounds pre.length v) e (0, 0))] :: hs) (w.setCell ⟨k, pre.length, none⟩ v) :=
      (st_h (K := Holds w0 ([(k, .cells ((pre ++ u :: old).toArray.setIfInBounds pre.length v) e (0, 0))] :: hs)) 0 H rfl h1.1 (u := u) (by simp) (fun w' H' => H')).2.2.2
    have e1 : (pre ++ u :: old).toArray.setIfInBounds pre.length v = ((pre ++ [v]) ++ old).toArray := by simp
    rw [e1] at h2
    have h3 := setCells_holds vs (pre ++ [v]) old (by simpa using hl) h1.2 h2
    rw [World.setCells]
    have e2 : (pre ++ [v]).length = pre.length + 1 := by simp
    have e3 : pre ++ [v] ++ vs = pre ++ v :: vs := by simp
    rw [e2, e3] at h3
    exact h3
theorem stN_h {k n : Nat} {old vs : List Value} {e : TypeId} {K : World → Prop} (H : Holds w0 ([(k, .cells old.toArray e (0, 0))] :: hs) w) (h1 : old.length = n) (h2 : vs.length = n) (h3 : vs.all (·.oneCell') = true)
    (hk : ∀ w', Holds w0 ([(k, .cells vs.toArray e (0, 0))] :: hs) w' → K w') : stN ⟨k, 0, none⟩ n vs.toArray K w := by
  refine ⟨by simpa using h2, rfl, fun j hj => ?_, by simpa using h3, hk _ ?_⟩
  · have hm := H.mem 0 rfl
    simp only [Nat.zero_add]
    refine ⟨?_, by simp [World.frozen?, hm]⟩
    simp [World.cell?, hm, h1, hj]
  · simpa using setCells_holds vs [] old (by omega) h3 (by simpa using H)
theorem ldN_h (i : Nat) {k n : Nat} {l : List Value} {e : TypeId} {z : Nat × Nat} {K : List Value → World → Prop} (H : Holds w0 hs w) (hi : hs[i]? = some [(k, .cells l.toArray e z)]) (hl : l.length = n) (hk : K l w) : ldN ⟨k, 0, none⟩ n K w := by
  refine ⟨l, hl, fun j v hv => ?_, hk⟩
  rw [Addr.add_lit]
  simp [World.cell?, H.mem i hi, hv]
theorem arAt_h {k n : Nat} {i : Int} {K : Addr → World → Prop} (h0 : 0 ≤ i) (h1 : i < (n : Int)) (hk : K ⟨k, i.toNat, none⟩ w) : arAt ⟨k, 0, none⟩ n i 1 K w := by
  refine ⟨h0, h1, ?_⟩
  rw [Addr.add_lit, Nat.zero_add, Nat.mul_one]
  exact hk
theorem slAt_i {S : World → Prop} {p : Option Addr} {n z : Nat} {ms : List Int} {i : Int} {K : Addr → World → Prop} (h : Sl S p n z (ms.map (Value.int .i64))) (h0 : 0 ≤ i) (h1 : i < (n : Int))
    (hk : ∀ (b o : Nat) (q : List Int), q.length = z → (∀ (j : Nat) (m : Int) (w' : World) (K' : KV), q[j]? = some m → S w' → K' (Value.int .i64 m) w' → ld ⟨b, o + j, none⟩ K' w') → K ⟨b, o, none⟩ w) : slAt p n i z K w := by
  have hl := h.len
  rw [List.length_map] at hl
  have hz : i.toNat * z + z ≤ n * z := by
    have : (i.toNat + 1) * z ≤ n * z := Nat.mul_le_mul_right z (by omega)
    rw [Nat.add_mul, Nat.one_mul] at this
    exact this
  refine slAt_s h h0 h1 (fun b o hp => hk b (o + i.toNat * z) ((ms.drop (i.toNat * z)).take z) ?_ ?_)
  · rw [List.length_take, List.length_drop]; omega
  · intro j m w' K' hj hS hK
    have hj' : ms[i.toNat * z + j]? = some m := by
      rw [List.getElem?_take] at hj
      split at hj
      · rwa [List.getElem?_drop] at hj
      · cases hj
    rw [Nat.add_assoc]
    exact ldS_s h hp hS (by rw [List.getElem?_map, hj']; rfl) hK
theorem ten {q : List Int} (h : q.length = 10) : ∃ a0 a1 a2 a3 a4 a5 a6 a7 a8 a9, q = [a0, a1, a2, a3, a4, a5, a6, a7, a8, a9] := by
  match q, h with
  | [a0, a1, a2, a3, a4, a5, a6, a7, a8, a9], _ => exact ⟨a0, a1, a2, a3, a4, a5, a6, a7, a8, a9, rfl⟩
end
end Go.Sh
