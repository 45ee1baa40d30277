/- Slices of rows of any values. Conditions: none. -/
import Derived.Test.YtcfmnoimehcfnaaGreatDoorGa
set_option linter.unusedVariables false
namespace Go.Sh
open Go Go.RowKit
section
variable {w0 w : World} {hs : List Hp}
theorem flat_get {α : Type} {f : α → List Value} {z : Nat} (hf : ∀ a, (f a).length = z) : ∀ (l : List α) (i j : Nat) (a : α), l[i]? = some a → j < z → (l.flatMap f)[i * z + j]? = (f a)[j]?
  | [], i, j, a, h, _ => by simp at h
  | b :: l, 0, j, a, h, hj => by
    simp only [List.getElem?_cons_zero, Option.some.injEq] at h
    subst h
    rw [List.flatMap_cons, Nat.zero_mul, Nat.zero_add, List.getElem?_append_left (by rw [hf]; exact hj)]
  | b :: l, i + 1, j, a, h, hj => by
    simp only [List.getElem?_cons_succ] at h
    rw [List.flatMap_cons, List.getElem?_append_right (by rw [hf, Nat.add_mul]; omega), hf, show (i + 1) * z + j - z = i * z + j by rw [Nat.add_mul]; omega]
    exact flat_get hf l i j a h hj
theorem slAt_f {S : World → Prop} {p : Option Addr} {n z : Nat} {α : Type} {f : α → List Value} {l : List α} {i : Int} {K : Addr → World → Prop} (hf : ∀ a, (f a).length = z) (hz : 0 < z) (h : Sl S p n z (l.flatMap f)) (h0 : 0 ≤ i) (h1 : i < (n : Int))
    (hk : ∀ (b o : Nat) (a : α), (∀ (j : Nat) (v : Value) (w' : World) (K' : KV), j < z → (f a)[j]? = some v → S w' → K' v w' → ld ⟨b, o + j, none⟩ K' w') → K ⟨b, o, none⟩ w) : slAt p n i z K w := by
  have hl := h.len
  have hfl : ∀ l : List α, (l.flatMap f).length = l.length * z := by
    intro l
    induction l with
    | nil => simp
    | cons a l ih => rw [List.flatMap_cons, List.length_append, ih, hf, List.length_cons, Nat.add_mul]; omega
  rw [hfl] at hl
  have hln : l.length = n := Nat.eq_of_mul_eq_mul_right hz hl
  have hi : i.toNat < l.length := by omega
  refine slAt_s h h0 h1 (fun b o hp => hk b (o + i.toNat * z) l[i.toNat] (fun j v w' K' hjz hj hS hK => ?_))
  rw [Nat.add_assoc]
  refine ldS_s h hp hS ?_ hK
  rw [flat_get hf l i.toNat j _ (List.getElem?_eq_getElem hi) hjz]
  exact hj
theorem set_self {α : Type} : ∀ {l : List α} {j : Nat} {y : α}, l[j]? = some y → l.set j y = l
  | [], j, y, h => by simp at h
  | a :: l, 0, y, h => by simp at h; simp [h]
  | a :: l, j + 1, y, h => by
    simp only [List.getElem?_cons_succ] at h
    rw [List.set_cons_succ, set_self h]
end
end Go.Sh
