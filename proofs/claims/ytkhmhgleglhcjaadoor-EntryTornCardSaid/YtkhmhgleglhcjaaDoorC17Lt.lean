/- Plain law of the check's letters: one byte that is changed turns them. Conditions: none. -/
import Derived.Test.YtkhmhgleglhcjaaDoorC17
set_option linter.unusedVariables false
set_option maxRecDepth 100000
namespace Go.Proofs.YtkhmhgleglhcjaaDoor
open Go Go.Sh

/-- the weighed sum of bytes -/
def sumW : Nat → List UInt8 → Nat
  | _, [] => 0
  | a, c :: l => c.toNat * a + sumW (a * 3 % 673) l
def wgt : Nat → Nat → Nat
  | a, 0 => a
  | a, i + 1 => wgt (a * 3 % 673) i
theorem letStep_nat {a b : Nat} (ha : a < 673) (hb : b < 673) (c : UInt8) : letStep ((a : Int), (b : Int)) c = (((a * 3 % 673 : Nat) : Int), (((b + c.toNat * a) % 673 : Nat) : Int)) := by
  have hc := c.toNat_lt
  have h1 : c.toNat * a ≤ 255 * 672 := Nat.mul_le_mul (by omega) (by omega)
  have e0 : IntKind.i64.wrap (c.toNat : Int) = c.toNat := wrap64 (by omega) (by omega)
  have e1 : IntKind.i64.wrap ((c.toNat : Int) * a) = ((c.toNat * a : Nat) : Int) := by
    rw [show ((c.toNat : Int) * a) = ((c.toNat * a : Nat) : Int) by simp]
    exact wrap64 (by omega) (by omega)
  have e2 : IntKind.i64.wrap ((b : Int) + ((c.toNat * a : Nat) : Int)) = ((b + c.toNat * a : Nat) : Int) := by
    rw [show ((b : Int) + ((c.toNat * a : Nat) : Int)) = ((b + c.toNat * a : Nat) : Int) by simp]
    exact wrap64 (by omega) (by omega)
  have e3 : IntKind.i64.wrap ((a : Int) * 3) = ((a * 3 : Nat) : Int) := by
    rw [show ((a : Int) * 3) = ((a * 3 : Nat) : Int) by simp]
    exact wrap64 (by omega) (by omega)
  simp only [letStep, e0, e1, e2, e3]
  rw [Int.tmod_eq_emod_of_nonneg (by omega), Int.tmod_eq_emod_of_nonneg (by omega)]
  rfl
theorem letFold_nat : ∀ (l : List UInt8) {a b : Nat}, a < 673 → b < 673 → (l.foldl letStep ((a : Int), (b : Int))).2 = (((b + sumW a l) % 673 : Nat) : Int)
  | [], a, b, ha, hb => by simp [sumW]; omega
  | c :: l, a, b, ha, hb => by
    rw [List.foldl_cons, letStep_nat ha hb, letFold_nat l (by omega) (by omega), sumW]
    congr 1
    omega
theorem letFold_B (l : List UInt8) : (letFold (B l)).2 = ((sumW 1 l % 673 : Nat) : Int) := by
  have := letFold_nat l (a := 1) (b := 0) (by omega) (by omega)
  simpa [letFold] using this
theorem let_two : ∀ m : Nat, m < 673 → (IntKind.u8.wrap (IntKind.i64.wrap (97 + IntKind.i64.wrap (Int.tdiv (m : Int) 26)))).toNat = 97 + m / 26 ∧ (IntKind.u8.wrap (IntKind.i64.wrap (97 + Int.tmod (m : Int) 26))).toNat = 97 + m % 26 := by
  decide +kernel
theorem letters_nat (l : List UInt8) : (lettersB (B l)).data.toList = [UInt8.ofNat (97 + sumW 1 l % 673 / 26), UInt8.ofNat (97 + sumW 1 l % 673 % 26)] := by
  have h := let_two (sumW 1 l % 673) (by omega)
  unfold lettersB
  rw [letFold_B]
  simp only [bytesOf, List.foldl_cons, List.foldl_nil, h.1, h.2]
  rfl
theorem letters_inj {s t : List UInt8} (h : (lettersB (B s)).data.toList = (lettersB (B t)).data.toList) : sumW 1 s % 673 = sumW 1 t % 673 := by
  rw [letters_nat, letters_nat] at h
  simp only [List.cons.injEq, and_true] at h
  obtain ⟨h1, h2⟩ := h
  have h1 := congrArg UInt8.toNat h1
  have h2 := congrArg UInt8.toNat h2
  simp only [UInt8.toNat_ofNat'] at h1 h2
  omega
theorem sumW_set : ∀ (l : List UInt8) (a i : Nat) (c c' : UInt8), l[i]? = some c → sumW a (l.set i c') + c.toNat * wgt a i = sumW a l + c'.toNat * wgt a i
  | [], _, _, _, _, h => by simp at h
  | x :: l, a, 0, c, c', h => by
    simp at h; subst h
    simp only [List.set_cons_zero, sumW, wgt]; omega
  | x :: l, a, i + 1, c, c', h => by
    have := sumW_set l (a * 3 % 673) i c c' (by simpa using h)
    simp only [List.set_cons_succ, sumW, wgt]; omega
theorem wgt_ok : ∀ (i a : Nat), a < 673 → a ≠ 0 → wgt a i < 673 ∧ wgt a i ≠ 0
  | 0, a, h, h0 => ⟨h, h0⟩
  | i + 1, a, h, h0 => wgt_ok i (a * 3 % 673) (by omega) (by omega)
theorem cop : ∀ w : Nat, w < 673 → w ≠ 0 → Nat.gcd 673 w = 1 := by decide +kernel
theorem far {c c' w x y : Nat} (hc : c < 256) (hc' : c' < 256) (hw : w < 673) (h0 : w ≠ 0) (e : x + c * w = y + c' * w) (hm : x % 673 = y % 673) : c = c' := by
  have hg := cop w hw h0
  rcases Nat.le_total c c' with h | h
  · have e1 : c' * w = c * w + (c' - c) * w := by rw [← Nat.add_mul]; congr 1; omega
    have hd : 673 ∣ (c' - c) * w := by
      have : x = y + (c' - c) * w := by omega
      omega
    have := Nat.Coprime.dvd_of_dvd_mul_right hg hd
    omega
  · have e1 : c * w = c' * w + (c - c') * w := by rw [← Nat.add_mul]; congr 1; omega
    have hd : 673 ∣ (c - c') * w := by
      have : x + (c - c') * w = y := by omega
      omega
    have := Nat.Coprime.dvd_of_dvd_mul_right hg hd
    omega
/-- a line of which one byte is changed is none -/
theorem torn_set {t t' : List UInt8} {i : Nat} {c c' : UInt8} (hc : (signL t)[i]? = some c) (hne : c ≠ c') : (signL t).set i c' ≠ signL t' := by
  intro e
  have hl : t'.length = t.length := by
    have := congrArg List.length e
    rw [List.length_set, signL_len, signL_len] at this
    omega
  rw [signL_eq, signL_eq] at e
  rw [signL_eq] at hc
  by_cases hi : i < t.length
  · rw [List.set_append_left _ _ hi] at e
    obtain ⟨e1, e2⟩ := List.append_inj e (by rw [List.length_set, hl])
    have e2 := (List.cons.inj e2).2
    rw [List.getElem?_append_left hi] at hc
    have hs := sumW_set t 1 i c c' hc
    have hw := wgt_ok i 1 (by omega) (by omega)
    rw [e1] at hs
    have := far c.toNat_lt c'.toNat_lt hw.1 hw.2 hs (letters_inj e2).symm
    exact hne (UInt8.toNat_inj.1 this)
  · rw [List.set_append_right _ _ (by omega)] at e
    obtain ⟨e1, e2⟩ := List.append_inj e hl.symm
    subst e1
    rw [List.getElem?_append_right (by omega)] at hc
    have hj := congrArg (fun l => l[i - t.length]?) e2
    have hlt := (List.getElem?_eq_some_iff.1 hc).1
    simp only [List.getElem?_set_self hlt] at hj
    rw [hc] at hj
    exact hne (Option.some.inj hj).symm
/-- a beginning of a line is none -/
theorem torn_cut {e e' : En} {m : Nat} (h : mayN e = true) (hm : m < (lineL e).length) : (lineL e).take m ≠ lineL e' := by
  intro q
  have hl := congrArg List.length q
  rw [List.length_take, Nat.min_eq_left (by omega)] at hl
  rw [lineL] at hm
  rw [signL_len] at hm
  have h1 : (lineL e')[m - 3]? = some 124 := by
    rw [lineL, signL_len] at hl
    rw [lineL, signL_eq, List.getElem?_append_right (by omega), show m - 3 - (entT e'.k (e'.id :: e'.l)).length = 0 by omega]
    rfl
  rw [lineL, signL_len] at hl
  rw [← q, List.getElem?_take, if_pos (by omega), lineL, signL_eq, List.getElem?_append_left (by omega)] at h1
  have hm := List.mem_of_getElem? h1
  obtain ⟨-, h2, -, -⟩ := mayN_out h
  simp only [entT, joinL, List.mem_append, List.mem_flatMap, List.mem_map] at hm
  rcases hm with hm | ⟨v, ⟨n, -, rfl⟩, hv⟩
  · exact h2 hm
  · rcases List.mem_cons.1 hv with h3 | h3
    · exact absurd h3 (by decide)
    · exact itoa_no124 _ h3
end Go.Proofs.YtkhmhgleglhcjaaDoor
