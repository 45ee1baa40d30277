/- Plain law of the texts of entries: words, numerals, what is written is read as it was. No program in sight. Conditions: none. -/
import Derived.Test.YtcfmnoimehcfnaaGreatDoorN5
import Derived.Lib.Bytealg
set_option linter.unusedVariables false
set_option maxRecDepth 100000
namespace Go.Proofs.YtcfmnoimehcfnaaGreatDoor
open Go

/-! ### words -/
def wordsL : List UInt8 → List (List UInt8)
  | [] => [[]]
  | c :: l => if c = 32 then [] :: wordsL l else (match wordsL l with | w :: ws => (c :: w) :: ws | [] => [[c]])
theorem words_ne (l : List UInt8) : wordsL l ≠ [] := by
  cases l with
  | nil => simp [wordsL]
  | cons c l =>
    simp only [wordsL]
    split
    · simp
    · split <;> simp
def joinL : List (List UInt8) → List UInt8
  | [] => []
  | w :: ws => w ++ ws.flatMap fun v => 32 :: v
theorem join_words : ∀ (l : List UInt8), joinL (wordsL l) = l
  | [] => rfl
  | c :: l => by
    have ih := join_words l
    simp only [wordsL]
    split
    · rename_i hc
      subst hc
      cases h : wordsL l with
      | nil => exact absurd h (words_ne l)
      | cons w ws =>
        rw [h] at ih
        simp only [joinL, List.nil_append, List.flatMap_cons, List.cons_append] at ih ⊢
        rw [ih]
    · cases h : wordsL l with
      | nil => exact absurd h (words_ne l)
      | cons w ws =>
        rw [h] at ih
        simp only [joinL, List.cons_append] at ih ⊢
        rw [ih]
theorem words_one : ∀ (w : List UInt8), 32 ∉ w → wordsL w = [w]
  | [], _ => rfl
  | c :: w, h => by
    simp only [List.mem_cons, not_or] at h
    simp only [wordsL, if_neg (Ne.symm h.1), words_one w h.2]
theorem words_cut : ∀ (w r : List UInt8), 32 ∉ w → wordsL (w ++ 32 :: r) = w :: wordsL r
  | [], r, _ => by simp [wordsL]
  | c :: w, r, h => by
    simp only [List.mem_cons, not_or] at h
    simp only [List.cons_append, wordsL, if_neg (Ne.symm h.1), words_cut w r h.2]
theorem words_join : ∀ (w : List UInt8) (ws : List (List UInt8)), 32 ∉ w → (∀ v ∈ ws, 32 ∉ v) → wordsL (joinL (w :: ws)) = w :: ws
  | w, [], h, _ => by simpa [joinL] using words_one w h
  | w, v :: ws, h, hv => by
    have ih := words_join v ws (hv v (by simp)) (fun u hu => hv u (by simp [hu]))
    have e : joinL (w :: v :: ws) = w ++ 32 :: joinL (v :: ws) := by simp [joinL]
    rw [e, words_cut w _ h, ih]
theorem idx_none : ∀ (l : List UInt8), Lib.indexByte l 32 = -1 → 32 ∉ l
  | [], _ => by simp
  | c :: l, h => by
    simp only [Lib.indexByte] at h
    split at h
    · omega
    · rename_i hc
      split at h
      · rename_i h2
        have := idx_none l (by simpa using h2)
        simp only [List.mem_cons, not_or]
        exact ⟨fun e => hc (by subst e; simp), this⟩
      · rename_i h2
        have hge : ∀ l : List UInt8, -1 ≤ Lib.indexByte l 32 := by
          intro l
          induction l with
          | nil => simp [Lib.indexByte]
          | cons b l ih => simp only [Lib.indexByte]; split <;> (try split) <;> omega
        have := hge l
        simp at h2
        omega
theorem idx_ge : ∀ (l : List UInt8), -1 ≤ Lib.indexByte l 32
  | [] => by simp [Lib.indexByte]
  | b :: l => by have := idx_ge l; simp only [Lib.indexByte]; split <;> (try split) <;> omega
theorem idx_some : ∀ (l : List UInt8) (i : Nat), Lib.indexByte l 32 = (i : Int) → i < l.length ∧ 32 ∉ l.take i ∧ l = l.take i ++ 32 :: l.drop (i + 1)
  | [], i, h => by simp only [Lib.indexByte] at h; omega
  | c :: l, i, h => by
    simp only [Lib.indexByte] at h
    split at h
    · rename_i hc
      have hi : i = 0 := by omega
      subst hi
      simp at hc
      subst hc
      simp
    · rename_i hc
      split at h
      · omega
      · obtain ⟨k, rfl⟩ : ∃ k, i = k + 1 := by
          have := idx_ge l
          rename_i h2
          simp at h2
          exact ⟨i - 1, by omega⟩
        obtain ⟨h1, h2, h3⟩ := idx_some l k (by omega)
        refine ⟨by simp; omega, ?_, ?_⟩
        · simp only [List.take_succ_cons, List.mem_cons, not_or]
          exact ⟨fun e => hc (by subst e; simp), h2⟩
        · simp only [List.take_succ_cons, List.drop_succ_cons, List.cons_append]
          rw [← h3]
theorem words_idx {l : List UInt8} {i : Nat} (h : Lib.indexByte l 32 = (i : Int)) : i < l.length ∧ wordsL l = l.take i :: wordsL (l.drop (i + 1)) := by
  obtain ⟨h1, h2, h3⟩ := idx_some l i h
  refine ⟨h1, ?_⟩
  have := words_cut _ (l.drop (i + 1)) h2
  rw [← h3] at this
  exact this
theorem words_idx0 {l : List UInt8} (h : Lib.indexByte l 32 = -1) : wordsL l = [l] := words_one l (idx_none l h)

/-! ### numerals -/
theorem dec_len (u : Nat) (h : u < 10000000000) : (Lib.decDigits u).length ≤ 10 := by
  rw [Lib.decDigits_length]
  rcases Nat.lt_or_ge 10 (Lib.nDigits u) with h2 | h2
  · exfalso
    have : ∀ k u, k < Lib.nDigits u → 0 < k → 10 ^ k ≤ u := by
      intro k
      induction k with
      | zero => intro u _ h; omega
      | succ k ih =>
        intro u hu _
        by_cases hs : u < 10
        · rw [Lib.nDigits_small hs] at hu; omega
        · rw [Lib.nDigits_big hs] at hu
          rw [Nat.pow_succ]
          by_cases hk : k = 0
          · subst hk; omega
          · have := ih (u / 10) (by omega) (by omega)
            omega
    have h3 := this 10 u h2 (by omega)
    have : (10 : Nat) ^ 10 = 10000000000 := by decide
    omega
  · exact h2
def smallN (n : Int) : Prop := -1000000000 ≤ n ∧ n ≤ 1000000000
theorem itoa_parts {n : Int} : (0 ≤ n ∧ Lib.itoa n = Lib.decDigits n.toNat) ∨ (n < 0 ∧ Lib.itoa n = 45 :: Lib.decDigits n.natAbs) := by
  unfold Lib.itoa
  split
  · exact .inr ⟨by assumption, rfl⟩
  · exact .inl ⟨by omega, rfl⟩
theorem itoa_len11 {n : Int} (h : smallN n) : (Lib.itoa n).length ≤ 11 := by
  unfold smallN at h
  rcases itoa_parts (n := n) with ⟨h1, e⟩ | ⟨h1, e⟩
  · rw [e]; have := dec_len n.toNat (by omega); omega
  · rw [e, List.length_cons]; have := dec_len n.natAbs (by omega); omega
theorem itoa_no32 (n : Int) : 32 ∉ Lib.itoa n := by
  have hd : ∀ u, 32 ∉ Lib.decDigits u := fun u h => by
    have := dec_all u 32 h
    simp [isD] at this
  rcases itoa_parts (n := n) with ⟨h1, e⟩ | ⟨h1, e⟩
  · rw [e]; exact hd _
  · rw [e]; simp only [List.mem_cons, not_or]; exact ⟨by decide, hd _⟩
theorem itoa_no124 (n : Int) : 124 ∉ Lib.itoa n := by
  have hd : ∀ u, 124 ∉ Lib.decDigits u := fun u h => by
    have := dec_all u 124 h
    simp [isD] at this
  rcases itoa_parts (n := n) with ⟨h1, e⟩ | ⟨h1, e⟩
  · rw [e]; exact hd _
  · rw [e]; simp only [List.mem_cons, not_or]; exact ⟨by decide, hd _⟩
theorem atoi_itoa {n : Int} (h : smallN n) : Lib.atoiAll (Lib.itoa n) = .ok n := by
  have hl := itoa_len11 h
  unfold smallN at h
  rcases itoa_parts (n := n) with ⟨h1, e⟩ | ⟨h1, e⟩
  · rw [e, atoi_dec n.toNat (by omega)]; congr 1; omega
  · rw [Lib.atoiAll_short _ (by omega), e]
    have hd := from_dec n.natAbs
    have hne := dec_ne n.natAbs
    have : Lib.decNat (Lib.decDigits n.natAbs) = some n.natAbs := by
      unfold Lib.decNat
      rw [if_neg (by simpa using hne)]; exact hd
    simp only [Lib.atoi, beq_self_eq_true, if_true, this, Option.map_some, Lib.NumEnd.ofOption]
    congr 1; omega
def isNum (w : List UInt8) : Bool := atoiG w && decide (Lib.itoa (atoiL w) = w)
theorem isNum_itoa {n : Int} (h : smallN n) : isNum (Lib.itoa n) = true ∧ atoiL (Lib.itoa n) = n := by
  have e := atoi_itoa h
  have e2 : atoiL (Lib.itoa n) = n := by simp [atoiL, e]
  exact ⟨by simp [isNum, atoiG, e, e2], e2⟩

/-! ### an entry's text and its reading -/
def entT (k : List UInt8) (l : List Int) : List UInt8 := joinL (k :: l.map Lib.itoa)
/-- what the words give: kind, id, numbers -/
def readW : List (List UInt8) → Option (List UInt8 × Int × List Int)
  | k :: a :: r => if (a :: r).all isNum = true then some (k, atoiL a, r.map atoiL) else none
  | _ => none
theorem readW_back {k : List UInt8} {id : Int} {l : List Int} (hk : 32 ∉ k) (hid : smallN id) (hl : ∀ n ∈ l, smallN n) : readW (wordsL (entT k (id :: l))) = some (k, id, l) := by
  rw [entT, words_join _ _ hk (fun v hv => by
    obtain ⟨n, -, rfl⟩ := List.mem_map.1 hv
    exact itoa_no32 n)]
  simp only [List.map_cons, readW]
  rw [if_pos]
  · rw [(isNum_itoa hid).2]
    congr 2
    have : (l.map Lib.itoa).map atoiL = l := by
      rw [List.map_map]
      exact (List.map_congr_left (g := _root_.id) fun n hn => (isNum_itoa (hl n hn)).2).trans (List.map_id l)
    rw [this]
  · rw [List.all_eq_true]
    intro w hw
    rcases List.mem_cons.1 hw with rfl | hw
    · exact (isNum_itoa hid).1
    · obtain ⟨n, hn, rfl⟩ := List.mem_map.1 hw
      exact (isNum_itoa (hl n hn)).1
theorem readW_good {t k : List UInt8} {id : Int} {l : List Int} (h : readW (wordsL t) = some (k, id, l)) : t = entT k (id :: l) := by
  cases e : wordsL t with
  | nil => exact absurd e (words_ne t)
  | cons a ws =>
    cases ws with
    | nil => rw [e] at h; cases h
    | cons b r =>
      rw [e] at h
      simp only [readW] at h
      split at h
      · rename_i hall
        injection h with h
        injection h with h1 h2
        injection h2 with h2 h3
        subst h1 h2 h3
        have := join_words t
        rw [e] at this
        rw [← this, entT]
        congr 2
        rw [List.all_eq_true] at hall
        have hn : ∀ w ∈ b :: r, Lib.itoa (atoiL w) = w := fun w hw => by
          have := hall w hw
          simp only [isNum, Bool.and_eq_true, decide_eq_true_eq] at this
          exact this.2
        rw [List.map_cons, List.map_map, hn b (by simp)]
        congr 1
        exact ((List.map_congr_left (g := _root_.id) fun w hw => hn w (by simp [hw])).trans (List.map_id r)).symm
      · cases h
end Go.Proofs.YtcfmnoimehcfnaaGreatDoor
