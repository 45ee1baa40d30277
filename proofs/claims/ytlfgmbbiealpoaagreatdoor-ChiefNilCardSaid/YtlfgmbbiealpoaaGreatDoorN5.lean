/- Plain law of the texts of orders: what is written is read as it was. No program in sight. Conditions: none. -/
import Derived.Lib.AtoiTie
import Derived.Lib.ItoaLen
import Derived.Lib.Strings
set_option linter.unusedVariables false
set_option maxRecDepth 100000
namespace Go.Proofs.YtlfgmbbiealpoaaGreatDoor
open Go

def isD (c : UInt8) : Bool := decide (48 ≤ c.toNat) && decide (c.toNat ≤ 57)
theorem isD_dig (k : Nat) (h : k < 10) : isD (UInt8.ofNat (48 + k)) = true := by
  have : (UInt8.ofNat (48 + k)).toNat = 48 + k := by simp; omega
  simp only [isD, this]; simp; omega
theorem dec_all (u : Nat) : ∀ c ∈ Lib.decDigits u, isD c = true := by
  induction u using Nat.strongRecOn with
  | _ u ih =>
    intro c hc
    rw [Lib.decDigits] at hc
    split at hc
    · simp only [List.mem_singleton] at hc; subst hc; exact isD_dig u (by omega)
    · rcases List.mem_append.1 hc with h | h
      · exact ih (u / 10) (by omega) c h
      · simp only [List.mem_singleton] at h; subst h; exact isD_dig _ (by omega)
theorem dec_ne (u : Nat) : Lib.decDigits u ≠ [] := by
  intro h
  have := Lib.decDigits_length u
  rw [h] at this
  have := Lib.nDigits_pos u
  simp at *; omega
theorem from_app : ∀ (l : List UInt8) (acc : Nat) (m : List UInt8), Lib.decFrom acc (l ++ m) = (Lib.decFrom acc l).bind fun a => Lib.decFrom a m
  | [], acc, m => rfl
  | c :: l, acc, m => by
    simp only [List.cons_append, Lib.decFrom]
    cases Lib.digitVal c with
    | none => rfl
    | some d => exact from_app l _ m
theorem from_dec (u : Nat) : Lib.decFrom 0 (Lib.decDigits u) = some u := by
  induction u using Nat.strongRecOn with
  | _ u ih =>
    have dv : ∀ k, k < 10 → Lib.digitVal (UInt8.ofNat (48 + k)) = some k := by
      intro k hk
      have : (UInt8.ofNat (48 + k)).toNat = 48 + k := by simp; omega
      unfold Lib.digitVal
      rw [this, if_pos (by omega)]; congr 1; omega
    rw [Lib.decDigits]
    split
    · rename_i h
      simp only [Lib.decFrom, dv u h]; simp
    · rw [from_app, ih (u / 10) (by omega)]
      simp only [Option.bind, Lib.decFrom, dv (u % 10) (by omega)]
      congr 1; omega
theorem head_dec (u : Nat) : ∃ c r, Lib.decDigits u = c :: r ∧ isD c = true := by
  cases h : Lib.decDigits u with
  | nil => exact absurd h (dec_ne u)
  | cons c r => exact ⟨c, r, rfl, dec_all u c (by rw [h]; exact List.mem_cons_self ..)⟩
theorem atoi_dec (u : Nat) (h : u < 1000000000000) : Lib.atoiAll (Lib.decDigits u) = .ok (u : Int) := by
  have hl : (Lib.decDigits u).length ≤ 18 := by
    rw [Lib.decDigits_length]
    rcases Nat.lt_or_ge 18 (Lib.nDigits u) with h2 | h2
    · exfalso
      have h3 : 10 ^ 18 ≤ u := by
        have : ∀ k u, k < Lib.nDigits u → 0 < k → 10 ^ k ≤ u := by
          intro k
          induction k with
          | zero => intro u _ h; omega
          | succ k ih =>
            intro u hu _
            by_cases hs : u < 10
            · rw [Lib.nDigits_small hs] at hu; omega
            · rw [Lib.nDigits_big hs] at hu
              rw [Nat.pow_succ]
              by_cases hk : k = 0
              · subst hk; omega
              · have := ih (u / 10) (by omega) (by omega)
                omega
        exact this 18 u h2 (by omega)
      have : (10 : Nat) ^ 18 = 1000000000000000000 := by decide
      omega
    · exact h2
  rw [Lib.atoiAll_short _ hl]
  obtain ⟨c, r, e, hc⟩ := head_dec u
  have h45 : (c == 45) = false := by
    rw [beq_eq_false_iff_ne]; rintro rfl; simp [isD] at hc
  have h43 : (c == 43) = false := by
    rw [beq_eq_false_iff_ne]; rintro rfl; simp [isD] at hc
  have hd := from_dec u
  rw [e] at hd ⊢
  simp [Lib.atoi, h45, h43, Lib.decNat, hd, Lib.NumEnd.ofOption]
theorem itoa_dec {n : Int} (h0 : 0 ≤ n) : Lib.itoa n = Lib.decDigits n.toNat := by
  unfold Lib.itoa; rw [if_neg (by omega)]

/-- what Atoi answers -/
def atoiL (s : List UInt8) : Int := match Lib.atoiAll s with | .ok v => v | .range => Lib.atoiSat s | _ => 0
def atoiG (s : List UInt8) : Bool := match Lib.atoiAll s with | .ok _ => true | _ => false
theorem atoiL_bd (s : List UInt8) : -9223372036854775808 ≤ atoiL s ∧ atoiL s ≤ 9223372036854775807 := by
  unfold atoiL
  split
  · rename_i h; exact Lib.atoiAll_bounds h
  · exact Lib.atoiSat_bounds s
  · omega

/-! ### a number behind a sign -/
def numR (g s : List UInt8) : List UInt8 := Lib.trimPrefix s g
def numD (g s : List UInt8) : List UInt8 := (numR g s).takeWhile isD
def numN (g s : List UInt8) : Int := atoiL (numD g s)
def numS (g s : List UInt8) : List UInt8 := (numR g s).dropWhile isD
def numB (g s : List UInt8) : Bool := !Lib.hasPrefix s g || (!atoiG (numD g s) || !decide (Lib.itoa (numN g s) = numD g s))

theorem num_good {g s : List UInt8} (h : numB g s = false) : s = g ++ (Lib.itoa (numN g s) ++ numS g s) := by
  simp only [numB, Bool.or_eq_false_iff, Bool.not_eq_false', decide_eq_true_eq] at h
  obtain ⟨h1, h2, h3⟩ := h
  rw [h3]
  have e : numD g s ++ numS g s = numR g s := List.takeWhile_append_dropWhile
  rw [e, numR, Lib.trimPrefix, if_pos h1]
  obtain ⟨t, rfl⟩ := List.isPrefixOf_iff_prefix.1 h1
  simp

/-- it begins with no digit -/
def cold (l : List UInt8) : Prop := ∀ c r, l = c :: r → isD c = false
theorem take_dec {u : Nat} {r : List UInt8} (hr : cold r) : (Lib.decDigits u ++ r).takeWhile isD = Lib.decDigits u ∧ (Lib.decDigits u ++ r).dropWhile isD = r := by
  have : ∀ (l : List UInt8), (∀ c ∈ l, isD c = true) → (l ++ r).takeWhile isD = l ∧ (l ++ r).dropWhile isD = r := by
    intro l
    induction l with
    | nil =>
      intro _
      cases r with
      | nil => exact ⟨rfl, rfl⟩
      | cons c r =>
        have := hr c r rfl
        simp [this]
    | cons c l ih =>
      intro h
      have h1 := h c (by simp)
      have h2 := ih (fun d hd => h d (by simp [hd]))
      simp only [List.cons_append, List.takeWhile_cons, List.dropWhile_cons, h1, if_true]
      exact ⟨by rw [h2.1], h2.2⟩
  exact this _ (dec_all u)
theorem num_back {g r : List UInt8} {n : Int} (h0 : 0 ≤ n) (h1 : n < 1000000000000) (hr : cold r) : numB g (g ++ (Lib.itoa n ++ r)) = false ∧ numN g (g ++ (Lib.itoa n ++ r)) = n ∧ numS g (g ++ (Lib.itoa n ++ r)) = r := by
  have hp : Lib.hasPrefix (g ++ (Lib.itoa n ++ r)) g = true := List.isPrefixOf_iff_prefix.2 ⟨_, rfl⟩
  have eR : numR g (g ++ (Lib.itoa n ++ r)) = Lib.decDigits n.toNat ++ r := by
    rw [numR, Lib.trimPrefix, if_pos hp, List.drop_left, itoa_dec h0]
  have ht := take_dec (u := n.toNat) hr
  have eD : numD g (g ++ (Lib.itoa n ++ r)) = Lib.decDigits n.toNat := by rw [numD, eR]; exact ht.1
  have ea := atoi_dec n.toNat (by omega)
  have en : numN g (g ++ (Lib.itoa n ++ r)) = n := by
    rw [numN, eD, atoiL, ea]; simp only; omega
  refine ⟨?_, en, by rw [numS, eR]; exact ht.2⟩
  rw [numB, hp, en, eD, itoa_dec h0, atoiG, ea]
  simp

/-! ### an order's steps -/
structure Sp where
  svc : Int
  n : Int
def lSemi : List UInt8 := [59, 32]
def lStar : List UInt8 := [42]
def spT (p : Sp) : List UInt8 := lSemi ++ (Lib.itoa p.svc ++ (lStar ++ Lib.itoa p.n))
def spsT (l : List Sp) : List UInt8 := l.flatMap spT
/-- the loop of Parse: text, spoilt, steps -/
def rounds : Nat → List UInt8 → Bool → List Sp → List UInt8 × Bool × List Sp
  | 0, s, b, l => (s, b, l)
  | f + 1, s, b, l => if s ≠ [] ∧ b = false ∧ l.length ≤ 3 then
      rounds f (numS lStar (numS lSemi s)) (numB lSemi s || numB lStar (numS lSemi s)) (l ++ [⟨numN lSemi s, numN lStar (numS lSemi s)⟩])
    else (s, b, l)
theorem rounds_good : ∀ (f : Nat) (s : List UInt8) (b : Bool) (l : List Sp) {l' : List Sp}, rounds f s b l = ([], false, l') → b = false ∧ ∃ m, l' = l ++ m ∧ s = spsT m
  | 0, s, b, l, l', h => by
    simp only [rounds, Prod.mk.injEq] at h
    exact ⟨h.2.1, [], by simp [h.2.2], by simp [h.1, spsT]⟩
  | f + 1, s, b, l, l', h => by
    simp only [rounds] at h
    split at h
    · rename_i hc
      obtain ⟨h1, m, h2, h3⟩ := rounds_good f _ _ _ h
      rw [Bool.or_eq_false_iff] at h1
      have g1 := num_good h1.1
      have g2 := num_good h1.2
      refine ⟨hc.2.1, ⟨numN lSemi s, numN lStar (numS lSemi s)⟩ :: m, by simp [h2], ?_⟩
      rw [spsT, List.flatMap_cons, ← spsT, ← h3, spT]
      simp only [List.append_assoc]
      rw [← g2, ← g1]
    · simp only [Prod.mk.injEq] at h
      exact ⟨h.2.1, [], by simp [h.2.2], by simp [h.1, spsT]⟩
def fitN (n : Int) : Prop := 0 ≤ n ∧ n < 1000000000000
theorem cold_sps (m : List Sp) : cold (spsT m) := by
  intro c r h
  cases m with
  | nil => cases h
  | cons p m =>
    simp only [spsT, List.flatMap_cons, spT, lSemi, List.cons_append, List.cons.injEq] at h
    rw [← h.1]; rfl
theorem cold_cons {c : UInt8} {r : List UInt8} (h : isD c = false) : cold (c :: r) := by
  intro d s e; cases e; exact h
theorem rounds_back : ∀ (f : Nat) (m l : List Sp), m.length ≤ f → l.length + m.length ≤ 4 → (∀ p ∈ m, fitN p.svc ∧ fitN p.n) → rounds f (spsT m) false l = ([], false, l ++ m)
  | 0, m, l, h, _, _ => by
    have : m = [] := List.length_eq_zero_iff.1 (by omega)
    subst this; simp [rounds, spsT]
  | f + 1, [], l, h, _, _ => by simp [rounds, spsT]
  | f + 1, p :: m, l, h, h2, h3 => by
    have hp := h3 p (by simp)
    simp only [List.length_cons] at h h2
    have e : spsT (p :: m) = lSemi ++ (Lib.itoa p.svc ++ (lStar ++ (Lib.itoa p.n ++ spsT m))) := by
      simp [spsT, spT]
    have b1 := num_back (g := lSemi) (n := p.svc) (r := lStar ++ (Lib.itoa p.n ++ spsT m)) hp.1.1 hp.1.2 (cold_cons rfl)
    have b2 := num_back (g := lStar) (n := p.n) (r := spsT m) hp.2.1 hp.2.2 (cold_sps m)
    rw [rounds, if_pos ⟨by rw [e]; simp [lSemi], rfl, by omega⟩, e, b1.1, b1.2.1, b1.2.2, b2.1, b2.2.1, b2.2.2]
    have := rounds_back f m (l ++ [p]) (by omega) (by simp; omega) (fun q hq => h3 q (by simp [hq]))
    simpa using this

/-! ### an order -/
structure Od where
  id : Int
  item : Int
  qty : Int
  client : Int
  price : Int
  steps : List Sp
def lHash : List UInt8 := [35]
def lColon : List UInt8 := [58, 32]
def lX : List UInt8 := [120]
def lFor : List UInt8 := [32, 102, 111, 114, 32]
def lBy : List UInt8 := [32, 98, 121, 32]
def odT (o : Od) : List UInt8 := lHash ++ (Lib.itoa o.id ++ (lColon ++ (Lib.itoa o.qty ++ (lX ++ (Lib.itoa o.item ++ (lFor ++ (Lib.itoa o.price ++ (lBy ++ (Lib.itoa o.client ++ spsT o.steps)))))))))
/-- what Parse finds ahead of its last test: text, spoilt, order -/
def parseR (s : List UInt8) : List UInt8 × Bool × Od :=
  let s1 := numS lHash s
  let s2 := numS lColon s1
  let s3 := numS lX s2
  let s4 := numS lFor s3
  let s5 := numS lBy s4
  let r := rounds 4 s5 (((((numB lHash s) || numB lColon s1) || numB lX s2) || numB lFor s3) || numB lBy s4) []
  (r.1, r.2.1, ⟨numN lHash s, numN lX s2, numN lColon s1, numN lBy s4, numN lFor s3, r.2.2⟩)
theorem parse_good {s : List UInt8} {o : Od} (h : parseR s = ([], false, o)) : s = odT o := by
  simp only [parseR, Prod.mk.injEq] at h
  obtain ⟨h1, h2, h3⟩ := h
  subst h3
  have h4 := rounds_good 4 _ _ [] (l' := _) (Prod.ext h1 (Prod.ext h2 rfl))
  obtain ⟨hb, m, hm, hs⟩ := h4
  simp only [Bool.or_eq_false_iff] at hb
  obtain ⟨⟨⟨⟨b1, b2⟩, b3⟩, b4⟩, b5⟩ := hb
  have g1 := num_good b1
  have g2 := num_good b2
  have g3 := num_good b3
  have g4 := num_good b4
  have g5 := num_good b5
  simp only [List.nil_append] at hm
  simp only [odT, hm]
  rw [← hs, ← g5, ← g4, ← g3, ← g2, ← g1]
def Od.fit (o : Od) : Prop := fitN o.id ∧ fitN o.item ∧ fitN o.qty ∧ fitN o.client ∧ fitN o.price ∧ o.steps.length ≤ 4 ∧ ∀ p ∈ o.steps, fitN p.svc ∧ fitN p.n
theorem parse_back {o : Od} (h : o.fit) : parseR (odT o) = ([], false, o) := by
  obtain ⟨h1, h2, h3, h4, h5, h6, h7⟩ := h
  have b5 := num_back (g := lBy) (r := spsT o.steps) h4.1 h4.2 (cold_sps _)
  have b4 := num_back (g := lFor) (r := lBy ++ (Lib.itoa o.client ++ spsT o.steps)) h5.1 h5.2 (cold_cons rfl)
  have b3 := num_back (g := lX) (r := lFor ++ (Lib.itoa o.price ++ (lBy ++ (Lib.itoa o.client ++ spsT o.steps)))) h2.1 h2.2 (cold_cons rfl)
  have b2 := num_back (g := lColon) (r := lX ++ (Lib.itoa o.item ++ (lFor ++ (Lib.itoa o.price ++ (lBy ++ (Lib.itoa o.client ++ spsT o.steps)))))) h3.1 h3.2 (cold_cons rfl)
  have b1 := num_back (g := lHash) (r := lColon ++ (Lib.itoa o.qty ++ (lX ++ (Lib.itoa o.item ++ (lFor ++ (Lib.itoa o.price ++ (lBy ++ (Lib.itoa o.client ++ spsT o.steps)))))))) h1.1 h1.2 (cold_cons rfl)
  have r := rounds_back 4 o.steps [] h6 (by simpa using h6) h7
  simp only [parseR, odT, b1.1, b1.2.1, b1.2.2, b2.1, b2.2.1, b2.2.2, b3.1, b3.2.1, b3.2.2, b4.1, b4.2.1, b4.2.2, b5.1, b5.2.1, b5.2.2, Bool.or_false, r, List.nil_append]
end Go.Proofs.YtlfgmbbiealpoaaGreatDoor
