/- The chief, texts put together. Conditions: none. -/
import Derived.Test.YtcfmnoimehcfnaaGreatDoorXA
set_option linter.unusedVariables false
set_option maxRecDepth 100000
set_option linter.unusedSimpArgs false
namespace Go.Proofs.YtcfmnoimehcfnaaGreatDoor
open Go Go.Sh

def tf (a b : Nat) : List Bool := List.replicate a true ++ List.replicate b false
theorem tf_len (a b : Nat) : (tf a b).length = a + b := by simp [tf]
theorem tf_get (a b i : Nat) : (tf a b).getD i false = decide (i < a) := by
  unfold tf
  rw [List.getD_eq_getElem?_getD]
  by_cases h : i < a
  · rw [List.getElem?_append_left (by simpa using h)]; simp [h]
  · rw [List.getElem?_append_right (by simpa using h)]
    rw [List.getElem?_replicate]
    split <;> simp [h]
theorem firstB_tf (a b : Nat) : firstB (tf a b) = true := by
  unfold firstB
  rw [List.all_eq_true]
  intro i hi
  unfold stepF
  rw [tf_get, tf_get]
  by_cases h : i < a
  · have : i - 1 < a := by omega
    simp [this]
  · simp [h]
theorem firstB_iff (l : List Bool) : firstB l = true ↔ ∃ a b, l = tf a b := by
  constructor
  · intro h
    unfold firstB at h
    rw [List.all_eq_true] at h
    have hs : ∀ i, i < l.length → 0 < i → l.getD i false = true → l.getD (i - 1) false = true := fun i hi h0 h1 => by
      have := h i (by simpa using hi)
      unfold stepF at this
      rw [h1] at this
      simpa [h0] using this
    have key : ∀ n, n ≤ l.length → ∃ a, a ≤ n ∧ ∀ i, i < n → l.getD i false = decide (i < a) := by
      intro n
      induction n with
      | zero => intro _; exact ⟨0, by omega, fun i hi => by omega⟩
      | succ n ih =>
        intro hn
        obtain ⟨a, ha, hg⟩ := ih (by omega)
        cases hv : l.getD n false with
        | false =>
          refine ⟨a, by omega, fun i hi => ?_⟩
          by_cases hin : i < n
          · exact hg i hin
          · have : i = n := by omega
            subst this
            rw [hv]; simp; omega
        | true =>
          refine ⟨n + 1, by omega, fun i hi => ?_⟩
          have ha' : a = n := by
            by_cases h0 : 0 < n
            · have h1 := hs n (by omega) h0 hv
              rw [hg (n - 1) (by omega)] at h1
              simp at h1; omega
            · omega
          by_cases hin : i < n
          · rw [hg i hin]; simp; omega
          · have : i = n := by omega
            subst this
            rw [hv]; simp
    obtain ⟨a, ha, hg⟩ := key l.length (Nat.le_refl _)
    refine ⟨a, l.length - a, ?_⟩
    apply List.ext_getElem?
    intro i
    by_cases hi : i < l.length
    · have h1 := hg i hi
      have h2 := tf_get a (l.length - a) i
      rw [List.getD_eq_getElem?_getD, List.getElem?_eq_getElem hi] at h1
      have hi2 : i < (tf a (l.length - a)).length := by rw [tf_len]; omega
      rw [List.getD_eq_getElem?_getD, List.getElem?_eq_getElem hi2] at h2
      rw [List.getElem?_eq_getElem hi, List.getElem?_eq_getElem hi2]
      simp only [Option.getD_some] at h1 h2
      rw [h1, h2]
    · rw [List.getElem?_eq_none (by omega), List.getElem?_eq_none (by rw [tf_len]; omega)]
  · rintro ⟨a, b, rfl⟩; exact firstB_tf a b
def ft (a b : Nat) : List Bool := List.replicate a false ++ List.replicate b true
theorem lastB_iff (l : List Bool) : lastB l = true ↔ ∃ a b, l = ft a b := by
  unfold lastB
  rw [firstB_iff]
  constructor
  · rintro ⟨a, b, h⟩
    refine ⟨b, a, ?_⟩
    have := congrArg List.reverse h
    rw [List.reverse_reverse] at this
    rw [this, tf, ft]; simp
  · rintro ⟨a, b, rfl⟩
    exact ⟨b, a, by simp [ft, tf]⟩
theorem tf_idx (a b : Nat) : (tf a b).findIdx? isNot = if b = 0 then none else some a := by
  split
  · rename_i h; subst h
    rw [List.findIdx?_eq_none_iff]
    intro x hx
    simp [tf] at hx
    simp [isNot, hx.2]
  · rename_i h
    rw [List.findIdx?_eq_some_iff_getElem]
    refine ⟨by rw [tf_len]; omega, ?_, fun j hj => ?_⟩
    · have := tf_get a b a
      rw [List.getD_eq_getElem?_getD, List.getElem?_eq_getElem (by rw [tf_len]; omega)] at this
      simp only [Option.getD_some] at this
      simp [isNot, this]
    · have := tf_get a b j
      rw [List.getD_eq_getElem?_getD, List.getElem?_eq_getElem (by rw [tf_len]; omega)] at this
      simp only [Option.getD_some] at this
      simp [isNot, this, hj]
theorem tf_set (a b : Nat) : (tf a (b + 1)).set a true = tf (a + 1) b := by
  unfold tf
  rw [List.set_append_right _ _ (by simp)]
  rw [List.length_replicate, Nat.sub_self, List.replicate_succ, List.set_cons_zero, List.replicate_succ', List.append_assoc]; rfl
theorem ft_get (a b i : Nat) (h : i < a + b) : (ft a b).getD i true = decide (a ≤ i) := by
  unfold ft
  rw [List.getD_eq_getElem?_getD]
  by_cases h1 : i < a
  · rw [List.getElem?_append_left (by simpa using h1)]; simp [h1]
  · rw [List.getElem?_append_right (by simpa using h1)]
    rw [List.getElem?_replicate]
    split <;> simp <;> omega
theorem lastNot_ft (a b : Nat) : ∀ n, n ≤ a + b → lastNot (ft a b) n = if min n a = 0 then none else some (min n a - 1)
  | 0, _ => by simp [lastNot]
  | n + 1, h => by
    simp only [lastNot]
    rw [ft_get a b n (by omega)]
    by_cases hn : a ≤ n
    · simp only [hn, decide_true, Bool.true_eq_false, if_false]
      rw [lastNot_ft a b n (by omega)]
      have : min n a = min (n + 1) a := by omega
      rw [this]
    · simp only [hn, decide_false, if_true]
      rw [if_neg (by omega)]
      congr 1; omega
theorem ft_len (a b : Nat) : (ft a b).length = a + b := by simp [ft]
theorem ft_last (a b : Nat) : lastNot (ft a b) (a + b) = if a = 0 then none else some (a - 1) := by
  rw [lastNot_ft a b _ (Nat.le_refl _)]
  have : min (a + b) a = a := by omega
  rw [this]
theorem ft_set (a b : Nat) : (ft (a + 1) b).set a true = ft a (b + 1) := by
  unfold ft
  rw [List.set_append_left _ _ (by simp)]
  have : (List.replicate (a + 1) false).set a true = List.replicate a false ++ [true] := by
    rw [List.replicate_succ', List.set_append_right _ _ (by simp)]; simp
  rw [this, List.append_assoc]
  congr 1
theorem tf_false (a b : Nat) : (tf a b).contains false = decide (b ≠ 0) := by
  unfold tf
  rw [Bool.eq_iff_iff]
  simp
theorem tf_true (a b : Nat) : (tf a b).contains true = decide (a ≠ 0) := by
  unfold tf
  rw [Bool.eq_iff_iff]
  simp
theorem ft_true (a b : Nat) : (ft a b).contains true = decide (b ≠ 0) := by
  unfold ft
  rw [Bool.eq_iff_iff]
  simp
theorem ft_false (a b : Nat) : (ft a b).contains false = decide (a ≠ 0) := by
  unfold ft
  rw [Bool.eq_iff_iff]
  simp
/-- an order that is led, in numbers: how many are done, of which so many are undone -/
structure GoodL (x : Ld) (d u : Nat) : Prop where
  o : mayOd x.o = true
  dn : d ≤ x.o.steps.length
  un : u ≤ x.o.steps.length
  done : x.f.turned = false → x.f.done = tf d (x.o.steps.length - d)
  dlen : x.f.done.length = x.o.steps.length
  undone : x.f.undone = ft (x.o.steps.length - u) u
  one : x.f.yes = true → x.f.turned = false
  asked : x.f.asked = true → x.f.turned = false → d = x.o.steps.length
  yes : x.f.yes = true → x.f.asked = true
  back : x.f.turned = false → u = 0
  ship : x.f.shipped = true → x.f.yes = true
  acks : (x.f.a0 = true ∨ x.f.a1 = true ∨ x.f.d0 = true ∨ x.f.d1 = true) → x.f.decided = true
  t : x.t.isSome = (x.f.asked && !x.f.decided)
  tt : x.t ≠ some (true, true)
theorem GoodL.may {x : Ld} {d u : Nat} (g : GoodL x d u) : mayF x.o x.f = true := by
  have hu := g.undone
  have h1 : lastB x.f.undone = true := (lastB_iff _).2 ⟨_, _, hu⟩
  have h2 : (firstB x.f.done || x.f.turned) = true := by
    cases ht : x.f.turned with
    | true => simp
    | false => rw [g.done ht, firstB_tf]; rfl
  have h3 : x.f.undone.contains true = decide (u ≠ 0) := by rw [hu, ft_true]
  have hl : x.f.undone.length = x.o.steps.length := by rw [hu, ft_len]; have := g.un; omega
  have c1 : (!(x.f.yes && x.f.turned)) = true := by
    cases hy : x.f.yes with
    | false => rfl
    | true => rw [g.one hy]; rfl
  have c2 : (!(x.f.yes && (x.f.done.contains false || (x.f.undone.contains true || !x.f.asked)))) = true := by
    cases hy : x.f.yes with
    | false => rfl
    | true =>
      have ht := g.one hy
      have ha := g.yes hy
      rw [h3, g.back ht, g.done ht, tf_false, g.asked ha ht, ha]; simp
  have c3 : (!(x.f.undone.contains true && !x.f.turned)) = true := by
    cases ht : x.f.turned with
    | true => simp
    | false => rw [h3, g.back ht]; rfl
  have c4 : (!(x.f.shipped && !x.f.yes)) = true := by
    cases hs : x.f.shipped with
    | false => rfl
    | true => rw [g.ship hs]; rfl
  have c5 : (!((x.f.a0 || x.f.a1 || (x.f.d0 || x.f.d1)) && (!x.f.yes && !x.f.turned))) = true := by
    have hk := g.acks
    unfold Fc.decided at hk
    cases hd : (x.f.a0 || x.f.a1 || (x.f.d0 || x.f.d1)) with
    | false => rfl
    | true =>
      have h : x.f.a0 = true ∨ x.f.a1 = true ∨ x.f.d0 = true ∨ x.f.d1 = true := by
        simp only [Bool.or_eq_true] at hd
        rcases hd with (h | h) | (h | h)
        · exact .inl h
        · exact .inr (.inl h)
        · exact .inr (.inr (.inl h))
        · exact .inr (.inr (.inr h))
      have := hk h
      rw [Bool.or_eq_true] at this
      rcases this with h | h <;> rw [h] <;> simp
  unfold mayF
  rw [g.o, h1, h2, hl, g.dlen, c1, c2, c3, c4, c5]
  simp
/-- an entry that the chief may note of such an order -/
def evOk (x : Ld) (k n : Int) : Prop :=
  (k = 3 ∧ x.f.asked = false ∧ x.f.decided = false ∧ firstNot x.f.done = none) ∨ (k = 4 ∧ x.f.asked = false ∧ x.f.decided = false ∧ idx isNot x.f.done = n ∧ 0 ≤ n) ∨
  (k = 5 ∧ x.f.turned = true ∧ lastI x.f.undone = n ∧ 0 ≤ n) ∨ (k = 6 ∧ x.t.isSome = true) ∨ (k = 7 ∧ (x.f.decided = false ∨ x.t.isSome = true)) ∨
  ((k = 8 ∨ k = 9) ∧ x.f.decided = true) ∨ (k = 10 ∧ x.f.yes = true) ∨ k = 11
theorem GoodL.fact {x : Ld} {d u : Nat} {k n : Int} (g : GoodL x d u) (h : evOk x k n) : ∃ d' u', GoodL (x.fact k n) d' u' := by
  rcases h with ⟨rfl, h1, h2, h3⟩ | ⟨rfl, h1, h2, h3, h4⟩ | ⟨rfl, h1, h2, h3⟩ | ⟨rfl, h1⟩ | ⟨rfl, h1⟩ | ⟨h0, h1⟩ | ⟨rfl, h1⟩ | rfl
  · refine ⟨d, u, ?_⟩
    have ht : x.f.turned = false := by simp only [Fc.decided, Bool.or_eq_false_iff] at h2; exact h2.2
    have hy : x.f.yes = false := by simp only [Fc.decided, Bool.or_eq_false_iff] at h2; exact h2.1
    have hd : d = x.o.steps.length := by
      have h3 := h3
      unfold firstNot at h3
      rw [g.done ht, tf_idx] at h3
      have := g.dn
      split at h3
      · omega
      · cases h3
    exact ⟨g.o, g.dn, g.un, g.done, g.dlen, g.undone, g.one, fun _ _ => hd, fun h => rfl, g.back, g.ship, g.acks, by show true = (true && !(x.f.yes || x.f.turned)); rw [hy, ht]; rfl, by show some (false, false) ≠ _; simp⟩
  · have ht : x.f.turned = false := by simp only [Fc.decided, Bool.or_eq_false_iff] at h2; exact h2.2
    have hdn := g.dn
    have h3 := h3
    unfold idx at h3
    rw [g.done ht, tf_idx] at h3
    have hd : d < x.o.steps.length ∧ n = d := by
      split at h3
      · rename_i i hi
        split at hi
        · cases hi
        · cases hi; omega
      · omega
    refine ⟨d + 1, u, ?_⟩
    have e : (Ld.fact x 4 n).f = { x.f with done := setB x.f.done n } := rfl
    have es : setB x.f.done n = tf (d + 1) (x.o.steps.length - (d + 1)) := by
      rw [g.done ht, setB, hd.2, show x.o.steps.length - d = (x.o.steps.length - (d + 1)) + 1 by omega]
      exact tf_set _ _
    refine ⟨g.o, by show d + 1 ≤ x.o.steps.length; omega, g.un, fun _ => es, ?_, g.undone, g.one, fun h => ?_, g.yes, g.back, g.ship, g.acks, g.t, g.tt⟩
    · show (setB x.f.done n).length = _
      rw [setB, List.length_set]; exact g.dlen
    · have h : x.f.asked = true := h
      rw [h1] at h; cases h
  · have hl : x.f.undone.length = x.o.steps.length := by rw [g.undone, ft_len]; have := g.un; omega
    have hun := g.un
    have h2 := h2
    unfold lastI at h2
    rw [hl] at h2
    have hft := ft_last (x.o.steps.length - u) u
    rw [show x.o.steps.length - u + u = x.o.steps.length by omega, ← g.undone] at hft
    rw [hft] at h2
    have hu : u < x.o.steps.length ∧ n = ((x.o.steps.length - (u + 1) : Nat) : Int) := by
      split at h2
      · rename_i i hi
        split at hi
        · cases hi
        · cases hi; omega
      · omega
    refine ⟨d, u + 1, ?_⟩
    have es : setB x.f.undone n = ft (x.o.steps.length - (u + 1)) (u + 1) := by
      rw [g.undone, setB, hu.2, Int.toNat_natCast, show x.o.steps.length - u = (x.o.steps.length - (u + 1)) + 1 by omega]
      exact ft_set _ _
    refine ⟨g.o, g.dn, by show u + 1 ≤ x.o.steps.length; omega, g.done, g.dlen, es, g.one, g.asked, g.yes, fun h => ?_, g.ship, g.acks, g.t, g.tt⟩
    have h : x.f.turned = false := h
    rw [h1] at h; cases h
  · refine ⟨d, u, ?_⟩
    have ht := g.t
    rw [h1] at ht
    have ht : x.f.asked = true ∧ x.f.decided = false := by simpa using ht.symm
    have htu : x.f.turned = false := by have := ht.2; simp only [Fc.decided, Bool.or_eq_false_iff] at this; exact this.2
    refine ⟨g.o, g.dn, g.un, g.done, g.dlen, g.undone, fun _ => htu, g.asked, fun _ => ht.1, g.back, fun _ => rfl, fun _ => rfl, ?_, by show none ≠ _; simp⟩
    show false = (x.f.asked && !(true || x.f.turned)); simp
  · have h1 : x.f.decided = false := by
      rcases h1 with h1 | h1
      · exact h1
      · have ht := g.t
        rw [h1] at ht
        exact (show x.f.asked = true ∧ x.f.decided = false by simpa using ht.symm).2
    refine ⟨d, u, ?_⟩
    have hy : x.f.yes = false := by simp only [Fc.decided, Bool.or_eq_false_iff] at h1; exact h1.1
    refine ⟨g.o, g.dn, g.un, fun h => ?_, g.dlen, g.undone, fun h => ?_, fun _ h => ?_, g.yes, fun h => ?_, g.ship, fun _ => ?_, ?_, by show none ≠ _; simp⟩
    · exact absurd h (by show ¬ (true = false); simp)
    · have h : x.f.yes = true := h
      rw [hy] at h; cases h
    · exact absurd h (by show ¬ (true = false); simp)
    · exact absurd h (by show ¬ (true = false); simp)
    · show (x.f.yes || true) = true; simp
    · show false = (x.f.asked && !(x.f.yes || true)); simp
  · refine ⟨d, u, ?_⟩
    rcases h0 with rfl | rfl <;> by_cases hn : n = 1
    · have e : Ld.fact x 8 n = ⟨x.o, { x.f with a0 := true }, x.t⟩ := by simp [Ld.fact, hn]
      rw [e]; exact ⟨g.o, g.dn, g.un, g.done, g.dlen, g.undone, g.one, g.asked, g.yes, g.back, g.ship, fun _ => h1, g.t, g.tt⟩
    · have e : Ld.fact x 8 n = ⟨x.o, { x.f with a1 := true }, x.t⟩ := by simp [Ld.fact, hn]
      rw [e]; exact ⟨g.o, g.dn, g.un, g.done, g.dlen, g.undone, g.one, g.asked, g.yes, g.back, g.ship, fun _ => h1, g.t, g.tt⟩
    · have e : Ld.fact x 9 n = ⟨x.o, { x.f with d0 := true, a0 := true }, x.t⟩ := by simp [Ld.fact, hn]
      rw [e]; exact ⟨g.o, g.dn, g.un, g.done, g.dlen, g.undone, g.one, g.asked, g.yes, g.back, g.ship, fun _ => h1, g.t, g.tt⟩
    · have e : Ld.fact x 9 n = ⟨x.o, { x.f with d1 := true, a1 := true }, x.t⟩ := by simp [Ld.fact, hn]
      rw [e]; exact ⟨g.o, g.dn, g.un, g.done, g.dlen, g.undone, g.one, g.asked, g.yes, g.back, g.ship, fun _ => h1, g.t, g.tt⟩
  · exact ⟨d, u, g.o, g.dn, g.un, g.done, g.dlen, g.undone, g.one, g.asked, g.yes, g.back, fun _ => h1, g.acks, g.t, g.tt⟩
  · exact ⟨d, u, g.o, g.dn, g.un, g.done, g.dlen, g.undone, g.one, g.asked, g.yes, g.back, g.ship, g.acks, g.t, g.tt⟩
end Go.Proofs.YtcfmnoimehcfnaaGreatDoor
namespace Go.Proofs.YtcfmnoimehcfnaaGreatDoor
open Go Go.Sh

inductive Prim : CS → CS → Prop
  | note {s : CS} {id k : Int} {ns : List Int} {x : Ld} : s.L id = some x → (k = 3 ∨ k = 4 ∨ k = 5 ∨ k = 8 ∨ k = 10) → evOk x k (ns.getD 0 0) → Prim s { s with es := s.es ++ [⟨k, id, ns⟩], L := playC s.L ⟨k, id, ns⟩ }
  | sure {s : CS} {id k : Int} {ns : List Int} {x : Ld} : s.L id = some x → (k = 6 ∨ k = 7 ∨ k = 9 ∨ k = 11) → evOk x k (ns.getD 0 0) → Prim s (sureC { s with es := s.es ++ [⟨k, id, ns⟩], L := playC s.L ⟨k, id, ns⟩ })
  | begin {s : CS} {o : Od} : mayOd o = true → s.L o.id = none → Prim s (sureC { s with es := s.es ++ beginEs o, L := (beginEs o).foldl playC s.L })
  | say {s : CS} {id : Int} {x : Ld} {t t' : Bool × Bool} : s.L id = some x → x.t = some t → t' ≠ (true, true) → (t.1 = true → t'.1 = true) → (t.2 = true → t'.2 = true) → Prim s { s with L := updI s.L id (some ⟨x.o, x.f, some t'⟩) }
  | bell (s : CS) (B : Int → Option Int) : Prim s { s with B := B }
inductive Prims : CS → CS → Prop
  | refl (s : CS) : Prims s s
  | more {s t u : CS} : Prims s t → Prim t u → Prims s u
theorem Prims.one {s t : CS} (h : Prim s t) : Prims s t := .more (.refl s) h
theorem Prims.trans {s t u : CS} (h : Prims s t) (g : Prims t u) : Prims s u := by
  induction g with
  | refl => exact h
  | more _ p ih => exact .more ih p
theorem note_L {P : CP} {s s' : CS} {l : List CE} (h : noteC P s l = some s') : s' = { s with es := s.es ++ l, L := l.foldl playC s.L } := by
  unfold noteC at h; split at h
  · cases h
  · exact (Option.some.inj h).symm
theorem sures_L {P : CP} {s s' : CS} {l : List CE} (h : suresC P s l = some s') : s' = sureC { s with es := s.es ++ l, L := l.foldl playC s.L } := by
  unfold suresC at h
  cases hn : noteC P s l with
  | none => rw [hn] at h; cases h
  | some t => rw [hn] at h; rw [← note_L hn]; exact (Option.some.inj h).symm
theorem prim_note {P : CP} {s s' : CS} {id k : Int} {ns : List Int} {x : Ld} (h : noteC P s [⟨k, id, ns⟩] = some s') (hx : s.L id = some x) (hk : k = 3 ∨ k = 4 ∨ k = 5 ∨ k = 8 ∨ k = 10) (e : evOk x k (ns.getD 0 0)) : Prims s s' := by
  rw [note_L h]; exact .one (.note hx hk e)
theorem prim_sure {P : CP} {s s' : CS} {id k : Int} {ns : List Int} {x : Ld} (h : suresC P s [⟨k, id, ns⟩] = some s') (hx : s.L id = some x) (hk : k = 6 ∨ k = 7 ∨ k = 9 ∨ k = 11) (e : evOk x k (ns.getD 0 0)) : Prims s s' := by
  rw [sures_L h]; exact .one (.sure hx hk e)
theorem asksM_ev {x : Ld} (h : (asksM (nextM x.o x.f) && !x.f.asked) = true) : evOk x 3 0 := by
  simp only [Bool.and_eq_true, Bool.not_eq_true'] at h
  obtain ⟨h1, h2⟩ := h
  have dec : ∀ k, k ≠ 6 → ∀ r, asksM (decM k x.o x.f ++ r) = true → asksM r = true := by
    intro k hk r h
    unfold decM at h
    split at h
    · split at h
      · exact h
      · simp [asksM, tellM, hk] at h
    · simp [asksM, tellM, hk] at h
  unfold nextM at h1
  split at h1
  · cases h1
  split at h1
  · have := dec 10 (by omega) _ h1
    unfold undoM at this
    split at this <;> simp [asksM] at this
  rename_i ht
  split at h1
  · have := dec 9 (by omega) [] (by simpa using h1)
    cases this
  split at h1
  · have := dec 9 (by omega) _ h1
    simp [asksM] at this
  rename_i hy
  refine .inl ⟨rfl, h2, ?_, ?_⟩
  · simp at ht hy; simp [Fc.decided, ht, hy]
  · unfold forwM at h1
    split at h1
    · simp [asksM] at h1
    · assumption
theorem sends_P (P : CP) (s : CS) (id : Int) : Prims s (sendsC P s id).1 := by
  unfold sendsC
  split
  · exact .refl s
  · rename_i x hx
    split
    · rename_i h
      split
      · exact .refl s
      · rename_i s' hn
        exact prim_note hn hx (.inl rfl) (asksM_ev h)
    · exact .refl s
theorem again_P (P : CP) (s : CS) (id : Int) : Prims s (againC P s id) := .one (.bell s _)
theorem cut_P (s : CS) (id : Int) : Prims s (cutC s id) := .one (.bell s _)
theorem hang_P (P : CP) (s : CS) (id : Int) : Prims s (hangC P s id) := .one (.bell s _)
theorem goes_P (P : CP) (s : CS) (id : Int) : Prims s (goesC P s id).1 := by
  unfold goesC
  split
  · exact .refl s
  · split
    · exact (again_P P s id).trans (cut_P _ id)
    · exact (again_P P s id).trans (sends_P P _ id)
theorem turns_P {P : CP} {s : CS} {id : Int} {x : Ld} (hx : s.L id = some x) (hd : x.f.decided = false) : Prims s (turnsC P s id).1 := by
  unfold turnsC
  split
  · exact .refl s
  · rename_i s' hs
    exact (prim_sure (x := x) hs hx (.inr (.inl rfl)) (.inr (.inr (.inr (.inr (.inl ⟨rfl, .inl hd⟩)))))).trans (goes_P P s' id)
theorem on_P {P : CP} {s : CS} {id k : Int} {ns : List Int} {x : Ld} (hx : s.L id = some x) (hk : k = 3 ∨ k = 4 ∨ k = 5 ∨ k = 8 ∨ k = 10) (e : evOk x k (ns.getD 0 0)) : Prims s (onC P s ⟨k, id, ns⟩).1 := by
  unfold onC
  split
  · exact .refl s
  · rename_i s' hs
    exact (prim_note hs hx hk e).trans (goes_P P s' id)
theorem onS_P {P : CP} {s : CS} {id k : Int} {ns : List Int} {x : Ld} (hx : s.L id = some x) (hk : k = 6 ∨ k = 7 ∨ k = 9 ∨ k = 11) (e : evOk x k (ns.getD 0 0)) : Prims s (onSC P s ⟨k, id, ns⟩).1 := by
  unfold onSC
  split
  · exact .refl s
  · rename_i s' hs
    exact (prim_sure hs hx hk e).trans (goes_P P s' id)
theorem steps_P {P : CP} {s : CS} {x : Ld} {m : Mg} (hx : s.L m.id = some x) : Prims s (stepsC P s x m).1 := by
  unfold stepsC
  split
  · exact .refl s
  rename_i hv
  have hv : 0 ≤ m.step := by
    simp only [svcB, Bool.not_eq_false, Bool.and_eq_true, decide_eq_true_eq] at hv; exact hv.1
  split
  · rename_i h; exact turns_P hx h.2
  split
  · split
    · rename_i h; exact on_P hx (.inr (.inl rfl)) (.inr (.inl ⟨rfl, h.1, h.2.1, h.2.2, hv⟩))
    · exact .refl s
  split
  · split
    · rename_i h; exact on_P hx (.inr (.inr (.inl rfl))) (.inr (.inr (.inl ⟨rfl, h.1, h.2, hv⟩)))
    · exact .refl s
  · exact .refl s
theorem votes_P {P : CP} {s : CS} {x : Ld} {m : Mg} (hx : s.L m.id = some x) (htt : x.t ≠ some (true, true)) : Prims s (votesC P s x m).1 := by
  unfold votesC
  split
  · exact .refl s
  rename_i hk
  split
  · exact .refl s
  · rename_i t ht
    split
    · exact onS_P hx (.inr (.inl rfl)) (.inr (.inr (.inr (.inr (.inl ⟨rfl, .inr (by rw [ht]; rfl)⟩)))))
    split
    · exact onS_P hx (.inl rfl) (.inr (.inr (.inr (.inl ⟨rfl, by rw [ht]; rfl⟩))))
    · rename_i hw
      refine .one (.say hx ht ?_ ?_ ?_)
      · intro e
        simp only [kpr, Bool.not_eq_false, Bool.or_eq_true, decide_eq_true_eq] at hk
        obtain ⟨t1, t2⟩ := t
        rcases hk with hk | hk
        · rw [hk] at hw e
          simp only [sayT, if_pos, Prod.mk.injEq, true_and] at e
          subst e
          cases t1
          · exact hw rfl
          · exact htt ht
        · rw [hk] at hw e
          simp only [sayT, show ¬ ((2 : Int) = 1) by omega, if_false, Prod.mk.injEq, and_true] at e
          subst e
          cases t2
          · exact hw rfl
          · exact htt ht
      · intro h; unfold sayT; split <;> simp [h]
      · intro h; unfold sayT; split <;> simp [h]
theorem acks_P {P : CP} {s : CS} {x : Ld} {m : Mg} (hx : s.L m.id = some x) : Prims s (acksC P s x m).1 := by
  unfold acksC
  split
  · exact .refl s
  rename_i hk
  have hd : x.f.decided = true := by
    cases h : x.f.decided with
    | true => rfl
    | false => exact absurd (.inr h) hk
  split
  · split
    · exact .refl s
    · exact on_P hx (.inr (.inr (.inr (.inl rfl)))) (.inr (.inr (.inr (.inr (.inr (.inl ⟨.inl rfl, hd⟩))))))
  split
  · exact .refl s
  split
  · exact .refl s
  · rename_i s' hs
    exact (prim_sure (x := x) hs hx (.inr (.inr (.inl rfl))) (.inr (.inr (.inr (.inr (.inr (.inl ⟨.inr rfl, hd⟩))))))).trans (goes_P P s' m.id)
/-- what always holds -/
structure GoodO (L : Int → Option Ld) : Prop where
  all : ∀ id x, L id = some x → x.o.id = id ∧ ∃ d u, GoodL x d u
structure CInv (s : CS) : Prop where
  good : GoodO s.L
  eq : ∀ id, (s.L id).map (fun x => (x.o, x.f)) = (runC s.es id).map (fun x => (x.o, x.f))
  le : s.sure ≤ s.es.length
  pre : ∀ m, s.sure ≤ m → m ≤ s.es.length → GoodO (runC (s.es.take m))
theorem handle_P {P : CP} {s : CS} (g : GoodO s.L) (m : Mg) : Prims s (handleC P s m).1 := by
  unfold handleC
  split
  · exact .refl s
  split
  · exact .refl s
  split
  · exact .refl s
  · rename_i x hx
    obtain ⟨-, d, u, gx⟩ := g.all _ _ hx
    split
    · exact steps_P hx
    split
    · exact votes_P hx gx.tt
    split
    · exact acks_P hx
    split
    · split
      · rename_i h; exact on_P hx (.inr (.inr (.inr (.inr rfl)))) (.inr (.inr (.inr (.inr (.inr (.inr (.inl ⟨rfl, h.2.1⟩)))))))
      · exact .refl s
    · exact .refl s
theorem ring_P (P : CP) (s : CS) (id : Int) : Prims s (ringC P s id).1 := by
  unfold ringC
  split
  · exact .refl s
  split
  · exact .one (.bell s _)
  · rename_i x hx
    split
    · split
      · rename_i h; exact turns_P hx h
      · exact (again_P P s id).trans (sends_P P _ id)
    · exact (Prims.one (.bell s _)).trans (sends_P P _ id)
theorem cancel_P (P : CP) (s : CS) (id : Int) : Prims s (cancelC P s id).1 := by
  unfold cancelC
  split
  · exact .refl s
  · rename_i x hx
    split
    · exact .refl s
    · rename_i h; exact turns_P hx (by simpa using h)
theorem accept_P (P : CP) (s : CS) (id : Int) : Prims s (acceptC P s id).1 := by
  unfold acceptC
  split
  · exact .refl s
  · rename_i x hx
    split
    · exact .refl s
    split
    · exact .refl s
    · rename_i s' hs
      have p := prim_sure (x := x) hs hx (.inr (.inr (.inr rfl))) (.inr (.inr (.inr (.inr (.inr (.inr (.inr rfl)))))))
      split
      · exact p.trans (cut_P s' id)
      · exact p
theorem begin_P (P : CP) (s : CS) (o : Od) : Prims s (beginC P s o).1 := by
  unfold beginC
  split
  · exact .refl s
  split
  · exact .refl s
  split
  · exact .refl s
  rename_i h1 h2 h3
  split
  · exact .refl s
  · rename_i s' hs
    rw [sures_L hs]
    refine (Prims.one (.begin (by simpa using h1) (by simpa using h2))).trans ((hang_P P _ o.id).trans (goes_P P _ o.id))
end Go.Proofs.YtcfmnoimehcfnaaGreatDoor
namespace Go.Proofs.YtcfmnoimehcfnaaGreatDoor
open Go Go.Sh

structure Lc where
  p : Nat
  sR : Row
  dR : Row
  uR : Row
  T : Option Ta
  x : Ld
def taP (T : Option Ta) : Option Addr := match T with | some T => some ⟨T.q, 0, none⟩ | none => none
def taH (T : Option Ta) (t : Option (Bool × Bool)) : Hp := match T, t with | some T, some t => T.hp t | _, _ => []
def Lc.cells (c : Lc) : List Value := [I c.x.o.id, I c.x.o.item, I c.x.o.qty, I c.x.o.client, I c.x.o.price, c.sR.v, c.dR.v, c.uR.v, .bool c.x.f.asked, .bool c.x.f.yes, .bool c.x.f.turned, .bool c.x.f.a0, .bool c.x.f.a1, .bool c.x.f.shipped, .bool c.x.f.d0, .bool c.x.f.d1, .bool c.x.f.acc, .pointer (taP c.T)]
def Lc.hp (c : Lc) : Hp := [(c.p, .cells c.cells.toArray 147 (0, 0))] ++ (c.sR.hp 81 ++ (c.dR.hp 4 ++ (c.uR.hp 4 ++ taH c.T c.x.t)))
abbrev Lc.v (c : Lc) : Value := .pointer (some ⟨c.p, 0, none⟩)
structure Lc.Ok (c : Lc) : Prop where
  s : c.sR.Ok 2 (sps c.x.o.steps)
  d : c.dR.Ok 1 (c.x.f.done.map Bv)
  u : c.uR.Ok 1 (c.x.f.undone.map Bv)
  dl : c.x.f.done.length = c.x.o.steps.length
  ul : c.x.f.undone.length = c.x.o.steps.length
  len : c.x.o.steps.length ≤ 5000
  t : c.T.isSome = c.x.t.isSome
section
variable {w0 w : World} {hs R : List Hp} {K : KV}
theorem openL {c : Lc} (H : Sh.Holds w0 (c.hp :: R) w) : Sh.Holds w0 ([(c.p, .cells #[I c.x.o.id, I c.x.o.item, I c.x.o.qty, I c.x.o.client, I c.x.o.price, c.sR.v, c.dR.v, c.uR.v, .bool c.x.f.asked, .bool c.x.f.yes, .bool c.x.f.turned, .bool c.x.f.a0, .bool c.x.f.a1, .bool c.x.f.shipped, .bool c.x.f.d0, .bool c.x.f.d1, .bool c.x.f.acc, .pointer (taP c.T)] 147 (0, 0))] :: c.sR.hp 81 :: c.dR.hp 4 :: c.uR.hp 4 :: taH c.T c.x.t :: R) w := H.perm (by simp [Lc.hp, Lc.cells])
theorem shutL {c : Lc} (H : Sh.Holds w0 ([(c.p, .cells #[I c.x.o.id, I c.x.o.item, I c.x.o.qty, I c.x.o.client, I c.x.o.price, c.sR.v, c.dR.v, c.uR.v, .bool c.x.f.asked, .bool c.x.f.yes, .bool c.x.f.turned, .bool c.x.f.a0, .bool c.x.f.a1, .bool c.x.f.shipped, .bool c.x.f.d0, .bool c.x.f.d1, .bool c.x.f.acc, .pointer (taP c.T)] 147 (0, 0))] :: c.sR.hp 81 :: c.dR.hp 4 :: c.uR.hp 4 :: taH c.T c.x.t :: R) w) : Sh.Holds w0 (c.hp :: R) w := H.perm (by simp [Lc.hp, Lc.cells])
theorem ceL_ne {a b : Int} (ha : 1 ≤ a ∧ a ≤ 11) (hb : 1 ≤ b ∧ b ≤ 11) (h : a ≠ b) : strEq (B (ceL a)) (B (ceL b)) = false := by
  have ha : a = 1 ∨ a = 2 ∨ a = 3 ∨ a = 4 ∨ a = 5 ∨ a = 6 ∨ a = 7 ∨ a = 8 ∨ a = 9 ∨ a = 10 ∨ a = 11 := by omega
  have hb : b = 1 ∨ b = 2 ∨ b = 3 ∨ b = 4 ∨ b = 5 ∨ b = 6 ∨ b = 7 ∨ b = 8 ∨ b = 9 ∨ b = 10 ∨ b = 11 := by omega
  rw [strEq_B]
  rcases ha with rfl | rfl | rfl | rfl | rfl | rfl | rfl | rfl | rfl | rfl | rfl <;> rcases hb with rfl | rfl | rfl | rfl | rfl | rfl | rfl | rfl | rfl | rfl | rfl <;> first | (exact absurd rfl h) | decide
theorem ceL_eq (a : Int) : strEq (B (ceL a)) (B (ceL a)) = true := by rw [strEq_B]; simp
/-- what may be noted of it -/
def factOk (x : Ld) (k n : Int) : Prop := k = 3 ∨ (k = 4 ∧ 0 ≤ n ∧ n < x.o.steps.length) ∨ (k = 5 ∧ 0 ≤ n ∧ n < x.o.steps.length) ∨ k = 6 ∨ k = 7 ∨ ((k = 8 ∨ k = 9) ∧ (n = 1 ∨ n = 2)) ∨ k = 10 ∨ k = 11
set_option maxHeartbeats 2000000 in
theorem facts_c {c : Lc} {kd n : Int} (H : Sh.Holds w0 hs w) [D : Del hs c.hp R] (ok : c.Ok) (hf : factOk c.x kd n)
    (k : ∀ (c' : Lc) w', c'.Ok → c'.p = c.p → c'.x = c.x.fact kd n → Sh.Holds w0 (c'.hp :: R) w' → K (.tuple #[]) w') : gocall Tryz.prog 255 [c.v, .string (B (ceL kd)), I n] K w := by
  replace H := openL (H.get c.hp)
  have hk : 3 ≤ kd ∧ kd ≤ 11 := by unfold factOk at hf; omega
  have ne : ∀ b : Int, 1 ≤ b ∧ b ≤ 11 → kd ≠ b → strEq (B (ceL kd)) (B (ceL b)) = false := fun b hb h => ceL_ne (by omega) hb h
  apply F255_go; unfold F255
  rcases hf with rfl | ⟨rfl, h1, h2⟩ | ⟨rfl, h1, h2⟩ | rfl | rfl | ⟨h0, h1⟩ | rfl | rfl
  · refine br_t (ceL_eq 3) ?_
    refine newTa_c H (fun T w H => ?_)
    (with_reducible repeat first|refine ldA (by assumption) ?_|refine Stp.imp ?_|refine stA (by assumption) rfl fun _ _=>?_|refine nw_h (by assumption) fun _ _ _=>?_|refine ldSA ?_|refine asT_e [] rfl rfl ?_|refine ldD (by assumption) ?_|refine nwD (by assumption) fun _ _ _=>?_)
    rename_i w1 H1 w H
    refine k ⟨c.p, c.sR, c.dR, c.uR, some T, c.x.fact 3 n⟩ _ ⟨ok.s, ok.d, ok.u, ok.dl, ok.ul, ok.len, rfl⟩ rfl rfl (shutL (c := ⟨c.p, c.sR, c.dR, c.uR, some T, c.x.fact 3 n⟩) ?_)
    have H9 : Sh.Holds w0 (T.hp (false, false) :: [(c.p, .cells #[I c.x.o.id, I c.x.o.item, I c.x.o.qty, I c.x.o.client, I c.x.o.price, c.sR.v, c.dR.v, c.uR.v, .bool true, .bool c.x.f.yes, .bool c.x.f.turned, .bool c.x.f.a0, .bool c.x.f.a1, .bool c.x.f.shipped, .bool c.x.f.d0, .bool c.x.f.d1, .bool c.x.f.acc, T.v] 147 (0, 0))] :: c.sR.hp 81 :: c.dR.hp 4 :: c.uR.hp 4 :: taH c.T c.x.t :: R) w := H
    have H8 : Sh.Holds w0 ([(c.p, .cells #[I c.x.o.id, I c.x.o.item, I c.x.o.qty, I c.x.o.client, I c.x.o.price, c.sR.v, c.dR.v, c.uR.v, .bool true, .bool c.x.f.yes, .bool c.x.f.turned, .bool c.x.f.a0, .bool c.x.f.a1, .bool c.x.f.shipped, .bool c.x.f.d0, .bool c.x.f.d1, .bool c.x.f.acc, T.v] 147 (0, 0))] :: c.sR.hp 81 :: c.dR.hp 4 :: c.uR.hp 4 :: T.hp (false, false) :: R) w := Holds.re H9
    exact H8
  · refine br_f (ne 3 (by omega) (by omega)) ?_
    refine br_t (ceL_eq 4) ?_
    (with_reducible repeat first|refine ldA (by assumption) ?_|refine Stp.imp ?_|refine stA (by assumption) rfl fun _ _=>?_|refine nw_h (by assumption) fun _ _ _=>?_|refine ldSA ?_|refine asT_e [] rfl rfl ?_|refine ldD (by assumption) ?_|refine nwD (by assumption) fun _ _ _=>?_)
    have hl : (c.x.f.done.map Bv).length = c.x.o.steps.length := by rw [List.length_map]; exact ok.dl
    have hn := ok.d.len
    have hdl := ok.dl
    refine slAt_h ok.d h1 (by omega) (fun g hg => ?_)
    rw [Nat.mul_one]
    replace H := H.get (c.dR.hp 4)
    refine stR_h H ok.d hg (by omega) rfl (fun w H => ?_)
    have ok' := Row.put_ok ok.d n.toNat (.bool true) (by omega)
    refine k ⟨c.p, c.sR, Row.put c.dR n.toNat (.bool true), c.uR, c.T, c.x.fact 4 n⟩ _ ⟨ok.s, ?_, ok.u, ?_, ok.ul, ok.len, ok.t⟩ rfl rfl (shutL (c := ⟨c.p, c.sR, Row.put c.dR n.toNat (.bool true), c.uR, c.T, c.x.fact 4 n⟩) ?_)
    · show (Row.put c.dR n.toNat (.bool true)).Ok 1 ((setB c.x.f.done n).map Bv)
      rw [setB, List.map_set]; exact ok'
    · show (setB c.x.f.done n).length = _
      rw [setB, List.length_set]; exact ok.dl
    · have H8 : Sh.Holds w0 ([(c.p, .cells #[I c.x.o.id, I c.x.o.item, I c.x.o.qty, I c.x.o.client, I c.x.o.price, c.sR.v, c.dR.v, c.uR.v, .bool c.x.f.asked, .bool c.x.f.yes, .bool c.x.f.turned, .bool c.x.f.a0, .bool c.x.f.a1, .bool c.x.f.shipped, .bool c.x.f.d0, .bool c.x.f.d1, .bool c.x.f.acc, .pointer (taP c.T)] 147 (0, 0))] :: c.sR.hp 81 :: (Row.put c.dR n.toNat (.bool true)).hp 4 :: c.uR.hp 4 :: taH c.T c.x.t :: R) w := Holds.re H
      exact H8
  · refine br_f (ne 3 (by omega) (by omega)) ?_
    refine br_f (ne 4 (by omega) (by omega)) ?_
    refine br_t (ceL_eq 5) ?_
    (with_reducible repeat first|refine ldA (by assumption) ?_|refine Stp.imp ?_|refine stA (by assumption) rfl fun _ _=>?_|refine nw_h (by assumption) fun _ _ _=>?_|refine ldSA ?_|refine asT_e [] rfl rfl ?_|refine ldD (by assumption) ?_|refine nwD (by assumption) fun _ _ _=>?_)
    have hl : (c.x.f.undone.map Bv).length = c.x.o.steps.length := by rw [List.length_map]; exact ok.ul
    have hn := ok.u.len
    have hdl := ok.ul
    refine slAt_h ok.u h1 (by omega) (fun g hg => ?_)
    rw [Nat.mul_one]
    replace H := H.get (c.uR.hp 4)
    refine stR_h H ok.u hg (by omega) rfl (fun w H => ?_)
    have ok' := Row.put_ok ok.u n.toNat (.bool true) (by omega)
    refine k ⟨c.p, c.sR, c.dR, Row.put c.uR n.toNat (.bool true), c.T, c.x.fact 5 n⟩ _ ⟨ok.s, ok.d, ?_, ok.dl, ?_, ok.len, ok.t⟩ rfl rfl (shutL (c := ⟨c.p, c.sR, c.dR, Row.put c.uR n.toNat (.bool true), c.T, c.x.fact 5 n⟩) ?_)
    · show (Row.put c.uR n.toNat (.bool true)).Ok 1 ((setB c.x.f.undone n).map Bv)
      rw [setB, List.map_set]; exact ok'
    · show (setB c.x.f.undone n).length = _
      rw [setB, List.length_set]; exact ok.ul
    · have H8 : Sh.Holds w0 ([(c.p, .cells #[I c.x.o.id, I c.x.o.item, I c.x.o.qty, I c.x.o.client, I c.x.o.price, c.sR.v, c.dR.v, c.uR.v, .bool c.x.f.asked, .bool c.x.f.yes, .bool c.x.f.turned, .bool c.x.f.a0, .bool c.x.f.a1, .bool c.x.f.shipped, .bool c.x.f.d0, .bool c.x.f.d1, .bool c.x.f.acc, .pointer (taP c.T)] 147 (0, 0))] :: c.sR.hp 81 :: c.dR.hp 4 :: (Row.put c.uR n.toNat (.bool true)).hp 4 :: taH c.T c.x.t :: R) w := Holds.re H
      exact H8
  · refine br_f (ne 3 (by omega) (by omega)) ?_
    refine br_f (ne 4 (by omega) (by omega)) ?_
    refine br_f (ne 5 (by omega) (by omega)) ?_
    refine br_t (ceL_eq 6) ?_
    (with_reducible repeat first|refine ldA (by assumption) ?_|refine Stp.imp ?_|refine stA (by assumption) rfl fun _ _=>?_|refine nw_h (by assumption) fun _ _ _=>?_|refine ldSA ?_|refine asT_e [] rfl rfl ?_|refine ldD (by assumption) ?_|refine nwD (by assumption) fun _ _ _=>?_)
    rename_i w1 H1 w H
    refine k ⟨c.p, c.sR, c.dR, c.uR, none, c.x.fact 6 n⟩ _ ⟨ok.s, ok.d, ok.u, ok.dl, ok.ul, ok.len, rfl⟩ rfl rfl (shutL (c := ⟨c.p, c.sR, c.dR, c.uR, none, c.x.fact 6 n⟩) ?_)
    have H8 : Sh.Holds w0 ([(c.p, .cells #[I c.x.o.id, I c.x.o.item, I c.x.o.qty, I c.x.o.client, I c.x.o.price, c.sR.v, c.dR.v, c.uR.v, .bool c.x.f.asked, .bool true, .bool c.x.f.turned, .bool c.x.f.a0, .bool c.x.f.a1, .bool c.x.f.shipped, .bool c.x.f.d0, .bool c.x.f.d1, .bool c.x.f.acc, .pointer none] 147 (0, 0))] :: c.sR.hp 81 :: c.dR.hp 4 :: c.uR.hp 4 :: taH c.T c.x.t :: R) w := H
    have H9 : Sh.Holds w0 ([] :: [(c.p, .cells #[I c.x.o.id, I c.x.o.item, I c.x.o.qty, I c.x.o.client, I c.x.o.price, c.sR.v, c.dR.v, c.uR.v, .bool c.x.f.asked, .bool true, .bool c.x.f.turned, .bool c.x.f.a0, .bool c.x.f.a1, .bool c.x.f.shipped, .bool c.x.f.d0, .bool c.x.f.d1, .bool c.x.f.acc, .pointer none] 147 (0, 0))] :: c.sR.hp 81 :: c.dR.hp 4 :: c.uR.hp 4 :: R) w := Holds.nil (Holds.re H8)
    have H7 : Sh.Holds w0 ([(c.p, .cells #[I c.x.o.id, I c.x.o.item, I c.x.o.qty, I c.x.o.client, I c.x.o.price, c.sR.v, c.dR.v, c.uR.v, .bool c.x.f.asked, .bool true, .bool c.x.f.turned, .bool c.x.f.a0, .bool c.x.f.a1, .bool c.x.f.shipped, .bool c.x.f.d0, .bool c.x.f.d1, .bool c.x.f.acc, .pointer none] 147 (0, 0))] :: c.sR.hp 81 :: c.dR.hp 4 :: c.uR.hp 4 :: [] :: R) w := Holds.re H9
    exact H7
  · refine br_f (ne 3 (by omega) (by omega)) ?_
    refine br_f (ne 4 (by omega) (by omega)) ?_
    refine br_f (ne 5 (by omega) (by omega)) ?_
    refine br_f (ne 6 (by omega) (by omega)) ?_
    refine br_t (ceL_eq 7) ?_
    (with_reducible repeat first|refine ldA (by assumption) ?_|refine Stp.imp ?_|refine stA (by assumption) rfl fun _ _=>?_|refine nw_h (by assumption) fun _ _ _=>?_|refine ldSA ?_|refine asT_e [] rfl rfl ?_|refine ldD (by assumption) ?_|refine nwD (by assumption) fun _ _ _=>?_)
    rename_i w1 H1 w H
    refine k ⟨c.p, c.sR, c.dR, c.uR, none, c.x.fact 7 n⟩ _ ⟨ok.s, ok.d, ok.u, ok.dl, ok.ul, ok.len, rfl⟩ rfl rfl (shutL (c := ⟨c.p, c.sR, c.dR, c.uR, none, c.x.fact 7 n⟩) ?_)
    have H8 : Sh.Holds w0 ([(c.p, .cells #[I c.x.o.id, I c.x.o.item, I c.x.o.qty, I c.x.o.client, I c.x.o.price, c.sR.v, c.dR.v, c.uR.v, .bool c.x.f.asked, .bool c.x.f.yes, .bool true, .bool c.x.f.a0, .bool c.x.f.a1, .bool c.x.f.shipped, .bool c.x.f.d0, .bool c.x.f.d1, .bool c.x.f.acc, .pointer none] 147 (0, 0))] :: c.sR.hp 81 :: c.dR.hp 4 :: c.uR.hp 4 :: taH c.T c.x.t :: R) w := H
    have H9 : Sh.Holds w0 ([] :: [(c.p, .cells #[I c.x.o.id, I c.x.o.item, I c.x.o.qty, I c.x.o.client, I c.x.o.price, c.sR.v, c.dR.v, c.uR.v, .bool c.x.f.asked, .bool c.x.f.yes, .bool true, .bool c.x.f.a0, .bool c.x.f.a1, .bool c.x.f.shipped, .bool c.x.f.d0, .bool c.x.f.d1, .bool c.x.f.acc, .pointer none] 147 (0, 0))] :: c.sR.hp 81 :: c.dR.hp 4 :: c.uR.hp 4 :: R) w := Holds.nil (Holds.re H8)
    have H7 : Sh.Holds w0 ([(c.p, .cells #[I c.x.o.id, I c.x.o.item, I c.x.o.qty, I c.x.o.client, I c.x.o.price, c.sR.v, c.dR.v, c.uR.v, .bool c.x.f.asked, .bool c.x.f.yes, .bool true, .bool c.x.f.a0, .bool c.x.f.a1, .bool c.x.f.shipped, .bool c.x.f.d0, .bool c.x.f.d1, .bool c.x.f.acc, .pointer none] 147 (0, 0))] :: c.sR.hp 81 :: c.dR.hp 4 :: c.uR.hp 4 :: [] :: R) w := Holds.re H9
    exact H7
  · have hw : IntKind.wrap .i64 (n - 1) = n - 1 := wrap64 (by omega) (by omega)
    refine br_f (ne 3 (by omega) (by omega)) ?_
    refine br_f (ne 4 (by omega) (by omega)) ?_
    refine br_f (ne 5 (by omega) (by omega)) ?_
    refine br_f (ne 6 (by omega) (by omega)) ?_
    refine br_f (ne 7 (by omega) (by omega)) ?_
    simp only [hw]
    rcases h0 with rfl | rfl
    · refine br_t (ceL_eq 8) ?_
      (with_reducible repeat first|refine ldA (by assumption) ?_|refine Stp.imp ?_|refine stA (by assumption) rfl fun _ _=>?_|refine nw_h (by assumption) fun _ _ _=>?_|refine ldSA ?_|refine asT_e [] rfl rfl ?_|refine ldD (by assumption) ?_|refine nwD (by assumption) fun _ _ _=>?_)
      rcases h1 with rfl | rfl
      · refine arO_h 0 11 rfl rfl (by omega) ?_
        refine stA H rfl (fun w H => ?_)
        exact k ⟨c.p, c.sR, c.dR, c.uR, c.T, c.x.fact 8 1⟩ _ ⟨ok.s, ok.d, ok.u, ok.dl, ok.ul, ok.len, ok.t⟩ rfl rfl (shutL (c := ⟨c.p, c.sR, c.dR, c.uR, c.T, c.x.fact 8 1⟩) H)
      · refine arO_h 1 12 rfl rfl (by omega) ?_
        refine stA H rfl (fun w H => ?_)
        exact k ⟨c.p, c.sR, c.dR, c.uR, c.T, c.x.fact 8 2⟩ _ ⟨ok.s, ok.d, ok.u, ok.dl, ok.ul, ok.len, ok.t⟩ rfl rfl (shutL (c := ⟨c.p, c.sR, c.dR, c.uR, c.T, c.x.fact 8 2⟩) H)
    · refine br_f (ne 8 (by omega) (by omega)) ?_
      refine br_t (ceL_eq 9) ?_
      replace H := H.drew
      refine ⟨fun _ => True, trivial, ?_⟩
      (with_reducible repeat first|refine ldA (by assumption) ?_|refine Stp.imp ?_|refine stA (by assumption) rfl fun _ _=>?_|refine nw_h (by assumption) fun _ _ _=>?_|refine ldSA ?_|refine asT_e [] rfl rfl ?_|refine ldD (by assumption) ?_|refine nwD (by assumption) fun _ _ _=>?_)
      rcases h1 with rfl | rfl
      · refine arO_h 0 14 rfl rfl (by omega) ?_
        (with_reducible repeat first|refine ldA (by assumption) ?_|refine Stp.imp ?_|refine stA (by assumption) rfl fun _ _=>?_|refine nw_h (by assumption) fun _ _ _=>?_|refine ldSA ?_|refine asT_e [] rfl rfl ?_|refine ldD (by assumption) ?_|refine nwD (by assumption) fun _ _ _=>?_)
        refine ⟨trivial, ?_⟩
        refine arO_h 0 11 rfl rfl (by omega) ?_
        refine stA (by assumption) rfl (fun w H => ?_)
        refine ⟨trivial, ?_⟩
        exact k ⟨c.p, c.sR, c.dR, c.uR, c.T, c.x.fact 9 1⟩ _ ⟨ok.s, ok.d, ok.u, ok.dl, ok.ul, ok.len, ok.t⟩ rfl rfl (shutL (c := ⟨c.p, c.sR, c.dR, c.uR, c.T, c.x.fact 9 1⟩) H)
      · refine arO_h 1 15 rfl rfl (by omega) ?_
        (with_reducible repeat first|refine ldA (by assumption) ?_|refine Stp.imp ?_|refine stA (by assumption) rfl fun _ _=>?_|refine nw_h (by assumption) fun _ _ _=>?_|refine ldSA ?_|refine asT_e [] rfl rfl ?_|refine ldD (by assumption) ?_|refine nwD (by assumption) fun _ _ _=>?_)
        refine ⟨trivial, ?_⟩
        refine arO_h 1 12 rfl rfl (by omega) ?_
        refine stA (by assumption) rfl (fun w H => ?_)
        refine ⟨trivial, ?_⟩
        exact k ⟨c.p, c.sR, c.dR, c.uR, c.T, c.x.fact 9 2⟩ _ ⟨ok.s, ok.d, ok.u, ok.dl, ok.ul, ok.len, ok.t⟩ rfl rfl (shutL (c := ⟨c.p, c.sR, c.dR, c.uR, c.T, c.x.fact 9 2⟩) H)
  · refine br_f (ne 3 (by omega) (by omega)) ?_
    refine br_f (ne 4 (by omega) (by omega)) ?_
    refine br_f (ne 5 (by omega) (by omega)) ?_
    refine br_f (ne 6 (by omega) (by omega)) ?_
    refine br_f (ne 7 (by omega) (by omega)) ?_
    refine br_f (ne 8 (by omega) (by omega)) ?_
    refine br_f (ne 9 (by omega) (by omega)) ?_
    refine br_t (ceL_eq 10) ?_
    (with_reducible repeat first|refine ldA (by assumption) ?_|refine Stp.imp ?_|refine stA (by assumption) rfl fun _ _=>?_|refine nw_h (by assumption) fun _ _ _=>?_|refine ldSA ?_|refine asT_e [] rfl rfl ?_|refine ldD (by assumption) ?_|refine nwD (by assumption) fun _ _ _=>?_)
    exact k ⟨c.p, c.sR, c.dR, c.uR, c.T, c.x.fact 10 n⟩ _ ⟨ok.s, ok.d, ok.u, ok.dl, ok.ul, ok.len, ok.t⟩ rfl rfl (shutL (c := ⟨c.p, c.sR, c.dR, c.uR, c.T, c.x.fact 10 n⟩) (by assumption))
  · refine br_f (ne 3 (by omega) (by omega)) ?_
    refine br_f (ne 4 (by omega) (by omega)) ?_
    refine br_f (ne 5 (by omega) (by omega)) ?_
    refine br_f (ne 6 (by omega) (by omega)) ?_
    refine br_f (ne 7 (by omega) (by omega)) ?_
    refine br_f (ne 8 (by omega) (by omega)) ?_
    refine br_f (ne 9 (by omega) (by omega)) ?_
    refine br_f (ne 10 (by omega) (by omega)) ?_
    refine br_t (ceL_eq 11) ?_
    (with_reducible repeat first|refine ldA (by assumption) ?_|refine Stp.imp ?_|refine stA (by assumption) rfl fun _ _=>?_|refine nw_h (by assumption) fun _ _ _=>?_|refine ldSA ?_|refine asT_e [] rfl rfl ?_|refine ldD (by assumption) ?_|refine nwD (by assumption) fun _ _ _=>?_)
    exact k ⟨c.p, c.sR, c.dR, c.uR, c.T, c.x.fact 11 n⟩ _ ⟨ok.s, ok.d, ok.u, ok.dl, ok.ul, ok.len, ok.t⟩ rfl rfl (shutL (c := ⟨c.p, c.sR, c.dR, c.uR, c.T, c.x.fact 11 n⟩) (by assumption))
end
end Go.Proofs.YtcfmnoimehcfnaaGreatDoor
namespace Go.Proofs.YtcfmnoimehcfnaaGreatDoor
open Go Go.Sh

def findX (X : List Lc) (id : Int) : Option Lc := X.find? (fun c => c.x.o.id == id)
theorem findX_split {X : List Lc} {id : Int} {c : Lc} (h : findX X id = some c) : ∃ A B, X = A ++ c :: B ∧ c.x.o.id = id ∧ ∀ a ∈ A, a.x.o.id ≠ id := by
  unfold findX at h
  rw [List.find?_eq_some_iff_append] at h
  obtain ⟨h1, A, B, h2, h3⟩ := h
  exact ⟨A, B, h2, by simpa using h1, fun a ha => by simpa using h3 a ha⟩
theorem findX_id {X : List Lc} {id : Int} {c : Lc} (h : findX X id = some c) : c.x.o.id = id := by
  obtain ⟨A, B, -, h, -⟩ := findX_split h; exact h
theorem findX_put {A B : List Lc} {c c' : Lc} {id : Int} (hA : ∀ a ∈ A, a.x.o.id ≠ id) (hc : c.x.o.id = id) (hc' : c'.x.o.id = id) (y : Int) : findX (A ++ c' :: B) y = if y = id then some c' else findX (A ++ c :: B) y := by
  unfold findX
  rw [List.find?_append, List.find?_append, List.find?_cons, List.find?_cons, hc, hc']
  by_cases h : y = id
  · subst h
    rw [if_pos rfl]
    have : A.find? (fun c => c.x.o.id == y) = none := by
      rw [List.find?_eq_none]; intro a ha; simpa using hA a ha
    rw [this]; simp
  · rw [if_neg h]
    have : (id == y) = false := by simpa using fun e => h e.symm
    rw [this]
theorem findX_new {X : List Lc} {c : Lc} {id : Int} (h : findX X id = none) (hc : c.x.o.id = id) (y : Int) : findX (X ++ [c]) y = if y = id then some c else findX X y := by
  unfold findX at h ⊢
  rw [List.find?_append, List.find?_cons, hc]
  by_cases e : y = id
  · subst e
    rw [h, if_pos rfl]; simp
  · have : (id == y) = false := by simpa using fun q => e q.symm
    rw [if_neg e, this]; simp
/-- a chief -/
structure Ch where
  n : Nat
  most : Int
  room : Int
  tr : Int
  J : Jr
  used : Int
  m : Nat
  l : List TriG
  c : Nat
  T : Tw
  X : List Lc
def Ch.L (S : Ch) (id : Int) : Option Ld := (findX S.X id).map (·.x)
def ledsH (X : List Lc) : Hp := X.flatMap Lc.hp
def Ch.hp (S : Ch) : Hp := [(S.n, .cells #[I S.most, I S.room, I S.tr, S.J.v, I S.used, .map (some S.m), S.T.v] 136 (0, 0))] ++ (S.J.hp ++ ([(S.m, mapG S.l S.c)] ++ (S.T.hp ++ ledsH S.X)))
abbrev Ch.v (S : Ch) : Value := .pointer (some ⟨S.n, 0, none⟩)
structure Ch.Ok (S : Ch) : Prop where
  j : S.J.Ok
  m : GOk S.l S.c
  T : S.T.Ok
  x : ∀ c ∈ S.X, c.Ok ∧ (c.x.o.steps.length : Int) ≤ S.used
  g : ∀ id, getG S.l id = (findX S.X id).map (·.v)
  r : ∀ id, (findX S.X id).isSome = true → 1 ≤ id ∧ id ≤ 999
  u : 0 ≤ S.used ∧ S.used ≤ 4096
theorem TML : MapTyG Tryz.prog 133 (.pointer none) := ⟨⟨_, _, rfl, rfl, fun _ => rfl⟩⟩
section
variable {w0 w : World} {hs R : List Hp} {K : KV}
theorem openC {S : Ch} (H : Sh.Holds w0 (S.hp :: R) w) : Sh.Holds w0 ([(S.n, .cells #[I S.most, I S.room, I S.tr, S.J.v, I S.used, .map (some S.m), S.T.v] 136 (0, 0))] :: S.J.hp :: [(S.m, mapG S.l S.c)] :: S.T.hp :: ledsH S.X :: R) w := H.perm (by simp [Ch.hp])
theorem shutC {S : Ch} (H : Sh.Holds w0 ([(S.n, .cells #[I S.most, I S.room, I S.tr, S.J.v, I S.used, .map (some S.m), S.T.v] 136 (0, 0))] :: S.J.hp :: [(S.m, mapG S.l S.c)] :: S.T.hp :: ledsH S.X :: R) w) : Sh.Holds w0 (S.hp :: R) w := H.perm (by simp [Ch.hp])
/-- one of its orders taken out -/
theorem ledOut {A B : List Lc} {c : Lc} (H : Sh.Holds w0 (ledsH (A ++ c :: B) :: R) w) : Sh.Holds w0 (c.hp :: ledsH (A ++ B) :: R) w := H.perm (by
  simp only [ledsH, List.flatMap_append, List.flatMap_cons, List.flatten_cons, List.append_assoc]
  exact List.perm_append_comm_assoc _ _ _)
theorem ledIn {A B : List Lc} {c : Lc} (H : Sh.Holds w0 (c.hp :: ledsH (A ++ B) :: R) w) : Sh.Holds w0 (ledsH (A ++ c :: B) :: R) w := H.perm (by
  simp only [ledsH, List.flatMap_append, List.flatMap_cons, List.flatten_cons, List.append_assoc]
  exact List.perm_append_comm_assoc _ _ _)
theorem Ch.Ok.none {S : Ch} (ok : S.Ok) {id : Int} (h : S.L id = none) : findX S.X id = none := by
  unfold Ch.L at h
  cases e : findX S.X id with
  | none => rfl
  | some c => rw [e] at h; cases h
theorem Ch.Ok.some {S : Ch} (ok : S.Ok) {id : Int} {x : Ld} (h : S.L id = some x) : ∃ c A B, S.X = A ++ c :: B ∧ c.x = x ∧ c.x.o.id = id ∧ (∀ a ∈ A, a.x.o.id ≠ id) ∧ c.Ok ∧ getG S.l id = Option.some c.v := by
  unfold Ch.L at h
  cases e : findX S.X id with
  | none => rw [e] at h; cases h
  | some c =>
    rw [e] at h
    obtain ⟨A, B, h1, h2, h3⟩ := findX_split e
    exact ⟨c, A, B, h1, Option.some.inj h, h2, h3, (ok.x c (by rw [h1]; simp)).1, by rw [ok.g, e]; rfl⟩
/-- with one order turned -/
def Ch.put (S : Ch) (A B : List Lc) (c : Lc) : Ch := ⟨S.n, S.most, S.room, S.tr, S.J, S.used, S.m, S.l, S.c, S.T, A ++ c :: B⟩
theorem Ch.put_L {S : Ch} {A B : List Lc} {c c' : Lc} {id : Int} (hX : S.X = A ++ c :: B) (hA : ∀ a ∈ A, a.x.o.id ≠ id) (hc : c.x.o.id = id) (hc' : c'.x.o.id = id) : (S.put A B c').L = updI S.L id (some c'.x) := by
  funext y
  show (findX (A ++ c' :: B) y).map (·.x) = _
  rw [findX_put hA hc hc']
  unfold updI Ch.L
  rw [hX]
  split <;> rfl
theorem Ch.put_ok {S : Ch} (ok : S.Ok) {A B : List Lc} {c c' : Lc} {id : Int} (hX : S.X = A ++ c :: B) (hA : ∀ a ∈ A, a.x.o.id ≠ id) (hc : c.x.o.id = id) (hc' : c'.x.o.id = id) (hp : c'.p = c.p) (okc : c'.Ok) (hl : (c'.x.o.steps.length : Int) ≤ S.used) : (S.put A B c').Ok := by
  have hf : ∀ y, findX (A ++ c' :: B) y = if y = id then some c' else findX S.X y := fun y => by rw [hX]; exact findX_put hA hc hc' y
  have hfc : findX S.X id = some c := by
    have := findX_put (c := c) (c' := c) (B := B) hA hc hc id
    rw [if_pos rfl] at this
    rw [hX]; exact this
  refine ⟨ok.j, ok.m, ok.T, fun d hd => ?_, fun y => ?_, fun y hy => ?_, ok.u⟩
  · have hd : d ∈ A ++ c' :: B := hd
    rcases List.mem_append.1 hd with h | h
    · exact ok.x d (by rw [hX]; simp [h])
    · rcases List.mem_cons.1 h with rfl | h
      · exact ⟨okc, hl⟩
      · exact ok.x d (by rw [hX]; simp [h])
  · show getG S.l y = (findX (A ++ c' :: B) y).map (·.v)
    rw [hf, ok.g]
    split
    · rename_i e; subst e
      rw [hfc]
      show some c.v = some c'.v
      rw [Lc.v, Lc.v, hp]
    · rfl
  · have hy : (findX (A ++ c' :: B) y).isSome = true := hy
    rw [hf] at hy
    split at hy
    · rename_i e; subst e
      exact ok.r y (by rw [hfc]; rfl)
    · exact ok.r y hy
theorem begins_c {S : Ch} {id a b cc d : Int} {p : Option Addr} {n c : Nat} (H : Sh.Holds w0 hs w) [D : Del hs S.hp R] (ok : S.Ok) (hid : 1 ≤ id ∧ id ≤ 999) (hL : S.L id = none) (hsl : Sl (Sh.Holds w0 R) p n 1 ([a, b, cc, d].map I))
    (k : ∀ (S' : Ch) w', S'.Ok → S'.n = S.n → S'.most = S.most → S'.room = S.room → S'.tr = S.tr → S'.J = S.J → S'.T = S.T → S'.used = S.used → S'.L = updI S.L id (some (Ld.init id [a, b, cc, d])) → (∀ y v, getG S.l y = some v → getG S'.l y = some v) → Sh.Holds w0 (S'.hp :: R) w' → K (.tuple #[]) w') :
    gocall Tryz.prog 254 [S.v, .agg #[.string (B (ceL 1)), I id, .slice p n c]] K w := by
  replace H := openC (H.get S.hp)
  have hn : n = 4 := by have := hsl.len; simp at this; omega
  subst hn
  apply F254_go; unfold F254
  refine nw_h H (fun k6 w H => ?_)
  (with_reducible repeat first|refine ldA (by assumption) ?_|refine Stp.imp ?_|refine stA (by assumption) rfl fun _ _=>?_|refine nw_h (by assumption) fun _ _ _=>?_|refine ldSA ?_|refine asT_e [] rfl rfl ?_|refine ldD (by assumption) ?_|refine nwD (by assumption) fun _ _ _=>?_)
  refine br_t rfl ?_
  refine keeps_h H.drew ?_
  have hs2 : Sl (Sh.Holds w0 ([(k6, .cells #[.string (B (ceL 1)), I id, .slice p 4 c] 139 (0, 0))] :: [(S.n, .cells #[I S.most, I S.room, I S.tr, S.J.v, I S.used, .map (some S.m), S.T.v] 136 (0, 0))] :: S.J.hp :: [(S.m, mapG S.l S.c)] :: S.T.hp :: ledsH S.X :: R)) p 4 1 ([a, b, cc, d].map I) := hsl.mono fun w H => H.re
  have H' := H.drew
  have step : ∀ (j : Nat) (x : Int) {X : Int → World → Prop} {w1 : World}, j < 4 → [a, b, cc, d][j]? = some x → X x w1 → slAt p 4 (j : Int) 1 (fun a w => ldS (Sh.Holds w0 ([(k6, .cells #[.string (B (ceL 1)), I id, .slice p 4 c] 139 (0, 0))] :: [(S.n, .cells #[I S.most, I S.room, I S.tr, S.J.v, I S.used, .map (some S.m), S.T.v] 136 (0, 0))] :: S.J.hp :: [(S.m, mapG S.l S.c)] :: S.T.hp :: ledsH S.X :: R)) a (fun v w => asI .i64 v X w) w) w1 := fun j x {X} {w1} hj hx hX => by
    refine slAt_s hs2 (by omega) (by omega) (fun b1 o1 hp => ?_)
    refine ⟨I x, fun w' H' => ?_, asI_h hX⟩
    have := (hs2.yes _ hp).2 j (I x) (by rw [List.getElem?_map, hx]; rfl) w' H'
    simpa using this
  (with_reducible repeat first|refine ldA (by assumption) ?_|refine Stp.imp ?_|refine stA (by assumption) rfl fun _ _=>?_|refine nw_h (by assumption) fun _ _ _=>?_|refine ldSA ?_|refine asT_e [] rfl rfl ?_|refine ldD (by assumption) ?_|refine nwD (by assumption) fun _ _ _=>?_)
  refine step 0 a (by omega) rfl ?_
  (with_reducible repeat first|refine ldA (by assumption) ?_|refine Stp.imp ?_|refine stA (by assumption) rfl fun _ _=>?_|refine nw_h (by assumption) fun _ _ _=>?_|refine ldSA ?_|refine asT_e [] rfl rfl ?_|refine ldD (by assumption) ?_|refine nwD (by assumption) fun _ _ _=>?_)
  refine step 1 b (by omega) rfl ?_
  (with_reducible repeat first|refine ldA (by assumption) ?_|refine Stp.imp ?_|refine stA (by assumption) rfl fun _ _=>?_|refine nw_h (by assumption) fun _ _ _=>?_|refine ldSA ?_|refine asT_e [] rfl rfl ?_|refine ldD (by assumption) ?_|refine nwD (by assumption) fun _ _ _=>?_)
  refine step 2 cc (by omega) rfl ?_
  (with_reducible repeat first|refine ldA (by assumption) ?_|refine Stp.imp ?_|refine stA (by assumption) rfl fun _ _=>?_|refine nw_h (by assumption) fun _ _ _=>?_|refine ldSA ?_|refine asT_e [] rfl rfl ?_|refine ldD (by assumption) ?_|refine nwD (by assumption) fun _ _ _=>?_)
  refine step 3 d (by omega) rfl ?_
  refine nw_h H' (fun k79 w H => ?_)
  refine kpA H ?_
  refine msetG_h TML 4 H rfl ok.m (fun l' c' w o' g' H => ?_)
  have hf := ok.none hL
  refine k ⟨S.n, S.most, S.room, S.tr, S.J, S.used, S.m, l', c', S.T, S.X ++ [⟨k79, Row.nil, Row.nil, Row.nil, none, Ld.init id [a, b, cc, d]⟩]⟩ w ⟨ok.j, o', ok.T, fun e he => ?_, fun y => ?_, fun y hy => ?_, ok.u⟩ rfl rfl rfl rfl rfl rfl rfl ?_ ?_ ?_
  · rcases List.mem_append.1 he with h | h
    · exact ok.x e h
    · simp only [List.mem_singleton] at h
      subst h
      exact ⟨⟨Row.nil_ok 2, Row.nil_ok 1, Row.nil_ok 1, rfl, rfl, by show 0 ≤ 5000; omega, rfl⟩, by have := ok.u; show ((0 : Nat) : Int) ≤ S.used; omega⟩
  · rw [g', findX_new hf (id := id) rfl]
    split
    · rfl
    · exact ok.g y
  · rw [findX_new hf (id := id) rfl] at hy
    split at hy
    · rename_i e; rw [e]; exact hid
    · exact ok.r y hy
  · funext y
    show (findX (S.X ++ [_]) y).map (·.x) = _
    rw [findX_new hf (id := id) rfl]
    unfold updI Ch.L
    split <;> rfl
  · intro y v hy
    show getG l' y = some v
    rw [g']
    split
    · rename_i e; subst e
      rw [ok.g, hf] at hy; cases hy
    · exact hy
  · refine shutC (S := ⟨S.n, S.most, S.room, S.tr, S.J, S.used, S.m, l', c', S.T, S.X ++ [⟨k79, Row.nil, Row.nil, Row.nil, none, Ld.init id [a, b, cc, d]⟩]⟩) ?_
    have H8 : Sh.Holds w0 (Lc.hp ⟨k79, Row.nil, Row.nil, Row.nil, none, Ld.init id [a, b, cc, d]⟩ :: [(k6, .cells #[.string (B (ceL 1)), I id, .slice p 4 c] 139 (0, 0))] :: [(S.n, .cells #[I S.most, I S.room, I S.tr, S.J.v, I S.used, .map (some S.m), S.T.v] 136 (0, 0))] :: S.J.hp :: [(S.m, mapG l' c')] :: S.T.hp :: ledsH S.X :: R) w := H
    have H9 : Sh.Holds w0 (Lc.hp ⟨k79, Row.nil, Row.nil, Row.nil, none, Ld.init id [a, b, cc, d]⟩ :: ledsH (S.X ++ []) :: [(S.n, .cells #[I S.most, I S.room, I S.tr, S.J.v, I S.used, .map (some S.m), S.T.v] 136 (0, 0))] :: S.J.hp :: [(S.m, mapG l' c')] :: S.T.hp :: R) w := by
      rw [List.append_nil]; exact Holds.re H8
    have H7 := ledIn H9
    exact Holds.re H7
end
end Go.Proofs.YtcfmnoimehcfnaaGreatDoor
namespace Go.Proofs.YtcfmnoimehcfnaaGreatDoor
open Go Go.Sh

/-- the same chief, but for its orders and the number of entries -/
structure ChC (S S' : Ch) : Prop where
  n : S'.n = S.n
  most : S'.most = S.most
  room : S'.room = S.room
  tr : S'.tr = S.tr
  J : S'.J = S.J
  T : S'.T = S.T
  px : ∀ y v, getG S.l y = some v → getG S'.l y = some v
theorem okE_k {L : Int → Option Ld} {e : CE} (h : okE L e) : 1 ≤ e.k ∧ e.k ≤ 11 := by
  obtain ⟨-, h⟩ := h
  rcases h with h | h | h | h | h <;> omega
def nodeC (S : Ch) (u : Int) : Hp := [(S.n, .cells #[I S.most, I S.room, I S.tr, S.J.v, I u, .map (some S.m), S.T.v] 136 (0, 0))]
section
variable {w0 w : World} {hs R : List Hp} {K : KV}
set_option maxHeartbeats 4000000 in
theorem plays_c {S : Ch} {e : CE} {p : Option Addr} {n c : Nat} (H : Sh.Holds w0 hs w) [D : Del hs S.hp R] (ok : S.Ok) (hu : S.used < 4096) (he : okE S.L e) (hsl : Sl (Sh.Holds w0 R) p n 1 (e.ns.map I))
    (k : ∀ (S' : Ch) w', S'.Ok → ChC S S' → S'.used = S.used + 1 → S'.L = playC S.L e → Sh.Holds w0 (S'.hp :: R) w' → K (.tuple #[]) w') :
    gocall Tryz.prog 166 [S.v, .agg #[.string (B (ceL e.k)), I e.id, .slice p n c]] K w := by
  replace H := openC (H.get S.hp)
  have hn : n = e.ns.length := by have := hsl.len; simp at this; omega
  have hu0 := ok.u
  have hk := okE_k he
  obtain ⟨k0, hk0⟩ : ∃ k0, k0 = e.k := ⟨_, rfl⟩
  apply F166_go; unfold F166
  refine nw_h H (fun k6 w H => ?_)
  have hw : IntKind.wrap .i64 (S.used + 1) = S.used + 1 := wrap64 (by omega) (by omega)
  (with_reducible repeat first|refine ldA (by assumption) ?_|refine Stp.imp ?_|refine stA (by assumption) rfl fun _ _=>?_|refine nw_h (by assumption) fun _ _ _=>?_|refine ldSA ?_|refine asT_e [] rfl rfl ?_|refine ldD (by assumption) ?_|refine nwD (by assumption) fun _ _ _=>?_)
  rename_i w1 H1
  rw [hw] at H1
  replace H : Sh.Holds w0 ([(k6, .cells #[.string (B (ceL e.k)), I e.id, .slice p n c] 139 (0, 0))] :: [(S.n, .cells #[I S.most, I S.room, I S.tr, S.J.v, I (S.used + 1), .map (some S.m), S.T.v] 136 (0, 0))] :: S.J.hp :: [(S.m, mapG S.l S.c)] :: S.T.hp :: ledsH S.X :: R) w1.drew := H1.drew
  clear H1
  -- what the chief is, with one entry more
  let S1 : Ch := ⟨S.n, S.most, S.room, S.tr, S.J, S.used + 1, S.m, S.l, S.c, S.T, S.X⟩
  have ok1 : S1.Ok := ⟨ok.j, ok.m, ok.T, fun d hd => ⟨(ok.x d hd).1, by have := (ok.x d hd).2; show _ ≤ S.used + 1; omega⟩, ok.g, ok.r, by show 0 ≤ S.used + 1 ∧ S.used + 1 ≤ 4096; omega⟩
  refine mgetG_h TML 3 H rfl ?_
  obtain ⟨pt, hpt⟩ : ∃ pt : Option Addr, (getG S.l e.id).getD (.pointer none) = .pointer pt ∧ (S.L e.id = none → pt = none) ∧ (∀ x, S.L e.id = some x → ∃ c A B, S.X = A ++ c :: B ∧ c.x = x ∧ c.x.o.id = e.id ∧ (∀ a ∈ A, a.x.o.id ≠ e.id) ∧ c.Ok ∧ pt = some ⟨c.p, 0, none⟩) := by
    cases hL : S.L e.id with
    | none =>
      have hf := ok.none hL
      exact ⟨none, by rw [ok.g, hf]; rfl, fun _ => rfl, fun x h => (by cases h)⟩
    | some x =>
      obtain ⟨c, A, B, h1, h2, h3, h4, h5, h6⟩ := ok.some hL
      exact ⟨some ⟨c.p, 0, none⟩, by rw [h6]; rfl, fun h => (by cases h), fun y hy => (by cases hy; exact ⟨c, A, B, h1, h2, h3, h4, h5, rfl⟩)⟩
  obtain ⟨hp1, hp2, hp3⟩ := hpt
  refine asPtr_e hp1 ?_
  obtain ⟨base, hbase⟩ : ∃ base, base = ([(k6, .cells #[.string (B (ceL e.k)), I e.id, .slice p n c] 139 (0, 0))] :: [(S.n, .cells #[I S.most, I S.room, I S.tr, S.J.v, I (S.used + 1), .map (some S.m), S.T.v] 136 (0, 0))] :: S.J.hp :: [(S.m, mapG S.l S.c)] :: S.T.hp :: ledsH S.X :: R : List Hp) := ⟨_, rfl⟩
  have hs2 : Sl (Sh.Holds w0 ([(k6, .cells #[.string (B (ceL e.k)), I e.id, .slice p n c] 139 (0, 0))] :: [(S.n, .cells #[I S.most, I S.room, I S.tr, S.J.v, I (S.used + 1), .map (some S.m), S.T.v] 136 (0, 0))] :: S.J.hp :: [(S.m, mapG S.l S.c)] :: S.T.hp :: ledsH S.X :: R)) p n 1 (e.ns.map I) := hsl.mono fun w H => H.re
  refine ⟨fun y w => y.1 = e.ns.getD 0 0 ∧ Sh.Holds w0 base w, ?_, ?_⟩
  · (with_reducible repeat first|refine ldA (by assumption) ?_|refine Stp.imp ?_|refine stA (by assumption) rfl fun _ _=>?_|refine nw_h (by assumption) fun _ _ _=>?_|refine ldSA ?_|refine asT_e [] rfl rfl ?_|refine ldD (by assumption) ?_|refine nwD (by assumption) fun _ _ _=>?_)
    refine br_s (fun h => ?_) (fun h => ?_)
    · have h0 : 0 < e.ns.length := by simp at h; omega
      (with_reducible repeat first|refine ldA (by assumption) ?_|refine Stp.imp ?_|refine stA (by assumption) rfl fun _ _=>?_|refine nw_h (by assumption) fun _ _ _=>?_|refine ldSA ?_|refine asT_e [] rfl rfl ?_|refine ldD (by assumption) ?_|refine nwD (by assumption) fun _ _ _=>?_)
      refine slAt_s hs2 (by omega) (by omega) (fun b1 o1 hp => ?_)
      refine ldS_s hs2 hp H (v := I (e.ns.getD 0 0)) (by show (e.ns.map I)[0 * 1]? = _; rw [List.getElem?_map, List.getD_eq_getElem?_getD, List.getElem?_eq_getElem h0]; rfl) ?_
      refine asI_h ?_
      exact ⟨rfl, by rw [hbase]; exact H⟩
    · have h0 : e.ns = [] := List.eq_nil_of_length_eq_zero (by simp at h; omega)
      exact ⟨by rw [h0]; rfl, by rw [hbase]; exact H⟩
  clear H
  rintro ⟨num, u⟩ w ⟨hnum, H⟩
  dsimp only at hnum
  subst hnum
  rw [hbase] at H
  clear hbase base
  have shut1 : ∀ {w : World}, Sh.Holds w0 ([(k6, .cells #[.string (B (ceL e.k)), I e.id, .slice p n c] 139 (0, 0))] :: [(S.n, .cells #[I S.most, I S.room, I S.tr, S.J.v, I (S.used + 1), .map (some S.m), S.T.v] 136 (0, 0))] :: S.J.hp :: [(S.m, mapG S.l S.c)] :: S.T.hp :: ledsH S.X :: R) w → Sh.Holds w0 (S1.hp :: [(k6, .cells #[.string (B (ceL e.k)), I e.id, .slice p n c] 139 (0, 0))] :: R) w := fun {w} H => shutC (S := S1) (R := [(k6, .cells #[.string (B (ceL e.k)), I e.id, .slice p n c] 139 (0, 0))] :: R) (Holds.re H)
  (with_reducible repeat first|refine ldA (by assumption) ?_|refine Stp.imp ?_|refine stA (by assumption) rfl fun _ _=>?_|refine nw_h (by assumption) fun _ _ _=>?_|refine ldSA ?_|refine asT_e [] rfl rfl ?_|refine ldD (by assumption) ?_|refine nwD (by assumption) fun _ _ _=>?_)
  by_cases h1 : e.k = 1
  · obtain ⟨hid, hcase⟩ := he
    rcases hcase with ⟨-, hL, a, b, cc, d, hns, -⟩ | ⟨h, -⟩ | ⟨h, -⟩ | ⟨h, -⟩ | ⟨h, -⟩ <;> try omega
    rw [h1]
    refine br_t (ceL_eq 1) ?_
    rw [h1] at H shut1
    (with_reducible repeat first|refine ldA (by assumption) ?_|refine Stp.imp ?_|refine stA (by assumption) rfl fun _ _=>?_|refine nw_h (by assumption) fun _ _ _=>?_|refine ldSA ?_|refine asT_e [] rfl rfl ?_|refine ldD (by assumption) ?_|refine nwD (by assumption) fun _ _ _=>?_)
    refine begins_c (S := S1) (a := a) (b := b) (cc := cc) (d := d) (shut1 H) ok1 hid hL (by rw [← hns]; exact hsl.mono fun w H => H.tail) (fun S' w o1 e1 e2 e3 e4 e5 e6 e7 e8 e9 H => ?_)
    (with_reducible repeat first|refine ldA (by assumption) ?_|refine Stp.imp ?_|refine stA (by assumption) rfl fun _ _=>?_|refine nw_h (by assumption) fun _ _ _=>?_|refine ldSA ?_|refine asT_e [] rfl rfl ?_|refine ldD (by assumption) ?_|refine nwD (by assumption) fun _ _ _=>?_)
    refine k S' _ o1 ⟨e1, e2, e3, e4, e5, e6, e9⟩ e7 ?_ (Holds.drop1 H)
    rw [e8]
    unfold playC
    rw [if_pos h1, hns]; rfl
  refine br_f (ceL_ne hk (by omega) h1) ?_
  cases hL : S.L e.id with
  | none =>
    rw [hp2 hL]
    refine br_t rfl ?_
    refine k S1 _ ok1 ⟨rfl, rfl, rfl, rfl, rfl, rfl, fun _ _ h => h⟩ rfl ?_ (Holds.drop1 (shut1 H))
    show S.L = _
    unfold playC
    rw [if_neg h1, hL]
  | some x =>
    obtain ⟨cl, A, Bs, hX, hx, hid, hA, okc, hpt⟩ := hp3 x hL
    subst hpt
    have hpl : playC S.L e = updI S.L e.id (some (cl.x.play e)) := by unfold playC; rw [if_neg h1, hL, ← hx]
    refine br_f rfl ?_
    (with_reducible repeat first|refine ldA (by assumption) ?_|refine Stp.imp ?_|refine stA (by assumption) rfl fun _ _=>?_|refine nw_h (by assumption) fun _ _ _=>?_|refine ldSA ?_|refine asT_e [] rfl rfl ?_|refine ldD (by assumption) ?_|refine nwD (by assumption) fun _ _ _=>?_)
    -- the order taken out
    have out : ∀ {w : World}, Sh.Holds w0 ([(k6, .cells #[.string (B (ceL e.k)), I e.id, .slice p n c] 139 (0, 0))] :: [(S.n, .cells #[I S.most, I S.room, I S.tr, S.J.v, I (S.used + 1), .map (some S.m), S.T.v] 136 (0, 0))] :: S.J.hp :: [(S.m, mapG S.l S.c)] :: S.T.hp :: ledsH S.X :: R) w →
        Sh.Holds w0 (cl.hp :: ledsH (A ++ Bs) :: [(k6, .cells #[.string (B (ceL e.k)), I e.id, .slice p n c] 139 (0, 0))] :: [(S.n, .cells #[I S.most, I S.room, I S.tr, S.J.v, I (S.used + 1), .map (some S.m), S.T.v] 136 (0, 0))] :: S.J.hp :: [(S.m, mapG S.l S.c)] :: S.T.hp :: R) w := fun {w} H => by
      have H2 := H.get (ledsH S.X)
      rw [hX] at H2
      exact ledOut H2
    have back : ∀ {w : World} {c' : Lc}, c'.p = cl.p → c'.Ok → c'.x = cl.x.play e → c'.x.o.id = e.id → (c'.x.o.steps.length : Int) ≤ S.used + 1 → Sh.Holds w0 (c'.hp :: ledsH (A ++ Bs) :: [(k6, .cells #[.string (B (ceL e.k)), I e.id, .slice p n c] 139 (0, 0))] :: [(S.n, .cells #[I S.most, I S.room, I S.tr, S.J.v, I (S.used + 1), .map (some S.m), S.T.v] 136 (0, 0))] :: S.J.hp :: [(S.m, mapG S.l S.c)] :: S.T.hp :: R) w → K (.tuple #[]) w := fun {w c'} g1 g2 g3 g4 g5 H => by
      refine k (S1.put A Bs c') w (Ch.put_ok ok1 hX hA hid g4 g1 g2 g5) ⟨rfl, rfl, rfl, rfl, rfl, rfl, fun _ _ h => h⟩ rfl ?_ ?_
      · rw [Ch.put_L (S := S1) hX hA hid g4, hpl, g3]; rfl
      · refine shutC (S := S1.put A Bs c') ?_
        have H9 : Sh.Holds w0 ([(S.n, .cells #[I S.most, I S.room, I S.tr, S.J.v, I (S.used + 1), .map (some S.m), S.T.v] 136 (0, 0))] :: S.J.hp :: [(S.m, mapG S.l S.c)] :: S.T.hp :: ledsH (A ++ c' :: Bs) :: R) w := Holds.re (ledIn H)
        exact H9
    have hcl := (ok.x cl (by rw [hX]; simp)).2
    by_cases h2 : e.k = 2
    · obtain ⟨hidr, hcase⟩ := he
      rcases hcase with ⟨h, -⟩ | ⟨-, i, s, m, hns, -⟩ | ⟨h, -⟩ | ⟨h, -⟩ | ⟨h, -⟩ <;> try omega
      have hn3 : n = 3 := by rw [hn, hns]; rfl
      subst hn3
      have hpe : cl.x.play e = cl.x.step s m := by unfold Ld.play; rw [if_pos h2, hns]; rfl
      rw [hpe] at back
      rw [h2]
      refine br_t (ceL_eq 2) ?_
      rw [h2] at H out back
      (with_reducible repeat first|refine ldA (by assumption) ?_|refine Stp.imp ?_|refine stA (by assumption) rfl fun _ _=>?_|refine nw_h (by assumption) fun _ _ _=>?_|refine ldSA ?_|refine asT_e [] rfl rfl ?_|refine ldD (by assumption) ?_|refine nwD (by assumption) fun _ _ _=>?_)
      refine br_t rfl ?_
      replace H := openL (out H.drew)
      refine keepsA ([(cl.p, .cells #[I cl.x.o.id, I cl.x.o.item, I cl.x.o.qty, I cl.x.o.client, I cl.x.o.price, cl.sR.v, cl.dR.v, cl.uR.v, .bool cl.x.f.asked, .bool cl.x.f.yes, .bool cl.x.f.turned, .bool cl.x.f.a0, .bool cl.x.f.a1, .bool cl.x.f.shipped, .bool cl.x.f.d0, .bool cl.x.f.d1, .bool cl.x.f.acc, .pointer (taP cl.T)] 147 (0, 0))] :: [(k6, .cells #[.string (B (ceL 2)), I e.id, .slice p 3 c] 139 (0, 0))] :: R) H ?_
      have hs3 : Sl (Sh.Holds w0 ([(cl.p, .cells #[I cl.x.o.id, I cl.x.o.item, I cl.x.o.qty, I cl.x.o.client, I cl.x.o.price, cl.sR.v, cl.dR.v, cl.uR.v, .bool cl.x.f.asked, .bool cl.x.f.yes, .bool cl.x.f.turned, .bool cl.x.f.a0, .bool cl.x.f.a1, .bool cl.x.f.shipped, .bool cl.x.f.d0, .bool cl.x.f.d1, .bool cl.x.f.acc, .pointer (taP cl.T)] 147 (0, 0))] :: [(k6, .cells #[.string (B (ceL 2)), I e.id, .slice p 3 c] 139 (0, 0))] :: R)) p 3 1 ([i, s, m].map I) := by rw [← hns]; exact hsl.mono fun w H => H.tail.tail
      have step : ∀ (j : Nat) (x : Int) {X : Int → World → Prop} {w1 : World}, j < 3 → [i, s, m][j]? = some x → X x w1 → slAt p 3 (j : Int) 1 (fun a w => ldS (Sh.Holds w0 ([(cl.p, .cells #[I cl.x.o.id, I cl.x.o.item, I cl.x.o.qty, I cl.x.o.client, I cl.x.o.price, cl.sR.v, cl.dR.v, cl.uR.v, .bool cl.x.f.asked, .bool cl.x.f.yes, .bool cl.x.f.turned, .bool cl.x.f.a0, .bool cl.x.f.a1, .bool cl.x.f.shipped, .bool cl.x.f.d0, .bool cl.x.f.d1, .bool cl.x.f.acc, .pointer (taP cl.T)] 147 (0, 0))] :: [(k6, .cells #[.string (B (ceL 2)), I e.id, .slice p 3 c] 139 (0, 0))] :: R)) a (fun v w => asI .i64 v X w) w) w1 := fun j x {X} {w1} hj hx hX => by
        refine slAt_s hs3 (by omega) (by omega) (fun b1 o1 hp => ?_)
        refine ⟨I x, fun w' H' => ?_, asI_h hX⟩
        have := (hs3.yes _ hp).2 j (I x) (by rw [List.getElem?_map, hx]; rfl) w' H'
        simpa using this
      (with_reducible repeat first|refine ldA (by assumption) ?_|refine Stp.imp ?_|refine stA (by assumption) rfl fun _ _=>?_|refine nw_h (by assumption) fun _ _ _=>?_|refine ldSA ?_|refine asT_e [] rfl rfl ?_|refine ldD (by assumption) ?_|refine nwD (by assumption) fun _ _ _=>?_)
      refine step 1 s (by omega) rfl ?_
      (with_reducible repeat first|refine ldA (by assumption) ?_|refine Stp.imp ?_|refine stA (by assumption) rfl fun _ _=>?_|refine nw_h (by assumption) fun _ _ _=>?_|refine ldSA ?_|refine asT_e [] rfl rfl ?_|refine ldD (by assumption) ?_|refine nwD (by assumption) fun _ _ _=>?_)
      refine step 2 m (by omega) rfl ?_
      refine nw_h H (fun k127 w H => ?_)
      refine kpA H ?_
      replace H := H.get (cl.sR.hp 81)
      have hsn := okc.s.len
      have hlen := okc.len
      rw [sps, flat_len Sp.len] at hsn
      refine bapp1_h (news := Sp.cells ⟨s, m⟩) elS 0 H rfl okc.s rfl (by simp [Sp.cells, Value.oneCell']) (by omega) (by unfold maxLen; omega) (fun r' w hn' ok' H => ?_)
      (with_reducible repeat first|refine ldA (by assumption) ?_|refine Stp.imp ?_|refine stA (by assumption) rfl fun _ _=>?_|refine nw_h (by assumption) fun _ _ _=>?_|refine ldSA ?_|refine asT_e [] rfl rfl ?_|refine ldD (by assumption) ?_|refine nwD (by assumption) fun _ _ _=>?_)
      rename_i w2 H2
      have oks : r'.Ok 2 (sps (cl.x.o.steps ++ [⟨s, m⟩])) := by
        have : sps (cl.x.o.steps ++ [⟨s, m⟩]) = sps cl.x.o.steps ++ Sp.cells ⟨s, m⟩ := by simp [sps]
        rw [this]; exact ok'
      have fin : ∀ (dR uR : Row) (w : World), dR.Ok 1 ((cl.x.f.done ++ [false]).map Bv) → uR.Ok 1 ((cl.x.f.undone ++ [false]).map Bv) →
          Sh.Holds w0 ([(cl.p, .cells #[I cl.x.o.id, I cl.x.o.item, I cl.x.o.qty, I cl.x.o.client, I cl.x.o.price, r'.v, dR.v, uR.v, .bool cl.x.f.asked, .bool cl.x.f.yes, .bool cl.x.f.turned, .bool cl.x.f.a0, .bool cl.x.f.a1, .bool cl.x.f.shipped, .bool cl.x.f.d0, .bool cl.x.f.d1, .bool cl.x.f.acc, .pointer (taP cl.T)] 147 (0, 0))] :: r'.hp 81 :: dR.hp 4 :: uR.hp 4 :: taH cl.T cl.x.t :: ledsH (A ++ Bs) :: [(k6, .cells #[.string (B (ceL 2)), I e.id, .slice p 3 c] 139 (0, 0))] :: [(S.n, .cells #[I S.most, I S.room, I S.tr, S.J.v, I (S.used + 1), .map (some S.m), S.T.v] 136 (0, 0))] :: S.J.hp :: [(S.m, mapG S.l S.c)] :: S.T.hp :: R) w → K (.tuple #[]) w := fun dR uR w od ou H => by
        refine back (c' := ⟨cl.p, r', dR, uR, cl.T, cl.x.step s m⟩) rfl ⟨oks, od, ou, ?_, ?_, ?_, okc.t⟩ rfl hid ?_ (shutL (c := ⟨cl.p, r', dR, uR, cl.T, cl.x.step s m⟩) H)
        · show (cl.x.f.done ++ [false]).length = (cl.x.o.steps ++ [(⟨s, m⟩ : Sp)]).length
          have := okc.dl; simp; omega
        · show (cl.x.f.undone ++ [false]).length = (cl.x.o.steps ++ [(⟨s, m⟩ : Sp)]).length
          have := okc.ul; simp; omega
        · show (cl.x.o.steps ++ [(⟨s, m⟩ : Sp)]).length ≤ 5000
          simp; omega
        · show ((cl.x.o.steps ++ [(⟨s, m⟩ : Sp)]).length : Int) ≤ S.used + 1
          simp; omega
      replace H := H2.drew
      clear H2
      refine keepsA [[(cl.p, .cells #[I cl.x.o.id, I cl.x.o.item, I cl.x.o.qty, I cl.x.o.client, I cl.x.o.price, r'.v, cl.dR.v, cl.uR.v, .bool cl.x.f.asked, .bool cl.x.f.yes, .bool cl.x.f.turned, .bool cl.x.f.a0, .bool cl.x.f.a1, .bool cl.x.f.shipped, .bool cl.x.f.d0, .bool cl.x.f.d1, .bool cl.x.f.acc, .pointer (taP cl.T)] 147 (0, 0))]] H ?_
      have hdn := okc.d.len
      have hun := okc.u.len
      have hdl := okc.dl
      have hul := okc.ul
      simp only [List.length_map] at hdn hun
      have bd : ∀ {W : World} {Q : List Hp} {K' : KV} {g : Nat}, Sh.Holds w0 (cl.dR.hp 4 :: [(g, .cells #[.bool false] 4 (0, 0))] :: Q) W → (∀ (r1 : Row) w', r1.Ok 1 ((cl.x.f.done ++ [false]).map Bv) → Sh.Holds w0 (r1.hp 4 :: [(g, .cells #[.bool false] 4 (0, 0))] :: Q) w' → K' r1.v w') → bapp .full Tryz.prog #[121, 121] 121 cl.dR.v (.slice (some ⟨g, 0, none⟩) 1 1) K' W := fun {W Q K' g} H kk =>
        bapp1_h (news := [Bv false]) elB 0 H rfl okc.d rfl (by simp [Value.oneCell']) (by omega) (by unfold maxLen; omega) (fun r1 w hn' ok' H => kk r1 w (by rw [List.map_append]; exact ok') H)
      have bu : ∀ {W : World} {Q : List Hp} {K' : KV} {g : Nat}, Sh.Holds w0 (cl.uR.hp 4 :: [(g, .cells #[.bool false] 4 (0, 0))] :: Q) W → (∀ (r1 : Row) w', r1.Ok 1 ((cl.x.f.undone ++ [false]).map Bv) → Sh.Holds w0 (r1.hp 4 :: [(g, .cells #[.bool false] 4 (0, 0))] :: Q) w' → K' r1.v w') → bapp .full Tryz.prog #[121, 121] 121 cl.uR.v (.slice (some ⟨g, 0, none⟩) 1 1) K' W := fun {W Q K' g} H kk =>
        bapp1_h (news := [Bv false]) elB 0 H rfl okc.u rfl (by simp [Value.oneCell']) (by omega) (by unfold maxLen; omega) (fun r1 w hn' ok' H => kk r1 w (by rw [List.map_append]; exact ok') H)
      (with_reducible repeat first|refine ldA (by assumption) ?_|refine Stp.imp ?_|refine stA (by assumption) rfl fun _ _=>?_|refine nw_h (by assumption) fun _ _ _=>?_|refine ldSA ?_|refine asT_e [] rfl rfl ?_|refine ldD (by assumption) ?_|refine nwD (by assumption) fun _ _ _=>?_)
      refine both_h ?_ ?_
      · refine nw_h H (fun g1 w H => ?_)
        refine kpA H ?_
        refine both_h ?_ ?_
        · refine bd (g := g1) ((H.get [(g1, .cells #[.bool false] 4 (0, 0))]).get (cl.dR.hp 4)) (fun d1 w od H => ?_)
          (with_reducible repeat first|refine ldA (by assumption) ?_|refine Stp.imp ?_|refine stA (by assumption) rfl fun _ _=>?_|refine nw_h (by assumption) fun _ _ _=>?_|refine ldSA ?_|refine asT_e [] rfl rfl ?_|refine ldD (by assumption) ?_|refine nwD (by assumption) fun _ _ _=>?_)
          refine kpA H ?_
          refine nw_h H (fun g2 w H => ?_)
          refine kpA H ?_
          refine bu (g := g2) ((H.get [(g2, .cells #[.bool false] 4 (0, 0))]).get (cl.uR.hp 4)) (fun u1 w ou H => ?_)
          (with_reducible repeat first|refine ldA (by assumption) ?_|refine Stp.imp ?_|refine stA (by assumption) rfl fun _ _=>?_|refine nw_h (by assumption) fun _ _ _=>?_|refine ldSA ?_|refine asT_e [] rfl rfl ?_|refine ldD (by assumption) ?_|refine nwD (by assumption) fun _ _ _=>?_)
          exact fin d1 u1 _ od ou (Holds.re (by assumption))
        · refine nw_h H (fun g2 w H => ?_)
          refine kpA H ?_
          refine bd (g := g1) ((H.get [(g1, .cells #[.bool false] 4 (0, 0))]).get (cl.dR.hp 4)) (fun d1 w od H => ?_)
          (with_reducible repeat first|refine ldA (by assumption) ?_|refine Stp.imp ?_|refine stA (by assumption) rfl fun _ _=>?_|refine nw_h (by assumption) fun _ _ _=>?_|refine ldSA ?_|refine asT_e [] rfl rfl ?_|refine ldD (by assumption) ?_|refine nwD (by assumption) fun _ _ _=>?_)
          refine kpA H ?_
          refine bu (g := g2) ((H.get [(g2, .cells #[.bool false] 4 (0, 0))]).get (cl.uR.hp 4)) (fun u1 w ou H => ?_)
          (with_reducible repeat first|refine ldA (by assumption) ?_|refine Stp.imp ?_|refine stA (by assumption) rfl fun _ _=>?_|refine nw_h (by assumption) fun _ _ _=>?_|refine ldSA ?_|refine asT_e [] rfl rfl ?_|refine ldD (by assumption) ?_|refine nwD (by assumption) fun _ _ _=>?_)
          exact fin d1 u1 _ od ou (Holds.re (by assumption))
      · refine nw_h H (fun g1 w H => ?_)
        refine kpA H ?_
        refine nw_h H (fun g2 w H => ?_)
        refine kpA H ?_
        refine bd (g := g2) ((H.get [(g2, .cells #[.bool false] 4 (0, 0))]).get (cl.dR.hp 4)) (fun d1 w od H => ?_)
        (with_reducible repeat first|refine ldA (by assumption) ?_|refine Stp.imp ?_|refine stA (by assumption) rfl fun _ _=>?_|refine nw_h (by assumption) fun _ _ _=>?_|refine ldSA ?_|refine asT_e [] rfl rfl ?_|refine ldD (by assumption) ?_|refine nwD (by assumption) fun _ _ _=>?_)
        refine kpA H ?_
        refine bu (g := g1) ((H.get [(g1, .cells #[.bool false] 4 (0, 0))]).get (cl.uR.hp 4)) (fun u1 w ou H => ?_)
        (with_reducible repeat first|refine ldA (by assumption) ?_|refine Stp.imp ?_|refine stA (by assumption) rfl fun _ _=>?_|refine nw_h (by assumption) fun _ _ _=>?_|refine ldSA ?_|refine asT_e [] rfl rfl ?_|refine ldD (by assumption) ?_|refine nwD (by assumption) fun _ _ _=>?_)
        exact fin d1 u1 _ od ou (Holds.re (by assumption))
    · refine br_f (ceL_ne hk (by omega) h2) ?_
      (with_reducible repeat first|refine ldA (by assumption) ?_|refine Stp.imp ?_|refine stA (by assumption) rfl fun _ _=>?_|refine nw_h (by assumption) fun _ _ _=>?_|refine ldSA ?_|refine asT_e [] rfl rfl ?_|refine ldD (by assumption) ?_|refine nwD (by assumption) fun _ _ _=>?_)
      have hf : factOk cl.x e.k (e.ns.getD 0 0) := by
        obtain ⟨-, hcase⟩ := he
        unfold factOk
        rcases hcase with ⟨h, -⟩ | ⟨h, -⟩ | ⟨h, -⟩ | ⟨h, i, hns, hr, hi⟩ | ⟨h, i, hns, hi⟩
        · omega
        · omega
        · omega
        · have := hi x hL
          rw [← hx] at this
          rw [hns]
          simp only [List.getD_cons_zero]
          omega
        · rw [hns]
          simp only [List.getD_cons_zero]
          omega
      refine facts_c (c := cl) (out H) okc hf (fun c' w oc e1 e2 H => ?_)
      (with_reducible repeat first|refine ldA (by assumption) ?_|refine Stp.imp ?_|refine stA (by assumption) rfl fun _ _=>?_|refine nw_h (by assumption) fun _ _ _=>?_|refine ldSA ?_|refine asT_e [] rfl rfl ?_|refine ldD (by assumption) ?_|refine nwD (by assumption) fun _ _ _=>?_)
      have hpe : cl.x.play e = cl.x.fact e.k (e.ns.getD 0 0) := by unfold Ld.play; rw [if_neg h2]
      have hst : (cl.x.fact e.k (e.ns.getD 0 0)).o = cl.x.o := by
        unfold Ld.fact
        repeat' split
        all_goals rfl
      refine back (c' := c') e1 oc (by rw [hpe, e2]) (by rw [e2, hst]; exact hid) (by rw [e2, hst]; omega) H
end
end Go.Proofs.YtcfmnoimehcfnaaGreatDoor
namespace Go.Proofs.YtcfmnoimehcfnaaGreatDoor
open Go Go.Sh

def ofL (x : Ld) : Od × Fc := (x.o, x.f)
/-- so far as the orders go, the same -/
def AlikeL (L M : Int → Option Ld) : Prop := ∀ id, (L id).map ofL = (M id).map ofL
theorem okE_alike {L M : Int → Option Ld} (h : AlikeL L M) {e : CE} (he : okE L e) : okE M e := by
  have hL := h e.id
  have hs : ∀ x, M e.id = some x → ∃ y, L e.id = some y ∧ y.o = x.o := fun x hx => by
    rw [hx] at hL
    cases hy : L e.id with
    | none => rw [hy] at hL; cases hL
    | some y =>
      rw [hy] at hL
      have := Option.some.inj hL
      exact ⟨y, rfl, (Prod.mk.inj this).1⟩
  obtain ⟨h0, h1⟩ := he
  refine ⟨h0, ?_⟩
  rcases h1 with ⟨h1, h2, h3⟩ | h1 | h1 | ⟨h1, i, h2, h3, h4⟩ | h1
  · refine .inl ⟨h1, ?_, h3⟩
    rw [h2] at hL
    cases hm : M e.id with
    | none => rfl
    | some y => rw [hm] at hL; cases hL
  · exact .inr (.inl h1)
  · exact .inr (.inr (.inl h1))
  · refine .inr (.inr (.inr (.inl ⟨h1, i, h2, h3, fun x hx => ?_⟩)))
    obtain ⟨y, hy, e⟩ := hs x hx
    rw [← e]; exact h4 y hy
  · exact .inr (.inr (.inr (.inr h1)))
theorem fact_of (o : Od) (f : Fc) (t t' : Option (Bool × Bool)) (k n : Int) : ofL (Ld.fact ⟨o, f, t⟩ k n) = ofL (Ld.fact ⟨o, f, t'⟩ k n) := by
  unfold Ld.fact ofL
  by_cases h3 : k = 3
  · simp [h3]
  by_cases h4 : k = 4
  · simp [h4]
  by_cases h5 : k = 5
  · simp [h5]
  by_cases h6 : k = 6
  · simp [h6]
  by_cases h7 : k = 7
  · simp [h7]
  by_cases h8 : k = 8
  · simp [h8]
  by_cases h9 : k = 9
  · simp [h9]
  by_cases h10 : k = 10
  · simp [h10]
  by_cases h11 : k = 11
  · simp [h11]
  simp [h3, h4, h5, h6, h7, h8, h9, h10, h11]
theorem play_alike {L M : Int → Option Ld} (h : AlikeL L M) (e : CE) : AlikeL (playC L e) (playC M e) := by
  intro id
  have hL := h e.id
  have hi := h id
  unfold playC
  split
  · unfold updI
    split
    · rfl
    · exact hi
  · cases hl : L e.id with
    | none =>
      rw [hl] at hL
      have hm : M e.id = none := by
        cases hm : M e.id with
        | none => rfl
        | some y => rw [hm] at hL; cases hL
      rw [hm]; exact hi
    | some x =>
      rw [hl] at hL
      cases hm : M e.id with
      | none => rw [hm] at hL; cases hL
      | some y =>
        rw [hm] at hL
        have e1 := Prod.mk.inj (Option.some.inj hL)
        have ho : x.o = y.o := e1.1
        have hf : x.f = y.f := e1.2
        dsimp only
        unfold updI
        split
        · simp only [Option.map_some, ofL]
          congr 1
          unfold Ld.play
          split
          · unfold Ld.step; simp [ho, hf]
          · have := fact_of x.o x.f x.t y.t e.k (e.ns.getD 0 0)
            unfold ofL at this
            have ey : y = ⟨x.o, x.f, y.t⟩ := by rw [ho, hf]
            rw [ey]; exact this
        · exact hi
theorem fold_alike : ∀ {es : List CE} {L M : Int → Option Ld}, AlikeL L M → AlikeL (es.foldl playC L) (es.foldl playC M)
  | [], _, _, h => h
  | e :: es, _, _, h => fold_alike (es := es) (play_alike h e)
/-- each entry may come where it comes -/
def okSeq (L : Int → Option Ld) (es : List CE) : Prop := ∀ (i : Nat) (e : CE), es[i]? = some e → okE ((es.take i).foldl playC L) e
theorem okSeq.one {L : Int → Option Ld} {e : CE} (h : okE L e) : okSeq L [e] := by
  intro i x hx
  cases i with
  | zero => simp at hx; subst hx; exact h
  | succ i => simp at hx
def WF (es : List CE) : Prop := okSeq (fun _ => none) es
theorem WF.app {es l : List CE} {L : Int → Option Ld} (h : WF es) (hL : AlikeL L (runC es)) (hl : okSeq L l) : WF (es ++ l) := by
  intro i e he
  by_cases hi : i < es.length
  · rw [List.getElem?_append_left hi] at he
    rw [List.take_append_of_le_length (by omega)]
    exact h i e he
  · rw [List.getElem?_append_right (by omega)] at he
    rw [List.take_append, List.foldl_append, List.take_of_length_le (by omega)]
    exact okE_alike (fold_alike hL) (hl _ e he)
theorem WF.take {es : List CE} (h : WF es) (m : Nat) : WF (es.take m) := by
  intro i e he
  rw [List.getElem?_take] at he
  split at he
  · rename_i hi
    rw [List.take_take, Nat.min_eq_left (by omega)]
    exact h i e he
  · cases he
theorem named_ceL {k : Int} (h : 1 ≤ k ∧ k ≤ 11) : namedB (B (ceL k)) = true := by
  have h : k = 1 ∨ k = 2 ∨ k = 3 ∨ k = 4 ∨ k = 5 ∨ k = 6 ∨ k = 7 ∨ k = 8 ∨ k = 9 ∨ k = 10 ∨ k = 11 := by omega
  have h1 : namedB (B (ceL 1)) = true := by kernel_rfl
  have h2 : namedB (B (ceL 2)) = true := by kernel_rfl
  have h3 : namedB (B (ceL 3)) = true := by kernel_rfl
  have h4 : namedB (B (ceL 4)) = true := by kernel_rfl
  have h5 : namedB (B (ceL 5)) = true := by kernel_rfl
  have h6 : namedB (B (ceL 6)) = true := by kernel_rfl
  have h7 : namedB (B (ceL 7)) = true := by kernel_rfl
  have h8 : namedB (B (ceL 8)) = true := by kernel_rfl
  have h9 : namedB (B (ceL 9)) = true := by kernel_rfl
  have h10 : namedB (B (ceL 10)) = true := by kernel_rfl
  have h11 : namedB (B (ceL 11)) = true := by kernel_rfl
  rcases h with rfl | rfl | rfl | rfl | rfl | rfl | rfl | rfl | rfl | rfl | rfl <;> assumption
theorem may_k {kind : ByteArray} {id : Int} {l : List Int} (hk : namedB kind = true) (h0 : 0 ≤ id) (h1 : id ≤ 999) (hl : l.length ≤ 4) (ha : ∀ x ∈ l, -1000000000 ≤ x ∧ x ≤ 1000000000) : mayE kind id l = true := by
  unfold mayE numberedB
  rw [hk]
  have : l.any badN = false := by
    rw [List.any_eq_false]
    intro x hx
    have := ha x hx
    simp [badN]; omega
  rw [this]
  simp; omega
theorem okE_may {L : Int → Option Ld} {e : CE} (h : okE L e) : mayN e.en = true := by
  show mayE (B (ceL e.k)) e.id e.ns = true
  obtain ⟨h0, h1⟩ := h
  refine may_k (named_ceL (okE_k (L := L) ⟨h0, h1⟩)) (by omega) h0.2 ?_ (fun x hx => ?_)
  · rcases h1 with ⟨-, -, a, b, c, d, h, -⟩ | ⟨-, a, b, c, h, -⟩ | ⟨-, h⟩ | ⟨-, a, h, -⟩ | ⟨-, a, h, -⟩ <;> rw [h] <;> simp
  · rcases h1 with ⟨-, -, a, b, c, d, h, g1, g2, g3, g4⟩ | ⟨-, a, b, c, h, g1, g2, g3⟩ | ⟨-, h⟩ | ⟨-, a, h, g, -⟩ | ⟨-, a, h, g⟩ <;> rw [h] at hx <;> simp [numOk] at * <;> omega
theorem WF.may {es : List CE} (h : WF es) : ∀ e ∈ es.map CE.en, mayN e = true := fun x hx => by
  obtain ⟨e, he, rfl⟩ := List.mem_map.1 hx
  obtain ⟨i, hi, rfl⟩ := List.getElem_of_mem he
  exact okE_may (h i _ (List.getElem?_eq_getElem hi))
/-- a chief that is up, as plain data -/
structure ChIs (S : Ch) (P : CP) (s : CS) : Prop where
  ok : S.Ok
  lines : S.J.lines = (s.es.map CE.en).map LB
  wf : WF s.es
  sure : S.J.sure = s.sure
  le : s.sure ≤ s.es.length
  dn : S.J.down = false
  len : (s.es.length : Int) ≤ P.room
  used : S.used = s.es.length
  jroom : S.J.room = P.room
  room : S.room = P.room ∧ 1 ≤ P.room ∧ P.room ≤ 4096
  most : S.most = P.most
  tries : S.T.tr = P.tries ∧ triesB S.tr = P.tries
  L : S.L = s.L
  B : S.T.B = s.B
  eq : AlikeL s.L (runC s.es)
/-- what stays the same -/
structure ChK (S S' : Ch) : Prop where
  n : S'.n = S.n
  tr : S'.tr = S.tr
  jn : S'.J.j = S.J.j
  b : S'.T.b = S.T.b
  px : ∀ y v, getG S.l y = some v → getG S'.l y = some v
theorem ChK.rfl' (S : Ch) : ChK S S := ⟨rfl, rfl, rfl, rfl, fun _ _ h => h⟩
theorem ChK.trans {S S' S'' : Ch} (h : ChK S S') (g : ChK S' S'') : ChK S S'' := ⟨g.n.trans h.n, g.tr.trans h.tr, g.jn.trans h.jn, g.b.trans h.b, fun y v q => g.px y v (h.px y v q)⟩
/-- entries in a slice, with the slices of their numbers -/
def ecells (x : CE × Option Addr × Nat × Nat) : List Value := [.string (B (ceL x.1.k)), I x.1.id, .slice x.2.1 x.2.2.1 x.2.2.2]
structure EsS (S : World → Prop) (p : Option Addr) (n : Nat) (l : List (CE × Option Addr × Nat × Nat)) : Prop where
  s : Sl S p n 3 (l.flatMap ecells)
  e : ∀ x ∈ l, Sl S x.2.1 x.2.2.1 1 (x.1.ns.map I)
theorem EsS.n {S : World → Prop} {p : Option Addr} {n : Nat} {l : List (CE × Option Addr × Nat × Nat)} (h : EsS S p n l) : n = l.length := by
  have := h.s.len
  rw [flat_len (f := ecells) (z := 3) (fun _ => rfl)] at this
  omega
theorem EsS.mono {S S' : World → Prop} {p : Option Addr} {n : Nat} {l : List (CE × Option Addr × Nat × Nat)} (h : EsS S p n l) (hs : ∀ w, S' w → S w) : EsS S' p n l := ⟨h.s.mono hs, fun x hx => (h.e x hx).mono hs⟩
section
variable {w0 w : World} {hs R : List Hp} {K : KV}
def jOnly (S : Ch) (J : Jr) : Ch := ⟨S.n, S.most, S.room, S.tr, J, S.used, S.m, S.l, S.c, S.T, S.X⟩
set_option maxHeartbeats 2000000 in
theorem notes_c {S : Ch} {P : CP} {s : CS} {l : List (CE × Option Addr × Nat × Nat)} {p : Option Addr} {n c : Nat} (T : Tab w0) (H : Sh.Holds w0 hs w) [D : Del hs S.hp R] (I0 : ChIs S P s) (hl : EsS (Sh.Holds w0 R) p n l) (hln : l.length ≤ 100) (hseq : okSeq s.L (l.map (·.1)))
    (k0 : noteC P s (l.map (·.1)) = none → ∀ w', Sh.Holds w0 (S.hp :: R) w' → K (.bool false) w')
    (k1 : ∀ s', noteC P s (l.map (·.1)) = some s' → ∀ (S' : Ch) w', ChIs S' P s' → ChK S S' → Sh.Holds w0 (S'.hp :: R) w' → K (.bool true) w') :
    gocall Tryz.prog 110 [S.v, .slice p n c] K w := by
  replace H := openC (H.get S.hp)
  have hn := hl.n
  have hu := I0.used
  have hlen := I0.len
  obtain ⟨hr1, hr2, hr3⟩ := I0.room
  have hmm : (l.map (·.1)).length = l.length := by simp
  apply F110_go; unfold F110
  replace H := H.drew
  (with_reducible repeat first|refine ldA (by assumption) ?_|refine Stp.imp ?_|refine stA (by assumption) rfl fun _ _=>?_|refine nw_h (by assumption) fun _ _ _=>?_|refine ldSA ?_|refine asT_e [] rfl rfl ?_|refine ldD (by assumption) ?_|refine nwD (by assumption) fun _ _ _=>?_)
  have hw : IntKind.wrap .i64 (S.used + n) = S.used + n := wrap64 (by omega) (by omega)
  refine br_s (fun h => ?_) (fun h => ?_)
  · simp only [hw, decide_eq_true_eq] at h
    exact k0 (by unfold noteC; rw [if_pos (by rw [hmm]; omega)]) _ (shutC H)
  simp only [hw, decide_eq_false_iff_not] at h
  have hnote : noteC P s (l.map (·.1)) = some { s with es := s.es ++ l.map (·.1), L := (l.map (·.1)).foldl playC s.L } := by unfold noteC; rw [if_neg (by rw [hmm]; omega)]
  have nn : S.v = .pointer (some ⟨S.n, 0, none⟩) := rfl
  refine ⟨fun y w => (0 ≤ y.1 ∧ y.1 ≤ l.length) ∧ ∃ S' : Ch, S'.Ok ∧ ChC (jOnly S S'.J) S' ∧ S'.J.j = S.J.j ∧ S'.J.room = S.J.room ∧ S'.J.sure = S.J.sure ∧ S'.J.down = false ∧ S'.J.lines = S.J.lines ++ (((l.map (·.1)).take y.1.toNat).map CE.en).map LB ∧ S'.used = S.used + y.1 ∧ S'.L = ((l.map (·.1)).take y.1.toNat).foldl playC s.L ∧ Sh.Holds w0 (S'.hp :: R) w, fun y _ => (l.length - y.1).toNat, ⟨by simp, S, I0.ok, ⟨rfl, rfl, rfl, rfl, rfl, rfl, fun _ _ h => h⟩, rfl, rfl, rfl, I0.dn, by simp, by simp, by simpa using I0.L, shutC H⟩, ?_⟩
  clear H
  rintro ⟨i, u⟩ w ⟨⟨h0, h1⟩, S1, ok1, c1, j1, j2, j3, j4, j5, u1, l1, H⟩
  dsimp only at h0 h1 j5 u1 l1
  dsimp only
  refine br_s (fun hlt => ?_) (fun hlt => ?_)
  · simp only [decide_eq_true_eq] at hlt
    have hwi : IntKind.wrap .i64 (i + 1) = i + 1 := wrap64 (by omega) (by omega)
    simp only [hwi]
    have hi : i.toNat < l.length := by omega
    have hp' := List.getElem?_eq_getElem hi
    have hcc := fun {j : Nat} (hj : j < 3) => flat_at (f := ecells) (z := 3) (fun _ => rfl) hp' hj
    have hes := hl.e _ (List.getElem_mem hi)
    have hey : (l.map (·.1))[i.toNat]? = some l[i.toNat].1 := by rw [List.getElem?_map, hp']; rfl
    generalize l[i.toNat] = x at hp' hcc hes hey
    obtain ⟨e, ep, en, ec⟩ := x
    have hoke := hseq _ _ hey
    rw [← l1] at hoke
    dsimp only at hoke hes hey
    have hst : Sl (Sh.Holds w0 (S1.hp :: R)) p n 3 (l.flatMap ecells) := hl.s.mono fun w H => H.tail
    refine slAt_s hst h0 (by omega) (fun b1 o1 hp => ?_)
    refine ldS_s hst hp H (v := .string (B (ceL e.k))) (hcc (j := 0) (by omega)) ?_
    refine asStr_h ?_
    refine ldS_s (j := i.toNat * 3 + 1) hst hp H (v := I e.id) (hcc (j := 1) (by omega)) ?_
    refine asI_h ?_
    refine ldS_s (j := i.toNat * 3 + 2) hst hp H (v := .slice ep en ec) (hcc (j := 2) (by omega)) ?_
    refine asSl_h ?_
    have en1 : S.n = S1.n := c1.n.symm
    rw [en1]
    replace H := openC H
    refine nw_h H (fun k38 w H => ?_)
    (with_reducible repeat first|refine ldA (by assumption) ?_|refine Stp.imp ?_|refine stA (by assumption) rfl fun _ _=>?_|refine nw_h (by assumption) fun _ _ _=>?_|refine ldSA ?_|refine asT_e [] rfl rfl ?_|refine ldD (by assumption) ?_|refine nwD (by assumption) fun _ _ _=>?_)
    rename_i w2 H2
    replace H := H2.drew
    clear H2
    (with_reducible repeat first|refine ldA (by assumption) ?_|refine Stp.imp ?_|refine stA (by assumption) rfl fun _ _=>?_|refine nw_h (by assumption) fun _ _ _=>?_|refine ldSA ?_|refine asT_e [] rfl rfl ?_|refine ldD (by assumption) ?_|refine nwD (by assumption) fun _ _ _=>?_)
    have hadd : addB S1.J (B (ceL e.k)) e.id e.ns = 0 := by
      unfold addB
      have hm : mayE (B (ceL e.k)) e.id e.ns = true := okE_may hoke
      have hj5 := congrArg List.length j5
      simp only [List.length_append, List.length_map, List.length_take] at hj5
      rw [I0.lines] at hj5
      simp only [List.length_map] at hj5
      rw [if_neg (by simp [j4]), if_pos hm, if_neg (by rw [j2, I0.jroom]; omega)]
    refine add_c (J := S1.J) (s := B (ceL e.k)) (id := e.id) (l := e.ns) T 2 H rfl ok1.j (by
      have hk := okE_k hoke
      have h : e.k = 1 ∨ e.k = 2 ∨ e.k = 3 ∨ e.k = 4 ∨ e.k = 5 ∨ e.k = 6 ∨ e.k = 7 ∨ e.k = 8 ∨ e.k = 9 ∨ e.k = 10 ∨ e.k = 11 := by omega
      rcases h with h | h | h | h | h | h | h | h | h | h | h <;> rw [h] <;> decide) (hes.mono fun w H => H.re) (fun J w hJ hJ0 okJ H => ?_)
    rw [hadd, if_pos rfl] at hJ
    rw [hadd]
    (with_reducible repeat first|refine ldA (by assumption) ?_|refine Stp.imp ?_|refine stA (by assumption) rfl fun _ _=>?_|refine nw_h (by assumption) fun _ _ _=>?_|refine ldSA ?_|refine asT_e [] rfl rfl ?_|refine ldD (by assumption) ?_|refine nwD (by assumption) fun _ _ _=>?_)
    have ejv : S1.J.v = J.v := by rw [hJ]
    replace H : Sh.Holds w0 ([(k38, .cells #[.string (B (ceL e.k)), I e.id, .slice ep en ec] 139 (0, 0))] :: [(S1.n, .cells #[I S1.most, I S1.room, I S1.tr, S1.J.v, I S1.used, .map (some S1.m), S1.T.v] 136 (0, 0))] :: J.hp :: [(S1.m, mapG S1.l S1.c)] :: S1.T.hp :: ledsH S1.X :: R) w := H
    rw [ejv] at H
    (with_reducible repeat first|refine ldA (by assumption) ?_|refine Stp.imp ?_|refine stA (by assumption) rfl fun _ _=>?_|refine nw_h (by assumption) fun _ _ _=>?_|refine ldSA ?_|refine asT_e [] rfl rfl ?_|refine ldD (by assumption) ?_|refine nwD (by assumption) fun _ _ _=>?_)
    have H9 : Sh.Holds w0 ([(S1.n, .cells #[I S1.most, I S1.room, I S1.tr, J.v, I S1.used, .map (some S1.m), S1.T.v] 136 (0, 0))] :: J.hp :: [(S1.m, mapG S1.l S1.c)] :: S1.T.hp :: ledsH S1.X :: [(k38, .cells #[.string (B (ceL e.k)), I e.id, .slice ep en ec] 139 (0, 0))] :: R) w := Holds.re H
    replace H := shutC (S := jOnly S1 J) H9
    clear H9
    have okJ1 : (jOnly S1 J).Ok := ⟨okJ, ok1.m, ok1.T, ok1.x, ok1.g, ok1.r, ok1.u⟩
    refine plays_c (S := jOnly S1 J) (e := e) H okJ1 (by show S1.used < 4096; omega) hoke (hes.mono fun w H => H.tail) (fun S2 w ok2 c2 u2 l2 H => ?_)
    (with_reducible repeat first|refine ldA (by assumption) ?_|refine Stp.imp ?_|refine stA (by assumption) rfl fun _ _=>?_|refine nw_h (by assumption) fun _ _ _=>?_|refine ldSA ?_|refine asT_e [] rfl rfl ?_|refine ldD (by assumption) ?_|refine nwD (by assumption) fun _ _ _=>?_)
    have t1 : (l.map (·.1)).take (i + 1).toNat = (l.map (·.1)).take i.toNat ++ [e] := by
      rw [show (i + 1).toNat = i.toNat + 1 by omega, List.take_add_one, hey]; rfl
    have eJ : S2.J = J := c2.J
    refine ⟨⟨by omega, S2, ok2, ⟨c2.n.trans c1.n, c2.most.trans c1.most, c2.room.trans c1.room, c2.tr.trans c1.tr, rfl, c2.T.trans c1.T, fun y v q => c2.px y v (c1.px y v q)⟩, by rw [eJ, hJ]; exact j1, by rw [eJ, hJ]; exact j2, by rw [eJ, hJ]; exact j3, by rw [eJ, hJ]; exact j4, ?_, ?_, ?_, Holds.drop1 H⟩, by omega⟩
    · rw [eJ, hJ, t1]
      show S1.J.lines ++ [lineE (B (ceL e.k)) e.id e.ns] = _
      rw [j5, List.map_append, List.map_append, List.append_assoc, show lineE (B (ceL e.k)) e.id e.ns = LB e.en from lineE_B e.en]; rfl
    · rw [u2]
      show S1.used + 1 = _
      omega
    · rw [l2, t1, List.foldl_append]
      show playC S1.L e = _
      rw [l1]; rfl
  · simp only [decide_eq_false_iff_not] at hlt
    have hi : i.toNat = (l.map (·.1)).length := by rw [hmm]; omega
    rw [hi, List.take_length] at j5 l1
    have hi2 : i = l.length := by omega
    refine k1 _ hnote S1 w ⟨ok1, ?_, I0.wf.app I0.eq hseq, by rw [j3]; exact I0.sure, ?_, j4, ?_, ?_, by rw [j2]; exact I0.jroom, ⟨by rw [← hr1]; exact c1.room, hr2, hr3⟩, by rw [← I0.most]; exact c1.most, ⟨by rw [← I0.tries.1]; exact congrArg Tw.tr c1.T, by rw [← I0.tries.2]; exact congrArg triesB c1.tr⟩, l1, by rw [← I0.B]; exact congrArg Tw.B c1.T, ?_⟩ ⟨c1.n, c1.tr, j1, congrArg Tw.b c1.T, c1.px⟩ H
    · rw [j5, I0.lines, List.map_append, List.map_append]
    · show s.sure ≤ (s.es ++ l.map (·.1)).length
      have := I0.le; rw [List.length_append]; omega
    · show ((s.es ++ l.map (·.1)).length : Int) ≤ P.room
      rw [List.length_append, hmm]; omega
    · show S1.used = ((s.es ++ l.map (·.1)).length : Int)
      rw [List.length_append, hmm, u1]; omega
    · show AlikeL ((l.map (·.1)).foldl playC s.L) (runC (s.es ++ l.map (·.1)))
      unfold runC
      rw [List.foldl_append]
      exact fold_alike I0.eq
theorem sures_c {S : Ch} {P : CP} {s : CS} {l : List (CE × Option Addr × Nat × Nat)} {p : Option Addr} {n c : Nat} (T : Tab w0) (H : Sh.Holds w0 hs w) [D : Del hs S.hp R] (I0 : ChIs S P s) (hl : EsS (Sh.Holds w0 R) p n l) (hln : l.length ≤ 100) (hseq : okSeq s.L (l.map (·.1)))
    (k0 : suresC P s (l.map (·.1)) = none → ∀ w', Sh.Holds w0 (S.hp :: R) w' → K (.bool false) w')
    (k1 : ∀ s', suresC P s (l.map (·.1)) = some s' → ∀ (S' : Ch) w', ChIs S' P s' → ChK S S' → Sh.Holds w0 (S'.hp :: R) w' → K (.bool true) w') :
    gocall Tryz.prog 103 [S.v, .slice p n c] K w := by
  apply F103_go; unfold F103
  refine notes_c T H I0 hl hln hseq (fun hN w H => ?_) (fun s' hN S1 w I1 c1 H => ?_)
  · (with_reducible repeat first|refine ldA (by assumption) ?_|refine Stp.imp ?_|refine stA (by assumption) rfl fun _ _=>?_|refine nw_h (by assumption) fun _ _ _=>?_|refine ldSA ?_|refine asT_e [] rfl rfl ?_|refine ldD (by assumption) ?_|refine nwD (by assumption) fun _ _ _=>?_)
    refine br_f rfl ?_
    exact k0 (by unfold suresC; rw [hN]; rfl) w H
  · (with_reducible repeat first|refine ldA (by assumption) ?_|refine Stp.imp ?_|refine stA (by assumption) rfl fun _ _=>?_|refine nw_h (by assumption) fun _ _ _=>?_|refine ldSA ?_|refine asT_e [] rfl rfl ?_|refine ldD (by assumption) ?_|refine nwD (by assumption) fun _ _ _=>?_)
    refine br_t rfl ?_
    rw [← c1.n]
    replace H := openC H
    (with_reducible repeat first|refine ldA (by assumption) ?_|refine Stp.imp ?_|refine stA (by assumption) rfl fun _ _=>?_|refine nw_h (by assumption) fun _ _ _=>?_|refine ldSA ?_|refine asT_e [] rfl rfl ?_|refine ldD (by assumption) ?_|refine nwD (by assumption) fun _ _ _=>?_)
    refine sync_c (J := S1.J) 1 H rfl I1.ok.j I1.dn (fun J w hJ okJ H => ?_)
    (with_reducible repeat first|refine ldA (by assumption) ?_|refine Stp.imp ?_|refine stA (by assumption) rfl fun _ _=>?_|refine nw_h (by assumption) fun _ _ _=>?_|refine ldSA ?_|refine asT_e [] rfl rfl ?_|refine ldD (by assumption) ?_|refine nwD (by assumption) fun _ _ _=>?_)
    have ejv : S1.J.v = J.v := by rw [hJ]
    replace H : Sh.Holds w0 ([(S1.n, .cells #[I S1.most, I S1.room, I S1.tr, S1.J.v, I S1.used, .map (some S1.m), S1.T.v] 136 (0, 0))] :: J.hp :: [(S1.m, mapG S1.l S1.c)] :: S1.T.hp :: ledsH S1.X :: R) w := H
    rw [ejv] at H
    have hln1 : (S1.J.lines.length : Int) = s'.es.length := by rw [I1.lines]; simp
    refine k1 (sureC s') (by unfold suresC; rw [hN]; rfl) (jOnly S1 J) w ⟨⟨okJ, I1.ok.m, I1.ok.T, I1.ok.x, I1.ok.g, I1.ok.r, I1.ok.u⟩, by show J.lines = _; rw [hJ]; exact I1.lines, I1.wf, by show J.sure = _; rw [hJ]; exact hln1, Nat.le_refl _, by show J.down = false; rw [hJ]; exact I1.dn, I1.len, I1.used, by show J.room = _; rw [hJ]; exact I1.jroom, I1.room, I1.most, I1.tries, I1.L, I1.B, I1.eq⟩ ⟨c1.n, c1.tr, by show J.j = _; rw [hJ]; exact c1.jn, c1.b, c1.px⟩ (shutC (S := jOnly S1 J) H)
end
end Go.Proofs.YtcfmnoimehcfnaaGreatDoor
namespace Go.Proofs.YtcfmnoimehcfnaaGreatDoor
open Go Go.Sh

def LedP (S : Ch) (id : Int) (p : Nat) : Prop := getG S.l id = some (.pointer (some ⟨p, 0, none⟩))
theorem LedP.of {S : Ch} (ok : S.Ok) {id : Int} {x : Ld} (hL : S.L id = some x) : ∃ p, LedP S id p := by
  obtain ⟨c, A, B, -, -, -, -, -, h⟩ := ok.some hL
  exact ⟨c.p, h⟩
theorem LedP.keep {S S' : Ch} (h : ChK S S') {id : Int} {p : Nat} (g : LedP S id p) : LedP S' id p := h.px _ _ g
/-- one order of a chief taken out, and put back -/
structure LedG (S : Ch) (id : Int) (p : Nat) (x : Ld) (c : Lc) (A B : List Lc) : Prop where
  hX : S.X = A ++ c :: B
  xe : c.x = x
  pe : c.p = p
  ide : c.x.o.id = id
  hA : ∀ a ∈ A, a.x.o.id ≠ id
  ok : c.Ok
  le : (c.x.o.steps.length : Int) ≤ S.used
theorem ledGet {S : Ch} (ok : S.Ok) {id : Int} {p : Nat} {x : Ld} (hL : S.L id = some x) (hp : LedP S id p) : ∃ c A B, LedG S id p x c A B := by
  obtain ⟨c, A, B, h1, h2, h3, h4, h5, h6⟩ := ok.some hL
  refine ⟨c, A, B, h1, h2, ?_, h3, h4, h5, (ok.x c (by rw [h1]; simp)).2⟩
  rw [hp] at h6
  simp at h6
  exact h6.symm
def restC (S : Ch) : List Hp := [[(S.n, .cells #[I S.most, I S.room, I S.tr, S.J.v, I S.used, .map (some S.m), S.T.v] 136 (0, 0))], S.J.hp, [(S.m, mapG S.l S.c)], S.T.hp]
section
variable {w0 w : World} {hs R : List Hp} {K : KV}
theorem LedG.out {S : Ch} {id : Int} {p : Nat} {x : Ld} {c : Lc} {A B : List Lc} (g : LedG S id p x c A B) (H : Sh.Holds w0 (S.hp :: R) w) : Sh.Holds w0 (c.hp :: ledsH (A ++ B) :: [(S.n, .cells #[I S.most, I S.room, I S.tr, S.J.v, I S.used, .map (some S.m), S.T.v] 136 (0, 0))] :: S.J.hp :: [(S.m, mapG S.l S.c)] :: S.T.hp :: R) w := by
  have H2 := (openC H).get (ledsH S.X)
  rw [g.hX] at H2
  exact ledOut H2
theorem LedG.back {S : Ch} {id : Int} {p : Nat} {x : Ld} {c : Lc} {A B : List Lc} (g : LedG S id p x c A B) (H : Sh.Holds w0 (c.hp :: ledsH (A ++ B) :: [(S.n, .cells #[I S.most, I S.room, I S.tr, S.J.v, I S.used, .map (some S.m), S.T.v] 136 (0, 0))] :: S.J.hp :: [(S.m, mapG S.l S.c)] :: S.T.hp :: R) w) : Sh.Holds w0 (S.hp :: R) w := by
  have H2 := ledIn H
  rw [← g.hX] at H2
  exact shutC (Holds.re H2)
theorem entry_c {s : ByteArray} {id : Int} {p : Option Addr} {n c : Nat} (H : Sh.Holds w0 hs w) (k : ∀ w', Sh.Holds w0 hs w' → K (.agg #[.string s, I id, .slice p n c]) w') : gocall Tryz.prog 102 [.string s, I id, .slice p n c] K w := by
  apply F102_go; unfold F102
  (with_reducible repeat first|refine ldA (by assumption) ?_|refine Stp.imp ?_|refine stA (by assumption) rfl fun _ _=>?_|refine nw_h (by assumption) fun _ _ _=>?_|refine ldSA ?_|refine asT_e [] rfl rfl ?_|refine ldD (by assumption) ?_|refine nwD (by assumption) fun _ _ _=>?_)
  exact k _ (Holds.tail (by assumption))
theorem decided_c {c : Lc} (H : Sh.Holds w0 hs w) [D : Del hs c.hp R] (k : ∀ w', Sh.Holds w0 (c.hp :: R) w' → K (.bool c.x.f.decided) w') : gocall Tryz.prog 113 [c.v] K w := by
  replace H := openL (H.get c.hp)
  apply F113_go; unfold F113
  unfold Fc.decided at k
  (with_reducible repeat first|refine ldA (by assumption) ?_|refine Stp.imp ?_|refine stA (by assumption) rfl fun _ _=>?_|refine nw_h (by assumption) fun _ _ _=>?_|refine ldSA ?_|refine asT_e [] rfl rfl ?_|refine ldD (by assumption) ?_|refine nwD (by assumption) fun _ _ _=>?_)
  refine br_s (fun h => ?_) (fun h => ?_)
  · have := k _ (shutL H); rwa [h] at this
  · (with_reducible repeat first|refine ldA (by assumption) ?_|refine Stp.imp ?_|refine stA (by assumption) rfl fun _ _=>?_|refine nw_h (by assumption) fun _ _ _=>?_|refine ldSA ?_|refine asT_e [] rfl rfl ?_|refine ldD (by assumption) ?_|refine nwD (by assumption) fun _ _ _=>?_)
    have := k _ (shutL H); rwa [h] at this
theorem Lc.Ok.of {c : Lc} (ok : c.Ok) {T : List Hp} : OfS (Sh.Holds w0 ([(c.p, .cells #[I c.x.o.id, I c.x.o.item, I c.x.o.qty, I c.x.o.client, I c.x.o.price, c.sR.v, c.dR.v, c.uR.v, .bool c.x.f.asked, .bool c.x.f.yes, .bool c.x.f.turned, .bool c.x.f.a0, .bool c.x.f.a1, .bool c.x.f.shipped, .bool c.x.f.d0, .bool c.x.f.d1, .bool c.x.f.acc, .pointer (taP c.T)] 147 (0, 0))] :: c.sR.hp 81 :: c.dR.hp 4 :: c.uR.hp 4 :: T)) c.x.o c.x.f c.sR.p c.dR.p c.uR.p c.sR.n c.dR.n c.uR.n :=
  ⟨Sl.row 1 rfl ok.s, Sl.row 2 rfl ok.d, Sl.row 3 rfl ok.u, ok.len, by rw [ok.dl]; exact ok.len, by rw [ok.ul]; exact ok.len⟩
theorem over_c {c : Lc} (H : Sh.Holds w0 hs w) [D : Del hs c.hp R] (ok : c.Ok) (k : ∀ w', Sh.Holds w0 (c.hp :: R) w' → K (.bool (overF c.x.o c.x.f)) w') : gocall Tryz.prog 117 [c.v] K w := by
  replace H := openL (H.get c.hp)
  apply F117_go; unfold F117
  (with_reducible repeat first|refine ldA (by assumption) ?_|refine Stp.imp ?_|refine stA (by assumption) rfl fun _ _=>?_|refine nw_h (by assumption) fun _ _ _=>?_|refine ldSA ?_|refine asT_e [] rfl rfl ?_|refine ldD (by assumption) ?_|refine nwD (by assumption) fun _ _ _=>?_)
  refine overF_c (o := c.x.o) (f := c.x.f) (by first|assumption|(apply Holds.drew; assumption)) ok.of (fun w H => ?_)
  (with_reducible repeat first|refine ldA (by assumption) ?_|refine Stp.imp ?_|refine stA (by assumption) rfl fun _ _=>?_|refine nw_h (by assumption) fun _ _ _=>?_|refine ldSA ?_|refine asT_e [] rfl rfl ?_|refine ldD (by assumption) ?_|refine nwD (by assumption) fun _ _ _=>?_)
  exact k _ (shutL H)
theorem overS_c {S : Ch} {id : Int} {p : Nat} {x : Ld} (H : Sh.Holds w0 hs w) [D : Del hs S.hp R] (ok : S.Ok) (hL : S.L id = some x) (hp : LedP S id p) (k : ∀ w', Sh.Holds w0 (S.hp :: R) w' → K (.bool (overF x.o x.f)) w') : gocall Tryz.prog 117 [.pointer (some ⟨p, 0, none⟩)] K w := by
  obtain ⟨c, A, B, g⟩ := ledGet ok hL hp
  have e : (.pointer (some ⟨p, 0, none⟩) : Value) = c.v := by show _ = Value.pointer (some ⟨c.p, 0, none⟩); rw [g.pe]
  rw [e]
  refine over_c (c := c) (g.out (H.get S.hp)) g.ok (fun w H => ?_)
  rw [g.xe]
  exact k _ (g.back H)
theorem decidedS_c {S : Ch} {id : Int} {p : Nat} {x : Ld} (H : Sh.Holds w0 hs w) [D : Del hs S.hp R] (ok : S.Ok) (hL : S.L id = some x) (hp : LedP S id p) (k : ∀ w', Sh.Holds w0 (S.hp :: R) w' → K (.bool x.f.decided) w') : gocall Tryz.prog 113 [.pointer (some ⟨p, 0, none⟩)] K w := by
  obtain ⟨c, A, B, g⟩ := ledGet ok hL hp
  have e : (.pointer (some ⟨p, 0, none⟩) : Value) = c.v := by show _ = Value.pointer (some ⟨c.p, 0, none⟩); rw [g.pe]
  rw [e]
  refine decided_c (c := c) (g.out (H.get S.hp)) (fun w H => ?_)
  rw [g.xe]
  exact k _ (g.back H)
theorem EsS.one {q : Nat} {e : CE} {p : Option Addr} {n c : Nat} {A : List Hp} (hsl : Sl (Sh.Holds w0 A) p n 1 (e.ns.map I)) : EsS (Sh.Holds w0 ([(q, .cells #[.string (B (ceL e.k)), I e.id, .slice p n c] 139 (0, 0))] :: A)) (some ⟨q, 0, none⟩) 1 [(e, p, n, c)] :=
  ⟨Sl.block (vals := ecells (e, p, n, c)) 0 rfl rfl, fun x hx => by simp only [List.mem_singleton] at hx; subst hx; exact hsl.mono fun w H => H.tail⟩
theorem ChIs.id {S : Ch} {P : CP} {s : CS} (I0 : ChIs S P s) {id : Int} {x : Ld} (hL : s.L id = some x) : 1 ≤ id ∧ id ≤ 999 := by
  have h : S.L id = some x := by rw [I0.L]; exact hL
  refine I0.ok.r id ?_
  unfold Ch.L at h
  cases e : findX S.X id with
  | none => rw [e] at h; cases h
  | some c => rfl
/-- an entry of no numbers -/
theorem okE_bare {L : Int → Option Ld} {id k : Int} (h : 1 ≤ id ∧ id ≤ 999) (hk : k = 3 ∨ k = 6 ∨ k = 7 ∨ k = 10 ∨ k = 11) : okE L ⟨k, id, []⟩ := ⟨h, .inr (.inr (.inl ⟨hk, rfl⟩))⟩
set_option maxHeartbeats 2000000 in
theorem sends_c {S : Ch} {P : CP} {s : CS} {id : Int} {p : Nat} {x : Ld} (T : Tab w0) (H : Sh.Holds w0 hs w) [D : Del hs S.hp R] (I0 : ChIs S P s) (hL : s.L id = some x) (hp : LedP S id p)
    (k : ∀ (r : Row) (S' : Ch) w', ChIs S' P (sendsC P s id).1 → ChK S S' → r.Ok 7 (mgs (sendsC P s id).2) → Sh.Holds w0 (r.hp 35 :: S'.hp :: R) w' → K r.v w') :
    gocall Tryz.prog 116 [S.v, .pointer (some ⟨p, 0, none⟩)] K w := by
  have hL' : S.L id = some x := by rw [I0.L]; exact hL
  obtain ⟨c, A, Bs, g⟩ := ledGet I0.ok hL' hp
  have hid := I0.id hL
  have gx := g.xe
  have gp := g.pe
  subst gx gp
  replace H := openL (g.out (H.get S.hp))
  have back : ∀ {w : World} {R' : List Hp}, Sh.Holds w0 ([(c.p, .cells #[I c.x.o.id, I c.x.o.item, I c.x.o.qty, I c.x.o.client, I c.x.o.price, c.sR.v, c.dR.v, c.uR.v, .bool c.x.f.asked, .bool c.x.f.yes, .bool c.x.f.turned, .bool c.x.f.a0, .bool c.x.f.a1, .bool c.x.f.shipped, .bool c.x.f.d0, .bool c.x.f.d1, .bool c.x.f.acc, .pointer (taP c.T)] 147 (0, 0))] :: c.sR.hp 81 :: c.dR.hp 4 :: c.uR.hp 4 :: taH c.T c.x.t :: ledsH (A ++ Bs) :: [(S.n, .cells #[I S.most, I S.room, I S.tr, S.J.v, I S.used, .map (some S.m), S.T.v] 136 (0, 0))] :: S.J.hp :: [(S.m, mapG S.l S.c)] :: S.T.hp :: R') w → Sh.Holds w0 (S.hp :: R') w := fun {w R'} H => g.back (shutL H)
  have es : sendsC P s id = if (asksM (nextM c.x.o c.x.f) && !c.x.f.asked) = true then (match noteC P s [⟨3, id, []⟩] with | none => (s, []) | some s' => (s', nextM c.x.o c.x.f)) else (s, nextM c.x.o c.x.f) := by unfold sendsC; rw [hL]; rfl
  apply F116_go; unfold F116
  replace H := H.drew
  (with_reducible repeat first|refine ldA (by assumption) ?_|refine Stp.imp ?_|refine stA (by assumption) rfl fun _ _=>?_|refine nw_h (by assumption) fun _ _ _=>?_|refine ldSA ?_|refine asT_e [] rfl rfl ?_|refine ldD (by assumption) ?_|refine nwD (by assumption) fun _ _ _=>?_)
  refine next_c (o := c.x.o) (f := c.x.f) H g.ok.of (fun r w okr H => ?_)
  (with_reducible repeat first|refine ldA (by assumption) ?_|refine Stp.imp ?_|refine stA (by assumption) rfl fun _ _=>?_|refine nw_h (by assumption) fun _ _ _=>?_|refine ldSA ?_|refine asT_e [] rfl rfl ?_|refine ldD (by assumption) ?_|refine nwD (by assumption) fun _ _ _=>?_)
  have hrn := mgs_n okr
  have fin : (asksM (nextM c.x.o c.x.f) && !c.x.f.asked) = false → ∀ {w : World}, Sh.Holds w0 (r.hp 35 :: [(c.p, .cells #[I c.x.o.id, I c.x.o.item, I c.x.o.qty, I c.x.o.client, I c.x.o.price, c.sR.v, c.dR.v, c.uR.v, .bool c.x.f.asked, .bool c.x.f.yes, .bool c.x.f.turned, .bool c.x.f.a0, .bool c.x.f.a1, .bool c.x.f.shipped, .bool c.x.f.d0, .bool c.x.f.d1, .bool c.x.f.acc, .pointer (taP c.T)] 147 (0, 0))] :: c.sR.hp 81 :: c.dR.hp 4 :: c.uR.hp 4 :: taH c.T c.x.t :: ledsH (A ++ Bs) :: [(S.n, .cells #[I S.most, I S.room, I S.tr, S.J.v, I S.used, .map (some S.m), S.T.v] 136 (0, 0))] :: S.J.hp :: [(S.m, mapG S.l S.c)] :: S.T.hp :: R) w → K r.v w := fun h {w} H => by
    rw [es, if_neg (by simp [h])] at k
    have H2 := back (R' := r.hp 35 :: R) (Holds.re H)
    have H3 : Sh.Holds w0 (r.hp 35 :: S.hp :: R) w := Holds.re H2
    exact k r S w I0 (.rfl' S) okr H3
  refine br_s (fun h1 => ?_) (fun h1 => ?_)
  · simp only [decide_eq_true_eq] at h1
    obtain ⟨m, rest, hm⟩ : ∃ m rest, nextM c.x.o c.x.f = m :: rest := by
      cases e : nextM c.x.o c.x.f with
      | nil => rw [e] at hrn; simp at hrn; omega
      | cons m rest => exact ⟨m, rest, rfl⟩
    have hr : Sl (Sh.Holds w0 (r.hp 35 :: [(c.p, .cells #[I c.x.o.id, I c.x.o.item, I c.x.o.qty, I c.x.o.client, I c.x.o.price, c.sR.v, c.dR.v, c.uR.v, .bool c.x.f.asked, .bool c.x.f.yes, .bool c.x.f.turned, .bool c.x.f.a0, .bool c.x.f.a1, .bool c.x.f.shipped, .bool c.x.f.d0, .bool c.x.f.d1, .bool c.x.f.acc, .pointer (taP c.T)] 147 (0, 0))] :: c.sR.hp 81 :: c.dR.hp 4 :: c.uR.hp 4 :: taH c.T c.x.t :: ledsH (A ++ Bs) :: [(S.n, .cells #[I S.most, I S.room, I S.tr, S.J.v, I S.used, .map (some S.m), S.T.v] 136 (0, 0))] :: S.J.hp :: [(S.m, mapG S.l S.c)] :: S.T.hp :: R)) r.p r.n 7 (mgs (nextM c.x.o c.x.f)) := Sl.row 0 rfl okr
    refine slAt_s hr (by omega) (by omega) (fun b1 o1 hp1 => ?_)
    refine ldS_s hr hp1 H (v := I m.kind) (by rw [hm]; rfl) ?_
    refine asI_h ?_
    have ea : asksM (nextM c.x.o c.x.f) = decide (m.kind = 6) := by rw [hm]; rfl
    refine br_s (fun h2 => ?_) (fun h2 => ?_)
    · have h2 : m.kind = 6 := by simpa using h2
      (with_reducible repeat first|refine ldA (by assumption) ?_|refine Stp.imp ?_|refine stA (by assumption) rfl fun _ _=>?_|refine nw_h (by assumption) fun _ _ _=>?_|refine ldSA ?_|refine asT_e [] rfl rfl ?_|refine ldD (by assumption) ?_|refine nwD (by assumption) fun _ _ _=>?_)
      refine br_s (fun h3 => ?_) (fun h3 => ?_)
      · have h3 : c.x.f.asked = false := by simpa using h3
        rw [if_pos (by rw [ea, h3, h2]; rfl)] at es
        (with_reducible repeat first|refine ldA (by assumption) ?_|refine Stp.imp ?_|refine stA (by assumption) rfl fun _ _=>?_|refine nw_h (by assumption) fun _ _ _=>?_|refine ldSA ?_|refine asT_e [] rfl rfl ?_|refine ldD (by assumption) ?_|refine nwD (by assumption) fun _ _ _=>?_)
        refine entry_c H (fun w H => ?_)
        refine asN_e [_, _, _] rfl rfl ?_
        refine asStr_e rfl ?_
        refine asI_e rfl ?_
        refine asSl_e rfl ?_
        refine nw_h H (fun q w H => ?_)
        replace H : Sh.Holds w0 ([(q, .cells #[.string (B (ceL 3)), I c.x.o.id, .slice none 0 0] 139 (0, 0))] :: r.hp 35 :: _) w := H
        have H2 := back (R' := [(q, .cells #[.string (B (ceL 3)), I c.x.o.id, .slice none 0 0] 139 (0, 0))] :: r.hp 35 :: R) (Holds.re H)
        rw [g.ide] at H2
        refine notes_c (l := [(⟨3, id, []⟩, none, 0, 0)]) T H2 I0 (EsS.one (e := ⟨3, id, []⟩) Sl.nil) (by simp) (okSeq.one (okE_bare hid (.inl rfl))) (fun hN w H => ?_) (fun s' hN S1 w I1 c1 H => ?_)
        · have hN : noteC P s [⟨3, id, []⟩] = none := hN
          rw [es, hN] at k
          refine asBoo_h ?_
          refine br_t rfl ?_
          exact k Row.nil S w I0 (.rfl' S) (Row.nil_ok 7) (Holds.nil (Holds.re H))
        · have hN : noteC P s [⟨3, id, []⟩] = some s' := hN
          rw [es, hN] at k
          refine asBoo_h ?_
          refine br_f rfl ?_
          exact k r S1 w I1 c1 okr (Holds.re H)
      · refine fin ?_ H
        have h3 : c.x.f.asked = true := by simpa using h3
        rw [h3]; simp
    · refine fin ?_ H
      have h2 : m.kind ≠ 6 := by simpa using h2
      rw [ea]; simp [h2]
  · refine fin ?_ H
    have : nextM c.x.o c.x.f = [] := by
      cases e : nextM c.x.o c.x.f with
      | nil => rfl
      | cons m rest => rw [e] at hrn; simp at h1 hrn; omega
    rw [this]; rfl
end
end Go.Proofs.YtcfmnoimehcfnaaGreatDoor
