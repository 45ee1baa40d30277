/- What KeeperLasts keeps: the book is what the states say. Plain. Conditions: none. -/
import Derived.Test.YtcfmnoimehcfnaaGreatDoorK6a
set_option linter.unusedVariables false
set_option linter.unusedSimpArgs false
set_option maxRecDepth 100000
namespace Go.Proofs.YtcfmnoimehcfnaaGreatDoor
open Go Go.Sh

def sumT (f : Int → Int) : Nat → Int
  | 0 => 0
  | n + 1 => sumT f n + f ((n : Int) + 1)
theorem sumT_out {f f' : Int → Int} {i : Int} (h : ∀ x, x ≠ i → f' x = f x) : ∀ n : Nat, (n : Int) < i → sumT f' n = sumT f n
  | 0, _ => rfl
  | n + 1, hi => by
    simp only [sumT]
    rw [sumT_out h n (by omega), h _ (by omega)]
theorem sumT_upd {f f' : Int → Int} {i : Int} (h : ∀ x, x ≠ i → f' x = f x) (h1 : 1 ≤ i) : ∀ n : Nat, i ≤ n → sumT f' n = sumT f n - f i + f' i
  | 0, hi => by omega
  | n + 1, hi => by
    simp only [sumT]
    by_cases e : i = (n : Int) + 1
    · rw [sumT_out h n (by omega), ← e]; omega
    · rw [sumT_upd h h1 n (by omega), h ((n : Int) + 1) (by omega)]; omega
theorem sumT_bd {f : Int → Int} (h : ∀ x, 0 ≤ f x ∧ f x ≤ 2000) : ∀ n : Nat, 0 ≤ sumT f n ∧ sumT f n ≤ 2000 * n
  | 0 => by simp [sumT]
  | n + 1 => by
    have h1 := sumT_bd h n
    have h2 := h ((n : Int) + 1)
    simp only [sumT]; omega
def frM (s m : Int) : Int := if s = 1 ∨ s = 2 ∨ s = 4 then m else 0
def onM (s m : Int) : Int := if s = 2 ∨ s = 4 then m else 0
def reM (s m : Int) : Int := if s = 1 then m else 0
theorem fr_on (s m : Int) : frM s m = onM s m + reM s m := by
  unfold frM onM reM
  by_cases h1 : s = 1
  · simp [h1]
  · by_cases h2 : s = 2
    · simp [h2]
    · by_cases h4 : s = 4
      · simp [h4]
      · simp [h1, h2, h4]
theorem sumT_add (f g : Int → Int) : ∀ n : Nat, sumT (fun x => f x + g x) n = sumT f n + sumT g n
  | 0 => rfl
  | n + 1 => by simp only [sumT]; rw [sumT_add f g n]; omega
structure KInv (A : KA) (mu : Int → Int) (g : Int) : Prop where
  st : ∀ x, 0 ≤ A.s x ∧ A.s x ≤ 5
  qs : ∀ x, qOf A.B.R x = if A.s x = 1 then some (mu x) else none
  f : A.B.f = g - sumT (fun x => frM (A.s x) (mu x)) 9
  tot : tot A.B.R = sumT (fun x => reM (A.s x) (mu x)) 9
  mu : ∀ x, 0 ≤ mu x ∧ mu x ≤ 2000
  keys : (A.B.R.map (·.1)).Nodup
theorem KInv.hand {A : KA} {mu : Int → Int} {g : Int} (h : KInv A mu g) : A.B.hand = g - sumT (fun x => onM (A.s x) (mu x)) 9 := by
  unfold GB.hand
  rw [h.f, h.tot]
  have : sumT (fun x => frM (A.s x) (mu x)) 9 = sumT (fun x => onM (A.s x) (mu x)) 9 + sumT (fun x => reM (A.s x) (mu x)) 9 := by
    rw [← sumT_add]; congr 1; funext x; exact fr_on _ _
  omega
theorem out_nodup {R : List (Int × Int)} {x : Int} (h : (R.map (·.1)).Nodup) : ((outR R x).map (·.1)).Nodup := h.sublist ((List.filter_sublist (l := R)).map _)
theorem clamp_of {g : Int} (h0 : 0 ≤ g) (h1 : g ≤ 9999) : clampB g = g := by
  unfold clampB; split <;> split <;> omega
theorem KInv.zero {g : Int} (h0 : 0 ≤ g) (h1 : g ≤ 9999) : KInv (KA.run g []) (fun _ => 0) g := by
  have hz : ∀ n, sumT (fun _ => 0) n = 0 := fun n => by
    induction n with
    | zero => rfl
    | succ n ih => simp only [sumT, ih]; rfl
  refine ⟨fun x => by show (0 : Int) ≤ 0 ∧ (0 : Int) ≤ 5; omega, fun x => rfl, ?_, ?_, fun x => by omega, by simp [KA.run, KA.zero]⟩
  · show clampB g = g - sumT (fun _ => 0) 9
    rw [hz, clamp_of h0 h1]; omega
  · show (0 : Int) = sumT (fun _ => 0) 9
    rw [hz]
/-- how a state may go on -/
def goK (s t : Int) : Prop := (s = 0 ∧ (t = 1 ∨ t = 3)) ∨ (s = 1 ∧ (2 ≤ t ∧ t ≤ 5))
theorem KInv.step {A : KA} {mu : Int → Int} {g i t q : Int} {ns : List Int} (h : KInv A mu g) (h1 : 1 ≤ i) (h9 : i ≤ 9) (hgo : goK (A.s i) t) (hns : t = 1 → ns.getD 1 0 = q ∧ A.B.resv i q = 0) (hq : 0 ≤ q ∧ q ≤ 2000) :
    KInv (A.step ⟨t, i, ns⟩) (fun x => if x = i ∧ A.s i = 0 ∧ t = 1 then q else mu x) g := by
  obtain ⟨mu', hmu'⟩ : ∃ mu' : Int → Int, mu' = fun x => if x = i ∧ A.s i = 0 ∧ t = 1 then q else mu x := ⟨_, rfl⟩
  rw [← hmu']
  have m1 : ∀ x, x ≠ i → mu' x = mu x := fun x hx => by rw [hmu']; exact if_neg (fun g => hx g.1)
  have m2 : mu' i = if A.s i = 0 ∧ t = 1 then q else mu i := by rw [hmu']; simp
  have m3 : ∀ x, 0 ≤ mu' x ∧ mu' x ≤ 2000 := fun x => by
    rw [hmu']
    show 0 ≤ (if x = i ∧ A.s i = 0 ∧ t = 1 then q else mu x) ∧ (if x = i ∧ A.s i = 0 ∧ t = 1 then q else mu x) ≤ 2000
    split
    · exact hq
    · exact h.mu x
  clear hmu'
  obtain ⟨A', hA'⟩ : ∃ A' : KA, A' = A.step ⟨t, i, ns⟩ := ⟨_, rfl⟩
  rw [← hA']
  have hst : ∀ x, A'.s x = if x = i then t else A.s x := fun x => by rw [hA']; rfl
  have hqi := h.qs i
  have hB : A'.B = A.B.play t i ns := by rw [hA']; rfl
  have htr : 1 ≤ t ∧ t ≤ 5 := by rcases hgo with ⟨-, h | h⟩ | ⟨-, h⟩ <;> omega
  have s1 : ∀ x, x ≠ i → A'.s x = A.s x := fun x hx => by rw [hst, if_neg hx]
  have s2 : A'.s i = t := by rw [hst, if_pos rfl]
  have s3 : ∀ x, 0 ≤ A'.s x ∧ A'.s x ≤ 5 := fun x => by
    rw [hst]; split
    · omega
    · exact h.st x
  have ef := sumT_upd (f := fun x => frM (A.s x) (mu x)) (f' := fun x => frM (A'.s x) (mu' x)) (i := i) (fun x hx => by simp only [s1 x hx, m1 x hx]) h1 9 h9
  have et := sumT_upd (f := fun x => reM (A.s x) (mu x)) (f' := fun x => reM (A'.s x) (mu' x)) (i := i) (fun x hx => by simp only [s1 x hx, m1 x hx]) h1 9 h9
  simp only [s2, m2] at ef et
  have hf := h.f
  have ht := h.tot
  by_cases t1 : t = 1
  · have s0 : A.s i = 0 := by rcases hgo with h | h <;> omega
    obtain ⟨n1, n2⟩ := hns t1
    rw [if_neg (by omega)] at hqi
    have eB : A'.B = ⟨A.B.f - q, (i, q) :: A.B.R⟩ := by
      rw [hB]; unfold GB.play; rw [if_pos t1, n1]; unfold GB.take; rw [if_pos n2]
    rw [if_pos ⟨s0, t1⟩] at ef et m2
    have f0 : frM (A.s i) (mu i) = 0 := by unfold frM; rw [if_neg (by omega)]
    have f1 : frM t q = q := by unfold frM; rw [if_pos (.inl t1)]
    have r0 : reM (A.s i) (mu i) = 0 := by unfold reM; rw [if_neg (by omega)]
    have r1 : reM t q = q := by unfold reM; rw [if_pos t1]
    rw [f0, f1] at ef
    rw [r0, r1] at et
    refine ⟨s3, fun x => ?_, ?_, ?_, m3, ?_⟩
    · rw [eB, hst]
      simp only [qOf]
      split
      · rename_i hx
        rw [hx, m2]
      · rename_i hx
        rw [h.qs x, m1 x hx]
    · rw [eB, ef]
      show A.B.f - q = _
      omega
    · rw [eB, et]
      have : Go.Proofs.YtcfmnoimehcfnaaGreatDoor.tot ((i, q) :: A.B.R) = q + Go.Proofs.YtcfmnoimehcfnaaGreatDoor.tot A.B.R := by simp [Go.Proofs.YtcfmnoimehcfnaaGreatDoor.tot]
      show Go.Proofs.YtcfmnoimehcfnaaGreatDoor.tot ((i, q) :: A.B.R) = _
      rw [this]
      omega
    · rw [eB]
      simp only [List.map_cons, List.nodup_cons]
      refine ⟨fun hm => ?_, h.keys⟩
      obtain ⟨p, hp, e⟩ := List.mem_map.1 hm
      exact qOf_none hqi p hp e
  · rw [if_neg (fun g => t1 g.2)] at ef et m2
    have mE : ∀ x, mu' x = mu x := fun x => by
      by_cases hx : x = i
      · rw [hx]; exact m2
      · exact m1 x hx
    have keep : A'.B.R = outR A.B.R i ∧ A'.B.f = if decY t = true then A.B.f else A.B.f + (qOf A.B.R i).getD 0 := by
      rw [hB]; unfold GB.play; rw [if_neg t1]
      split
      · exact ⟨rfl, rfl⟩
      · exact ⟨rfl, rfl⟩
    obtain ⟨k1, k2⟩ := keep
    have hto := tot_out (x := i) h.keys
    rw [hqi] at hto k2
    refine ⟨s3, fun x => ?_, ?_, ?_, m3, by rw [k1]; exact out_nodup h.keys⟩
    · rw [k1, qOf_out, hst]
      split
      · rfl
      · rw [h.qs x, mE]
    · rw [k2, ef, hf]
      unfold frM decY
      rcases hgo with ⟨g0, g1⟩ | ⟨g0, g1⟩
      · have : t = 3 := by omega
        subst this
        simp [g0]
      · rw [g0]
        have : t = 2 ∨ t = 3 ∨ t = 4 ∨ t = 5 := by omega
        rcases this with rfl | rfl | rfl | rfl <;> simp <;> omega
    · rw [k1, hto, et, ht]
      unfold reM
      rw [if_neg t1]
      split <;> simp
/-- a way that is gone through as it may be -/
def stepOk (p s : Int) : Prop := s = p ∨ goK p s
def wayOk (l : List Int) : Prop := ∀ (i : Nat) (p s : Int), l[i]? = some p → l[i + 1]? = some s → stepOk p s
theorem wayOk.add {l : List Int} {p s : Int} (h : wayOk l) (hl : l.getLast? = some p) (hs : stepOk p s) : wayOk (l ++ [s]) := by
  intro i a b ha hb
  have hne : l ≠ [] := by intro e; subst e; simp at hl
  by_cases hi : i + 1 < l.length
  · rw [List.getElem?_append_left (by omega)] at ha
    rw [List.getElem?_append_left hi] at hb
    exact h i a b ha hb
  · have hlt : i + 1 < (l ++ [s]).length := (List.getElem?_eq_some_iff.1 hb).1
    rw [List.length_append] at hlt
    simp only [List.length_singleton] at hlt
    have e : i + 1 = l.length := by omega
    rw [List.getElem?_append_right (by omega), e, Nat.sub_self] at hb
    simp at hb
    rw [List.getElem?_append_left (by omega)] at ha
    rw [List.getLast?_eq_getElem?] at hl
    rw [show l.length - 1 = i by omega] at hl
    rw [ha] at hl
    cases hl
    rw [← hb]; exact hs
theorem ansK_go {A : KA} {n : Nat} {room kind frm to id a b : Int} (hs : ∀ x, 0 ≤ A.s x ∧ A.s x ≤ 5) {e : KE} (h : (ansK A n room kind frm to id a b).1 = some e) : e.id = id ∧ goK (A.s id) e.st ∧ (e.st = 1 → e.ns = [a, b] ∧ A.B.resv id b = 0) := by
  unfold ansK at h
  split at h
  · split at h
    · cases h
    · rename_i hne
      split at h
      · simp only [Option.some.injEq] at h
        subst h
        refine ⟨rfl, ?_, fun h1 => ?_⟩
        · have := hs id
          unfold goK
          revert hne
          simp only
          unfold vNext vAsk vCom vAbo vTel
          (repeat' split) <;> simp <;> omega
        · have h2 := (next_new hne).2 h1
          refine ⟨by simp only; rw [if_pos h1], ?_⟩
          have h3 := h2.2
          unfold canB at h3
          simp at h3
          exact h3.2.2
      · cases h
  · cases h
theorem forceE_go {A : KA} {n : Nat} {room id : Int} {yes : Bool} {e : KE} (h : (forceE A n room id yes).1 = some e) : e.id = id ∧ goK (A.s id) e.st ∧ e.st ≠ 1 ∧ (forceE A n room id yes).2 = 0 := by
  unfold forceE at h ⊢
  split at h
  · cases h
  · rename_i g1
    rw [if_neg g1]
    split at h
    · rename_i g2
      rw [if_pos g2]
      split at h
      · rename_i g3
        rw [if_pos g3]
        simp only [Option.some.injEq] at h
        subst h
        refine ⟨rfl, ?_, ?_, rfl⟩
        · unfold goK
          revert g2
          unfold fF
          (repeat' split) <;> simp <;> omega
        · revert g2
          simp only
          unfold fF
          (repeat' split) <;> simp
      · cases h
    · cases h
theorem forceE_ans {A : KA} {n : Nat} {room id : Int} {yes : Bool} (h1 : 1 ≤ id) (h9 : id ≤ 999) (hs : 0 ≤ A.s id ∧ A.s id ≤ 5) (hr : (n : Int) < room) : ((forceE A n room id yes).2 == 0) = (A.s id == 1) := by
  unfold forceE
  rw [if_neg (by omega)]
  by_cases e : A.s id = 1
  · have : (fF (A.s id) yes).2 = 0 := by unfold fF; rw [if_neg (by omega), if_neg (by omega)]; split <;> rfl
    rw [if_pos this, if_pos hr, e]; rfl
  · have : (fF (A.s id) yes).2 = 7 := by unfold fF; rw [if_neg (by omega), if_pos e]
    rw [this, if_neg (by omega)]
    simp [e]
end Go.Proofs.YtcfmnoimehcfnaaGreatDoor
