/- What law5's OrderSteps computes: true, of every order. Conditions: none. -/
import Derived.Test.YtiihiaicggmhjaaDoorFOSt
set_option linter.unusedVariables false
set_option maxRecDepth 100000
namespace Go.Proofs.YtiihiaicggmhjaaDoor
open Go Go.Sh

def below (s : Int) (p : Sp) : Bool := decide (p.svc < s)
theorem below_succ (s : Int) : ∀ (l : List Sp), l.countP (below (s + 1)) = l.countP (below s) + l.countP (isSvc s)
  | [] => rfl
  | p :: l => by
    have := below_succ s l
    simp only [List.countP_cons, this, below, isSvc, decide_eq_true_eq, beq_iff_eq]
    by_cases h1 : p.svc < s
    · rw [if_pos (by omega), if_pos h1, if_neg (by omega)]; omega
    · by_cases h2 : p.svc = s
      · rw [if_pos (by omega), if_neg h1, if_pos h2]; omega
      · rw [if_neg (by omega), if_neg h1, if_neg h2]; omega
theorem one_svc {l : List Sp} (hd : ∀ i (h : i < l.length), idx (isSvc l[i].svc) l = i) {s : Int} (h : idx (isSvc s) l ≥ 0) : l.countP (isSvc s) = 1 := by
  obtain ⟨i, hi, h1⟩ : ∃ i, ∃ h : i < l.length, l[i].svc = s := by
    unfold idx at h
    cases e : l.findIdx? (isSvc s) with
    | none => rw [e] at h; simp at h
    | some i =>
      obtain ⟨hi, h1, h2⟩ := List.findIdx?_eq_some_iff_getElem.1 e
      exact ⟨i, hi, by simpa [isSvc] using h1⟩
  have huniq : ∀ j (hj : j < l.length), l[j].svc = s → j = i := by
    intro j hj h2
    have e1 := hd i hi
    have e2 := hd j hj
    rw [h1] at e1
    rw [h2] at e2
    omega
  have key : ∀ (l : List Sp) (i : Nat) (hi : i < l.length), l[i].svc = s → (∀ j (hj : j < l.length), l[j].svc = s → j = i) → l.countP (isSvc s) = 1 := by
    intro l
    induction l with
    | nil => intro i hi; simp at hi
    | cons p l ih =>
      intro i hi h1 hu
      rw [List.countP_cons]
      cases i with
      | zero =>
        simp only [List.getElem_cons_zero] at h1
        have h0 : l.countP (isSvc s) = 0 := by
          rw [List.countP_eq_zero]
          intro q hq
          obtain ⟨j, hj, rfl⟩ := List.getElem_of_mem hq
          intro hh
          have := hu (j + 1) (by simpa using hj) (by simpa [isSvc] using hh)
          omega
        rw [h0, if_pos (by simp [isSvc, h1])]
      | succ i =>
        have h2 := ih i (by simpa using hi) (by simpa using h1) (fun j hj h3 => by
          have := hu (j + 1) (by simpa using hj) (by simpa using h3)
          omega)
        have h3 : ¬ (isSvc s p = true) := by
          intro hh
          have := hu 0 (by simp) (by simpa [isSvc] using hh)
          omega
        rw [h2, if_neg h3]
  exact key l i hi h1 huniq
theorem no_svc {l : List Sp} {s : Int} (h : ¬ idx (isSvc s) l ≥ 0) : l.countP (isSvc s) = 0 := by
  unfold idx at h
  cases e : l.findIdx? (isSvc s) with
  | none =>
    rw [List.countP_eq_zero]
    rw [List.findIdx?_eq_none_iff] at e
    intro q hq
    simp [e q hq]
  | some i => rw [e] at h; simp at h
theorem mayOd_svc {o : Od} (h : mayOd o = true) : (∀ i (h : i < o.steps.length), idx (isSvc o.steps[i].svc) o.steps = i) ∧ ∀ p ∈ o.steps, 4 ≤ p.svc ∧ p.svc ≤ 6 := by
  simp only [mayOd, mayO, Bool.and_eq_true, stepsB, List.all_eq_true, List.mem_range] at h
  have h1 := h.1
  refine ⟨fun i hi => ?_, fun p hp => ?_⟩
  · have := h1 i hi
    simp only [stepB, List.getElem?_eq_getElem hi, Bool.and_eq_true, decide_eq_true_eq] at this
    exact this.2.2
  · obtain ⟨i, hi, rfl⟩ := List.getElem_of_mem hp
    have := h1 i hi
    simp only [stepB, List.getElem?_eq_getElem hi, Bool.and_eq_true, decide_eq_true_eq, inB] at this
    exact this.1
theorem Steps_c {w0 w : World} {hs : List Hp} {K : KV} {o : Od} {p : Option Addr} {n c : Nat} (E : Errs w0) (T : Tab w0) (H : Holds w0 hs w) (hsl : Sl (Holds w0 hs) p n 2 (sps o.steps)) (k : ∀ w', Holds w0 hs w' → K (.bool true) w') :
    gocall Tryd.prog 9 [odV o (.slice p n c)] K w := by
  have hn : n = o.steps.length := by have := hsl.len; rw [sps, flat_len Sp.len] at this; omega
  apply F9_go; unfold F9
  refine nwO_h H (fun k8 w H => ?_)
  apply ld6_h 0 H rfl
  refine light_c (o := o) H (fun w H => ?_)
  refine asBoo_h ?_
  refine br_s (fun h1 => ?_) (fun h1 => ?_)
  · refine awake5_c E T H (fun w H => ?_)
    refine asBoo_h ?_
    exact k _ H.tail
  have hl : o.steps.length ≤ 20 := by simp at h1; omega
  apply ld6_h 0 H rfl
  refine mayO_c (l := o.steps) H (hsl.mono fun w H => H.tail) (by omega) (fun w H => ?_)
  refine asBoo_h ?_
  refine br_s (fun h2 => ?_) (fun h2 => ?_)
  · refine awake5_c E T H (fun w H => ?_)
    refine asBoo_h ?_
    exact k _ H.tail
  have hm : mayOd o = true := by simpa [mayOd] using h2
  obtain ⟨hu, hsv⟩ := mayOd_svc hm
  have c0 : o.steps.countP (below (-1)) = 0 := by
    rw [List.countP_eq_zero]
    intro q hq
    have := hsv q hq
    simp [below]; omega
  have c9 : o.steps.countP (below 9) = o.steps.length := by
    rw [List.countP_eq_length]
    intro q hq
    have := hsv q hq
    simp [below]; omega
  have hle := fun s => List.countP_le_length (p := below s) (l := o.steps)
  refine ⟨fun y w => Holds w0 (odHp k8 o (.slice p n c) :: hs) w ∧ -1 ≤ y.1 ∧ y.1 ≤ 9 ∧ y.2.1 = o.steps.countP (below y.1), fun y _ => (9 - y.1).toNat, ⟨H, by simp, by simp, by simp only [c0]; rfl⟩, ?_⟩
  rintro ⟨s, m, bb, u⟩ w ⟨H, h0, h3, hf⟩
  simp only at h0 h3 hf
  refine br_s (fun h4 => ?_) (fun h4 => ?_)
  · simp only [decide_eq_true_eq] at h4
    apply ld6_h 0 H rfl
    refine at_c (l := o.steps) H (hsl.mono fun w H => H.tail) (by omega) (fun w H => ?_)
    refine asI_h ?_
    have hw : IntKind.wrap .i64 (s + 1) = s + 1 := wrap64 (by omega) (by omega)
    have hb := below_succ s o.steps
    have hl9 := hle (s + 1)
    have hls := hle s
    refine br_s (fun h5 => ?_) (fun h5 => ?_)
    · simp only [decide_eq_true_eq] at h5
      have h6 := one_svc hu h5
      have H' := H
      unfold odHp at H'
      apply ld_h 0 H' rfl rfl
      refine asSl_h ?_
      obtain ⟨i, hi, he, hs⟩ : ∃ i : Nat, ∃ h : i < o.steps.length, idx (isSvc s) o.steps = i ∧ o.steps[i].svc = s := by
        unfold idx at h5 ⊢
        cases e : o.steps.findIdx? (isSvc s) with
        | none => rw [e] at h5; simp at h5
        | some i =>
          obtain ⟨hi, h7, h8⟩ := List.findIdx?_eq_some_iff_getElem.1 e
          exact ⟨i, hi, rfl, by simpa [isSvc] using h7⟩
      rw [he]
      refine br_f (by simp; omega) ?_
      apply ld_h 0 H' rfl rfl
      refine asSl_h ?_
      refine slAt_s hsl (by omega) (by omega) (fun b o' hp => ?_)
      have hp' := List.getElem?_eq_getElem hi
      have hc := fun {j : Nat} (hj : j < 2) => flat_at (f := Sp.cells) Sp.len hp' hj
      simp only [Int.toNat_natCast]
      refine ldS_s (j := i * 2) hsl hp H.tail (v := I o.steps[i].svc) (hc (j := 0) (by omega)) ?_
      refine asI_h ?_
      refine br_f (by simp [hs]) ?_
      have hw2 : IntKind.wrap .i64 (m + 1) = m + 1 := wrap64 (by omega) (by omega)
      simp only [hw, hw2]
      exact ⟨⟨H, by omega, by omega, by omega⟩, by omega⟩
    · simp only [decide_eq_false_iff_not] at h5
      have h6 := no_svc h5
      simp only [hw]
      exact ⟨⟨H, by omega, by omega, by omega⟩, by omega⟩
  · simp only [decide_eq_false_iff_not] at h4
    have hs9 : s = 9 := by omega
    subst hs9
    have H' := H
    unfold odHp at H'
    apply ld_h 0 H' rfl rfl
    refine asSl_h ?_
    refine br_t (by simp; omega) ?_
    refine awake5_c E T H (fun w H => ?_)
    refine asBoo_h ?_
    exact k _ H.tail
end Go.Proofs.YtiihiaicggmhjaaDoor
