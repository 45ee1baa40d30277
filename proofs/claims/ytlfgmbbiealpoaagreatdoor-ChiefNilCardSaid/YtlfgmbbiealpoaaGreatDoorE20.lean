/- An executor for the shallow reading: the temporaries of a loop. Conditions: none. -/
import Derived.Test.YtlfgmbbiealpoaaGreatDoorE19
set_option linter.unusedVariables false
namespace Go.Sh
open Go Go.RowKit
inductive F2 {α β : Type} (R : α → β → Prop) : List α → List β → Prop
  | nil : F2 R [] []
  | cons {a : α} {b : β} {l : List α} {m : List β} (h : R a b) (t : F2 R l m) : F2 R (a :: l) (b :: m)
/-! ### what is left and what is carried -/
theorem memB_ok : ∀ {l : List Nat} {t : Nat}, memB l t = true ↔ t ∈ l
  | [], t => by simp [memB]
  | u :: r, t => by
    have e : memB (u :: r) t = (Bool.rec (motive := fun _ => Bool) (memB r t) true (Nat.beq u t)) := rfl
    rw [e]
    cases hb : Nat.beq u t with
    | true => simp [Nat.eq_of_beq_eq_true hb]
    | false =>
      have : t ≠ u := fun e => by rw [e, Nat.beq_refl] at hb; cases hb
      simp [this, memB_ok (l := r)]
theorem dedupB_ok : ∀ {l : List Nat} {t : Nat}, t ∈ dedupB l ↔ t ∈ l
  | [], t => by simp [dedupB]
  | u :: r, t => by
    simp only [dedupB]
    split
    · rename_i h
      have hu := memB_ok.1 h
      rw [dedupB_ok] at hu
      rw [dedupB_ok, List.mem_cons]
      exact ⟨.inr, fun h => h.elim (fun e => e ▸ hu) id⟩
    · rw [List.mem_cons, List.mem_cons, dedupB_ok]
theorem cslots_ok {D : Nat} : ∀ {ts : List Nat} {l : List Sl_}, cslots D ts = .mk l → F2 (fun t (p : Sl_) => cgt D t = .mk p.1 ∧ cst D t = .mk p.2) ts l
  | [], l, h => by cases h; exact .nil
  | t :: ts, l, h => by
    simp only [cslots] at h
    split at h <;> cases h
    rename_i g q l' h1 h2 h3
    exact .cons ⟨h1, h2⟩ (cslots_ok h3)
abbrev TlR (D : Nat) (a : Nat × Leaf) (p : Sl_ × Ck) : Prop := cgt D a.1 = .mk p.1.1 ∧ cst D a.1 = .mk p.1.2 ∧ p.2 = cleaf a.2
noncomputable def xen (l : List Sl_) (e : ET) : ET → (List (Sl_ × Ck) → ET → Bool) → Bool :=
  List.rec (motive := fun _ => ET → (List (Sl_ × Ck) → ET → Bool) → Bool) (fun r k => k [] r)
    (fun p _ ih r k => Option.rec (motive := fun _ => Bool) (ih r k) (fun v => ih (p.2 r none) fun ls r => k ((p, cleaf (xleafV v)) :: ls) r) (p.1 e)) l
theorem xen_ok {D : Nat} {e : ET} (he : WF D e) : ∀ {ts : List Nat} {l : List Sl_} {r : ET} {k : List (Sl_ × Ck) → ET → Bool}, F2 (fun t (p : Sl_) => cgt D t = .mk p.1 ∧ cst D t = .mk p.2) ts l → WF D r → xen l e r k = true →
    ∃ tl ls r', k ls r' = true ∧ WF D r' ∧ (∀ u, u < 8 ^ D → etg D r' u = if u ∈ ts ∧ (etg D e u).isSome = true then none else etg D r u) ∧ F2 (TlR D) tl ls ∧ (∀ t lf, (t, lf) ∈ tl → t ∈ ts ∧ t < 8 ^ D ∧ ∃ x, etg D e t = some x ∧ xleafV x = lf) ∧ (∀ t, t ∈ ts → (etg D e t).isSome = true → ∃ lf, (t, lf) ∈ tl)
  | [], l, r, k, h, hr, hk => by
    cases h
    exact ⟨[], [], r, hk, hr, fun u _ => (by simp), .nil, fun t lf h => (by cases h), fun t h => (by cases h)⟩
  | t :: ts, l, r, k, h, hr, hk => by
    cases h with
    | cons h1 h2 =>
    rename_i p l
    obtain ⟨htD, hg⟩ := cgt_ok h1.1
    obtain ⟨_, hs⟩ := cst_ok h1.2
    have hk' : (Option.rec (motive := fun _ => Bool) (xen l e r k) (fun v => xen l e (p.2 r none) fun ls r => k ((p, cleaf (xleafV v)) :: ls) r) (p.1 e)) = true := hk
    rw [hg e he] at hk'
    cases hx : etg D e t with
    | none =>
      rw [hx] at hk'
      obtain ⟨tl, ls, r', a1, a2, a3, a4, a5, a6⟩ := xen_ok he h2 hr hk'
      refine ⟨tl, ls, r', a1, a2, fun u hu => ?_, a4, fun t' lf h => ⟨List.mem_cons_of_mem _ (a5 t' lf h).1, (a5 t' lf h).2⟩, fun t' ht' hs' => ?_⟩
      · rw [a3 u hu]
        by_cases e1 : u = t
        · subst e1; simp [hx]
        · simp [e1]
      · rcases List.mem_cons.1 ht' with e1 | h3
        · subst e1; rw [hx] at hs'; cases hs'
        · exact a6 t' h3 hs'
    | some x =>
      rw [hx] at hk'
      obtain ⟨hw, hset⟩ := hs r none hr
      obtain ⟨tl, ls, r', a1, a2, a3, a4, a5, a6⟩ := xen_ok he h2 hw hk'
      refine ⟨(t, xleafV x) :: tl, _, r', a1, a2, fun u hu => ?_, .cons ⟨h1.1, h1.2, rfl⟩ a4, fun t' lf h => ?_, fun t' ht' hs' => ?_⟩
      · rw [a3 u hu, hset u hu]
        by_cases e1 : u = t
        · subst e1; simp [hx]
        · simp [e1]
      · rcases List.mem_cons.1 h with e1 | h3
        · cases e1; exact ⟨List.mem_cons_self .., htD, x, hx, rfl⟩
        · exact ⟨List.mem_cons_of_mem _ (a5 t' lf h3).1, (a5 t' lf h3).2⟩
      · rcases List.mem_cons.1 ht' with e1 | h3
        · subst e1; exact ⟨_, List.mem_cons_self ..⟩
        · obtain ⟨lf, h4⟩ := a6 t' h3 hs'
          exact ⟨lf, List.mem_cons_of_mem _ h4⟩
theorem xround0_ok {D : Nat} {e : ET} (he : WF D e) : ∀ {tl : List (Nat × Leaf)} {ls : List (Sl_ × Ck)} {r : ET} {k : ET → Bool}, F2 (TlR D) tl ls → WF D r → xround0 ls e r k = true →
    ∃ e0, k e0 = true ∧ WF D e0 ∧ (∀ u, u < 8 ^ D → ((∃ lf, (u, lf) ∈ tl) → etg D e0 u = etg D e u) ∧ ((¬ ∃ lf, (u, lf) ∈ tl) → etg D e0 u = etg D r u)) ∧ ∀ t lf, (t, lf) ∈ tl → ∃ x, etg D e t = some x ∧ cleaf lf x = true
  | [], ls, r, k, h, hr, hk => by
    cases h
    exact ⟨r, hk, hr, fun u _ => ⟨fun ⟨lf, h⟩ => (by cases h), fun _ => rfl⟩, fun t lf h => (by cases h)⟩
  | (t, lf) :: tl, ls, r, k, h, hr, hk => by
    cases h with
    | cons h1 h2 =>
    rename_i p ls
    obtain ⟨htD, hg⟩ := cgt_ok h1.1
    obtain ⟨_, hs⟩ := cst_ok h1.2.1
    have hk' : (oB (p.1.1 e) fun v => bB (p.2 v) (xround0 ls e (p.1.2 r (some v)) k)) = true := hk
    obtain ⟨x, hx, k1⟩ := oB_out hk'
    obtain ⟨k2, k3⟩ := bB_out k1
    rw [hg e he] at hx
    obtain ⟨hw, hset⟩ := hs r (some x) hr
    obtain ⟨e0, a1, a2, a3, a4⟩ := xround0_ok he h2 hw k3
    refine ⟨e0, a1, a2, fun u hu => ⟨fun ⟨lf', hm⟩ => ?_, fun hn => ?_⟩, fun t' lf' hm => ?_⟩
    · by_cases hin : ∃ lf, (u, lf) ∈ tl
      · exact (a3 u hu).1 hin
      · rw [(a3 u hu).2 hin, hset u hu]
        rcases List.mem_cons.1 hm with e1 | h3
        · cases e1; simp [hx]
        · exact absurd ⟨_, h3⟩ hin
    · rw [(a3 u hu).2 (fun ⟨l, h⟩ => hn ⟨l, List.mem_cons_of_mem _ h⟩), hset u hu, if_neg (fun e1 => hn ⟨lf, by rw [e1]; exact List.mem_cons_self ..⟩)]
    · rcases List.mem_cons.1 hm with e1 | h3
      · cases e1; exact ⟨x, hx, by rw [← h1.2.2]; exact k2⟩
      · exact a4 t' lf' h3
/-! ### the environment's side -/
theorem sl_mem {L : List Nat} : ∀ {E : Env} {seen : List Nat} {t : Nat} {l : Leaf}, (t, l) ∈ slotsOf L E seen → t ∈ L ∧ t ∉ seen ∧ ∃ v, eget E t = some v ∧ l = leafV v
  | [], seen, t, l, h => by cases h
  | (u, x) :: r, seen, t, l, h => by
    simp only [slotsOf] at h
    split at h
    · rename_i h1 h2
      rcases List.mem_cons.1 h with e | h
      · cases e
        refine ⟨memN_iff.1 h1, fun hm => ?_, x, by rw [eget_cons, if_pos rfl], rfl⟩
        rw [memN_iff.2 hm] at h2; cases h2
      · obtain ⟨a, b, v, c, d⟩ := sl_mem h
        exact ⟨a, fun hm => b (List.mem_cons_of_mem _ hm), v, by rw [eget_cons, if_neg (fun e => b (by rw [e]; exact List.mem_cons_self ..))]; exact c, d⟩
    · rename_i hno
      obtain ⟨a, b, v, c, d⟩ := sl_mem h
      refine ⟨a, b, v, ?_, d⟩
      rw [eget_cons, if_neg (fun e => ?_)]
      · exact c
      · subst e
        cases h3 : memN u seen with
        | true => exact b (memN_iff.1 h3)
        | false => exact hno (memN_iff.2 a) h3
theorem sl_has {L : List Nat} : ∀ {E : Env} {seen : List Nat} {t : Nat} {v : Value}, t ∈ L → t ∉ seen → eget E t = some v → (t, leafV v) ∈ slotsOf L E seen
  | [], seen, t, v, _, _, h => by cases h
  | (u, x) :: r, seen, t, v, h1, h2, h => by
    simp only [slotsOf]
    rw [eget_cons] at h
    by_cases e : u = t
    · subst e
      rw [if_pos rfl] at h
      cases h
      have m1 : memN u L = true := memN_iff.2 h1
      have m2 : memN u seen = false := by
        cases h3 : memN u seen with
        | true => exact absurd (memN_iff.1 h3) h2
        | false => rfl
      rw [m1, m2]
      exact List.mem_cons_self ..
    · rw [if_neg e] at h
      split
      · refine List.mem_cons_of_mem _ (sl_has h1 (fun hm => ?_) h)
        rcases List.mem_cons.1 hm with e1 | hm
        · exact e e1.symm
        · exact h2 hm
      · exact sl_has h1 h2 h
theorem inL_of {L : List Nat} : ∀ {sl : List (Nat × Leaf)}, (∀ t l, (t, l) ∈ sl → t ∈ L) → inL L sl = true
  | [], _ => rfl
  | (t, l) :: r, h => by
    simp only [inL, memN_iff.2 (h t l (List.mem_cons_self ..))]
    exact inL_of fun t l hm => h t l (List.mem_cons_of_mem _ hm)
theorem unslots_of {E : Env} : ∀ {sl : List (Nat × Leaf)}, (∀ t l, (t, l) ∈ sl → ∃ v y, eget E t = some v ∧ unval l v = some y) → ∃ x, unslots sl E = some x
  | [], _ => ⟨(), rfl⟩
  | (t, l) :: r, h => by
    obtain ⟨v, y, h1, h2⟩ := h t l (List.mem_cons_self ..)
    obtain ⟨x, h3⟩ := unslots_of (sl := r) fun t l hm => h t l (List.mem_cons_of_mem _ hm)
    exact ⟨(y, x), by simp only [unslots, h1, h2, h3]⟩
theorem slots_get {E R : Env} {t : Nat} : ∀ {sl : List (Nat × Leaf)} {x : SlotsP sl}, unslots sl E = some x → ((∃ l, (t, l) ∈ sl) → eget (slotsE sl x ++ R) t = eget E t) ∧ ((¬ ∃ l, (t, l) ∈ sl) → eget (slotsE sl x ++ R) t = eget R t)
  | [], x, h => ⟨fun ⟨l, hm⟩ => (by cases hm), fun _ => rfl⟩
  | (u, l) :: r, x, h => by
    simp only [unslots] at h
    split at h
    · rename_i v hv
      split at h
      · rename_i a b ha hb
        cases h
        obtain ⟨i1, i2⟩ := slots_get (R := R) (t := t) hb
        have e : slotsE ((u, l) :: r) (a, b) ++ R = (u, l.val a) :: (slotsE r b ++ R) := rfl
        rw [e, eget_cons]
        have hva := unval_some ha
        by_cases e1 : u = t
        · subst e1
          rw [if_pos rfl]
          exact ⟨fun _ => by rw [hv, hva], fun hn => absurd ⟨l, List.mem_cons_self ..⟩ hn⟩
        · rw [if_neg e1]
          refine ⟨fun ⟨l', hm⟩ => ?_, fun hn => i2 fun ⟨l', hm⟩ => hn ⟨l', List.mem_cons_of_mem _ hm⟩⟩
          rcases List.mem_cons.1 hm with e2 | hm
          · cases e2; exact absurd rfl e1
          · exact i1 ⟨l', hm⟩
      · cases h
    · cases h
theorem dropE_get {L : List Nat} {t : Nat} : ∀ {E : Env}, (t ∈ L → eget (dropE L E) t = none) ∧ (t ∉ L → eget (dropE L E) t = eget E t)
  | [] => ⟨fun _ => rfl, fun _ => rfl⟩
  | (u, v) :: r => by
    obtain ⟨i1, i2⟩ := dropE_get (L := L) (t := t) (E := r)
    simp only [dropE]
    split
    · rename_i hm
      refine ⟨i1, fun hn => ?_⟩
      rw [i2 hn, eget_cons, if_neg (fun e => hn (by rw [← e]; exact memN_iff.1 hm))]
    · rename_i hm
      rw [eget_cons, eget_cons]
      refine ⟨fun hin => ?_, fun hn => ?_⟩
      · rw [if_neg (fun e => by subst e; rw [memN_iff.2 hin] at hm; cases hm)]; exact i1 hin
      · by_cases e : u = t
        · rw [if_pos e, if_pos e]
        · rw [if_neg e, if_neg e]; exact i2 hn
theorem cleaf_unval {v : Vl} {l : Leaf} {x : EV} {y : Value} (h : cleaf l x = true) (hs : sh v x = some y) : ∃ z, unval l y = some z := by
  have h1 : asV l y (fun _ _ => True) default := cleaf_ok h hs trivial
  cases l <;> simp only [asV] at h1
  · obtain ⟨n, rfl, -⟩ := h1; exact ⟨n, by simp [unval]⟩
  · obtain ⟨n, rfl, -⟩ := h1; exact ⟨n, rfl⟩
  · obtain ⟨n, rfl, -⟩ := h1; exact ⟨n, rfl⟩
  · obtain ⟨a, b, c, rfl, -⟩ := h1; exact ⟨(a, b, c), rfl⟩
  · obtain ⟨n, rfl, -⟩ := h1; exact ⟨n, rfl⟩
  · obtain ⟨n, rfl, -⟩ := h1; exact ⟨n, rfl⟩
  · exact ⟨y, rfl⟩
theorem xleafV_ok {v : Vl} {x : EV} {y : Value} (hs : sh v x = some y) : leafV y = xleafV x := by
  cases x <;> (try simp only [sh] at hs) <;> first
    | (cases hs; rfl)
    | (split at hs <;> cases hs; rfl)
    | (split at hs
       · split at hs <;> cases hs; rfl
       · cases hs)
    | (rename_i l i; cases l <;> cases hs <;> rfl)
end Go.Sh
