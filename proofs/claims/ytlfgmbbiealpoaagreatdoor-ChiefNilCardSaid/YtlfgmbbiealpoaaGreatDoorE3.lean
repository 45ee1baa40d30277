/- An executor for the shallow reading: temporaries, kinds looked at ahead. Conditions: none. -/
import Derived.Test.YtlfgmbbiealpoaaGreatDoorE2
set_option linter.unusedVariables false
namespace Go.Sh
open Go Go.RowKit

/-! ### the tree of temporaries -/
def WF : Nat → ET → Prop
  | 0, e => ∃ o, e = .v o
  | n + 1, e => ∃ a0 a1 a2 a3 a4 a5 a6 a7, e = .n a0 a1 a2 a3 a4 a5 a6 a7 ∧ WF n a0 ∧ WF n a1 ∧ WF n a2 ∧ WF n a3 ∧ WF n a4 ∧ WF n a5 ∧ WF n a6 ∧ WF n a7
def pickA (d : Nat) (a0 a1 a2 a3 a4 a5 a6 a7 : ET) : ET := match d with
  | 0 => a0 | 1 => a1 | 2 => a2 | 3 => a3 | 4 => a4 | 5 => a5 | 6 => a6 | _ => a7
def etg : Nat → ET → Nat → Option EV
  | 0, e, _ => (match e with | .v o => o | _ => none)
  | n + 1, e, t => (match e with | .n a0 a1 a2 a3 a4 a5 a6 a7 => etg n (pickA (t % 8) a0 a1 a2 a3 a4 a5 a6 a7) (t / 8) | _ => none)
theorem cget_ok : ∀ {D t : Nat} {g : Gt}, cget D t = .mk g → ∀ e, WF D e → g e = etg D e t
  | 0, t, g, h, e, hw => by
    obtain ⟨o, rfl⟩ := hw
    cases h; rfl
  | D + 1, t, g, h, e, hw => by
    simp only [cget] at h
    split at h
    · rename_i f hf
      obtain ⟨a0, a1, a2, a3, a4, a5, a6, a7, rfl, h0, h1, h2, h3, h4, h5, h6, h7⟩ := hw
      have ih := fun e he => cget_ok (D := D) hf e he
      have e8 : Nat.mod t 8 = t % 8 := rfl
      have d8 : Nat.div t 8 = t / 8 := rfl
      rw [e8] at h
      rw [d8] at ih
      simp only [etg]
      generalize t % 8 = d at h
      unfold arm at h
      split at h <;> cases h <;> first | exact ih _ h0 | exact ih _ h1 | exact ih _ h2 | exact ih _ h3 | exact ih _ h4 | exact ih _ h5 | exact ih _ h6 | exact ih _ h7
    · cases h
theorem cset_ok : ∀ {D t : Nat} {f : Sv}, cset D t = .mk f → t < 8 ^ D → ∀ e o, WF D e → WF D (f e o) ∧ ∀ u, u < 8 ^ D → etg D (f e o) u = if u = t then o else etg D e u
  | 0, t, f, h, ht, e, o, hw => by
    cases h
    refine ⟨⟨_, rfl⟩, fun u hu => ?_⟩
    rw [if_pos (by simp at hu ht; omega)]; rfl
  | D + 1, t, f, h, ht, e, o, hw => by
    simp only [cset] at h
    split at h
    · rename_i q hq
      obtain ⟨a0, a1, a2, a3, a4, a5, a6, a7, rfl, h0, h1, h2, h3, h4, h5, h6, h7⟩ := hw
      have e8 : Nat.mod t 8 = t % 8 := rfl
      have d8 : Nat.div t 8 = t / 8 := rfl
      have ht' : t / 8 < 8 ^ D := by rw [Nat.pow_succ] at ht; omega
      have ih := fun e he => cset_ok (D := D) hq (by rw [d8]; exact ht') e o he
      rw [e8] at h
      rw [d8] at ih
      have fin : ∀ (d : Nat), t % 8 = d → d < 8 → ∀ u, u < 8 ^ (D + 1) → (u = t ↔ u % 8 = d ∧ u / 8 = t / 8) := fun d hd _ u _ => by omega
      have lt : ∀ u, u < 8 ^ (D + 1) → u / 8 < 8 ^ D := fun u hu => by rw [Nat.pow_succ] at hu; omega
      have h8 : t % 8 < 8 := Nat.mod_lt _ (by decide)
      generalize hd : t % 8 = d at h h8
      have fin := fin d hd h8
      unfold armS at h
      split at h <;> cases h
      · refine ⟨⟨_, _, _, _, _, _, _, _, rfl, (ih _ h0).1, h1, h2, h3, h4, h5, h6, h7⟩, fun u hu => ?_⟩
        have hf := fin u hu
        have hi := (ih _ h0).2 (u / 8) (lt u hu)
        simp only [etg]
        rcases (by omega : u % 8 = 0 ∨ u % 8 = 1 ∨ u % 8 = 2 ∨ u % 8 = 3 ∨ u % 8 = 4 ∨ u % 8 = 5 ∨ u % 8 = 6 ∨ u % 8 = 7) with c | c | c | c | c | c | c | c <;> simp only [c, pickA] at hf ⊢ <;> first | (rw [hi]; simp [hf]) | (rw [if_neg (by rw [hf]; omega)])
      · refine ⟨⟨_, _, _, _, _, _, _, _, rfl, h0, (ih _ h1).1, h2, h3, h4, h5, h6, h7⟩, fun u hu => ?_⟩
        have hf := fin u hu
        have hi := (ih _ h1).2 (u / 8) (lt u hu)
        simp only [etg]
        rcases (by omega : u % 8 = 0 ∨ u % 8 = 1 ∨ u % 8 = 2 ∨ u % 8 = 3 ∨ u % 8 = 4 ∨ u % 8 = 5 ∨ u % 8 = 6 ∨ u % 8 = 7) with c | c | c | c | c | c | c | c <;> simp only [c, pickA] at hf ⊢ <;> first | (rw [hi]; simp [hf]) | (rw [if_neg (by rw [hf]; omega)])
      · refine ⟨⟨_, _, _, _, _, _, _, _, rfl, h0, h1, (ih _ h2).1, h3, h4, h5, h6, h7⟩, fun u hu => ?_⟩
        have hf := fin u hu
        have hi := (ih _ h2).2 (u / 8) (lt u hu)
        simp only [etg]
        rcases (by omega : u % 8 = 0 ∨ u % 8 = 1 ∨ u % 8 = 2 ∨ u % 8 = 3 ∨ u % 8 = 4 ∨ u % 8 = 5 ∨ u % 8 = 6 ∨ u % 8 = 7) with c | c | c | c | c | c | c | c <;> simp only [c, pickA] at hf ⊢ <;> first | (rw [hi]; simp [hf]) | (rw [if_neg (by rw [hf]; omega)])
      · refine ⟨⟨_, _, _, _, _, _, _, _, rfl, h0, h1, h2, (ih _ h3).1, h4, h5, h6, h7⟩, fun u hu => ?_⟩
        have hf := fin u hu
        have hi := (ih _ h3).2 (u / 8) (lt u hu)
        simp only [etg]
        rcases (by omega : u % 8 = 0 ∨ u % 8 = 1 ∨ u % 8 = 2 ∨ u % 8 = 3 ∨ u % 8 = 4 ∨ u % 8 = 5 ∨ u % 8 = 6 ∨ u % 8 = 7) with c | c | c | c | c | c | c | c <;> simp only [c, pickA] at hf ⊢ <;> first | (rw [hi]; simp [hf]) | (rw [if_neg (by rw [hf]; omega)])
      · refine ⟨⟨_, _, _, _, _, _, _, _, rfl, h0, h1, h2, h3, (ih _ h4).1, h5, h6, h7⟩, fun u hu => ?_⟩
        have hf := fin u hu
        have hi := (ih _ h4).2 (u / 8) (lt u hu)
        simp only [etg]
        rcases (by omega : u % 8 = 0 ∨ u % 8 = 1 ∨ u % 8 = 2 ∨ u % 8 = 3 ∨ u % 8 = 4 ∨ u % 8 = 5 ∨ u % 8 = 6 ∨ u % 8 = 7) with c | c | c | c | c | c | c | c <;> simp only [c, pickA] at hf ⊢ <;> first | (rw [hi]; simp [hf]) | (rw [if_neg (by rw [hf]; omega)])
      · refine ⟨⟨_, _, _, _, _, _, _, _, rfl, h0, h1, h2, h3, h4, (ih _ h5).1, h6, h7⟩, fun u hu => ?_⟩
        have hf := fin u hu
        have hi := (ih _ h5).2 (u / 8) (lt u hu)
        simp only [etg]
        rcases (by omega : u % 8 = 0 ∨ u % 8 = 1 ∨ u % 8 = 2 ∨ u % 8 = 3 ∨ u % 8 = 4 ∨ u % 8 = 5 ∨ u % 8 = 6 ∨ u % 8 = 7) with c | c | c | c | c | c | c | c <;> simp only [c, pickA] at hf ⊢ <;> first | (rw [hi]; simp [hf]) | (rw [if_neg (by rw [hf]; omega)])
      · refine ⟨⟨_, _, _, _, _, _, _, _, rfl, h0, h1, h2, h3, h4, h5, (ih _ h6).1, h7⟩, fun u hu => ?_⟩
        have hf := fin u hu
        have hi := (ih _ h6).2 (u / 8) (lt u hu)
        simp only [etg]
        rcases (by omega : u % 8 = 0 ∨ u % 8 = 1 ∨ u % 8 = 2 ∨ u % 8 = 3 ∨ u % 8 = 4 ∨ u % 8 = 5 ∨ u % 8 = 6 ∨ u % 8 = 7) with c | c | c | c | c | c | c | c <;> simp only [c, pickA] at hf ⊢ <;> first | (rw [hi]; simp [hf]) | (rw [if_neg (by rw [hf]; omega)])
      · refine ⟨⟨_, _, _, _, _, _, _, _, rfl, h0, h1, h2, h3, h4, h5, h6, (ih _ h7).1⟩, fun u hu => ?_⟩
        have hf := fin u hu
        have hi := (ih _ h7).2 (u / 8) (lt u hu)
        simp only [etg]
        rcases (by omega : u % 8 = 0 ∨ u % 8 = 1 ∨ u % 8 = 2 ∨ u % 8 = 3 ∨ u % 8 = 4 ∨ u % 8 = 5 ∨ u % 8 = 6 ∨ u % 8 = 7) with c | c | c | c | c | c | c | c <;> simp only [c, pickA] at hf ⊢ <;> first | (rw [hi]; simp [hf]) | (rw [if_neg (by rw [hf]; omega)])
    · cases h
theorem et0_ok : ∀ (D : Nat), WF D (et0 D) ∧ ∀ t, etg D (et0 D) t = none
  | 0 => ⟨⟨_, rfl⟩, fun _ => rfl⟩
  | D + 1 => by
    obtain ⟨h1, h2⟩ := et0_ok D
    refine ⟨⟨_, _, _, _, _, _, _, _, rfl, h1, h1, h1, h1, h1, h1, h1, h1⟩, fun t => ?_⟩
    simp only [et0, etg]
    unfold pickA
    split <;> exact h2 _
theorem cgt_ok {D t : Nat} {g : Gt} (h : cgt D t = .mk g) : t < 8 ^ D ∧ ∀ e, WF D e → g e = etg D e t := by
  unfold cgt at h
  split at h
  · rename_i hb; exact ⟨by simpa [Nat.blt_eq] using hb, cget_ok h⟩
  · cases h
theorem cst_ok {D t : Nat} {f : Sv} (h : cst D t = .mk f) : t < 8 ^ D ∧ ∀ e o, WF D e → WF D (f e o) ∧ ∀ u, u < 8 ^ D → etg D (f e o) u = if u = t then o else etg D e u := by
  unfold cst at h
  split at h
  · rename_i hb
    have hb' : t < 8 ^ D := by simpa [Nat.blt_eq] using hb
    exact ⟨hb', cset_ok h hb'⟩
  · cases h

/-! ### what it stands for -/
structure RE (v : Vl) (D : Nat) (e : ET) (E : Env) : Prop where
  wf : WF D e
  some_ : ∀ t x, t < 8 ^ D → etg D e t = some x → ∃ y, eget E t = some y ∧ sh v x = some y
  none_ : ∀ t, t < 8 ^ D → etg D e t = none → eget E t = none
  out : ∀ t, 8 ^ D ≤ t → eget E t = none
theorem RE.mono {v v' : Vl} (h : v.le v') {D : Nat} {e : ET} {E : Env} (r : RE v D e E) : RE v' D e E :=
  ⟨r.wf, fun t x ht hx => by obtain ⟨y, h1, h2⟩ := r.some_ t x ht hx; exact ⟨y, h1, sh_mono h h2⟩, r.none_, r.out⟩
theorem RE.put {v : Vl} {D t : Nat} {f : Sv} {e : ET} {E : Env} (h : cst D t = .mk f) (r : RE v D e E) {x : EV} {y : Value} (hs : sh v x = some y) : RE v D (f e (some x)) ((t, y) :: E) := by
  obtain ⟨ht, hf⟩ := cst_ok h
  obtain ⟨hw, hg⟩ := hf e (some x) r.wf
  refine ⟨hw, fun u z hu hz => ?_, fun u hu hz => ?_, fun u hu => ?_⟩
  · rw [hg u hu] at hz
    rw [eget_cons]
    split at hz
    · rename_i e1; cases hz; exact ⟨y, by rw [if_pos e1.symm], hs⟩
    · rename_i e1
      rw [if_neg (fun e2 => e1 e2.symm)]
      exact r.some_ u z hu hz
  · rw [hg u hu] at hz
    rw [eget_cons]
    split at hz
    · cases hz
    · rename_i e1
      rw [if_neg (fun e2 => e1 e2.symm)]
      exact r.none_ u hu hz
  · rw [eget_cons, if_neg (by omega)]
    exact r.out u hu
theorem RE.lit {v : Vl} {D : Nat} {e : ET} {E : Env} (r : RE v D e E) {t : Nat} {y : Value} (h : eget E t = some y) : RE v D e ((t, y) :: E) := by
  have same : ∀ u, eget ((t, y) :: E) u = eget E u := fun u => by
    rw [eget_cons]
    split
    · rename_i e1; subst e1; exact h.symm
    · rfl
  exact ⟨r.wf, fun u x hu hx => by rw [same]; exact r.some_ u x hu hx, fun u hu hx => by rw [same]; exact r.none_ u hu hx, fun u hu => by rw [same]; exact r.out u hu⟩
theorem ofV1_sh {v : Vl} {y : Value} {x : EV} (h : ofV1 y = some x) : sh v x = some y := by
  unfold ofV1 at h
  split at h <;> cases h <;> simp [sh]
theorem ofVL_sh {v : Vl} : ∀ {l : List Value} {x : List EV}, ofVL l = some x → shL v x = some l
  | [], x, h => by cases h; rfl
  | y :: r, x, h => by
    simp only [ofVL] at h
    split at h
    · rename_i a b ha hb; cases h; exact shL_cons.2 ⟨_, _, ofV1_sh ha, ofVL_sh hb, rfl⟩
    · cases h
theorem ofV_sh {v : Vl} {y : Value} {x : EV} (h : ofV y = some x) : sh v x = some y := by
  unfold ofV at h
  split at h
  · split at h
    · rename_i hl; cases h; simp [sh, ofVL_sh hl]
    · cases h
  · split at h
    · rename_i hl; cases h; simp [sh, ofVL_sh hl]
    · cases h
  · exact ofV1_sh h
theorem csrc_ok {v : Vl} {D : Nat} {x : Operand} {g : Gt} {e : ET} {E : Env} {a : EV} (h : csrc D x = .mk g) (r : RE v D e E) (ha : g e = some a) : knows E x = true ∧ sh v a = some (rho E x) := by
  unfold csrc at h
  split at h
  · rename_i t
    obtain ⟨ht, hg⟩ := cgt_ok h
    rw [hg e r.wf] at ha
    obtain ⟨y, h1, h2⟩ := r.some_ t a ht ha
    simp only [knows, rho, h1]
    exact ⟨trivial, h2⟩
  · rename_i c
    split at h
    · rename_i z hz
      cases h; cases ha
      exact ⟨rfl, ofV_sh hz⟩
    · cases h
  · cases h; cases ha; exact ⟨rfl, rfl⟩
  · cases h; cases ha; exact ⟨rfl, rfl⟩
theorem oB_out {α : Type} {o : Option α} {k : α → Bool} (h : oB o k = true) : ∃ x, o = some x ∧ k x = true := by
  cases o with
  | none => cases h
  | some x => exact ⟨x, rfl, h⟩
theorem bB_out {a b : Bool} (h : bB a b = true) : a = true ∧ b = true := by
  cases a
  · cases h
  · exact ⟨rfl, h⟩
theorem csrcL_ok {v : Vl} {D : Nat} {e : ET} {E : Env} (r : RE v D e E) : ∀ {xs : List Operand} {g : GtL} {k : List EV → Bool}, csrcL D xs = .mk g → g e k = true → ∃ l, k l = true ∧ knowsAll E xs = true ∧ shL v l = some (xs.map (rho E))
  | [], g, k, h, hk => by cases h; exact ⟨[], hk, rfl, rfl⟩
  | x :: xs, g, k, h, hk => by
    simp only [csrcL] at h
    split at h
    · rename_i q p hq hp
      cases h
      obtain ⟨a, ha, hk⟩ := oB_out hk
      obtain ⟨h1, h2⟩ := csrc_ok hq r ha
      obtain ⟨l, h3, h4, h5⟩ := csrcL_ok r hp hk
      exact ⟨a :: l, h3, by simp [knowsAll, h1, h4], shL_cons.2 ⟨_, _, h2, h5, rfl⟩⟩
    · cases h
def shP (v : Vl) : List (Nat × EV) → Option (List (Nat × Value))
  | [] => some []
  | (i, x) :: r => (match sh v x, shP v r with | some y, some l => some ((i, y) :: l) | _, _ => none)
theorem cparts_ok {v : Vl} {D : Nat} {e : ET} {E : Env} (r : RE v D e E) : ∀ {xs : List (Nat × Operand)} {g : GtP} {k : List (Nat × EV) → Bool}, cparts D xs = .mk g → g e k = true → ∃ l, k l = true ∧ knowsAll E (xs.map (·.2)) = true ∧ shP v l = some (xs.map fun (i, x) => (i, rho E x))
  | [], g, k, h, hk => by cases h; exact ⟨[], hk, rfl, rfl⟩
  | (i, x) :: xs, g, k, h, hk => by
    simp only [cparts] at h
    split at h
    · rename_i q p hq hp
      cases h
      obtain ⟨a, ha, hk⟩ := oB_out hk
      obtain ⟨h1, h2⟩ := csrc_ok hq r ha
      obtain ⟨l, h3, h4, h5⟩ := cparts_ok r hp hk
      exact ⟨(i, a) :: l, h3, by simp [knowsAll, h1, h4], by simp [shP, h2, h5]⟩
    · cases h

/-! ### kinds -/
theorem eqK_ok {a b : IntKind} (h : eqK a b = true) : a = b := by cases a <;> cases b <;> first | rfl | cases h
section
variable {P : Program} {v : Vl} {w : World}
theorem cleaf_ok {l : Leaf} {x : EV} {y : Value} {K : KV} (h : cleaf l x = true) (hs : sh v x = some y) (hk : K y w) : asV l y K w := by
  cases l <;> cases x <;> simp only [cleaf, Bool.false_eq_true] at h <;> (try simp only [sh, Option.some.injEq] at hs) <;> try (exact hk)
  case int.int k k' n => have := eqK_ok h; subst this; subst hs; exact ⟨n, rfl, hk⟩
  case bool.bool b => subst hs; exact ⟨b, rfl, hk⟩
  case str.str s => subst hs; exact ⟨_, rfl, hk⟩
  case slice.nils => subst hs; exact ⟨_, _, _, rfl, hk⟩
  case slice.sl a b c d => split at hs <;> cases hs; exact ⟨_, _, _, rfl, hk⟩
  case slice.slo a b c d e =>
    split at hs
    · split at hs <;> cases hs; exact ⟨_, _, _, rfl, hk⟩
    · cases hs
  case ptr.nilp => subst hs; exact ⟨_, rfl, hk⟩
  case ptr.ptr a b => split at hs <;> cases hs; exact ⟨_, rfl, hk⟩
  case ptr.glob a b => subst hs; exact ⟨_, rfl, hk⟩
  case map.nilm => subst hs; exact ⟨_, rfl, hk⟩
  case map.map a => split at hs <;> cases hs; exact ⟨_, rfl, hk⟩
  all_goals
    rename_i l' i
    cases l' <;> simp only [cleaf, Bool.false_eq_true] at h <;> first
      | (have := eqK_ok h; subst this; cases hs; exact ⟨_, rfl, hk⟩)
      | (cases hs; exact ⟨_, rfl, hk⟩)
      | (cases hs; exact ⟨_, _, _, rfl, hk⟩)
theorem clf_ok {l : Leaf} {f : Ck} {x : EV} {y : Value} {K : KV} (h : clf l = .mk f) (hf : f x = true) (hs : sh v x = some y) (hk : K y w) : asV l y K w := by
  unfold clf at h
  split at h <;> cases h <;> try (exact cleaf_ok hf hs hk)
  refine cleaf_ok (l := .int .i64) ?_ hs hk
  simp only at hf
  split at hf <;> first | rfl | cases hf
theorem cellsV_in {f : Nat → Value} : ∀ {ls : List Leaf} {g : CkL} {xs : List EV} {vs : List Value} (i : Nat) (acc : List Value) {K : KV}, clfs ls = .mk g → g xs = true → shL v xs = some vs → (∀ j y, vs[j]? = some y → f (i + j) = y) → K (.agg (acc ++ vs).toArray) w → cellsV f i ls acc K w
  | [], g, xs, vs, i, acc, K, h, hg, hs, _, hk => by
    cases h
    cases xs with
    | nil => rw [shL_nil] at hs; subst hs; simpa [cellsV] using hk
    | cons a b => cases hg
  | l :: ls, g, xs, vs, i, acc, K, h, hg, hs, hf, hk => by
    simp only [clfs] at h
    split at h
    · rename_i p q hp hq
      cases h
      cases xs with
      | nil => cases hg
      | cons x xs =>
        obtain ⟨h1, h2⟩ := bB_out hg
        obtain ⟨y, us, hy, hu, rfl⟩ := shL_cons.1 hs
        simp only [cellsV]
        have e := hf 0 y rfl
        rw [Nat.add_zero] at e
        rw [e]
        refine clf_ok hp h1 hy ?_
        refine cellsV_in (i + 1) (acc ++ [y]) hq h2 hu (fun j z hz => ?_) (by simpa using hk)
        have := hf (j + 1) z (by simpa using hz)
        rw [← this]; congr 1; omega
    · cases h
theorem clfs_len : ∀ {ls : List Leaf} {g : CkL} {xs : List EV}, clfs ls = .mk g → g xs = true → ls.length = xs.length
  | [], g, xs, h, hg => by
    cases h
    cases xs with
    | nil => rfl
    | cons a b => cases hg
  | l :: ls, g, xs, h, hg => by
    simp only [clfs] at h
    split at h
    · rename_i p q hp hq
      cases h
      cases xs with
      | nil => cases hg
      | cons x xs =>
        obtain ⟨h1, h2⟩ := bB_out hg
        simp [clfs_len hq h2]
    · cases h
theorem range_map (vs : List Value) : (List.range vs.length).map (fun i => (vs[i]?).getD undef) = vs := by
  apply List.ext_getElem
  · simp
  · intro i h1 h2; simp [h2]
theorem cty_ok {t : TypeId} {f : Ck} {x : EV} {y : Value} {K : KV} (h : cty P t = .mk f) (hf : f x = true) (hs : sh v x = some y) (hk : K y w) : asTy P t y K w := by
  unfold cty at h
  unfold asTy
  split at h
  · rename_i hb
    rw [hb]
    split at h
    · rename_i g hg
      cases h
      simp only at hf
      split at hf
      · rename_i l
        simp only [sh] at hs
        split at hs <;> cases hs
        rename_i vs hvs
        refine ⟨fun i => (vs[i]?).getD undef, ?_, ?_⟩
        · rw [clfs_len hg hf, ← shL_len hvs, range_map]
        · exact cellsV_in 0 [] hg hf hvs (fun j z hz => by simp [hz]) (by simpa using hk)
      · cases hf
    · cases h
  · rename_i hb
    rw [hb]
    exact clf_ok h hf hs hk
theorem tupV_in {f : Nat → Value} : ∀ {ts : List TypeId} {g : CkL} {xs : List EV} {vs : List Value} (i : Nat) (acc : List Value) {K : KV}, ctys P ts = .mk g → g xs = true → shL v xs = some vs → (∀ j y, vs[j]? = some y → f (i + j) = y) → K (.tuple (acc ++ vs).toArray) w → tupV P f i ts acc K w
  | [], g, xs, vs, i, acc, K, h, hg, hs, _, hk => by
    cases h
    cases xs with
    | nil => rw [shL_nil] at hs; subst hs; simpa [tupV] using hk
    | cons a b => cases hg
  | l :: ls, g, xs, vs, i, acc, K, h, hg, hs, hf, hk => by
    simp only [ctys] at h
    split at h
    · rename_i p q hp hq
      cases h
      cases xs with
      | nil => cases hg
      | cons x xs =>
        obtain ⟨h1, h2⟩ := bB_out hg
        obtain ⟨y, us, hy, hu, rfl⟩ := shL_cons.1 hs
        simp only [tupV]
        have e := hf 0 y rfl
        rw [Nat.add_zero] at e
        rw [e]
        refine cty_ok hp h1 hy ?_
        refine tupV_in (i + 1) (acc ++ [y]) hq h2 hu (fun j z hz => ?_) (by simpa using hk)
        have := hf (j + 1) z (by simpa using hz)
        rw [← this]; congr 1; omega
    · cases h
theorem ctys_len : ∀ {ls : List TypeId} {g : CkL} {xs : List EV}, ctys P ls = .mk g → g xs = true → ls.length = xs.length
  | [], g, xs, h, hg => by
    cases h
    cases xs with
    | nil => rfl
    | cons a b => cases hg
  | l :: ls, g, xs, h, hg => by
    simp only [ctys] at h
    split at h
    · rename_i p q hp hq
      cases h
      cases xs with
      | nil => cases hg
      | cons x xs =>
        obtain ⟨h1, h2⟩ := bB_out hg
        simp [ctys_len hq h2]
    · cases h
theorem tup_in {ts : List TypeId} {g : CkL} {l : List EV} {vs : List Value} {K : KV} (hg : ctys P ts = .mk g) (hf : g l = true) (hvs : shL v l = some vs) (hk : K (.tuple vs.toArray) w) : asT ts.length (.tuple vs.toArray) (fun f w => tupV P f 0 ts [] K w) w := by
  refine ⟨fun i => (vs[i]?).getD undef, ?_, ?_⟩
  · rw [ctys_len hg hf, ← shL_len hvs, range_map]
  · exact tupV_in 0 [] hg hf hvs (fun j z hz => by simp [hz]) (by simpa using hk)
theorem cres_ok {t : TypeId} {f : Ck} {x : EV} {y : Value} {K : KV} (h : cres P t = .mk f) (hf : f x = true) (hs : sh v x = some y) (hk : K y w) : asRes P t y K w := by
  unfold cres at h
  unfold asRes
  split at h
  · rename_i ts hd
    simp only [hd]
    split at h
    · rename_i g hg
      cases h
      simp only at hf
      split at hf
      · rename_i l
        simp only [sh] at hs
        split at hs <;> cases hs
        rename_i vs hvs
        exact tup_in hg hf hvs hk
      · cases hf
    · cases h
  · rename_i hd
    split
    · rename_i ts hd2; exact absurd hd2 (hd ts)
    · exact cty_ok h hf hs hk
end
end Go.Sh
