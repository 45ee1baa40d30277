/- An executor for the shallow reading: it has one outcome. Conditions: none. -/
import Derived.Test.YtlfgmbbiealpoaaGreatDoorE14
set_option linter.unusedVariables false
namespace Go.Sh
open Go
def Det {α : Type} (F : (α → Bool) → Bool) : Prop := (∀ K, F K = false) ∨ ∃ a, ∀ K, F K = K a
def Det3 {α β γ : Type} (F : (α → β → γ → Bool) → Bool) : Prop := (∀ K, F K = false) ∨ ∃ a b c, ∀ K, F K = K a b c
section
variable {α β γ δ ε ζ : Type}
theorem det_no : Det (fun _ : α → Bool => false) := .inl fun _ => rfl
theorem det_ret (a : α) : Det (fun K : α → Bool => K a) := .inr ⟨a, fun _ => rfl⟩
theorem det_oB {o : Option δ} {F : δ → (α → Bool) → Bool} (h : ∀ x, Det (F x)) : Det (fun K => oB o fun x => F x K) := by
  cases o with
  | none => exact .inl fun _ => rfl
  | some x => exact h x
theorem det_bB {b : Bool} {F : (α → Bool) → Bool} (h : Det F) : Det (fun K => bB b (F K)) := by
  cases b
  · exact .inl fun _ => rfl
  · exact h
theorem det_1 {F : (δ → Bool) → Bool} {G : δ → (α → Bool) → Bool} (h : Det F) (g : ∀ x, Det (G x)) : Det (fun K => F fun x => G x K) := by
  rcases h with h | ⟨a, h⟩
  · exact .inl fun K => h _
  · rcases g a with g | ⟨b, g⟩
    · exact .inl fun K => (h _).trans (g K)
    · exact .inr ⟨b, fun K => (h _).trans (g K)⟩
theorem det2_no : Det2 (fun _ : α → β → Bool => false) := .inl fun _ => rfl
theorem det2_ret (a : α) (b : β) : Det2 (fun K : α → β → Bool => K a b) := .inr ⟨a, b, fun _ => rfl⟩
theorem det2_oB {o : Option δ} {F : δ → (α → β → Bool) → Bool} (h : ∀ x, Det2 (F x)) : Det2 (fun K => oB o fun x => F x K) := by
  cases o with
  | none => exact .inl fun _ => rfl
  | some x => exact h x
theorem det2_bB {b : Bool} {F : (α → β → Bool) → Bool} (h : Det2 F) : Det2 (fun K => bB b (F K)) := by
  cases b
  · exact .inl fun _ => rfl
  · exact h
theorem det2_1 {F : (δ → Bool) → Bool} {G : δ → (α → β → Bool) → Bool} (h : Det F) (g : ∀ x, Det2 (G x)) : Det2 (fun K => F fun x => G x K) := by
  rcases h with h | ⟨a, h⟩
  · exact .inl fun K => h _
  · rcases g a with g | ⟨b, c, g⟩
    · exact .inl fun K => (h _).trans (g K)
    · exact .inr ⟨b, c, fun K => (h _).trans (g K)⟩
theorem det2_2 {F : (δ → ε → Bool) → Bool} {G : δ → ε → (α → β → Bool) → Bool} (h : Det2 F) (g : ∀ x y, Det2 (G x y)) : Det2 (fun K => F fun x y => G x y K) := by
  rcases h with h | ⟨a, a', h⟩
  · exact .inl fun K => h _
  · rcases g a a' with g | ⟨b, c, g⟩
    · exact .inl fun K => (h _).trans (g K)
    · exact .inr ⟨b, c, fun K => (h _).trans (g K)⟩
theorem det2_3 {F : (δ → ε → ζ → Bool) → Bool} {G : δ → ε → ζ → (α → β → Bool) → Bool} (h : Det3 F) (g : ∀ x y z, Det2 (G x y z)) : Det2 (fun K => F fun x y z => G x y z K) := by
  rcases h with h | ⟨a, a', a'', h⟩
  · exact .inl fun K => h _
  · rcases g a a' a'' with g | ⟨b, c, g⟩
    · exact .inl fun K => (h _).trans (g K)
    · exact .inr ⟨b, c, fun K => (h _).trans (g K)⟩
theorem det3_no : Det3 (fun _ : α → β → γ → Bool => false) := .inl fun _ => rfl
theorem det3_ret (a : α) (b : β) (c : γ) : Det3 (fun K : α → β → γ → Bool => K a b c) := .inr ⟨a, b, c, fun _ => rfl⟩
theorem det3_oB {o : Option δ} {F : δ → (α → β → γ → Bool) → Bool} (h : ∀ x, Det3 (F x)) : Det3 (fun K => oB o fun x => F x K) := by
  cases o with
  | none => exact .inl fun _ => rfl
  | some x => exact h x
theorem det3_bB {b : Bool} {F : (α → β → γ → Bool) → Bool} (h : Det3 F) : Det3 (fun K => bB b (F K)) := by
  cases b
  · exact .inl fun _ => rfl
  · exact h
theorem det3_1 {F : (δ → Bool) → Bool} {G : δ → (α → β → γ → Bool) → Bool} (h : Det F) (g : ∀ x, Det3 (G x)) : Det3 (fun K => F fun x => G x K) := by
  rcases h with h | ⟨a, h⟩
  · exact .inl fun K => h _
  · rcases g a with g | ⟨b, c, d, g⟩
    · exact .inl fun K => (h _).trans (g K)
    · exact .inr ⟨b, c, d, fun K => (h _).trans (g K)⟩
theorem det3_2 {F : (δ → ε → Bool) → Bool} {G : δ → ε → (α → β → γ → Bool) → Bool} (h : Det2 F) (g : ∀ x y, Det3 (G x y)) : Det3 (fun K => F fun x y => G x y K) := by
  rcases h with h | ⟨a, a', h⟩
  · exact .inl fun K => h _
  · rcases g a a' with g | ⟨b, c, d, g⟩
    · exact .inl fun K => (h _).trans (g K)
    · exact .inr ⟨b, c, d, fun K => (h _).trans (g K)⟩
theorem det3_3 {F : (δ → ε → ζ → Bool) → Bool} {G : δ → ε → ζ → (α → β → γ → Bool) → Bool} (h : Det3 F) (g : ∀ x y z, Det3 (G x y z)) : Det3 (fun K => F fun x y z => G x y z K) := by
  rcases h with h | ⟨a, a', a'', h⟩
  · exact .inl fun K => h _
  · rcases g a a' a'' with g | ⟨b, c, d, g⟩
    · exact .inl fun K => (h _).trans (g K)
    · exact .inr ⟨b, c, d, fun K => (h _).trans (g K)⟩
end
theorem csrcL_det {D : Nat} : ∀ {xs : List Operand} {g : GtL}, csrcL D xs = .mk g → ∀ e, Det (g e)
  | [], g, h, e => by cases h; exact det_ret _
  | x :: xs, g, h, e => by
    simp only [csrcL] at h
    split at h
    · rename_i q p hq hp
      cases h
      exact det_oB fun v => det_1 (csrcL_det hp e) fun l => det_ret _
    · cases h
theorem cparts_det {D : Nat} : ∀ {xs : List (Nat × Operand)} {g : GtP}, cparts D xs = .mk g → ∀ e, Det (g e)
  | [], g, h, e => by cases h; exact det_ret _
  | x :: xs, g, h, e => by
    simp only [cparts] at h
    split at h
    · rename_i q p hq hp
      cases h
      exact det_oB fun v => det_1 (cparts_det hp e) fun l => det_ret _
    · cases h
section
variable {cx : XCx}
theorem cload_det {t : TypeId} {f : Ld_} (h : cload cx t = .mk f) (p : EV) (s : XSt) : Det (f p s) := by
  unfold cload at h
  split at h
  · split at h
    · cases h; exact det_oB fun _ => det_ret _
    · split at h <;> cases h
      exact det_oB fun _ => det_bB (det_ret _)
  · split at h <;> cases h
    exact det_oB fun _ => det_bB (det_ret _)
  · cases h
theorem cstore_det {t : TypeId} {f : Sr_} (h : cstore cx t = .mk f) (p x : EV) (s : XSt) : Det (f p x s) := by
  unfold cstore at h
  split at h
  · cases h; exact det_oB fun _ => det_ret _
  · cases h
    cases x <;> first | exact det_no | exact det_bB (det_oB fun _ => det_ret _)
  · cases h
theorem c1_det {a : Cl Gt} {f : EV → Option EV} {p : Pf} (h : c1 a f = .mk p) (e : ET) : Det (p e) := by
  unfold c1 at h
  split at h <;> cases h
  exact det_oB fun _ => det_oB fun _ => det_ret _
theorem c2_det {a b : Cl Gt} {f : Cl B2} {p : Pf} (h : c2 a b f = .mk p) (e : ET) : Det (p e) := by
  unfold c2 at h
  split at h <;> cases h
  exact det_oB fun _ => det_oB fun _ => det_oB fun _ => det_ret _
theorem cP_det {D : Nat} {ty : TypeId} {op : Op} {p : Pf} (h : cP cx D ty op = .mk p) (e : ET) : Det (p e) := by
  unfold cP at h
  split at h
  · split at h <;> cases h; exact det_oB fun _ => det_ret _
  · split at h <;> cases h; exact det_oB fun _ => det_ret _
  · split at h <;> cases h
    refine det_oB fun v => det_oB fun x => det_oB fun y => ?_
    cases v <;> first | exact det_no | skip
    rename_i b
    cases b <;> exact det_ret _
  · split at h <;> cases h
    refine det_oB fun v => ?_
    cases v <;> first | exact det_no | exact det_ret _
  · exact c2_det h e
  · split at h <;> cases h
    rename_i g hg
    exact det_1 (cparts_det hg e) fun l => det_oB fun _ => det_ret _
  · exact c1_det h e
  · split at h
    · exact c1_det h e
    · cases h
  · exact c1_det h e
  · exact c1_det h e
  · split at h
    · exact c1_det h e
    · cases h
  · split at h
    · exact c2_det h e
    · cases h
  · exact c2_det h e
  · split at h <;> cases h
    exact det_oB fun _ => det_oB fun _ => det_oB fun _ => det_oB fun _ => det_ret _
  · split at h
    · split at h
      · exact c1_det h e
      · cases h
    · split at h
      · exact c2_det h e
      · cases h
    · split at h
      · exact c2_det h e
      · cases h
    · cases h
  · cases h
def GaDet (Γ : XG) : Prop := ∀ p ∈ Γ, HnDet p.2
def CallDet (call : XCall) : Prop := ∀ Γ f args s, GaDet Γ → Det2 (call Γ f args s)
theorem hB_det {Γ : XG} {l : Nat} {α β : Type} {F : XHnd → (α → β → Bool) → Bool} (hΓ : ∀ p ∈ Γ, Det2 (F p.2)) : Det2 (fun K => hB Γ l fun h => F h K) := by
  induction Γ with
  | nil => exact det2_no
  | cons p r ih =>
    have e : ∀ k, hB (p :: r) l k = (Bool.rec (motive := fun _ => Bool) (hB r l k) (k p.2) (Nat.beq p.1 l)) := fun k => rfl
    have ih' := ih (fun q hq => hΓ q (List.mem_cons_of_mem _ hq))
    have h0 := hΓ p (List.mem_cons_self ..)
    cases hb : Nat.beq p.1 l with
    | true => simp only [e, hb]; exact h0
    | false => simp only [e, hb]; exact ih'
set_option maxHeartbeats 1000000 in
theorem cE_det {D : Nat} {ty : TypeId} {op : Op} {f : XEff} {e : ET} {s : XSt} {call : XCall} {Γ : XG} (h : cE cx D ty op = .mk f) (hc : CallDet call) (hΓ : GaDet Γ) : Det2 (f call Γ e s) := by
  unfold cE at h
  split at h
  · split at h <;> cases h
    rename_i hl
    exact det2_oB fun p => det2_1 (cload_det hl p s) fun v => det2_ret _ _
  · split at h <;> cases h
    rename_i hs
    exact det2_oB fun p => det2_oB fun x => det2_1 (cstore_det hs p x s) fun v => det2_ret _ _
  · split at h <;> cases h
    exact det2_oB fun _ => det2_ret _ _
  · split at h <;> cases h
    exact det2_oB fun _ => det2_oB fun _ => det2_ret _ _
  · split at h <;> cases h
    rename_i hg
    exact det2_1 (cparts_det hg e) fun _ => det2_oB fun _ => det2_bB (det2_oB fun _ => det2_ret _ _)
  · cases h
    exact det2_oB fun _ => det2_ret _ _
  · split at h <;> cases h
    refine det2_oB fun v => ?_
    cases v <;> first | exact det2_no | exact det2_oB fun _ => det2_ret _ _
  · split at h <;> cases h
    exact det2_oB fun _ => det2_oB fun _ => det2_oB fun _ => det2_ret _ _
  · split at h <;> cases h
    rename_i hg
    exact det2_1 (csrcL_det hg e) fun _ => det2_ret _ _
  · split at h <;> cases h
    exact det2_oB fun _ => det2_oB fun _ => det2_oB fun _ => det2_bB (det2_ret _ _)
  · split at h <;> cases h
    exact det2_oB fun _ => det2_oB fun _ => det2_oB fun _ => det2_oB fun _ => det2_ret _ _
  · split at h <;> cases h
    exact det2_oB fun _ => det2_oB fun _ => det2_oB fun _ => det2_oB fun _ => det2_ret _ _
  · split at h <;> cases h
    refine det2_oB fun _ => det2_oB fun _ => det2_oB fun r => ?_
    obtain ⟨x, s'⟩ := r
    cases x <;> first | exact det2_no | skip
    rename_i l
    cases l <;> first | exact det2_no | exact det2_bB (det2_ret _ _)
  · split at h <;> cases h
    exact det2_oB fun _ => det2_oB fun _ => det2_oB fun _ => det2_oB fun _ => det2_ret _ _
  · split at h <;> cases h
    exact det2_oB fun _ => det2_oB fun _ => det2_ret _ _
  · split at h <;> cases h
    exact det2_oB fun _ => det2_oB fun _ => det2_ret _ _
  · split at h <;> cases h
    exact det2_oB fun _ => det2_oB fun _ => det2_ret _ _
  · split at h <;> cases h
    · refine det2_oB fun v => ?_
      cases v <;> first | exact det2_no | exact det2_ret _ _
    · exact det2_oB fun _ => det2_oB fun _ => det2_ret _ _
  · split at h <;> cases h
    exact det2_oB fun _ => det2_oB fun _ => det2_bB (det2_ret _ _)
  · split at h <;> cases h
    exact det2_oB fun _ => det2_oB fun _ => det2_oB fun _ => det2_bB (det2_ret _ _)
  · split at h <;> cases h
    exact det2_oB fun _ => det2_oB fun _ => det2_oB fun _ => det2_oB fun _ => det2_oB fun _ => det2_ret _ _
  · split at h
    · rename_i ha hq hcal
      cases h
      exact det2_1 (csrcL_det ha e) fun l => det2_2 (hc _ _ _ _ hΓ) fun v s => det2_bB (det2_ret _ _)
    · rename_i ha hq hcal
      split at h <;> cases h
      refine det2_1 (csrcL_det ha e) fun l => det2_oB fun fv => ?_
      cases fv <;> first | exact det2_no | exact det2_2 (hc _ _ _ _ hΓ) fun v s => det2_bB (det2_ret _ _) | exact hB_det fun p hp => det2_2 (hΓ p hp _ _) fun b s => det2_bB (det2_ret _ _)
    · rename_i ha hq hcal
      split at h <;> cases h
      refine det2_1 (csrcL_det ha e) fun l => det2_oB fun fv => ?_
      cases fv <;> first | exact det2_no | exact det2_oB fun m => det2_2 (hc _ _ _ _ hΓ) fun v s => det2_bB (det2_ret _ _)
    · rename_i ha hcal
      split at h <;> cases h
      refine det2_1 (csrcL_det ha e) fun l => ?_
      rcases l with _ | ⟨a, _ | ⟨b, _ | ⟨c, l⟩⟩⟩ <;> first | exact det2_no | exact det2_oB fun _ => det2_bB (det2_ret _ _)
    · rename_i ha hcal
      cases h
      refine det2_1 (csrcL_det ha e) fun l => ?_
      rcases l with _ | ⟨a, _ | ⟨b, _ | ⟨c, l⟩⟩⟩ <;> first | exact det2_no | exact det2_oB fun _ => det2_ret _ _
    · rename_i ha hcal
      cases h
      refine det2_1 (csrcL_det ha e) fun l => ?_
      rcases l with _ | ⟨a, _ | ⟨b, _ | ⟨c, l⟩⟩⟩ <;> first | exact det2_no | exact det2_oB fun _ => det2_ret _ _
    · rename_i ha hcal
      cases h
      refine det2_1 (csrcL_det ha e) fun l => ?_
      rcases l with _ | ⟨a, _ | ⟨b, l⟩⟩ <;> first | exact det2_no | exact det2_oB fun _ => det2_ret _ _
    · cases h
  · cases h
theorem cOp_det {D : Nat} {ops : List Oper} {o : Oper} {f : XEff} {e : ET} {s : XSt} {call : XCall} {Γ : XG} (h : cOp cx D ops o = .mk f) (hc : CallDet call) (hΓ : GaDet Γ) : Det2 (f call Γ e s) := by
  have viaP : ∀ {op : Op}, lift (cP cx D o.type op) = .mk f → Det2 (f call Γ e s) := fun h => by
    unfold lift at h
    split at h <;> cases h
    rename_i p hp
    exact det2_1 (cP_det hp e) fun _ => det2_ret _ _
  unfold cOp at h
  split at h
  · cases h
  · split at h <;> cases h
    rename_i hp hq
    exact det2_1 (cP_det hp e) fun _ => det2_bB (det2_ret _ _)
  · split at h <;> cases h
    refine det2_oB fun v => ?_
    cases v <;> first | exact det2_no | exact det2_ret _ _
  · split at h
    · exact cE_det h hc hΓ
    · split at h
      · exact viaP h
      · exact cE_det h hc hΓ
    · split at h
      · exact viaP h
      · exact cE_det h hc hΓ
theorem cops_det {D N : Nat} {ops : List Oper} {call : XCall} {Γ : XG} (hc : CallDet call) (hΓ : GaDet Γ) : ∀ (l : List Oper) {f : XReg} {e : ET} {s : XSt}, cops cx D N ops l = .mk f → Det2 (f call Γ e s)
  | [], f, e, s, h => by cases h; exact det2_ret _ _
  | o :: rest, f, e, s, h => by
    simp only [cops] at h
    unfold cguard at h
    split at h
    · rename_i fo fr d hfo hfr hd
      have go : ∀ {e s}, Det2 (fun K => fo call Γ e s fun v s => fr call Γ (d e (some v)) s K) := det2_2 (cOp_det hfo hc hΓ) fun v s => cops_det hc hΓ rest hfr
      have sk : ∀ {e : ET} {s : XSt}, Det2 (fr call Γ e s) := cops_det hc hΓ rest hfr
      split at h
      · cases h; exact go
      · rename_i j want hg
        split at h
        · split at h
          · cases h
            refine det2_oB fun v => ?_
            cases v <;> first | exact det2_no | exact sk | skip
            rename_i b
            cases b <;> cases want <;> first | exact go | exact sk
          · cases h
        · cases h
    · cases h
end
end Go.Sh
