/- An executor for the shallow reading: code has one outcome. Conditions: none. -/
import Derived.Test.YtlfgmbbiealpoaaGreatDoorE20
set_option linter.unusedVariables false
namespace Go.Sh
open Go Go.RowKit
def DetC (F : Kn_ → Kn_ → Kx_ → Bool) : Prop := (∀ a b c, F a b c = false) ∨ (∃ e dl s, ∀ a b c, F a b c = a e dl s) ∨ (∃ e dl s, ∀ a b c, F a b c = b e dl s) ∨ ∃ i e dl s, ∀ a b c, F a b c = c i e dl s
theorem detC_no : DetC (fun _ _ _ => false) := .inl fun _ _ _ => rfl
theorem detC_n (e : ET) (dl : List Nat) (s : XSt) : DetC (fun a _ _ => a e dl s) := .inr (.inl ⟨e, dl, s, fun _ _ _ => rfl⟩)
theorem detC_r (e : ET) (dl : List Nat) (s : XSt) : DetC (fun _ b _ => b e dl s) := .inr (.inr (.inl ⟨e, dl, s, fun _ _ _ => rfl⟩))
theorem detC_x (i : Nat) (e : ET) (dl : List Nat) (s : XSt) : DetC (fun _ _ c => c i e dl s) := .inr (.inr (.inr ⟨i, e, dl, s, fun _ _ _ => rfl⟩))
theorem detC_oB {α : Type} {o : Option α} {F : α → Kn_ → Kn_ → Kx_ → Bool} (h : ∀ x, DetC (F x)) : DetC (fun a b c => oB o fun x => F x a b c) := by
  cases o with
  | none => exact .inl fun _ _ _ => rfl
  | some x => exact h x
theorem detC_bB {x : Bool} {F : Kn_ → Kn_ → Kx_ → Bool} (h : DetC F) : DetC (fun a b c => bB x (F a b c)) := by
  cases x
  · exact .inl fun _ _ _ => rfl
  · exact h
theorem detC_1 {α : Type} {F : (α → Bool) → Bool} {G : α → Kn_ → Kn_ → Kx_ → Bool} (h : Det F) (g : ∀ x, DetC (G x)) : DetC (fun a b c => F fun x => G x a b c) := by
  rcases h with h | ⟨x, h⟩
  · exact .inl fun _ _ _ => h _
  · rcases g x with g | ⟨e, dl, s, g⟩ | ⟨e, dl, s, g⟩ | ⟨i, e, dl, s, g⟩
    · exact .inl fun _ _ _ => (h _).trans (g _ _ _)
    · exact .inr (.inl ⟨e, dl, s, fun _ _ _ => (h _).trans (g _ _ _)⟩)
    · exact .inr (.inr (.inl ⟨e, dl, s, fun _ _ _ => (h _).trans (g _ _ _)⟩))
    · exact .inr (.inr (.inr ⟨i, e, dl, s, fun _ _ _ => (h _).trans (g _ _ _)⟩))
theorem detC_2 {α β : Type} {F : (α → β → Bool) → Bool} {G : α → β → Kn_ → Kn_ → Kx_ → Bool} (h : Det2 F) (g : ∀ x y, DetC (G x y)) : DetC (fun a b c => F fun x y => G x y a b c) := by
  rcases h with h | ⟨x, y, h⟩
  · exact .inl fun _ _ _ => h _
  · rcases g x y with g | ⟨e, dl, s, g⟩ | ⟨e, dl, s, g⟩ | ⟨i, e, dl, s, g⟩
    · exact .inl fun _ _ _ => (h _).trans (g _ _ _)
    · exact .inr (.inl ⟨e, dl, s, fun _ _ _ => (h _).trans (g _ _ _)⟩)
    · exact .inr (.inr (.inl ⟨e, dl, s, fun _ _ _ => (h _).trans (g _ _ _)⟩))
    · exact .inr (.inr (.inr ⟨i, e, dl, s, fun _ _ _ => (h _).trans (g _ _ _)⟩))
/-- code, and what comes behind each of its ends -/
theorem detC_C {F : Kn_ → Kn_ → Kx_ → Bool} {G1 G2 : ET → List Nat → XSt → Kn_ → Kn_ → Kx_ → Bool} {G3 : Nat → ET → List Nat → XSt → Kn_ → Kn_ → Kx_ → Bool} (h : DetC F) (g1 : ∀ e dl s, DetC (G1 e dl s)) (g2 : ∀ e dl s, DetC (G2 e dl s)) (g3 : ∀ i e dl s, DetC (G3 i e dl s)) :
    DetC (fun a b c => F (fun e dl s => G1 e dl s a b c) (fun e dl s => G2 e dl s a b c) (fun i e dl s => G3 i e dl s a b c)) := by
  have fin : ∀ {G : Kn_ → Kn_ → Kx_ → Bool} {H : Kn_ → Kn_ → Kx_ → Bool}, (∀ a b c, H a b c = G a b c) → DetC G → DetC H := fun {G H} h d => by
    have : H = G := by funext a b c; exact h a b c
    rw [this]; exact d
  rcases h with h | ⟨e, dl, s, h⟩ | ⟨e, dl, s, h⟩ | ⟨i, e, dl, s, h⟩
  · exact .inl fun _ _ _ => h _ _ _
  · exact fin (fun a b c => h _ _ _) (g1 e dl s)
  · exact fin (fun a b c => h _ _ _) (g2 e dl s)
  · exact fin (fun a b c => h _ _ _) (g3 i e dl s)
theorem det2_C {α β : Type} {F : Kn_ → Kn_ → Kx_ → Bool} {G1 G2 : ET → List Nat → XSt → (α → β → Bool) → Bool} {G3 : Nat → ET → List Nat → XSt → (α → β → Bool) → Bool} (h : DetC F) (g1 : ∀ e dl s, Det2 (G1 e dl s)) (g2 : ∀ e dl s, Det2 (G2 e dl s)) (g3 : ∀ i e dl s, Det2 (G3 i e dl s)) :
    Det2 (fun K => F (fun e dl s => G1 e dl s K) (fun e dl s => G2 e dl s K) (fun i e dl s => G3 i e dl s K)) := by
  have fin : ∀ {G H : (α → β → Bool) → Bool}, (∀ a, H a = G a) → Det2 G → Det2 H := fun {G H} h d => by
    have : H = G := by funext a; exact h a
    rw [this]; exact d
  rcases h with h | ⟨e, dl, s, h⟩ | ⟨e, dl, s, h⟩ | ⟨i, e, dl, s, h⟩
  · exact .inl fun _ => h _ _ _
  · exact fin (fun a => h _ _ _) (g1 e dl s)
  · exact fin (fun a => h _ _ _) (g2 e dl s)
  · exact fin (fun a => h _ _ _) (g3 i e dl s)
theorem xsetlp_det {l a b : Nat} {j : Option (Option Nat)} {s : XSt} : Det (xsetlp l a b j s) := by
  unfold xsetlp
  split
  · exact det_bB (det_ret _)
  · exact det_no
theorem xzip_det {D : Nat} : ∀ {ps : List Nat} {z : ET → List EV → (ET → Bool) → Bool}, xzip D ps = .mk z → ∀ e l, Det (z e l)
  | [], z, h, e, l => by cases h; cases l <;> first | exact det_ret _ | exact det_no
  | p :: ps, z, h, e, l => by
    simp only [xzip] at h
    split at h <;> cases h
    rename_i q f hq hf
    cases l <;> first | exact det_no | exact xzip_det hf _ _
theorem xround0_det : ∀ {ls : List (Sl_ × Ck)} {e r : ET}, Det (xround0 ls e r)
  | [], e, r => det_ret _
  | p :: ls, e, r => det_oB (F := fun v k => bB (p.2 v) (xround0 ls e (p.1.2 r (some v)) k)) fun v => det_bB xround0_det
theorem xen_det {e : ET} : ∀ {l : List Sl_} {r : ET}, Det2 (xen l e r)
  | [], r => det2_ret _ _
  | p :: l, r => by
    show Det2 (fun k => Option.rec (motive := fun _ => Bool) (xen l e r k) (fun v => xen l e (p.2 r none) fun ls r => k ((p, cleaf (xleafV v)) :: ls) r) (p.1 e))
    cases p.1 e with
    | none => exact xen_det
    | some v => exact det2_2 xen_det fun ls r => det2_ret _ _
theorem xloop_det {body : ET → XSt → Kn_ → Kn_ → Kx_ → Bool} {ls : List (Sl_ × Ck)} {rest : ET} (hb : ∀ e s, DetC (body e s)) : ∀ (n : Nat) (e : ET) (s : XSt), DetC (fun _ b c => xloop (fun e s K => body e s K b c) ls rest n e s)
  | 0, e, s => detC_no
  | n + 1, e, s => by
    show DetC (fun _ b c => xround0 ls e rest fun e0 => body e0 s (fun e' _ s' => xloop (fun e s K => body e s K b c) ls rest n e' s') b c)
    exact detC_1 xround0_det fun e0 => detC_C (G1 := fun e' _ s' _ b c => xloop (fun e s K => body e s K b c) ls rest n e' s') (G2 := fun e dl s _ b _ => b e dl s) (G3 := fun i e dl s _ _ c => c i e dl s) (hb e0 s) (fun e' dl s' => xloop_det hb n e' s') (fun e dl s => detC_r e dl s) (fun i e dl s => detC_x i e dl s)
section
variable {cx : XCx}
set_option maxHeartbeats 1000000 in
theorem ccode_det {n D N : Nat} {T : List (Nat × List Nat)} {call : XCall} (hd : CallDet call) : ∀ (c : Code) {f : XCd} {Γ : XG} {e : ET} {dl : List Nat} {s : XSt}, ccode cx n D N T c = .mk f → GaDet Γ → DetC (f call Γ e dl s)
  | .skip, f, Γ, e, dl, s, h, hΓ => by simp only [ccode] at h; cases h; exact detC_n _ _ _
  | .label _, f, Γ, e, dl, s, h, hΓ => by simp only [ccode] at h; cases h; exact detC_n _ _ _
  | .exit id, f, Γ, e, dl, s, h, hΓ => by simp only [ccode] at h; cases h; exact detC_x _ _ _ _
  | .ret, f, Γ, e, dl, s, h, hΓ => by simp only [ccode] at h; cases h; exact detC_r _ _ _
  | .goto _, f, Γ, e, dl, s, h, hΓ => by simp only [ccode] at h; cases h
  | .refuse _, f, Γ, e, dl, s, h, hΓ => by simp only [ccode] at h; cases h
  | .region id ops draw, f, Γ, e, dl, s, h, hΓ => by
    simp only [ccode] at h
    split at h <;> cases h
    rename_i q hq
    exact detC_2 (creg_det hq hd hΓ) fun e s => detC_n _ _ _
  | .seq a b, f, Γ, e, dl, s, h, hΓ => by
    simp only [ccode] at h
    split at h <;> cases h
    rename_i p q _ hp hq
    exact detC_C (G2 := fun e dl s _ b _ => b e dl s) (G3 := fun i e dl s _ _ c => c i e dl s) (ccode_det hd a hp hΓ) (fun e dl s => ccode_det hd b hq hΓ) (fun e dl s => detC_r e dl s) (fun i e dl s => detC_x i e dl s)
  | .cond c a b, f, Γ, e, dl, s, h, hΓ => by
    simp only [ccode] at h
    split at h <;> cases h
    rename_i g p q hg hp hq
    refine detC_oB fun v => ?_
    cases v <;> first | exact detC_no | skip
    rename_i x
    cases x
    · exact ccode_det hd b hq hΓ
    · exact ccode_det hd a hp hΓ
  | .block id c, f, Γ, e, dl, s, h, hΓ => by
    simp only [ccode] at h
    split at h <;> cases h
    rename_i p hp
    refine detC_C (G1 := fun e dl s a _ _ => a e dl s) (G2 := fun e dl s _ b _ => b e dl s) (G3 := fun i e dl s a _ c => Bool.rec (motive := fun _ => Bool) (c i e dl s) (a e dl s) (Nat.beq i id)) (ccode_det hd c hp hΓ) (fun e dl s => detC_n e dl s) (fun e dl s => detC_r e dl s) (fun i e dl s => ?_)
    cases Nat.beq i id
    · exact detC_x _ _ _ _
    · exact detC_n _ _ _
  | .scope c, f, Γ, e, dl, s, h, hΓ => by
    simp only [ccode] at h
    exact ccode_det hd c h hΓ
  | .loop c, f, Γ, e, dl, s, h, hΓ => by
    simp only [ccode] at h
    split at h <;> cases h
    rename_i l p hn hl hp
    exact detC_2 (F := fun k => xen l e e k) xen_det fun ls r => xloop_det (body := fun e s => p call Γ e dl s) (fun e s => ccode_det hd c hp hΓ) n e s
  | .rangeFunc g ps asg body, f, Γ, e, dl, s, h, hΓ => by
    simp only [ccode] at h
    split at h
    · split at h <;> cases h
      rename_i ct z fa fb hct hz hfa hfb
      refine detC_oB fun v => ?_
      cases v <;> first | exact detC_no | skip
      rename_i fi cs
      refine detC_oB fun D' => detC_oB fun l => detC_2 (hd _ _ _ _ ?_) fun v s3 => ?_
      · intro p hp
        rcases List.mem_cons.1 hp with e1 | hp
        · subst e1
          intro args s
          refine det2_bB (det2_bB (det2_1 (xzip_det hz e args) fun e0 => ?_))
          refine det2_C (G2 := fun _ _ _ _ => false) (G3 := fun _ _ _ _ _ => false) (ccode_det hd asg hfa hΓ) (fun e1 dl1 s1 => ?_) (fun _ _ _ => det2_no) (fun _ _ _ _ => det2_no)
          refine det2_1 xsetlp_det fun s2 => ?_
          exact det2_C (ccode_det hd body hfb hΓ) (fun _ _ _ => det2_1 xsetlp_det fun _ => det2_ret _ _) (fun _ _ _ => det2_1 xsetlp_det fun _ => det2_ret _ _) (fun _ _ _ _ => det2_1 xsetlp_det fun _ => det2_ret _ _)
        · exact hΓ p hp
      · cases hg : s3.get l.1 with
        | none => exact detC_no
        | some o =>
          cases o with
          | lp q j =>
            rcases j with _ | _ | id
            · show DetC (fun Kn Kr Kx => Bool.rec (motive := fun _ => Bool) _ false (Nat.beq q 1))
              generalize Nat.beq q 1 = b
              cases b
              · exact detC_n _ _ _
              · exact detC_no
            · show DetC (fun Kn Kr Kx => Bool.rec (motive := fun _ => Bool) _ false (Nat.beq q 1))
              generalize Nat.beq q 1 = b
              cases b
              · exact detC_r _ _ _
              · exact detC_no
            · show DetC (fun Kn Kr Kx => Bool.rec (motive := fun _ => Bool) _ false (Nat.beq q 1))
              generalize Nat.beq q 1 = b
              cases b
              · exact detC_bB (detC_x _ _ _ _)
              · exact detC_no
          | _ => exact detC_no
    · cases h
theorem hand_det {n D N l : Nat} {T : List (Nat × List Nat)} {call : XCall} {Γ : XG} {asg body : Code} {ps : List Nat} {ct : CkL} {z : ET → List EV → (ET → Bool) → Bool} {fa fb : XCd} {e : ET} (hd : CallDet call) (hΓ : GaDet Γ) (hz : xzip D ps = .mk z) (hfa : ccode cx n D N T asg = .mk fa) (hfb : ccode cx n D N T body = .mk fb) :
    HnDet (fun args s k => bB (isRdy (s.get l)) (bB (ct args) (z e args fun e0 => fa call Γ e0 [] s (fun e1 _ s1 => xsetlp l 0 1 none s1 fun s2 => fb call Γ e1 [] s2
      (fun _ _ s3 => xsetlp l 1 0 none s3 fun s4 => k true s4)
      (fun _ _ s3 => xsetlp l 1 2 (some none) s3 fun s4 => k false s4)
      (fun id _ _ s3 => xsetlp l 1 2 (some (some id)) s3 fun s4 => k false s4)) (fun _ _ _ => false) (fun _ _ _ _ => false)))) := by
  intro args s
  refine det2_bB (det2_bB (det2_1 (xzip_det hz e args) fun e0 => ?_))
  refine det2_C (G2 := fun _ _ _ _ => false) (G3 := fun _ _ _ _ _ => false) (ccode_det hd asg hfa hΓ) (fun e1 dl1 s1 => ?_) (fun _ _ _ => det2_no) (fun _ _ _ _ => det2_no)
  refine det2_1 xsetlp_det fun s2 => ?_
  exact det2_C (ccode_det hd body hfb hΓ) (fun _ _ _ => det2_1 xsetlp_det fun _ => det2_ret _ _) (fun _ _ _ => det2_1 xsetlp_det fun _ => det2_ret _ _) (fun _ _ _ _ => det2_1 xsetlp_det fun _ => det2_ret _ _)
end
end Go.Sh
