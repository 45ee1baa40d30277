/- An executor for the shallow reading: code. Conditions: none. -/
import Derived.Test.YtlfgmbbiealpoaaGreatDoorE21
set_option linter.unusedVariables false
namespace Go.Sh
open Go Go.RowKit
section
variable {cx : XCx} {w0 w : World} {v v0 : Vl} {s s0 : XSt}
/-- blocks of deferred calls, by name and by number -/
def DlR (v : Vl) : List Nat → List Nat → Prop := F2 (fun k b => ∃ c, v.β k = some (b, c))
theorem F2.mono {α β : Type} {R R' : α → β → Prop} (h : ∀ a b, R a b → R' a b) : ∀ {l : List α} {m : List β}, F2 R l m → F2 R' l m
  | _, _, .nil => .nil
  | _, _, .cons a t => .cons (h _ _ a) (F2.mono h t)
theorem DlR.mono {v' : Vl} (h : v.sub v') {a b : List Nat} (d : DlR v a b) : DlR v' a b := F2.mono (fun _ _ ⟨c, hc⟩ => ⟨c, h.β _ _ hc⟩) d
structure AfterC (cx : XCx) (w0 : World) (D : Nat) (v : Vl) (dl dlw : List Nat) (fl : Bool) (Kn Kr : Kn_) (Kx : Kx_) (KC : KC) : Prop where
  n : ∀ v' s' w' e' E' dl' dlw', v.le v' → Rep w0 v' s' w' → RE v' D e' E' → DlR v' dl' dlw' → (fl = true → dl' = dl ∧ dlw' = dlw) → Kn e' dl' s' = true → KC .normal E' dlw' w'
  r : ∀ v' s' w' e' E' dl' dlw', v.le v' → Rep w0 v' s' w' → RE v' D e' E' → DlR v' dl' dlw' → (fl = true → dl' = dl ∧ dlw' = dlw) → Kr e' dl' s' = true → KC .ret E' dlw' w'
  x : ∀ id v' s' w' e' E' dl' dlw', v.le v' → Rep w0 v' s' w' → RE v' D e' E' → DlR v' dl' dlw' → (fl = true → dl' = dl ∧ dlw' = dlw) → Kx id e' dl' s' = true → KC (.exit id) E' dlw' w'
theorem RE.litE {D : Nat} {c : Operand} {g : Gt} {e : ET} {E : Env} {b : Bool} (r : RE v D e E) (h : csrc D c = .mk g) (hb : g e = some (.bool b)) : knows E c = true ∧ rho E c = .bool b ∧ RE v D e (litE E c b) := by
  obtain ⟨h1, h2⟩ := csrc_ok h r hb
  have h3 : rho E c = .bool b := (Option.some.inj h2).symm
  refine ⟨h1, h3, ?_⟩
  unfold Go.Sh.litE
  split
  · rename_i t
    refine r.lit ?_
    simp only [knows, rho] at h1 h3
    cases hy : eget E t with
    | none => rw [hy] at h1; cases h1
    | some y => rw [hy] at h3; simp only at h3; rw [h3]
  · exact r
theorem loop_ok {D n : Nat} {L : List Nat} {e : ET} {E : Env} {sl : List (Nat × Leaf)} {tl : List (Nat × Leaf)} {ls : List (Sl_ × Ck)} {rest : ET} {body : ET → XSt → Kn_ → Bool} {bodyW : SlotsP sl → (SlotsP sl → World → Prop) → World → Prop} {x0 : SlotsP sl}
    (htl : F2 (TlR D) tl ls) (hwr : WF D rest) (hsl : ∀ t l, (t, l) ∈ tl ↔ (t, l) ∈ sl) (hD : ∀ t l, (t, l) ∈ tl → t < 8 ^ D)
    (hrest : ∀ (v' : Vl) (e' : ET) (E' : Env) (x : SlotsP sl) (e0 : ET), v.le v' → RE v' D e' E' → unslots sl E' = some x → WF D e0 → (∀ u, u < 8 ^ D → ((∃ lf, (u, lf) ∈ tl) → etg D e0 u = etg D e' u) ∧ ((¬ ∃ lf, (u, lf) ∈ tl) → etg D e0 u = etg D rest u)) → RE v' D e0 (slotsE sl x ++ dropE L E))
    (hbody : ∀ (v' : Vl) (s' : XSt) (w' : World) (e0 : ET) (x : SlotsP sl) (K : Kn_) (I : SlotsP sl → World → Prop), v.le v' → Rep w0 v' s' w' → RE v' D e0 (slotsE sl x ++ dropE L E) → body e0 s' K = true → (∀ v2 s2 w2 e2 E2 dl2, v'.le v2 → Rep w0 v2 s2 w2 → RE v2 D e2 E2 → K e2 dl2 s2 = true → ∃ x2, unslots sl E2 = some x2 ∧ I x2 w2) → bodyW x I w')
    (H : Rep w0 v s w) (r : RE v D e E) (h0 : unslots sl E = some x0) (hk : xloop body ls rest n e s = true) : loop x0 bodyW w := by
  let Inv : Nat → SlotsP sl → World → Prop := fun n x w => ∃ v' s' e' E', v.le v' ∧ Rep w0 v' s' w ∧ RE v' D e' E' ∧ unslots sl E' = some x ∧ xloop body ls rest n e' s' = true
  have least : ∀ x w, (∃ n, Inv n x w) → ∃ n, Inv n x w ∧ ∀ m, m < n → ¬ Inv m x w := fun x w ⟨n, hn⟩ => by
    induction n using Nat.strongRecOn with
    | _ n ih =>
      by_cases h : ∃ m, m < n ∧ Inv m x w
      · obtain ⟨m, hm, hi⟩ := h; exact ih m hm hi
      · exact ⟨n, hn, fun m hm hi => h ⟨m, hm, hi⟩⟩
  classical
  let me : SlotsP sl → World → Nat := fun x w => if h : ∃ n, Inv n x w then Classical.choose (least x w h) else 0
  have me_spec : ∀ x w (h : ∃ n, Inv n x w), Inv (me x w) x w ∧ ∀ m, m < me x w → ¬ Inv m x w := fun x w h => by
    have : me x w = Classical.choose (least x w h) := by simp only [me]; rw [dif_pos h]
    rw [this]
    exact Classical.choose_spec (least x w h)
  refine ⟨fun x w => ∃ n, Inv n x w, me, ⟨n, v, s, e, E, Vl.le.rfl', H, r, h0, hk⟩, fun x w' hI => ?_⟩
  obtain ⟨hi, -⟩ := me_spec x w' hI
  generalize me x w' = m at hi
  obtain ⟨v', s', e', E', g1, g2, g3, g4, g5⟩ := hi
  cases m with
  | zero => cases g5
  | succ m =>
    have g5' : xround0 ls e' rest (fun e0 => body e0 s' fun e2 _ s2 => xloop body ls rest m e2 s2) = true := g5
    obtain ⟨e0, k1, k2, k3, k4⟩ := xround0_ok g3.wf htl hwr g5'
    refine hbody v' s' w' e0 x _ _ g1 g2 (hrest v' e' E' x e0 g1 g3 g4 k2 k3) k1 (fun v2 s2 w2 e2 E2 dl2 h1 h2 h3 h4 => ?_)
    -- the next round is entered
    have hx : ∃ x2, unslots sl E2 = some x2 := by
      cases m with
      | zero => cases h4
      | succ m =>
        have h4' : xround0 ls e2 rest (fun e0 => body e0 s2 fun e3 _ s3 => xloop body ls rest m e3 s3) = true := h4
        obtain ⟨-, -, -, -, q4⟩ := xround0_ok h3.wf htl hwr h4'
        refine unslots_of fun t l hm => ?_
        have hm' := (hsl t l).2 hm
        obtain ⟨y, hy, hc⟩ := q4 t l hm'
        obtain ⟨z, hz, hs⟩ := h3.some_ t y (hD t l hm') hy
        obtain ⟨u, hu⟩ := cleaf_unval hc hs
        exact ⟨z, u, hz, hu⟩
    obtain ⟨x2, hx2⟩ := hx
    have hin : Inv m x2 w2 := ⟨v2, s2, e2, E2, g1.trans h1, h2, h3, hx2, h4⟩
    refine ⟨x2, hx2, ⟨m, hin⟩, ?_⟩
    rcases Nat.lt_or_ge (me x2 w2) (m + 1) with h | h
    · exact h
    · exact absurd hin ((me_spec x2 w2 ⟨m, hin⟩).2 m h)
end
end Go.Sh
