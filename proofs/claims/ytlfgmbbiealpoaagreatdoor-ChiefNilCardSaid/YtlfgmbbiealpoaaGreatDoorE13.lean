/- An executor for the shallow reading: calls. Conditions: none. -/
import Derived.Test.YtlfgmbbiealpoaaGreatDoorE12
set_option linter.unusedVariables false
namespace Go.Sh
open Go Go.RowKit
section
variable {cx : XCx} {w0 w : World} {v : Vl} {s : XSt}
theorem hB_out {Γ : XG} {l : Nat} {k : XHnd → Bool} (h : hB Γ l k = true) : ∃ p ∈ Γ, p.1 = l ∧ k p.2 = true := by
  induction Γ with
  | nil => cases h
  | cons p r ih =>
    have h' : (Bool.rec (motive := fun _ => Bool) (hB r l k) (k p.2) (Nat.beq p.1 l)) = true := h
    cases hb : Nat.beq p.1 l with
    | true => rw [hb] at h'; exact ⟨p, List.mem_cons_self .., Nat.eq_of_beq_eq_true hb, h'⟩
    | false =>
      rw [hb] at h'
      obtain ⟨q, h1, h2⟩ := ih h'
      exact ⟨q, List.mem_cons_of_mem _ h1, h2⟩
theorem xmethod_ok {P : Program} {t : TypeId} {x : EV} {name : String} {m : FuncId × EV} {y : Value} (h : xmethod P t x name = some m) (hx : sh v x = some y) : sh v m.2 = some y ∧ (method (P.types.size + Made.depth) t y name).run P w = .ok (m.1, y) w := by
  unfold xmethod at h
  split at h
  · rename_i i hi
    split at h
    · rename_i mt hm
      have hti : (typeInfo t).run P w = .ok i w := by
        show (match P.info? t with | some i => Sem.pure i | none => _ : Sem TypeInfo).run P w = _
        rw [hi]; rfl
      have hp0 : ∀ {b : Bool}, mt.path.isEmpty = true → mt.path = #[] := fun h => by simpa using h
      have hd : ∀ b, isPtrT P t = some b → ∃ d, P.underlying t = some d ∧ (b = true ↔ ∃ e, d = .pointer e) := fun b hb => by
        unfold isPtrT at hb
        split at hb <;> cases hb
        · rename_i e he; exact ⟨_, he, by simp⟩
        · rename_i d hne he
          exact ⟨_, he, by simp; intro e h; exact hne e h⟩
      have fu : P.types.size + Made.depth = (P.types.size + 99) + 1 := rfl
      split at h
      · rename_i f hpe hf hpt
        cases h
        refine ⟨hx, ?_⟩
        obtain ⟨d, h1, h2⟩ := hd _ hpt
        obtain ⟨e, rfl⟩ := h2.1 rfl
        have hpath : mt.path = #[] := by simpa using hpe
        rw [fu]
        generalize P.types.size + 99 = fuel
        simp [method, hti, hm, hpath, follow, hf, receiverAt, run_underlying h1, Place.get]
      · rename_i f hpe hf hpt
        cases h
        refine ⟨hx, ?_⟩
        obtain ⟨d, h1, h2⟩ := hd _ hpt
        have hpath : mt.path = #[] := by simpa using hpe
        rw [fu]
        generalize P.types.size + 99 = fuel
        have hnp : ∀ e, d ≠ .pointer e := fun e he => by have := h2.2 ⟨e, he⟩; cases this
        cases d <;> first | (exact absurd rfl (hnp _)) | simp [method, hti, hm, hpath, follow, hf, receiverAt, run_underlying h1, Place.get]
      · cases h
    · cases h
  · cases h
theorem knowsAll_cons {E : Env} {x : Operand} {l : List Operand} (h : knows E x = true) (h2 : knowsAll E l = true) : knowsAll E (x :: l) = true := by simp [knowsAll, h, h2]
/-- what a call's result must be -/
theorem sOpY_call {P : Program} {N : Nat} {o : Oper} {E : Env} {KE : Env → World → Prop} {c : Call} (ho : o.op = .call c) (hy : isYld E (.call c) = none) (hk : knowsAll E (opers (.call c)) = true) (h : evCall .full P (rho E) o.type c (fun v w => setE N E o.dst v KE w) w) : sOpY P N o E KE w := by
  unfold sOpY
  rw [ho, hy]
  unfold sOp
  rw [ho, hk]
  exact h
set_option maxHeartbeats 1000000 in
theorem cE_call {D : Nat} {c : Call} {o : Oper} {f : XEff} {e : ET} {E : Env} {call : XCall} {Γ : XG} {k : EV → XSt → Bool} {N : Nat} {KE : Env → World → Prop} (h : cE cx D o.type (.call c) = .mk f) (ho : o.op = .call c) (hc : CallOk cx w0 call) (C : Cxt cx w0 v) (H : Rep w0 v s w) (r : RE v D e E) (G : GaOk cx w0 v Γ) (hk : f call Γ e s k = true)
    (hK : ∀ v' s' w' x y, v.le v' → Rep w0 v' s' w' → sh v' x = some y → k x s' = true → setE N E o.dst y KE w') : sOpY cx.P N o E KE w := by
  simp only [cE] at h
  split at h
  -- a function by name
  · rename_i a q g ha hq hcallee
    cases h
    obtain ⟨l, hk, h1, h2⟩ := csrcL_ok r ha hk
    refine sOpY_call ho (by simp only [isYld, hcallee, rho]) ?_ ?_
    · simp only [opers, hcallee]; exact knowsAll_cons rfl h1
    · simp only [evCall, hcallee, rho]
      refine hc v s w Γ g l _ _ _ C H G ?_ hk (fun v' s' w' x y h3 h4 h5 h6 => ?_)
      · simpa using h2
      · obtain ⟨h7, h8⟩ := bB_out h6
        exact cres_ok hq h7 h5 (hK v' s' w' x y h3 h4 h5 h8)
  -- a function value
  · rename_i a q fo hne ha hq hcallee
    split at h <;> cases h
    rename_i gf hgf
    obtain ⟨l, hk1, h1, h2⟩ := csrcL_ok r ha hk
    obtain ⟨fv, hfv, hk2⟩ := oB_out hk1
    clear hk hk1
    obtain ⟨f1, f2⟩ := csrc_ok hgf r hfv
    have hkn : knowsAll E (opers (.call c)) = true := by simp only [opers, hcallee]; exact knowsAll_cons f1 h1
    split at hk2
    · rename_i g cs
      simp only [sh] at f2
      generalize e1 : rho E fo = X at f2
      split at f2 <;> cases f2
      rename_i us hus
      refine sOpY_call ho (by simp only [isYld, hcallee, e1]) hkn ?_
      simp only [evCall, hcallee, e1]
      refine hc v s w Γ g (appX l cs) _ _ _ C H G ?_ hk2 (fun v' s' w' x y h3 h4 h5 h6 => ?_)
      · rw [appX_eq]
        have := shL_app h2 hus
        simpa using this
      · obtain ⟨h7, h8⟩ := bB_out h6
        exact cres_ok hq h7 h5 (hK v' s' w' x y h3 h4 h5 h8)
    · rename_i l0
      obtain ⟨p, hp, rfl, hk3⟩ := hB_out hk2
      obtain ⟨⟨b, hb, hcont⟩, -⟩ := G p hp
      simp only [sh, hb] at f2
      have e1 := (Option.some.inj f2).symm
      have hy : isYld E o.op = some (b.1, c.args.toList.map (rho E)) := by rw [ho]; simp only [isYld, hcallee, e1]; simp
      unfold sOpY
      rw [hy]
      have hkn' : knowsAll E (opers o.op) = true := by rw [ho]; exact hkn
      simp only [hkn']
      refine hcont v s w l _ _ _ Vl.le.rfl'.tosub C H h2 hk3 (fun v' s' w' r' h3 h4 h5 => ?_)
      obtain ⟨h7, h8⟩ := bB_out h5
      exact cres_ok (v := v') hq h7 (x := .bool r') rfl (hK v' s' w' (.bool r') _ h3 h4 rfl h8)
    · cases hk2
  -- through an interface
  · rename_i a q xo name ha hq hcallee
    split at h <;> cases h
    rename_i gx hgx
    obtain ⟨l, hk1, h1, h2⟩ := csrcL_ok r ha hk
    obtain ⟨xv, hxv, hk2⟩ := oB_out hk1
    clear hk hk1
    obtain ⟨x1, x2⟩ := csrc_ok hgx r hxv
    split at hk2
    · rename_i t v0
      obtain ⟨m, hm, hk3⟩ := oB_out hk2
      simp only [sh] at x2
      generalize e1 : rho E xo = X at x2
      split at x2 <;> cases x2
      rename_i y0 hy0
      obtain ⟨m1, m2⟩ := xmethod_ok (w := w) hm hy0
      refine sOpY_call ho (by simp only [isYld, hcallee]) (by simp only [opers, hcallee]; exact knowsAll_cons x1 h1) ?_
      simp only [evCall, hcallee, e1]
      refine ⟨t, y0, m.1, y0, rfl, m2, hc v s w Γ m.1 (m.2 :: l) _ _ _ C H G (shL_cons.2 ⟨_, _, m1, h2, rfl⟩) hk3 (fun v' s' w' x y h3 h4 h5 h6 => ?_)⟩
      obtain ⟨h7, h8⟩ := bB_out h6
      exact cres_ok hq h7 h5 (hK v' s' w' x y h3 h4 h5 h8)
    · cases hk2
  -- append
  · rename_i a ha hcallee
    split at h <;> cases h
    rename_i q hq
    obtain ⟨l, hk1, h1, h2⟩ := csrcL_ok r ha hk
    clear hk
    split at hk1
    · rename_i a0 x0
      obtain ⟨z, hz, hk2⟩ := oB_out hk1
      obtain ⟨hqz, hk3⟩ := bB_out hk2
      obtain ⟨y1, l1, g1, g2, g3⟩ := shL_cons.1 h2
      obtain ⟨y2, l2, g4, g5, rfl⟩ := shL_cons.1 g2
      rw [shL_nil] at g5; subst g5
      obtain ⟨v', w', u, p1, p2, p3, p4⟩ := xappend_ok (ty := o.type) hz H C.g g1 g4
      refine sOpY_call ho (by simp only [isYld, hcallee]) (by simp only [opers, hcallee]; simpa using h1) ?_
      simp only [evCall, hcallee, g3]
      exact p4 _ (cty_ok hq hqz p3 (hK v' z.2 w' z.1 u p1 p2 p3 hk3))
    · cases hk1
  -- copy
  · rename_i a ha hcallee
    cases h
    obtain ⟨l, hk1, h1, h2⟩ := csrcL_ok r ha hk
    clear hk
    split at hk1
    · rename_i a0 x0
      obtain ⟨z, hz, hk2⟩ := oB_out hk1
      obtain ⟨y1, l1, g1, g2, g3⟩ := shL_cons.1 h2
      obtain ⟨y2, l2, g4, g5, rfl⟩ := shL_cons.1 g2
      rw [shL_nil] at g5; subst g5
      obtain ⟨w', u, p2, p3, p4⟩ := xcopy_ok (ty := o.type) hz H C.g g1 g4
      refine sOpY_call ho (by simp only [isYld, hcallee]) (by simp only [opers, hcallee]; simpa using h1) ?_
      simp only [evCall, hcallee, g3]
      exact p4 _ (hK v z.2 w' z.1 u Vl.le.rfl' p2 p3 hk2)
    · cases hk1
  -- delete
  · rename_i a ha hcallee
    cases h
    obtain ⟨l, hk1, h1, h2⟩ := csrcL_ok r ha hk
    clear hk
    split at hk1
    · rename_i a0 x0
      obtain ⟨z, hz, hk2⟩ := oB_out hk1
      obtain ⟨y1, l1, g1, g2, g3⟩ := shL_cons.1 h2
      obtain ⟨y2, l2, g4, g5, rfl⟩ := shL_cons.1 g2
      rw [shL_nil] at g5; subst g5
      obtain ⟨w', p2, p4⟩ := xdelete_ok (ty := o.type) hz H g1 g4
      refine sOpY_call ho (by simp only [isYld, hcallee]) (by simp only [opers, hcallee]; simpa using h1) ?_
      simp only [evCall, hcallee, g3]
      exact p4 _ (hK v z w' (.tup []) _ Vl.le.rfl' p2 rfl hk2)
    · cases hk1
  -- clear
  · rename_i a ha hcallee
    cases h
    obtain ⟨l, hk1, h1, h2⟩ := csrcL_ok r ha hk
    clear hk
    split at hk1
    · rename_i a0
      obtain ⟨z, hz, hk2⟩ := oB_out hk1
      obtain ⟨y1, l1, g1, g2, g3⟩ := shL_cons.1 h2
      rw [shL_nil] at g2; subst g2
      obtain ⟨w', p2, p4⟩ := xclear_ok (ty := o.type) hz H g1
      refine sOpY_call ho (by simp only [isYld, hcallee]) (by simp only [opers, hcallee]; simpa using h1) ?_
      simp only [evCall, hcallee, g3]
      exact p4 _ (hK v z w' (.tup []) _ Vl.le.rfl' p2 rfl hk2)
    · cases hk1
  · cases h
/-- any operation that touches the store -/
theorem cE_ok {D : Nat} {o : Oper} {f : XEff} {e : ET} {E : Env} {call : XCall} {Γ : XG} {k : EV → XSt → Bool} {N : Nat} {KE : Env → World → Prop} (h : cE cx D o.type o.op = .mk f) (hb : badOp o.op = false) (hc : CallOk cx w0 call) (C : Cxt cx w0 v) (H : Rep w0 v s w) (r : RE v D e E) (G : GaOk cx w0 v Γ) (hk : f call Γ e s k = true)
    (hK : ∀ v' s' w' x y, v.le v' → Rep w0 v' s' w' → sh v' x = some y → k x s' = true → setE N E o.dst y KE w') : sOpY cx.P N o E KE w := by
  cases ho : isCl o.op with
  | true =>
    cases hop : o.op <;> rw [hop] at ho <;> try (cases ho; done)
    rename_i c
    rw [hop] at h
    exact cE_call h hop hc C H r G hk hK
  | false =>
    rcases cE_ok1 h ho C H r hk with h1 | h1
    · cases hu : isU o.op with
      | false => exact h1.in hu hb hK
      | true =>
        exfalso
        obtain ⟨_, x, s', v', w', y, _, _, _, _, h5⟩ := h1
        have := h5 (fun y1 w1 => y1 = y ∧ w1 = w') ⟨rfl, rfl⟩
        cases hop : o.op <;> rw [hop] at hu ho this <;> first | (cases hu; done) | (cases ho; done) | exact this
    · exact h1.in hb hK
end
end Go.Sh
