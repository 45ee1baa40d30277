/- An executor for the shallow reading: regions in order. Conditions: none. -/
import Derived.Test.YtlfgmbbiealpoaaGreatDoorE13
set_option linter.unusedVariables false
namespace Go.Sh
open Go Go.RowKit
section
variable {cx : XCx} {w0 w : World} {v : Vl} {s : XSt}
theorem POk.noYld {E : Env} {ty : TypeId} {op : Op} {x : EV} (h : POk cx v E ty op x) : isYld E op = none := by
  obtain ⟨y, hy, hv⟩ := h.val
  have h0 := hv (fun _ _ => True) default trivial
  cases op <;> try rfl
  rename_i c
  simp only [evP] at h0
  simp only [isYld]
  cases hc : c.callee with
  | value f => simp only [hc] at h0; exact h0.elim
  | invoke a b => rfl
  | builtin b => rfl
theorem POk.in {E : Env} {o : Oper} {x : EV} {N : Nat} {KE : Env → World → Prop} (h : POk cx v E o.type o.op x) (hK : ∀ y, sh v x = some y → setE N E o.dst y KE w) : sOpY cx.P N o E KE w := by
  obtain ⟨y, hy, hv⟩ := h.val
  unfold sOpY
  rw [h.noYld]
  exact evP_sOp h.bad h.kn (hv (fun v w => setE N E o.dst v KE w) w (hK y hy))
theorem cOp_ok {D : Nat} {ops : List Oper} {o : Oper} {f : XEff} {e : ET} {E : Env} {call : XCall} {Γ : XG} {k : EV → XSt → Bool} {N : Nat} {KE : Env → World → Prop} (h : cOp cx D ops o = .mk f) (hc : CallOk cx w0 call) (C : Cxt cx w0 v) (H : Rep w0 v s w) (r : RE v D e E) (G : GaOk cx w0 v Γ) (hk : f call Γ e s k = true)
    (hK : ∀ v' s' w' x y, v.le v' → Rep w0 v' s' w' → sh v' x = some y → k x s' = true → setE N E o.dst y KE w') : sOpYE cx.P N ops o E KE w := by
  unfold cOp at h
  unfold sOpYE
  split at h
  · cases h
  -- a part of an entry
  · rename_i hb hent
    rw [hent]
    simp only [Bool.true_or]
    split at h <;> cases h
    rename_i p q hp hq
    obtain ⟨x, hx, hP⟩ := cP_ok hp r C.q hk
    obtain ⟨h1, h2⟩ := bB_out hx
    obtain ⟨y, hy, hv⟩ := hP.val
    unfold sOpE
    rw [hent, hb, hP.kn]
    refine evP_evV (fun c e => ?_) (hv _ w (cty_ok hq h1 hy (hK v s w x y Vl.le.rfl' H hy h2)))
    unfold isEnt at hent; rw [e] at hent; cases hent
  -- an interface value that is not nil
  · rename_i hb hent hif
    rw [hent, hif]
    simp only [Bool.or_true]
    split at h <;> cases h
    rename_i g hg
    obtain ⟨a, ha, hk1⟩ := oB_out hk
    obtain ⟨a1, a2⟩ := csrc_ok hg r ha
    split at hk1
    · rename_i t u
      obtain ⟨x, hx, hn, -⟩ := isIfN_out hif
      have hkn : knowsAll E (opers o.op) = true := by rw [hx]; rw [hn] at a1; exact kn1 a1
      unfold sOpE
      rw [hent, hif]
      simp only [hkn]
      have hh := hK v s w _ _ Vl.le.rfl' H a2 hk1
      refine ⟨?_, hh⟩
      simp only [sh] at a2
      split at a2
      · exact ⟨_, _, (Option.some.inj a2).symm⟩
      · cases a2
    · cases hk1
  · rename_i hb hent hif
    rw [hent, hif]
    simp only [Bool.or_false]
    have viaP : lift (cP cx D o.type o.op) = .mk f → sOpY cx.P N o E KE w := fun h => by
      unfold lift at h
      split at h <;> cases h
      rename_i p hp
      obtain ⟨x, hx, hP⟩ := cP_ok hp r C.q hk
      exact hP.in (fun y hy => hK v s w x y Vl.le.rfl' H hy hx)
    have viaE : cE cx D o.type o.op = .mk f → sOpY cx.P N o E KE w := fun h => cE_ok h hb hc C H r G hk hK
    split at h
    · exact viaE h
    · split at h
      · exact viaP h
      · exact viaE h
    · split at h
      · exact viaP h
      · exact viaE h
theorem cdst_ok {D N : Nat} {dst : Option Tmp} {d : Sv} {e : ET} {E : Env} {x : EV} {y : Value} (h : cdst D N dst = .mk d) (r : RE v D e E) (hs : sh v x = some y) : ∃ E', RE v D (d e (some x)) E' ∧ ∀ (KE : Env → World → Prop) (w : World), KE E' w → setE N E dst y KE w := by
  unfold cdst at h
  split at h
  · cases h; exact ⟨E, r, fun KE w hK => hK⟩
  · rename_i t
    split at h
    · rename_i ht
      exact ⟨_, r.put h hs, fun KE w hK => by simp only [setE, ht]; exact hK⟩
    · cases h
theorem setE_lit {N : Nat} : True := trivial
/-- what comes behind -/
abbrev AfterE (cx : XCx) (w0 : World) (D : Nat) (v : Vl) (K : ET → XSt → Bool) (KE : Env → World → Prop) : Prop := ∀ v' s' w' e' E', v.le v' → Rep w0 v' s' w' → RE v' D e' E' → K e' s' = true → KE E' w'
theorem cops_ok {D N : Nat} {ops : List Oper} : ∀ (l : List Oper) {f : XReg} {e : ET} {E : Env} {call : XCall} {Γ : XG} {K : ET → XSt → Bool} {KE : Env → World → Prop} {v : Vl} {s : XSt} {w : World}, cops cx D N ops l = .mk f → CallOk cx w0 call → Cxt cx w0 v → Rep w0 v s w → RE v D e E → GaOk cx w0 v Γ → f call Γ e s K = true →
    AfterE cx w0 D v K KE → sOpsY cx.P N ops l E KE w
  | [], f, e, E, call, Γ, K, KE, v, s, w, h, hc, C, H, r, G, hk, hK => by
    cases h
    exact hK v s w e E Vl.le.rfl' H r hk
  | o :: rest, f, e, E, call, Γ, K, KE, v, s, w, h, hc, C, H, r, G, hk, hK => by
    simp only [cops] at h
    unfold cguard at h
    split at h
    · rename_i fo fr d hfo hfr hd
      have behind : ∀ {E1 : Env} {v' : Vl} {s' : XSt} {w' : World} {x : EV} {y : Value}, RE v D e E1 → v.le v' → Rep w0 v' s' w' → sh v' x = some y → fr call Γ (d e (some x)) s' K = true → setE N E1 o.dst y (fun env w => sOpsY cx.P N ops rest env KE w) w' := fun {E1 v' s' w' x y} r1 h1 h2 h3 h4 => by
        obtain ⟨E', r', hset⟩ := cdst_ok hd (r1.mono h1) h3
        refine hset _ _ (cops_ok rest hfr hc (C.mono h1) h2 r' (G.mono h1) h4 (fun v2 s2 w2 e2 E2 g1 g2 g3 g4 => hK v2 s2 w2 e2 E2 (h1.trans g1) g2 g3 g4))
      split at h
      · rename_i hg
        cases h
        simp only [sOpsY, hg]
        exact cOp_ok hfo hc C H r G hk (fun v' s' w' x y h1 h2 h3 h4 => behind r h1 h2 h3 h4)
      · rename_i j want hg
        split at h
        · rename_i t ht
          split at h
          · rename_i g hgt
            cases h
            obtain ⟨a, ha, hk1⟩ := oB_out hk
            obtain ⟨htD, hget⟩ := cgt_ok hgt
            rw [hget e r.wf] at ha
            obtain ⟨y, hy, hs⟩ := r.some_ t a htD ha
            simp only [sOpsY, hg, ht, hy]
            split at hk1
            · rename_i b
              cases hs
              have r1 := r.lit hy
              cases b <;> cases want
              · have hk2 : fo call Γ e s (fun v s => fr call Γ (d e (some v)) s K) = true := hk1
                simp only [br]
                exact cOp_ok hfo hc C H r1 G hk2 (fun v' s' w' x y h1 h2 h3 h4 => behind r1 h1 h2 h3 h4)
              · have hk2 : fr call Γ (d e (some (.tup []))) s K = true := hk1
                simp only [br]
                exact behind r1 Vl.le.rfl' H rfl hk2
              · have hk2 : fr call Γ (d e (some (.tup []))) s K = true := hk1
                simp only [br]
                exact behind r1 Vl.le.rfl' H rfl hk2
              · have hk2 : fo call Γ e s (fun v s => fr call Γ (d e (some v)) s K) = true := hk1
                simp only [br]
                exact cOp_ok hfo hc C H r1 G hk2 (fun v' s' w' x y h1 h2 h3 h4 => behind r1 h1 h2 h3 h4)
            · rename_i l
              simp only [sh] at hs
              split at hs <;> cases hs
              exact behind r Vl.le.rfl' H rfl hk1
            · cases hk1
          · cases h
        · cases h
    · cases h
end
end Go.Sh
