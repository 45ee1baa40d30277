/- An executor for the shallow reading: regions whose order is drawn, as a whole. Conditions: none. -/
import Derived.Test.YtlfgmbbiealpoaaGreatDoorE17
set_option linter.unusedVariables false
namespace Go.Sh
open Go Go.RowKit
section
variable {cx : XCx} {w0 w : World} {v v0 : Vl} {s s0 : XSt}
theorem cOpS_det {D : Nat} {last pre : Bool} {o : Oper} {f : XEffS} {e : ET} {call : XCall} {Γ : XG} {g : XLog} (h : cOpS cx D last pre o = .mk f) (hc : CallDet call) (hΓ : GaDet Γ) : Det3 (f call Γ s0 e s g) := by
  unfold cOpS at h
  split at h
  · cases h
  · split at h <;> cases h
    rename_i hq
    exact det3_2 (cE_det hq hc hΓ) fun _ _ => det3_ret _ _ _
  · split at h <;> cases h
    rename_i hq
    exact det3_2 (cE_det hq hc hΓ) fun _ _ => det3_ret _ _ _
  · split at h <;> cases h
    rename_i hq
    exact det3_2 (cE_det hq hc hΓ) fun _ _ => det3_ret _ _ _
  · split at h
    · split at h
      · rename_i hld
        split at h
        · cases h
          exact det3_oB fun p => det3_1 (cload_det hld p s0) fun _ => det3_ret _ _ _
        · cases h
          exact det3_oB fun p => det3_1 (cload_det hld p s0) fun _ => det3_ret _ _ _
      · cases h
    · cases h
  · split at h <;> cases h
    rename_i hq
    exact det3_1 (cP_det hq e) fun _ => det3_ret _ _ _
theorem cguardS_out {D N : Nat} {ops : List Oper} {o : Oper} {tw : Bool} {z i : Nat} {f : Cl XEffS} {r : Cl XRegS} {q : XRegS} (h : cguardS D N ops o tw z i f r = .mk q) : ∃ f' r' d, f = .mk f' ∧ r = .mk r' ∧ cdst D N o.dst = .mk d ∧
    ((o.guard = none ∧ ∀ call Γ s0 e s g K, q call Γ s0 e s g K = f' call Γ s0 e (stI z tw s0 s i) g fun v s g => r' call Γ s0 (d e (some v)) s g K) ∨
     (∃ j want t gt, o.guard = some (j, want) ∧ gtmp ops j = some t ∧ cgt D t = .mk gt ∧ ∀ call Γ s0 e s g K, q call Γ s0 e s g K = oB (gt e) fun v => (match v with
        | .bool b => Bool.rec (motive := fun _ => Bool) (r' call Γ s0 (d e (some (.tup []))) s g K) (f' call Γ s0 e (stI z tw s0 s i) g fun v s g => r' call Γ s0 (d e (some v)) s g K) (b == want)
        | .tup _ => r' call Γ s0 (d e (some (.tup []))) s g K
        | _ => false))) := by
  unfold cguardS at h
  split at h
  · rename_i f' r' d hd
    refine ⟨f', r', d, rfl, rfl, hd, ?_⟩
    split at h
    · split at h
      · rename_i hg; cases h; exact .inl ⟨hg, fun _ _ _ _ _ _ _ => rfl⟩
      · rename_i j want hg
        split at h
        · rename_i t ht
          split at h
          · rename_i gt hgt; cases h; exact .inr ⟨j, want, t, gt, hg, ht, hgt, fun _ _ _ _ _ _ _ => rfl⟩
          · cases h
        · cases h
    · split at h
      · rename_i hg; cases h; exact .inl ⟨hg, fun _ _ _ _ _ _ _ => rfl⟩
      · rename_i j want hg
        split at h
        · rename_i t ht
          split at h
          · rename_i gt hgt; cases h; exact .inr ⟨j, want, t, gt, hg, ht, hgt, fun _ _ _ _ _ _ _ => rfl⟩
          · cases h
        · cases h
  · cases h
theorem cOpU_det {D : Nat} {ops : List Oper} {last pre : Bool} {o : Oper} {f : XEffS} {e : ET} {call : XCall} {Γ : XG} {g : XLog} (h : cOpU cx D ops last pre o = .mk f) (hc : CallDet call) (hΓ : GaDet Γ) : Det3 (f call Γ s0 e s g) := by
  unfold cOpU at h
  split at h
  · split at h <;> cases h
    refine det3_oB fun v => ?_
    cases v <;> first | exact det3_no | exact det3_ret _ _ _
  · exact cOpS_det h hc hΓ
open Classical in
theorem cOpU_ok {wS : World} {D : Nat} {ops : List Oper} {last pre : Bool} {o : Oper} {f : XEffS} {e : ET} {call : XCall} {Γ : XG} {N : Nat} {g g' : XLog} {x : EV} {s' : XSt}
    (h : cOpU cx D ops last pre o = .mk f) (hc : CallOk cx w0 call) (C0 : Cxt cx w0 v0) (H0 : Rep w0 v0 s0 wS) (out : ∀ K, f call Γ s0 e s g K = K x s' g') :
    LogLe g g' ∧ ∀ (S : World → Prop) (v : Vl) (w : World) (E : Env) (KE : Env → World → Prop), v0.sub v → Cxt cx w0 v → Rep w0 v s w → RE v D e E → GaOk cx w0 v Γ → SG cx w0 v0 s0 S g' → (∀ v' w' y, v.le v' → Rep w0 v' s' w' → sh v' x = some y → setE N E o.dst y KE w') → opU S cx.P N ops last pre o E KE w := by
  unfold cOpU at h
  split at h
  · rename_i hi
    split at h <;> cases h
    rename_i q hq
    have T := out (fun x1 s1 g1 => decide (x1 = x ∧ s1 = s' ∧ g1 = g'))
    simp only [and_self, decide_true] at T
    obtain ⟨z, hz, hk⟩ := oB_out T
    split at hk
    · rename_i t u
      obtain ⟨rfl, rfl, rfl⟩ := of_decide_eq_true hk
      refine ⟨LogLe.rfl', fun S v w E KE hsub C H r G SGg hK => ?_⟩
      obtain ⟨h1, h2⟩ := csrc_ok hq r hz
      obtain ⟨xx, ho, hx, hb⟩ := isIfN_out hi
      unfold opU
      have hkn : knowsAll E (opers o.op) = true := by
        rw [hx] at h1
        rw [ho]
        simp only [opers]
        exact kn1 h1
      simp only [hi, hkn]
      have h2' : ∃ y, sh v u = some y := by
        have := h2
        simp only [sh] at this
        split at this
        · rename_i y hy; exact ⟨y, hy⟩
        · cases this
      obtain ⟨y, hy⟩ := h2'
      have e1 : rho E (nckX o.op) = .iface t y := by
        have := h2
        simp only [sh, hy] at this
        exact (Option.some.inj this).symm
      exact ⟨⟨t, y, e1⟩, hK v w _ Vl.le.rfl' H h2⟩
    · cases hk
  · rename_i hi
    obtain ⟨l1, k1⟩ := cOpS_ok (N := N) h hc C0 H0 out
    refine ⟨l1, fun S v w E KE a1 a2 a3 a4 a5 a6 a7 => ?_⟩
    unfold opU
    simp only [hi]
    exact k1 S v w E KE a1 a2 a3 a4 a5 a6 a7
theorem det3_eq {α β γ : Type} {F G : (α → β → γ → Bool) → Bool} (h : ∀ K, F K = G K) (d : Det3 G) : Det3 F := by
  have : F = G := funext h
  rw [this]; exact d
theorem copsS_det {D N : Nat} {lst : Option Nat} {ops : List Oper} {tw : Bool} {z : Nat} {call : XCall} {Γ : XG} (hc : CallDet call) (hΓ : GaDet Γ) : ∀ (t : OT) {f : XRegS} {e : ET} {s : XSt} {g : XLog}, copsS cx D N lst ops tw z t = .mk f → Det3 (f call Γ s0 e s g)
  | .nil, f, e, s, g, h => by cases h; exact det3_ret _ _ _
  | .jn _ _ _, f, e, s, g, h => by simp only [copsS] at h; cases h
  | .two a b, f, e, s, g, h => by
    simp only [copsS] at h
    split at h <;> cases h
    rename_i fa fb ha hb
    exact det3_3 (copsS_det hc hΓ a ha) fun e1 s1 g1 => det3_3 (copsS_det hc hΓ b hb) fun e2 s2 g2 => det3_bB (det3_bB (det3_ret _ _ _))
  | .one i rest, f, e, s, g, h => by
    simp only [copsS] at h
    split at h
    · rename_i o ho
      obtain ⟨f', r', d, hf, hr, hd, hq | ⟨j, want, t, gt, hg, ht, hgt, hq⟩⟩ := cguardS_out h
      · exact det3_eq (hq.2 call Γ s0 e s g) (det3_3 (cOpU_det hf hc hΓ) fun v s g => copsS_det hc hΓ rest hr)
      · refine det3_eq (hq call Γ s0 e s g) (det3_oB fun v => ?_)
        have go : Det3 (fun K => f' call Γ s0 e (stI z tw s0 s i) g fun v s g => r' call Γ s0 (d e (some v)) s g K) := det3_3 (cOpU_det hf hc hΓ) fun v s g => copsS_det hc hΓ rest hr
        have sk : Det3 (r' call Γ s0 (d e (some (.tup []))) s g) := copsS_det hc hΓ rest hr
        cases v <;> first | exact det3_no | exact sk | skip
        rename_i b
        cases b <;> cases want <;> first | exact go | exact sk
    · cases h
open Classical in
theorem same3 {α β γ : Type} {a a' : α} {b b' : β} {c c' : γ} (h : ∀ K : α → β → γ → Bool, K a b c = K a' b' c') : a = a' ∧ b = b' ∧ c = c' := by
  have := h (fun x y z => decide (x = a ∧ y = b ∧ z = c))
  simp only [and_self, decide_true] at this
  have := of_decide_eq_true this.symm
  exact ⟨this.1.symm, this.2.1.symm, this.2.2.symm⟩
theorem nth_lt {α : Type} {l : List α} {i : Nat} {x : α} (h : nth l i = some x) : i < l.length := by
  rw [nth_eq] at h
  exact (List.getElem?_eq_some_iff.1 h).1
set_option maxHeartbeats 1000000 in
theorem copsS_ok {D N : Nat} {lst : Option Nat} {ops : List Oper} {tw : Bool} {z : Nat} {call : XCall} {Γ : XG} {wS : World} (hc : CallOk cx w0 call) (hd : CallDet call) (hΓ : GaDet Γ) (C0 : Cxt cx w0 v0) (H0 : Rep w0 v0 s0 wS) (hl : tw = true → s0.nx + z * ops.length ≤ 1000000000) (hlf : tw = false → True) :
    ∀ (t : OT) {f : XRegS} {e e' : ET} {s s' : XSt} {g g' : XLog}, copsS cx D N lst ops tw z t = .mk f → (∀ K, f call Γ s0 e s g K = K e' s' g') → (tw = true → otOk t = true) → (tw = false → hasTwo t = false) →
    LogLe g g' ∧ ∀ (S : World → Prop) (v : Vl) (w : World) (E : Env) (KE : Env → World → Prop), Cxt cx w0 v → Mde z tw w0 v0 s0 ops.length t.ids v s w → RE v D e E → GaOk cx w0 v Γ → SG cx w0 v0 s0 S g' → (∀ v' w' E', Mde z tw w0 v0 s0 ops.length [] v' s' w' → RE v' D e' E' → KE E' w') → sOpsS S cx.P N lst ops t E KE w
  | .nil, f, e, e', s, s', g, g', h, out, hot, htw => by
    cases h
    obtain ⟨rfl, rfl, rfl⟩ := same3 out
    exact ⟨LogLe.rfl', fun S v w E KE C M r G SGg hK => hK v w E M r⟩
  | .jn _ _ _, f, e, e', s, s', g, g', h, out, hot, htw => by simp only [copsS] at h; cases h
  | .two a b, f, e, e', s, s', g, g', h, out, hot, htw => by
    have tw1 : tw = true := by
      cases tw with
      | true => rfl
      | false => have := htw rfl; cases this
    subst tw1
    simp only [copsS] at h
    split at h <;> cases h
    rename_i fa fb ha hb
    have hot' := hot rfl
    simp only [otOk] at hot'
    split at hot'
    · rename_i hoa
      obtain ⟨e1, s1, g1, oa, T1⟩ := (copsS_det hd hΓ a ha (s0 := s0) (e := e) (s := s) (g := g)).out (K := fun e1 s1 g1 => fb call Γ s0 e s g1 fun e2 s2 g2 => bB (e1.beq e2) (bB (s1.h.beq s2.h) true)) (out (fun _ _ _ => true))
      obtain ⟨e2, s2, g2, ob, T2⟩ := (copsS_det hd hΓ b hb (s0 := s0) (e := e) (s := s) (g := g1)).out T1
      obtain ⟨b1, T3⟩ := bB_out T2
      obtain ⟨b2, -⟩ := bB_out T3
      have eqe := ET.beq_eq b1
      have eqs := Tr.beq_eq b2
      have fin : ∀ K : ET → XSt → XLog → Bool, K e1 s1 g2 = K e' s' g' := fun K => by
        have h1 := out K
        have h2 := oa (fun e1 s1 g1 => fb call Γ s0 e s g1 fun e2 s2 g2 => bB (e1.beq e2) (bB (s1.h.beq s2.h) (K e1 s1 g2)))
        have h3 := ob (fun e2 s2 g2 => bB (e1.beq e2) (bB (s1.h.beq s2.h) (K e1 s1 g2)))
        rw [b1, b2] at h3
        exact h3.symm.trans (h2.symm.trans h1)
      obtain ⟨rfl, rfl, rfl⟩ := same3 fin
      obtain ⟨la, ka⟩ := copsS_ok hc hd hΓ C0 H0 hl hlf a ha oa (fun _ => hoa) (fun h => by cases h)
      obtain ⟨lb, kb⟩ := copsS_ok hc hd hΓ C0 H0 hl hlf b hb ob (fun _ => hot') (fun h => by cases h)
      refine ⟨la.trans lb, fun S v w E KE C M r G SGg hK => ⟨?_, ?_⟩⟩
      · exact ka S v w E KE C (M.less fun i hi => List.mem_append_left _ hi) r G (SGg.mono lb) hK
      · refine kb S v w E KE C (M.less fun i hi => List.mem_append_right _ hi) r G SGg (fun v' w' E' M' r' => hK v' w' E' ?_ (by rw [eqe]; exact r'))
        obtain ⟨m1, m2, m3, m4⟩ := M'
        exact ⟨m1, by rw [eqs]; exact m2, m3, m4⟩
    · cases hot'
  | .one i rest, f, e, e', s, s', g, g', h, out, hot, htw => by
    simp only [copsS] at h
    split at h
    · rename_i o ho
      have hi := nth_lt ho
      have hot1 : tw = true → i ∉ rest.ids ∧ otOk rest = true := fun e => by
        have := hot e
        simp only [otOk] at this
        split at this
        · cases this
        · rename_i hm; exact ⟨memNB_ok hm, this⟩
      have htw1 : tw = false → hasTwo rest = false := fun e => htw e
      obtain ⟨f', r', d, hf, hr, hdst, hq⟩ := cguardS_out h
      -- the operation, done
      have go : (∀ K, (f' call Γ s0 e (stI z tw s0 s i) g fun v s g => r' call Γ s0 (d e (some v)) s g K) = K e' s' g') →
          LogLe g g' ∧ ∀ (S : World → Prop) (v : Vl) (w : World) (E : Env) (KE : Env → World → Prop), Cxt cx w0 v → Mde z tw w0 v0 s0 ops.length (i :: rest.ids) v s w → RE v D e E → GaOk cx w0 v Γ → SG cx w0 v0 s0 S g' → (∀ v' w' E', Mde z tw w0 v0 s0 ops.length [] v' s' w' → RE v' D e' E' → KE E' w') → opU S cx.P N ops (quiet lst ops i rest) (preB ops i) o E (fun env w => sOpsS S cx.P N lst ops rest env KE w) w := fun out => by
        obtain ⟨x, s1, g1, o1, T1⟩ := (cOpU_det hf hd hΓ (s0 := s0) (e := e) (s := stI z tw s0 s i) (g := g)).out (out (fun _ _ _ => true))
        have out2 : ∀ K, r' call Γ s0 (d e (some x)) s1 g1 K = K e' s' g' := fun K => by
          have := out K
          rw [o1] at this; exact this
        obtain ⟨l1, k1⟩ := cOpU_ok (N := N) hf hc C0 H0 o1
        obtain ⟨l2, k2⟩ := copsS_ok hc hd hΓ C0 H0 hl hlf rest hr out2 (fun e => (hot1 e).2) htw1
        refine ⟨l1.trans l2, fun S v w E KE C M r G SGg hK => ?_⟩
        have M' : ∃ v1 : Vl, v.sub v1 ∧ Rep w0 v1 (stI z tw s0 s i) w ∧ ∀ (v' : Vl) (s' : XSt) (w' : World), v1.le v' → Rep w0 v' s' w' → Mde z tw w0 v0 s0 ops.length rest.ids v' s' w' := by
          cases tw with
          | false => exact ⟨v, Vl.le.rfl'.tosub, M.2, fun v' s' w' h H => ⟨M.1.trans h, H⟩⟩
          | true => exact M.op hi (hl rfl) (fun e => (hot1 e).1)
        obtain ⟨v1, hs1, H1, hn⟩ := M'
        refine k1 S v1 w E _ (M.sub.trans hs1) (C.sub hs1) H1 (r.sub hs1) (G.sub hs1) (SGg.mono l2) (fun v' w' y g1 g2 g3 => ?_)
        obtain ⟨E', r2, hset⟩ := cdst_ok hdst ((r.sub hs1).mono g1) g3
        exact hset _ _ (k2 S v' w' E' KE ((C.sub hs1).mono g1) (hn v' _ w' g1 g2) r2 ((G.sub hs1).mono g1) SGg hK)
      -- the operation, left out
      have sk : (∀ K, r' call Γ s0 (d e (some (.tup []))) s g K = K e' s' g') →
          LogLe g g' ∧ ∀ (S : World → Prop) (v : Vl) (w : World) (E : Env) (KE : Env → World → Prop), Cxt cx w0 v → Mde z tw w0 v0 s0 ops.length (i :: rest.ids) v s w → RE v D e E → GaOk cx w0 v Γ → SG cx w0 v0 s0 S g' → (∀ v' w' E', Mde z tw w0 v0 s0 ops.length [] v' s' w' → RE v' D e' E' → KE E' w') → setE N E o.dst undef (fun env w => sOpsS S cx.P N lst ops rest env KE w) w := fun out => by
        obtain ⟨l2, k2⟩ := copsS_ok hc hd hΓ C0 H0 hl hlf rest hr out (fun e => (hot1 e).2) htw1
        refine ⟨l2, fun S v w E KE C M r G SGg hK => ?_⟩
        obtain ⟨E', r2, hset⟩ := cdst_ok hdst r (x := .tup []) (y := undef) rfl
        exact hset _ _ (k2 S v w E' KE C M.skip r2 G SGg hK)
      rcases hq with ⟨hg, hq⟩ | ⟨j, want, t, gt, hg, ht, hgt, hq⟩
      · obtain ⟨l1, k1⟩ := go (fun K => (hq call Γ s0 e s g K).symm.trans (out K))
        refine ⟨l1, fun S v w E KE C M r G SGg hK => ?_⟩
        simp only [sOpsS, ho, hg]
        exact k1 S v w E KE C M r G SGg hK
      · have out1 := fun K => (hq call Γ s0 e s g K).symm.trans (out K)
        obtain ⟨a, ha, -⟩ := oB_out (out1 (fun _ _ _ => true))
        obtain ⟨htD, hget⟩ := cgt_ok hgt
        rw [ha] at out1
        have fin : ∀ (want' : Bool), want = want' → True := fun _ _ => trivial
        cases a with
        | bool b =>
          have lift : ∀ {S : World → Prop} {v : Vl} {E : Env}, RE v D e E → eget E t = some (.bool b) := fun {S v E} r => by
            have ha' := ha
            rw [hget e r.wf] at ha'
            obtain ⟨y, hy, hs⟩ := r.some_ t _ htD ha'
            cases hs; exact hy
          cases b <;> cases want
          · obtain ⟨l1, k1⟩ := go (fun K => out1 K)
            refine ⟨l1, fun S v w E KE C M r G SGg hK => ?_⟩
            have hy := lift (S := S) r
            simp only [sOpsS, ho, hg, ht, hy, br]
            exact k1 S v w _ KE C M (r.lit hy) G SGg hK
          · obtain ⟨l1, k1⟩ := sk (fun K => out1 K)
            refine ⟨l1, fun S v w E KE C M r G SGg hK => ?_⟩
            have hy := lift (S := S) r
            simp only [sOpsS, ho, hg, ht, hy, br]
            exact k1 S v w _ KE C M (r.lit hy) G SGg hK
          · obtain ⟨l1, k1⟩ := sk (fun K => out1 K)
            refine ⟨l1, fun S v w E KE C M r G SGg hK => ?_⟩
            have hy := lift (S := S) r
            simp only [sOpsS, ho, hg, ht, hy, br]
            exact k1 S v w _ KE C M (r.lit hy) G SGg hK
          · obtain ⟨l1, k1⟩ := go (fun K => out1 K)
            refine ⟨l1, fun S v w E KE C M r G SGg hK => ?_⟩
            have hy := lift (S := S) r
            simp only [sOpsS, ho, hg, ht, hy, br]
            exact k1 S v w _ KE C M (r.lit hy) G SGg hK
        | tup l =>
          obtain ⟨l1, k1⟩ := sk (fun K => out1 K)
          refine ⟨l1, fun S v w E KE C M r G SGg hK => ?_⟩
          have ha' := ha
          rw [hget e r.wf] at ha'
          obtain ⟨y, hy, hs⟩ := r.some_ t _ htD ha'
          simp only [sh] at hs
          split at hs <;> cases hs
          simp only [sOpsS, ho, hg, ht, hy]
          exact k1 S v w E KE C M r G SGg hK
        | _ => have := out1 (fun _ _ _ => true); cases this
    · cases h
end
end Go.Sh
