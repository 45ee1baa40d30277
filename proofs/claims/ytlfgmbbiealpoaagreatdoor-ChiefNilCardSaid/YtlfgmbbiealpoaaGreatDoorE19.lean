/- An executor for the shallow reading: regions. Conditions: none. -/
import Derived.Test.YtlfgmbbiealpoaaGreatDoorE18
set_option linter.unusedVariables false
namespace Go.Sh
open Go Go.RowKit
section
variable {cx : XCx} {w0 w : World} {v v0 : Vl} {s s0 : XSt}
theorem copsS_ids {D N : Nat} {lst : Option Nat} {ops : List Oper} {tw : Bool} {z : Nat} : ∀ (t : OT) {f : XRegS}, copsS cx D N lst ops tw z t = .mk f → ∀ i ∈ t.ids, i < ops.length
  | .nil, f, h, i, hi => by cases hi
  | .jn _ _ _, f, h, i, hi => by simp only [copsS] at h; cases h
  | .two a b, f, h, i, hi => by
    simp only [copsS] at h
    split at h <;> cases h
    rename_i fa fb ha hb
    rcases List.mem_append.1 hi with hi | hi
    · exact copsS_ids a ha i hi
    · exact copsS_ids b hb i hi
  | .one j rest, f, h, i, hi => by
    simp only [copsS] at h
    split at h
    · rename_i o ho
      obtain ⟨f', r', d, hf, hr, -⟩ := cguardS_out h
      rcases List.mem_cons.1 hi with rfl | hi
      · exact nth_lt ho
      · exact copsS_ids rest hr i hi
    · cases h
theorem xkept1_out {l : List (EV × Nat)} (h : xkept1 cx s0 s l = true) : ∀ p n, (p, n) ∈ l → ∃ cs, xread cx p n s0 = some cs ∧ xread cx p n s = some cs := by
  induction l with
  | nil => intro p n hp; cases hp
  | cons x r ih =>
    have h' : (oB (xread cx x.1 x.2 s0) fun a => oB (xread cx x.1 x.2 s) fun b => bB (EV.beqL a b) (xkept1 cx s0 s r)) = true := h
    obtain ⟨a, ha, h1⟩ := oB_out h'
    obtain ⟨b, hb, h2⟩ := oB_out h1
    obtain ⟨hab, h3⟩ := bB_out h2
    intro p n hp
    rcases List.mem_cons.1 hp with e | hp
    · subst e
      exact ⟨a, ha, by rw [EV.beqL_eq hab]; exact hb⟩
    · exact ih h3 p n hp
theorem xkept_out {l : List (EV × Nat)} {ss : List XSt} (h : xkept cx s0 l ss = true) : ∀ s ∈ ss, xkept1 cx s0 s l = true := by
  induction ss with
  | nil => intro s hs; cases hs
  | cons x r ih =>
    have h' : bB (xkept1 cx s0 x l) (xkept cx s0 l r) = true := h
    obtain ⟨h1, h2⟩ := bB_out h'
    intro s hs
    rcases List.mem_cons.1 hs with e | hs
    · subst e; exact h1
    · exact ih h2 s hs
/-- what a drawn region keeps -/
def Kept (cx : XCx) (v0 : Vl) (s0 : XSt) (g : XLog) (w' : World) : Prop := ∀ p n, (p, n) ∈ g.1 → ∀ a cs us, xread cx p n s0 = some cs → shL v0 cs = some us → sh v0 p = some (.pointer (some a)) → At w' a us
theorem kept_of {g : XLog} {v' : Vl} {s' : XSt} {w' : World} (hr : ∀ p n, (p, n) ∈ g.1 → ∀ cs, xread cx p n s0 = some cs → xread cx p n s' = some cs) (hs : v0.sub v') (C : Cxt cx w0 v') (H : Rep w0 v' s' w') : Kept cx v0 s0 g w' := fun p n hp a cs us h1 h2 h3 => by
  obtain ⟨a', us', e1, e2, e3, e4⟩ := xread_ok (hr p n hp cs h1) H C.g (sh_sub hs h3)
  cases e1
  rw [shL_sub hs h2] at e2; cases e2
  exact e4
theorem kept_start {g : XLog} (C : Cxt cx w0 v0) (H : Rep w0 v0 s0 w) : Kept cx v0 s0 g w := kept_of (fun _ _ _ _ h => h) Vl.le.rfl'.tosub C H
theorem kept_sg {g : XLog} (h : xkept cx s0 g.1 g.2 = true) : SG cx w0 v0 s0 (Kept cx v0 s0 g) g := by
  refine ⟨fun p n hp a cs us h1 h2 h3 w' hw' => hw' p n hp a cs us h1 h2 h3, fun ss hs v' w' h1 C H => ?_⟩
  refine kept_of (fun p n hp cs hc => ?_) h1 C H
  obtain ⟨cs', e1, e2⟩ := xkept1_out (xkept_out h ss hs) p n hp
  rw [hc] at e1; cases e1
  exact e2
theorem creg_det {D N : Nat} {T : List (Nat × List Nat)} {id : Nat} {arr : Array Oper} {draw : Bool} {f : XReg} {call : XCall} {Γ : XG} {e : ET} (h : creg cx D N T id arr draw = .mk f) (hd : CallDet call) (hΓ : GaDet Γ) : Det2 (f call Γ e s) := by
  cases draw with
  | false => exact cops_det hd hΓ _ h
  | true =>
    simp only [creg] at h
    split at h
    · cases h
    · split at h
      · rename_i q0 m0 q htw hq
        rw [htw] at hq
        cases h
        exact det2_3 (copsS_det hd hΓ _ hq) fun _ _ _ => det2_bB (det2_ret _ _)
      · rename_i q0 m0 q htw hq hot
        rw [htw] at hq
        cases h
        exact det2_3 (copsS_det hd hΓ _ hq) fun _ _ _ => det2_bB (det2_bB (det2_ret _ _))
      · cases h
/-- what a region asks -/
def regW (P : Program) (N : Nat) (T : List (Nat × List Nat)) (id : Nat) (arr : Array Oper) (draw : Bool) (E : Env) (KE : Env → World → Prop) (w : World) : Prop := match draw, look T id with
    | true, some ord => keeps (fun S w => sOpsS S P N (lstOf arr ord) arr.toList (OT.of ord) E KE w) w.drew
    | _, _ => sRegY P N arr.toList draw E KE w
set_option maxHeartbeats 1000000 in
theorem creg_ok {D N : Nat} {T : List (Nat × List Nat)} {id : Nat} {arr : Array Oper} {draw : Bool} {f : XReg} {call : XCall} {Γ : XG} {e : ET} {E : Env} {K : ET → XSt → Bool} {KE : Env → World → Prop} (h : creg cx D N T id arr draw = .mk f) (hc : CallOk cx w0 call) (hd : CallDet call) (hΓ : GaDet Γ) (C : Cxt cx w0 v) (H : Rep w0 v s w) (r : RE v D e E) (G : GaOk cx w0 v Γ) (hk : f call Γ e s K = true)
    (hK : AfterE cx w0 D v K KE) : regW cx.P N T id arr draw E KE w := by
  cases draw with
  | false => exact cops_ok arr.toList h hc C H r G hk hK
  | true =>
    simp only [creg] at h
    split at h
    · cases h
    · rename_i ord hord
      simp only [regW, hord]
      have H0 := H.drew
      split at h
      · rename_i q0 m0 q htw hq
        rw [htw] at hq
        cases h
        obtain ⟨e', s', g', out, T1⟩ := (copsS_det hd hΓ _ hq (s0 := s) (e := e) (s := s) (g := ([], []))).out hk
        obtain ⟨k1, k2⟩ := bB_out T1
        obtain ⟨-, ok⟩ := copsS_ok (v0 := v) (wS := w.drew) hc hd hΓ C H0 (fun e => by cases e) (fun _ => trivial) _ hq out (fun e => by cases e) (fun _ => htw)
        refine ⟨Kept cx v s g', kept_start C H0, ok _ v w.drew E KE C ⟨Vl.le.rfl', H0⟩ r G (kept_sg k1) (fun v' w' E' M r' => hK v' s' w' e' E' M.1 M.2 r' k2)⟩
      · rename_i q0 m0 q htw hq hot
        rw [htw] at hq
        cases h
        obtain ⟨e', s', g', out, T1⟩ := (copsS_det hd hΓ _ hq (s0 := s) (e := e) (s := s) (g := ([], []))).out hk
        obtain ⟨k1, k2⟩ := bB_out T1
        obtain ⟨k3, k4⟩ := bB_out k2
        have hle : s.nx + shO ord * arr.toList.length ≤ s.lim := Nat.le_of_ble_eq_true k3
        have hlim := H.lim
        obtain ⟨-, ok⟩ := copsS_ok (v0 := v) (wS := w.drew) hc hd hΓ C H0 (fun _ => by omega) (fun _ => trivial) _ hq out (fun _ => hot) (fun e => by cases e)
        have M0 : M2 (shO ord) w0 v s arr.toList.length (OT.of ord).ids v s w.drew := by
          refine ⟨⟨H0.below, H0.held, H0.inj, fun k h1 h2 => absurd h2 (by simp), H0.dom, by simp⟩, fun i hi k h1 h2 => ?_, fun k b hb => .inl ⟨b, hb⟩⟩
          have := share_le (z := shO ord) (copsS_ids _ hq i hi)
          exact (H.fresh k (by omega) (by omega)).1
        refine ⟨Kept cx v s g', kept_start C H0, ok _ v w.drew E KE C ⟨Vl.le.rfl'.tosub, M0⟩ r G (kept_sg k1) (fun v' w' E' M r' => ?_)⟩
        obtain ⟨m1, m2⟩ := M
        have nm : ∀ k b, v'.β k = some b → v.A k ∧ k < s.nx + shO ord * arr.toList.length ∨ (∃ b, v.β k = some b) := fun k b hb => by
          rcases m2.dm k b hb with h1 | ⟨h1, h2⟩
          · exact .inr h1
          · exact .inl ⟨(H.fresh k h1 (by omega)).2, h2⟩
        refine hK (v'.wa v.A) ⟨s'.h, _, _⟩ w' e' E' ⟨m1.trans (v'.wa_sub _), rfl⟩ ?_ (r'.sub (v'.wa_sub _)) k4
        refine ⟨m2.rep.below, fun k o h => ?_, m2.rep.inj, fun k h1 h2 => ?_, fun k b hb => ⟨(m2.rep.dom k b hb).1, ?_⟩, hlim⟩
        · obtain ⟨b, O, g1, g2, g3, g4⟩ := m2.rep.held k o h
          exact ⟨b, O, g1, g2, g3, g4.sub (v'.wa_sub _) g1⟩
        · have h1' : s.nx + shO ord * arr.toList.length ≤ k := h1
          have h2' : k < s.lim := h2
          refine ⟨?_, (H.fresh k (by omega) h2').2⟩
          cases hb : v'.β k with
          | none => exact hb
          | some b =>
            exfalso
            rcases nm k b hb with ⟨_, h3⟩ | ⟨b2, h3⟩
            · omega
            · have := (H.fresh k (by omega) h2').1
              rw [h3] at this; cases this
        · rcases nm k b hb with ⟨h3, _⟩ | ⟨b2, h3⟩
          · exact h3
          · exact (H.dom k b2 h3).2
      · cases h
end
end Go.Sh
