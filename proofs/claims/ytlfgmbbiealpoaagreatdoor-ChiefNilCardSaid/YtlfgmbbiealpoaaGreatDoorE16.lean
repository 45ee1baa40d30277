/- An executor for the shallow reading: regions whose order is drawn. Conditions: none. -/
import Derived.Test.YtlfgmbbiealpoaaGreatDoorE15
set_option linter.unusedVariables false
namespace Go.Sh
open Go Go.RowKit
/-! ### an outcome -/
section
variable {α β γ : Type}
theorem Det2.out {F : (α → β → Bool) → Bool} (d : Det2 F) {K : α → β → Bool} (h : F K = true) : ∃ a b, (∀ K, F K = K a b) ∧ K a b = true := by
  rcases d with d | ⟨a, b, d⟩
  · rw [d] at h; cases h
  · exact ⟨a, b, d, (d K).symm.trans h⟩
theorem Det3.out {F : (α → β → γ → Bool) → Bool} (d : Det3 F) {K : α → β → γ → Bool} (h : F K = true) : ∃ a b c, (∀ K, F K = K a b c) ∧ K a b c = true := by
  rcases d with d | ⟨a, b, c, d⟩
  · rw [d] at h; cases h
  · exact ⟨a, b, c, d, (d K).symm.trans h⟩
end
section
variable {cx : XCx} {w0 w : World} {v : Vl} {s : XSt}
theorem setE_kp {S : World → Prop} {N : Nat} {E : Env} {dst : Option Tmp} {y : Value} {KE : Env → World → Prop} (hS : S w) (h : setE N E dst y KE w) : setE N E dst y (fun E w => kp S (fun w => KE E w) w) w := by
  unfold setE at h ⊢
  split
  · exact ⟨hS, h⟩
  · simp only at h
    split
    · rename_i hb; rw [hb] at h; exact ⟨hS, h⟩
    · rename_i hb; rw [hb] at h; exact h.elim
/-- what was looked at stays -/
structure SG (cx : XCx) (w0 : World) (v0 : Vl) (s0 : XSt) (S : World → Prop) (g : XLog) : Prop where
  ld : ∀ p n, (p, n) ∈ g.1 → ∀ a cs us, xread cx p n s0 = some cs → shL v0 cs = some us → sh v0 p = some (.pointer (some a)) → ∀ w', S w' → At w' a us
  ef : ∀ ss ∈ g.2, ∀ v' w', v0.sub v' → Cxt cx w0 v' → Rep w0 v' ss w' → S w'
def LogLe (g g' : XLog) : Prop := (∀ x ∈ g.1, x ∈ g'.1) ∧ ∀ x ∈ g.2, x ∈ g'.2
theorem LogLe.rfl' {g : XLog} : LogLe g g := ⟨fun _ h => h, fun _ h => h⟩
theorem LogLe.trans {a b c : XLog} (h : LogLe a b) (k : LogLe b c) : LogLe a c := ⟨fun x hx => k.1 x (h.1 x hx), fun x hx => k.2 x (h.2 x hx)⟩
theorem SG.mono {v0 : Vl} {s0 : XSt} {S : World → Prop} {g g' : XLog} (h : LogLe g g') (G : SG cx w0 v0 s0 S g') : SG cx w0 v0 s0 S g := ⟨fun p n hp => G.ld p n (h.1 _ hp), fun ss hs => G.ef ss (h.2 _ hs)⟩
theorem xread_sh {p : EV} {n : Nat} {cs : List EV} (h : xread cx p n s = some cs) (H : Rep w0 v s w) : ∃ y, sh v p = some y := by
  unfold xread at h
  split at h
  · split at h
    · rename_i ho
      obtain ⟨b, O, hb, -⟩ := H.held _ _ ho
      exact ⟨_, by simp only [sh, hb]; rfl⟩
    · cases h
  · exact ⟨_, rfl⟩
  · cases h
theorem xread_lit {p : EV} {n : Nat} {cs : List EV} {a : Addr} (h : xread cx p n s = some cs) (hp : sh v p = some (.pointer (some a))) : ∃ b o, a = ⟨b, o, none⟩ := by
  unfold xread at h
  split at h
  · obtain ⟨b, hb, e⟩ := ptr_out hp
    cases e; exact ⟨_, _, rfl⟩
  · cases hp; exact ⟨_, _, rfl⟩
  · cases h
theorem xread_of1 {p x : EV} (h : xread1 cx p s = some x) : xread cx p 1 s = some [x] := by
  have one : ∀ {l : List EV} {off : Nat}, nthX l off = some x → xsub l off 1 = some [x] := fun {l off} h => by
    rw [nthX_eq] at h
    obtain ⟨hlt, he⟩ := List.getElem?_eq_some_iff.1 h
    unfold xsub
    rw [lenX_eq]
    have : Nat.ble (Nat.add off 1) l.length = true := Nat.ble_eq_true_of_le hlt
    rw [this]
    simp only
    rw [takeX_eq, dropX_eq, List.drop_eq_getElem_cons hlt, he]
    rfl
  unfold xread1 at h
  unfold xread
  split at h
  · split at h
    · exact one h
    · cases h
  · split at h
    · exact one h
    · cases h
  · cases h
/-- a load in a region whose order is drawn -/
theorem cloadS_ok {v0 : Vl} {s0 : XSt} {wS : World} {t : TypeId} {f : Ld_} {p : EV} {k : EV → Bool} {y : Value} {n : Nat} (hbig : bigA cx.P t = none) (hn : n = match isAggB cx.P t with | true => (leavesOf cx.P 20 t).length | false => 1) (h : cload cx t = .mk f) (H0 : Rep w0 v0 s0 wS) (hg : GlOk cx v0 w0) (hsub : v0.sub v) (hp : sh v p = some y) (hk : f p s0 k = true) :
    ∃ x, k x = true ∧ ∃ a u, y = .pointer (some a) ∧ sh v x = some u ∧ ∀ (S : World → Prop) (g : XLog) (K : KV) (w : World), SG cx w0 v0 s0 S g → (p, n) ∈ g.1 → K u w → ldTS S cx.P t a K w := by
  unfold cload at h
  split at h
  · rename_i hty hag
    rw [hbig] at h
    simp only at h
    split at h <;> cases h
    rename_i q hs hq
    obtain ⟨cs, hc, hk1⟩ := oB_out hk
    obtain ⟨hq1, hk2⟩ := bB_out hk1
    obtain ⟨y0, hy0⟩ := xread_sh hc H0
    have e := sh_sub hsub hy0
    rw [hp] at e; cases e
    obtain ⟨a, us, rfl, h1, h2, h3⟩ := xread_ok hc H0 hg hy0
    refine ⟨_, hk2, a, .agg us.toArray, rfl, by simp only [sh, shL_sub hsub h1], fun S g K w G hm hK => ?_⟩
    rw [hag] at hn
    simp only at hn
    subst hn
    unfold ldTS
    rw [hty, hag]
    simp only [hs]
    exact ldCellsS_in 0 [] hq hq1 (shL_sub hsub h1) (fun j z hz w' hw' => by rw [Nat.zero_add]; exact G.ld p _ hm a cs us hc h1 hy0 w' hw' j z hz) (by simpa using hK)
  · rename_i hty hag
    split at h <;> cases h
    rename_i q hq
    obtain ⟨x, hc, hk1⟩ := oB_out hk
    obtain ⟨hq1, hk2⟩ := bB_out hk1
    have hc1 := xread_of1 hc
    obtain ⟨y0, hy0⟩ := xread_sh hc1 H0
    have e := sh_sub hsub hy0
    rw [hp] at e; cases e
    obtain ⟨a, us, rfl, h1, h2, h3⟩ := xread_ok hc1 H0 hg hy0
    obtain ⟨u, us', hu, hu', rfl⟩ := shL_cons.1 h1
    rw [shL_nil] at hu'; subst hu'
    refine ⟨x, hk2, a, u, rfl, sh_sub hsub hu, fun S g K w G hm hK => ?_⟩
    rw [hag] at hn
    simp only at hn
    subst hn
    unfold ldTS
    rw [hty, hag]
    refine ⟨u, fun w' hw' => ?_, clf_ok hq hq1 hu hK⟩
    have := G.ld p 1 hm a [x] [u] hc1 (shL_cons.2 ⟨u, [], hu, rfl, rfl⟩) hy0 w' hw' 0 u rfl
    obtain ⟨b0, o0, rfl⟩ := xread_lit hc1 hy0
    rw [Addr.add_lit] at this; exact this
  · cases h
open Classical in
theorem cOpS_ok {v0 : Vl} {s0 : XSt} {wS : World} {D : Nat} {last pre : Bool} {o : Oper} {f : XEffS} {e : ET} {call : XCall} {Γ : XG} {N : Nat} {g g' : XLog} {x : EV} {s' : XSt}
    (h : cOpS cx D last pre o = .mk f) (hc : CallOk cx w0 call) (C0 : Cxt cx w0 v0) (H0 : Rep w0 v0 s0 wS) (out : ∀ K, f call Γ s0 e s g K = K x s' g') :
    LogLe g g' ∧ ∀ (S : World → Prop) (v : Vl) (w : World) (E : Env) (KE : Env → World → Prop), v0.sub v → Cxt cx w0 v → Rep w0 v s w → RE v D e E → GaOk cx w0 v Γ → SG cx w0 v0 s0 S g' → (∀ v' w' y, v.le v' → Rep w0 v' s' w' → sh v' x = some y → setE N E o.dst y KE w') → opT S cx.P N last pre o E KE w := by
  have T := out (fun x1 s1 g1 => decide (x1 = x ∧ s1 = s' ∧ g1 = g'))
  simp only [and_self, decide_true] at T
  have logs : ∀ g2, f call Γ s0 e s g (fun _ _ g1 => decide (g1 = g2)) = true → g2 = g' := fun g2 h2 => by
    rw [out] at h2; simpa using (of_decide_eq_true h2).symm
  unfold cOpS at h
  split at h
  · cases h
  -- an effect behind which nothing is kept
  · rename_i hb hkd
    split at h <;> cases h
    rename_i q hq
    have eg : g = g' := by
      by_cases e1 : g = g'
      · exact e1
      · exfalso
        have T1 : q call Γ e s (fun v s => decide (v = x ∧ s = s' ∧ g = g')) = true := T
        have e2 : (fun v s => decide (v = x ∧ s = s' ∧ g = g')) = (fun (_ : EV) (_ : XSt) => false) := by funext a b; simp [e1]
        rw [e2] at T1
        have T2 := out (fun _ _ _ => false)
        have T3 : q call Γ e s (fun _ _ => false) = false := T2
        rw [T3] at T1; cases T1
    subst eg
    refine ⟨LogLe.rfl', fun S v w E KE hsub C H r G SGg hK => ?_⟩
    unfold opT
    simp only [hkd]
    exact cE_ok hq hb hc C H r G T (fun v' s1 w' x1 y h1 h2 h3 h4 => by
      obtain ⟨rfl, rfl, -⟩ := of_decide_eq_true h4
      exact hK v' w' y h1 h2 h3)
  -- an effect
  · rename_i pre' hb hkd
    split at h <;> cases h
    rename_i q hq
    have eg : (g.1, s' :: g.2) = g' := by
      by_cases e1 : (g.1, s' :: g.2) = g'
      · exact e1
      · exfalso
        have T1 : q call Γ e s (fun v s => decide (v = x ∧ s = s' ∧ (g.1, s :: g.2) = g')) = true := T
        have e2 : (fun v s => decide (v = x ∧ s = s' ∧ (g.1, s :: g.2) = g')) = (fun (_ : EV) (_ : XSt) => false) := by
          funext a b
          by_cases e3 : b = s'
          · subst e3; simp [e1]
          · simp [e3]
        rw [e2] at T1
        have T2 := out (fun _ _ _ => false)
        have T3 : q call Γ e s (fun _ _ => false) = false := T2
        rw [T3] at T1; cases T1
    subst eg
    refine ⟨⟨fun _ h => h, fun _ h => List.mem_cons_of_mem _ h⟩, fun S v w E KE hsub C H r G SGg hK => ?_⟩
    have e0 : ∀ pre, opT S cx.P N false pre o E KE w = opS S cx.P N o E KE w := fun pre => by
      unfold opT; rw [hkd]; cases pre <;> rfl
    rw [e0]
    unfold opS
    simp only [hkd]
    exact cE_ok hq hb hc C H r G T (fun v' s1 w' x1 y h1 h2 h3 h4 => by
      obtain ⟨rfl, rfl, -⟩ := of_decide_eq_true h4
      exact setE_kp (SGg.ef _ (List.mem_cons_self ..) v' w' (hsub.trans h1.tosub) (C.mono h1) h2) (hK v' w' y h1 h2 h3))
  -- a load ahead of all effects
  · rename_i hb hkd
    obtain ⟨t, xo, ho⟩ : ∃ t x, o.op = .load t x := by
      cases hop : o.op <;> rw [hop] at hkd <;> first | (cases hkd; done) | exact ⟨_, _, rfl⟩ | (simp only [kindS] at hkd; split at hkd <;> cases hkd)
    split at h <;> cases h
    rename_i q hq
    rw [ho] at hq
    unfold cE at hq
    simp only at hq
    split at hq <;> cases hq
    rename_i ga ld hga hld
    obtain ⟨p, hp, k1⟩ := oB_out T
    have dl := cload_det hld p s
    have eg : s = s' ∧ g = g' := by
      rcases dl with d | ⟨z, d⟩
      · rw [d] at k1; cases k1
      · rw [d] at k1
        have := of_decide_eq_true k1
        exact this.2
    obtain ⟨rfl, rfl⟩ := eg
    refine ⟨LogLe.rfl', fun S v w E KE hsub C H r G SGg hK => ?_⟩
    have e0 : ∀ last, opT S cx.P N last true o E KE w = opP cx.P N o E KE w := fun last => by
      unfold opT; rw [hkd]; cases last <;> rfl
    rw [e0]
    obtain ⟨a1, a2⟩ := csrc_ok hga r hp
    obtain ⟨z, k2, a', u, e1, h2, h3⟩ := cload_ok hld H C.g a2 k1
    obtain ⟨rfl, -, -⟩ := of_decide_eq_true k2
    unfold opP
    simp only [ho, a1, e1]
    exact h3 _ (hK v w u Vl.le.rfl' H h2)
  -- a load
  · rename_i hb hkd
    split at h
    · rename_i t xo ho
      have core : ∀ (last : Bool) (n : Nat) (ga : Gt) (ld : Ld_), bigA cx.P t = none → n = (match isAggB cx.P t with | true => (leavesOf cx.P 20 t).length | false => 1) → csrc D xo = .mk ga → cload cx t = .mk ld →
          (∀ K : EV → XSt → XLog → Bool, (oB (ga e) fun p => ld p s0 fun v => K v s ((p, n) :: g.1, g.2)) = K x s' g') →
          LogLe g g' ∧ ∀ (S : World → Prop) (v : Vl) (w : World) (E : Env) (KE : Env → World → Prop), v0.sub v → Cxt cx w0 v → Rep w0 v s w → RE v D e E → GaOk cx w0 v Γ → SG cx w0 v0 s0 S g' → (∀ v' w' y, v.le v' → Rep w0 v' s' w' → sh v' x = some y → setE N E o.dst y KE w') → opT S cx.P N last false o E KE w := fun last n ga ld hbig hn hga hld out => by
        have T := out (fun x1 s1 g1 => decide (x1 = x ∧ s1 = s' ∧ g1 = g'))
        simp only [and_self, decide_true] at T
        obtain ⟨p, hp, k1⟩ := oB_out T
        have dl := cload_det hld p s0
        have eg : s = s' ∧ ((p, n) :: g.1, g.2) = g' := by
          rcases dl with d | ⟨z, d⟩
          · rw [d] at k1; cases k1
          · rw [d] at k1
            exact (of_decide_eq_true k1).2
        obtain ⟨rfl, rfl⟩ := eg
        refine ⟨⟨fun _ h => List.mem_cons_of_mem _ h, fun _ h => h⟩, fun S v w E KE hsub C H r G SGg hK => ?_⟩
        have e0 : opT S cx.P N last false o E KE w = opS S cx.P N o E KE w := by
          unfold opT; rw [hkd]; cases last <;> rfl
        rw [e0]
        obtain ⟨a1, a2⟩ := csrc_ok hga r hp
        obtain ⟨z, k2, a', u, e1, h2, h3⟩ := cloadS_ok hbig hn hld H0 C0.g hsub a2 k1
        obtain ⟨rfl, -, -⟩ := of_decide_eq_true k2
        unfold opS
        simp only [hkd, ho, a1, e1]
        exact h3 S _ _ w SGg (List.mem_cons_self ..) (hK v w u Vl.le.rfl' H h2)
      split at h
      · rename_i ga ld hbig hga hld
        split at h
        · rename_i hag
          cases h
          exact core _ _ ga ld hbig (by rw [hag]) hga hld out
        · rename_i hag
          cases h
          exact core _ _ ga ld hbig (by rw [hag]) hga hld out
      · cases h
    · cases h
  -- an operation that looks at no memory
  · rename_i hb hkd
    split at h <;> cases h
    rename_i q hq
    have dl := cP_det hq e
    have eg : s = s' ∧ g = g' := by
      rcases dl with d | ⟨z, d⟩
      · have T1 : q e (fun v => decide (v = x ∧ s = s' ∧ g = g')) = true := T
        rw [d] at T1; cases T1
      · have T1 : q e (fun v => decide (v = x ∧ s = s' ∧ g = g')) = true := T
        rw [d] at T1
        exact (of_decide_eq_true T1).2
    obtain ⟨rfl, rfl⟩ := eg
    refine ⟨LogLe.rfl', fun S v w E KE hsub C H r G SGg hK => ?_⟩
    have e0 : ∀ last pre, opT S cx.P N last pre o E KE w = opS S cx.P N o E KE w := fun last pre => by
      unfold opT; rw [hkd]; cases last <;> cases pre <;> rfl
    rw [e0]
    obtain ⟨z, k2, hP⟩ := cP_ok hq r C.q T
    obtain ⟨rfl, -, -⟩ := of_decide_eq_true k2
    obtain ⟨y, hy, hv⟩ := hP.val
    unfold opS
    simp only [hkd, hb, hP.kn]
    exact hv _ w (hK v w y Vl.le.rfl' H hy)
end
end Go.Sh
