/- An executor for the shallow reading: functions and calls. Conditions: none. -/
import Derived.Test.YtlfgmbbiealpoaaGreatDoorE29
set_option linter.unusedVariables false
namespace Go.Sh
open Go Go.RowKit
section
variable {cx : XCx} {w0 w : World} {v v0 : Vl} {s s0 : XSt}
theorem eget_app : ∀ {A B : Env} {t : Nat}, eget (A ++ B) t = match eget A t with | some y => some y | none => eget B t
  | [], B, t => rfl
  | (u, y) :: A, B, t => by
    rw [List.cons_append, eget_cons, eget_cons]
    by_cases h : u = t
    · rw [if_pos h, if_pos h]
    · rw [if_neg h, if_neg h]; exact eget_app
theorem cinit_ok {D : Nat} : ∀ (n i : Nat) {z : ET → List EV → (ET → Bool) → Bool} {e : ET} {E : Env} {l : List EV} {vs : List Value} {k : ET → Bool}, cinit D n i = .mk z → RE v D e E → shL v l = some vs → z e l k = true → ∃ e', RE v D e' (initE i vs ++ E) ∧ k e' = true
  | 0, i, z, e, E, l, vs, k, h, r, hs, hk => by
    cases h
    cases l with
    | nil => rw [shL_nil] at hs; subst hs; exact ⟨e, r, hk⟩
    | cons a b => cases hk
  | n + 1, i, z, e, E, l, vs, k, h, r, hs, hk => by
    simp only [cinit] at h
    split at h <;> cases h
    rename_i q f hq hf
    cases l with
    | nil => rw [shL_nil] at hs; subst hs; exact ⟨e, r, hk⟩
    | cons x l =>
      obtain ⟨y, ys, hy, hl, rfl⟩ := shL_cons.1 hs
      obtain ⟨e', h1, h2⟩ := cinit_ok n (Nat.succ i) hf (r.put hq hy) hl hk
      refine ⟨e', h1.congr fun t => ?_, h2⟩
      show eget ((i, y) :: (initE (i + 1) ys ++ E)) t = eget (initE (i + 1) ys ++ (i, y) :: E) t
      rw [eget_cons, eget_app, eget_app, eget_init, eget_cons]
      by_cases h3 : i = t
      · subst h3
        rw [if_pos rfl, if_neg (by omega)]
        simp
      · rw [if_neg h3]
        generalize (if i + 1 ≤ t then ys[t - (i + 1)]? else none) = o
        cases o <;> simp [h3]
theorem xdfrs_ok : ∀ {dl dlw : List Nat} {s : XSt} {w : World} {k : XSt → Bool} {X : World → Prop}, DlR v dl dlw → Rep w0 v s w → xdfrs dl s k = true → (∀ s' w', Rep w0 v s' w' → k s' = true → X w') → dfrs dlw X w
  | _, _, s, w, k, X, .nil, H, hk, hX => hX s w H hk
  | _, _, s, w, k, X, .cons (a := D) (b := b) (l := dl) (m := dlw) h t, H, hk, hX => by
    obtain ⟨c, hc⟩ := h
    have hk' : (match s.get D with | some (.dfr true) => xdfrs dl (s.put D (.dfr false)) k | _ => false) = true := hk
    split at hk'
    · rename_i hg
      obtain ⟨b', O, hb', h0, hO, hR⟩ := H.held _ _ hg
      rw [hc] at hb'; cases hb'
      have hR' : O = .deferred (some []) := hR
      subst hR'
      have hlt := H.blt hg hc
      simp only at hlt
      refine ⟨hO, ?_⟩
      exact xdfrs_ok t (H.put (o' := .dfr false) hg hc _ rfl rfl rfl (by simp [World.putObj]) (O' := .deferred none) (by simp [World.putObj, hlt]) (fun i _ hne => by simp only at hne; simp [World.putObj, Ne.symm hne]) rfl) hk' hX
    · cases hk'
theorem cresV_ok {D : Nat} (C : Cxt cx w0 v) (H : Rep w0 v s w) : ∀ {rs : List ResultVar} {r : ET → XSt → (List EV → Bool) → Bool} {e : ET} {E : Env} {k : List EV → Bool} {acc : List Value} {K : List Value → World → Prop}, cresV cx D rs = .mk r → RE v D e E → r e s k = true → (∀ l vs, shL v l = some vs → k l = true → K (acc ++ vs) w) → resV cx.P rs E acc K w
  | [], r, e, E, k, acc, K, h, hr, hk, hK => by
    cases h
    simpa [resV] using hK [] [] rfl hk
  | .tmp t :: rs, r, e, E, k, acc, K, h, hr, hk, hK => by
    simp only [cresV] at h
    split at h <;> cases h
    rename_i g f hg hf
    obtain ⟨x, hx, hk1⟩ := oB_out hk
    obtain ⟨htD, hget⟩ := cgt_ok hg
    rw [hget e hr.wf] at hx
    obtain ⟨y, hy, hs⟩ := hr.some_ t x htD hx
    simp only [resV, hy]
    exact cresV_ok C H hf hr hk1 (fun l vs h1 h2 => by
      have := hK (x :: l) (y :: vs) (shL_cons.2 ⟨_, _, hs, h1, rfl⟩) h2
      simpa using this)
  | .cell t ty :: rs, r, e, E, k, acc, K, h, hr, hk, hK => by
    simp only [cresV] at h
    split at h <;> cases h
    rename_i g ld f hg hld hf
    obtain ⟨x, hx, hk1⟩ := oB_out hk
    obtain ⟨htD, hget⟩ := cgt_ok hg
    rw [hget e hr.wf] at hx
    obtain ⟨y, hy, hs⟩ := hr.some_ t x htD hx
    split at hk1
    · obtain ⟨z, hk2, a, u, rfl, h3, h4⟩ := cload_ok hld H C.g hs hk1
      simp only [resV, hy]
      refine h4 _ (cresV_ok C H hf hr hk2 (fun l vs h1 h2 => ?_))
      have := hK (z :: l) (u :: vs) (shL_cons.2 ⟨_, _, h3, h1, rfl⟩) h2
      simpa using this
    · cases hk1
theorem one_sh {l : List EV} {vs : List Value} (h : shL v l = some vs) : sh v (xone' l) = some (one vs) := by
  rcases l with _ | ⟨x, _ | ⟨x2, l⟩⟩
  · rw [shL_nil] at h; subst h; rfl
  · obtain ⟨y, ys, hy, hl, rfl⟩ := shL_cons.1 h
    rw [shL_nil] at hl; subst hl
    exact hy
  · have hs := h
    obtain ⟨y, ys, hy, hl, rfl⟩ := shL_cons.1 h
    obtain ⟨y2, ys2, hy2, hl2, rfl⟩ := shL_cons.1 hl
    show sh v (.tup (x :: x2 :: l)) = some (.tuple (y :: y2 :: ys2).toArray)
    simp only [sh, hs]
theorem cbody_ok {n : Nat} {T : List (Nat × List Nat)} {fn : Func} {f : XFn} {call : XCall} {Γ : XG} {args : List EV} {vs : List Value} {K : XK} {KK : KV} (h : cbody cx n T fn = .mk f) (hc : CallOk cx w0 call) (hd : CallDet call) (hΓ : GaDet Γ) (C : Cxt cx w0 v) (H : Rep w0 v s w) (G : GaOk cx w0 v Γ) (hs : shL v args = some vs) (hk : f call Γ args s K = true)
    (hK : ∀ v' s' w' x y, v.le v' → Rep w0 v' s' w' → sh v' x = some y → K x s' = true → KK y w') : sBody cx.P T fn vs KK w := by
  unfold cbody at h
  split at h
  · rename_i c hb hle
    split at h <;> cases h
    rename_i p z rr hp hz hr
    obtain ⟨h1, h2⟩ := bB_out hk
    have r0 : RE v (depth fn.ntmps) (et0 (depth fn.ntmps)) [] := ⟨(et0_ok _).1, fun t x _ hx => (by rw [(et0_ok _).2] at hx; cases hx), fun _ _ _ => rfl, fun _ _ => rfl⟩
    obtain ⟨e', r1, h3⟩ := cinit_ok _ _ hz r0 hs h2
    rw [List.append_nil] at r1
    rw [lenX_eq, ← shL_len hs] at h1
    have ends : ∀ v' s' w' e' E' dl' dlw', v.le v' → Rep w0 v' s' w' → RE v' (depth fn.ntmps) e' E' → DlR v' dl' dlw' → (xdfrs dl' s' fun s => rr e' s fun vs => K (xone' vs) s) = true → dfrs dlw' (fun w => resV cx.P fn.results.toList E' [] (fun vs w => KK (one vs) w) w) w' := fun v' s' w' e' E' dl' dlw' g1 g2 g3 g4 g5 =>
      xdfrs_ok g4 g2 g5 (fun s2 w2 H2 g6 => cresV_ok (C.mono g1) H2 hr g3 g6 (fun l us g7 g8 => hK v' s2 w2 _ _ g1 H2 (by simpa using one_sh g7) g8))
    unfold sBody
    simp only [hb, h1]
    exact ccode1_ok hc hd c hp hΓ C H r1 G .nil h3 ⟨fun v' s' w' e' E' dl' dlw' g1 g2 g3 g4 _ g5 => ends v' s' w' e' E' dl' dlw' g1 g2 g3 g4 g5, fun v' s' w' e' E' dl' dlw' g1 g2 g3 g4 _ g5 => ends v' s' w' e' E' dl' dlw' g1 g2 g3 g4 g5, fun id v' s' w' e' E' dl' dlw' g1 g2 g3 g4 _ g5 => (by cases g5)⟩
  · cases h
theorem cinit_det {D : Nat} : ∀ (n i : Nat) {z : ET → List EV → (ET → Bool) → Bool}, cinit D n i = .mk z → ∀ e l, Det (z e l)
  | 0, i, z, h, e, l => by cases h; cases l <;> first | exact det_ret _ | exact det_no
  | n + 1, i, z, h, e, l => by
    simp only [cinit] at h
    split at h <;> cases h
    rename_i q f hq hf
    cases l <;> first | exact det_ret _ | exact cinit_det n _ hf _ _
theorem xdfrs_det : ∀ {dl : List Nat} {s : XSt}, Det (xdfrs dl s)
  | [], s => det_ret _
  | D :: dl, s => by
    show Det (fun k => match s.get D with | some (.dfr true) => xdfrs dl (s.put D (.dfr false)) k | _ => false)
    split
    · exact xdfrs_det
    · exact det_no
theorem cresV_det {D : Nat} : ∀ {rs : List ResultVar} {r : ET → XSt → (List EV → Bool) → Bool}, cresV cx D rs = .mk r → ∀ e s, Det (r e s)
  | [], r, h, e, s => by cases h; exact det_ret _
  | .tmp t :: rs, r, h, e, s => by
    simp only [cresV] at h
    split at h <;> cases h
    rename_i g f hg hf
    exact det_oB fun v => det_1 (cresV_det hf e s) fun _ => det_ret _
  | .cell t ty :: rs, r, h, e, s => by
    simp only [cresV] at h
    split at h <;> cases h
    rename_i g ld f hg hld hf
    refine det_oB fun p => ?_
    cases p <;> first | exact det_no | exact det_1 (cload_det hld _ s) fun _ => det_1 (cresV_det hf e s) fun _ => det_ret _
theorem cbody_det {n : Nat} {T : List (Nat × List Nat)} {fn : Func} {f : XFn} {call : XCall} {Γ : XG} {args : List EV} (h : cbody cx n T fn = .mk f) (hd : CallDet call) (hΓ : GaDet Γ) : Det2 (f call Γ args s) := by
  unfold cbody at h
  split at h
  · split at h <;> cases h
    rename_i p z rr hp hz hr
    refine det2_bB (det2_1 (cinit_det _ _ hz _ _) fun e => ?_)
    exact det2_C (G3 := fun _ _ _ _ _ => false) (ccode1_det hd _ hp hΓ) (fun e dl s => det2_1 xdfrs_det fun s => det2_1 (cresV_det hr e s) fun _ => det2_ret _ _) (fun e dl s => det2_1 xdfrs_det fun s => det2_1 (cresV_det hr e s) fun _ => det2_ret _ _) (fun _ _ _ _ => det2_no)
  · cases h
/-- what is asked of the table -/
def TbOk (cx : XCx) (tb : XTb) : Prop := cx.P.follows .mixedOrders = true ∧ ∀ f fn T, tbl tb.l f = some (fn, T) → cx.P.funcs[f]? = some fn ∧ isGo cx.P f = true ∧ codeOkF T fn = true
def PrimOk (cx : XCx) (w0 : World) : Prop := ∀ f p, cx.prim f = some p → ∀ (v : Vl) (s : XSt) (w : World) (args : List EV) (vs : List Value) (e : EV) (KK : KV), Rep w0 v s w → shL v args = some vs → p args s = some e → (∀ w' y, Rep w0 v s w' → sh v e = some y → KK y w') → gocall cx.P f vs KK w
theorem GaOk.det {Γ : XG} (G : GaOk cx w0 v Γ) : GaDet Γ := fun p hp => (G p hp).2
theorem xcall_succ {tb : XTb} {n : Nat} {Γ : XG} {f : FuncId} {args : List EV} {s : XSt} {K : XK} : xcall cx tb (n + 1) Γ f args s K = Option.rec (motive := fun _ => Bool)
      (Cl.rec (motive := fun _ => Bool) (fun F => F (xcall cx tb n) Γ args s K) false (comp cx tb f))
      (fun p => oB (p args s) fun v => K v s) (cx.prim f) := rfl
theorem xcall_det {tb : XTb} : ∀ (n : Nat), CallDet (xcall cx tb n)
  | 0 => fun Γ f args s hΓ => det2_no
  | n + 1 => fun Γ f args s hΓ => by
    show Det2 (fun K => Option.rec (motive := fun _ => Bool)
      (Cl.rec (motive := fun _ => Bool) (fun F => F (xcall cx tb n) Γ args s K) false (comp cx tb f))
      (fun p => oB (p args s) fun v => K v s) (cx.prim f))
    cases cx.prim f with
    | some p => exact det2_oB fun _ => det2_ret _ _
    | none =>
      cases hq : comp cx tb f with
      | no => exact det2_no
      | mk F =>
        unfold comp at hq
        split at hq
        · exact cbody_det hq (xcall_det n) hΓ
        · cases hq
theorem xcall_ok {tb : XTb} (ht : TbOk cx tb) (hp : PrimOk cx w0) : ∀ (n : Nat), CallOk cx w0 (xcall cx tb n)
  | 0 => fun v s w Γ f args vs K KK C H G hs hk hK => by cases hk
  | n + 1 => fun v s w Γ f args vs K KK C H G hs hk hK => by
    rw [xcall_succ] at hk
    cases hpr : cx.prim f with
    | some p =>
      rw [hpr] at hk
      obtain ⟨e, he, hk1⟩ := oB_out hk
      exact hp f p hpr v s w args vs e KK H hs he (fun w' y H' hy => hK v s w' e y Vl.le.rfl' H' hy hk1)
    | none =>
      rw [hpr] at hk
      cases hq : comp cx tb f with
      | no => rw [hq] at hk; cases hk
      | mk F =>
        rw [hq] at hk
        unfold comp at hq
        split at hq
        · rename_i x hx
          obtain ⟨fn, T⟩ := x
          obtain ⟨h1, h2, h3⟩ := ht.2 f fn T hx
          refine ⟨h2, ?_⟩
          exact calls_of_sBody ht.1 h1 h3 (cbody_ok hq (xcall_ok ht hp n) (xcall_det n) G.det C H G hs hk hK)
        · cases hq
/-- a run from nothing -/
theorem x_run {tb : XTb} {n : Nat} {f : FuncId} {args : List EV} {vs : List Value} {K : XK} {KK : KV} {v : Vl} (ht : TbOk cx tb) (hp : PrimOk cx w) (hv : v = ⟨fun _ => none, fun _ _ _ => default, v.ν, fun _ => True⟩) (C : Cxt cx w v) (hs : shL v args = some vs) (hk : xcall cx tb n [] f args st0 K = true)
    (hK : ∀ v' s' w' x y, v.ν = v'.ν → Rep w v' s' w' → sh v' x = some y → K x s' = true → KK y w') : gocall cx.P f vs KK w := by
  have hb : ∀ k, v.β k = none := fun k => by rw [hv]
  have hA : ∀ k, v.A k := fun k => by rw [hv]; trivial
  have hg : ∀ k, st0.get k = none := fun k => rfl
  have H : Rep w v st0 w := ⟨⟨rfl, rfl, rfl, Nat.le_refl _, fun _ _ => rfl⟩, fun k o h => (by rw [hg] at h; cases h), fun k k' o o' b b' h => (by rw [hg] at h; cases h), fun k _ _ => ⟨hb k, hA k⟩, fun k b h => (by rw [hb] at h; cases h), Nat.le_refl _⟩
  exact xcall_ok ht hp n v st0 w [] f args vs K KK C H (fun p hp => by cases hp) hs hk (fun v' s' w' x y h1 h2 h3 h4 => hK v' s' w' x y h1.ν.symm h2 h3 h4)
end
end Go.Sh
