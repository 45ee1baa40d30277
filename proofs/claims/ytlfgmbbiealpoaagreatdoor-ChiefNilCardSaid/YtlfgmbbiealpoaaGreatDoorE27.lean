/- An executor for the shallow reading: a loop that looks for something in a map. Conditions: none. -/
import Derived.Test.YtlfgmbbiealpoaaGreatDoorE23
set_option linter.unusedVariables false
namespace Go.Sh
open Go Go.RowKit Go.ChangeMaps
/-- two states that differ in an iterator alone -/
structure Sim (r : Nat) (st sc : XSt) : Prop where
  ne : ∀ k, k ≠ r → st.get k = sc.get k
  eq : st.get r = none ∨ ∃ m b c0 since since' seen seen', st.get r = some (.it m since (b :: seen) c0) ∧ sc.get r = some (.it m since' (b :: seen') c0)
theorem bB_in {b x : Bool} (h : b = true) (k : x = true) : bB b x = true := by subst h; exact k
theorem oB_in {α : Type} {o : Option α} {x : α} {k : α → Bool} (h : o = some x) (hk : k x = true) : oB o k = true := by subst h; exact hk
section
variable {cx : XCx} {w0 w : World} {v v0 : Vl} {s s0 st sc : XSt} {r : Nat}
theorem Sim.cells (S : Sim r st sc) {k : Nat} {l : List EV} {e z : Nat} (h : st.get k = some (.cells l e z)) : sc.get k = some (.cells l e z) := by
  by_cases hk : k = r
  · subst hk
    rcases S.eq with e | ⟨m, b, c0, x, y, z, u, h1, -⟩
    · rw [e] at h; cases h
    · rw [h1] at h; cases h
  · rw [← S.ne k hk]; exact h
theorem Sim.map (S : Sim r st sc) {k : Nat} {l : List XTri} {c : Nat} (h : st.get k = some (.map l c)) : sc.get k = some (.map l c) := by
  by_cases hk : k = r
  · subst hk
    rcases S.eq with e | ⟨m, b, c0, x, y, z, u, h1, -⟩
    · rw [e] at h; cases h
    · rw [h1] at h; cases h
  · rw [← S.ne k hk]; exact h
theorem xread_rd (S : Sim r st sc) {p : EV} {n : Nat} {l : List EV} (h : xread cx p n st = some l) : xread cx p n sc = some l := by
  unfold xread at h ⊢
  split at h
  · split at h
    · rename_i hk
      simp only [S.cells hk]; exact h
    · cases h
  · exact h
  · cases h
theorem xread1_rd (S : Sim r st sc) {p x : EV} (h : xread1 cx p st = some x) : xread1 cx p sc = some x := by
  unfold xread1 at h ⊢
  split at h
  · split at h
    · rename_i hk
      simp only [S.cells hk]; exact h
    · cases h
  · exact h
  · cases h
theorem xent_rd (S : Sim r st sc) {it x : EV} (h : xent it st = some x) : xent it sc = some x := by
  unfold xent at h ⊢
  split at h
  · rename_i k
    split at h
    · rename_i m si b se c0 hk
      have hc : ∃ si' se', sc.get k = some (.it m si' (b :: se') c0) := by
        by_cases hr : k = r
        · subst hr
          rcases S.eq with e | ⟨m', b', c', a1, a2, a3, a4, h1, h2⟩
          · rw [e] at hk; cases hk
          · rw [h1] at hk; cases hk; exact ⟨_, _, h2⟩
        · exact ⟨_, _, (S.ne k hr).symm.trans hk⟩
      obtain ⟨si', se', hc⟩ := hc
      simp only [hc]
      split at h
      · rename_i hm
        simp only [S.map hm]; exact h
      · cases h
    · cases h
  · cases h
theorem cload_rd {t : TypeId} {f : Ld_} {p : EV} {k : EV → Bool} (h : cload cx t = .mk f) (S : Sim r st sc) (hk : f p st k = true) : ∃ x, k x = true ∧ ∀ k' : EV → Bool, k' x = true → f p sc k' = true := by
  unfold cload at h
  split at h
  · split at h
    · cases h
      obtain ⟨x, hx, hk⟩ := oB_out hk
      exact ⟨_, hk, fun k' h' => oB_in (xread_rd S hx) h'⟩
    · split at h <;> cases h
      obtain ⟨x, hx, hk⟩ := oB_out hk
      obtain ⟨hg, hk⟩ := bB_out hk
      exact ⟨_, hk, fun k' h' => oB_in (xread_rd S hx) (bB_in hg h')⟩
  · split at h <;> cases h
    obtain ⟨x, hx, hk⟩ := oB_out hk
    obtain ⟨hg, hk⟩ := bB_out hk
    exact ⟨_, hk, fun k' h' => oB_in (xread1_rd S hx) (bB_in hg h')⟩
  · cases h
theorem lift_rd {p : Cl Pf} {f : XEff} {e : ET} {call : XCall} {Γ : XG} {k : EV → XSt → Bool} (hd : ∀ q, p = .mk q → Det (q e)) (h : lift p = .mk f) (hk : f call Γ e st k = true) : ∃ x, k x st = true ∧ ∀ k' : EV → XSt → Bool, k' x sc = true → f call Γ e sc k' = true := by
  unfold lift at h
  split at h <;> cases h
  rename_i q
  rcases hd q rfl with d | ⟨x, d⟩
  · have hk1 : q e (fun v => k v st) = true := hk
    rw [d] at hk1; cases hk1
  · have hk1 : q e (fun v => k v st) = true := hk
    rw [d] at hk1
    exact ⟨x, hk1, fun k' h' => by show q e (fun v => k' v sc) = true; rw [d]; exact h'⟩
theorem cOp_rd {D : Nat} {ops : List Oper} {o : Oper} {f : XEff} {e : ET} {call : XCall} {Γ : XG} {k : EV → XSt → Bool} (h : cOp cx D ops o = .mk f) (hr : rdOp o.op = true) (S : Sim r st sc) (hk : f call Γ e st k = true) : ∃ x, k x st = true ∧ ∀ k' : EV → XSt → Bool, k' x sc = true → f call Γ e sc k' = true := by
  have viaP : ∀ {op : Op}, lift (cP cx D o.type op) = .mk f → ∃ x, k x st = true ∧ ∀ k' : EV → XSt → Bool, k' x sc = true → f call Γ e sc k' = true := fun h => lift_rd (fun q hq => cP_det hq e) h hk
  unfold cOp at h
  split at h
  · cases h
  · split at h <;> cases h
    rename_i p c hp hc
    rcases cP_det hp e with d | ⟨x, d⟩
    · have hk1 : p e (fun v => bB (c v) (k v st)) = true := hk
      rw [d] at hk1; cases hk1
    · have hk1 : p e (fun v => bB (c v) (k v st)) = true := hk
      rw [d] at hk1
      obtain ⟨hc, hk2⟩ := bB_out hk1
      exact ⟨x, hk2, fun k' h' => by show p e (fun v => bB (c v) (k' v sc)) = true; rw [d]; exact bB_in hc h'⟩
  · split at h <;> cases h
    obtain ⟨x, hx, hk⟩ := oB_out hk
    split at hk
    · exact ⟨_, hk, fun k' h' => oB_in hx h'⟩
    · cases hk
  · cases hop : o.op <;> rw [hop] at hr h <;> first | (cases hr; done) | exact viaP h | skip
    -- load
    · rename_i t x
      have h : cE cx D o.type (.load t x) = .mk f := h
      unfold cE at h
      simp only at h
      split at h <;> cases h
      rename_i g q hg hq
      obtain ⟨p, hp, hk⟩ := oB_out hk
      obtain ⟨y, h1, h2⟩ := cload_rd hq S hk
      exact ⟨y, h1, fun k' h' => oB_in hp (h2 _ h')⟩
    -- entry
    · rename_i x
      have h : cE cx D o.type (.entry x) = .mk f := h
      unfold cE at h
      simp only at h
      split at h <;> cases h
      rename_i g hg
      obtain ⟨p, hp, hk⟩ := oB_out hk
      obtain ⟨y, hy, hk⟩ := oB_out hk
      exact ⟨y, hk, fun k' h' => oB_in hp (oB_in (xent_rd S hy) h')⟩
theorem cops_rd {D N : Nat} {ops : List Oper} {call : XCall} {Γ : XG} (S : Sim r st sc) : ∀ (l : List Oper) {f : XReg} {e : ET} {K : ET → Bool}, cops cx D N ops l = .mk f → allRd l = true → f call Γ e st (fun e' _ => K e') = true → ∃ e', K e' = true ∧ ∀ K' : ET → XSt → Bool, K' e' sc = true → f call Γ e sc K' = true
  | [], f, e, K, h, hr, hk => by cases h; exact ⟨e, hk, fun K' h' => h'⟩
  | o :: rest, f, e, K, h, hr, hk => by
    have hro : rdOp o.op = true ∧ allRd rest = true := by
      simp only [allRd] at hr
      split at hr
      · exact ⟨by assumption, hr⟩
      · cases hr
    simp only [cops] at h
    unfold cguard at h
    split at h
    · rename_i fo fr d hfo hfr hd
      have go : ∀ {e : ET}, (fo call Γ e st fun v s => fr call Γ (d e (some v)) s (fun e' _ => K e')) = true → ∃ e', K e' = true ∧ ∀ K' : ET → XSt → Bool, K' e' sc = true → (fo call Γ e sc fun v s => fr call Γ (d e (some v)) s K') = true := fun {e} hk => by
        obtain ⟨x, k1, k2⟩ := cOp_rd hfo hro.1 S hk
        obtain ⟨e', k3, k4⟩ := cops_rd S rest hfr hro.2 k1
        exact ⟨e', k3, fun K' h' => k2 _ (k4 K' h')⟩
      split at h
      · cases h; exact go hk
      · rename_i j want hg
        split at h
        · rename_i t ht
          split at h
          · rename_i g hgt
            cases h
            obtain ⟨a, ha, hk⟩ := oB_out hk
            cases a with
            | bool b =>
              cases b <;> cases want
              · obtain ⟨e', k1, k2⟩ := go hk
                exact ⟨e', k1, fun K' h' => oB_in ha (k2 K' h')⟩
              · obtain ⟨e', k1, k2⟩ := cops_rd S rest hfr hro.2 hk
                exact ⟨e', k1, fun K' h' => oB_in ha (k2 K' h')⟩
              · obtain ⟨e', k1, k2⟩ := cops_rd S rest hfr hro.2 hk
                exact ⟨e', k1, fun K' h' => oB_in ha (k2 K' h')⟩
              · obtain ⟨e', k1, k2⟩ := go hk
                exact ⟨e', k1, fun K' h' => oB_in ha (k2 K' h')⟩
            | tup l =>
              obtain ⟨e', k1, k2⟩ := cops_rd S rest hfr hro.2 hk
              exact ⟨e', k1, fun K' h' => oB_in ha (k2 K' h')⟩
            | _ => cases hk
          · cases h
        · cases h
    · cases h
end
end Go.Sh
