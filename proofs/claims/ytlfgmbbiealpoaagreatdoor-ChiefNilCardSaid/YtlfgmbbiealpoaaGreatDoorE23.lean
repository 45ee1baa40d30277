/- An executor for the shallow reading: code, walked. Conditions: none. -/
import Derived.Test.YtlfgmbbiealpoaaGreatDoorE22
set_option linter.unusedVariables false
namespace Go.Sh
open Go Go.RowKit
section
variable {cx : XCx} {w0 w : World} {v v0 : Vl} {s s0 : XSt}
theorem RE.congr {D : Nat} {e : ET} {E E' : Env} (r : RE v D e E) (h : ∀ t, eget E' t = eget E t) : RE v D e E' :=
  ⟨r.wf, fun t x ht hx => by rw [h]; exact r.some_ t x ht hx, fun t ht hx => by rw [h]; exact r.none_ t ht hx, fun t ht => by rw [h]; exact r.out t ht⟩
theorem zip_swap {p : Nat} {y : Value} : ∀ {ps : List Nat} {ys : List Value} {E E1 : Env}, p ∉ ps → zipE ps ys ((p, y) :: E) = some E1 → ∃ E2, zipE ps ys E = some E2 ∧ ∀ t, eget E1 t = eget ((p, y) :: E2) t
  | [], [], E, E1, _, h => by cases h; exact ⟨E, rfl, fun _ => rfl⟩
  | [], _ :: _, E, E1, _, h => by cases h
  | _ :: _, [], E, E1, _, h => by cases h
  | q :: ps, z :: ys, E, E1, hp, h => by
    simp only [zipE] at h
    split at h <;> cases h
    rename_i E1' h1
    obtain ⟨E2, h2, h3⟩ := zip_swap (fun hm => hp (List.mem_cons_of_mem _ hm)) h1
    refine ⟨(q, z) :: E2, by simp only [zipE, h2], fun t => ?_⟩
    have hne : p ≠ q := fun e => hp (by rw [e]; exact List.mem_cons_self ..)
    simp only [eget_cons, h3]
    by_cases e1 : q = t
    · rw [if_pos e1, if_neg (fun e2 => hne (e2.trans e1.symm)), if_pos e1]
    · rw [if_neg e1, if_neg e1]
theorem xzip_ok {D N : Nat} : ∀ {ps : List Nat} {z : ET → List EV → (ET → Bool) → Bool} {e : ET} {l : List EV} {k : ET → Bool} {E : Env} {vs : List Value}, xzip D ps = .mk z → dupE N ps = true → RE v D e E → shL v l = some vs → z e l k = true → ∃ e0 E0, zipE ps vs E = some E0 ∧ RE v D e0 E0 ∧ k e0 = true
  | [], z, e, l, k, E, vs, h, hd, r, hs, hk => by
    cases h
    cases l with
    | nil => rw [shL_nil] at hs; subst hs; exact ⟨e, E, rfl, r, hk⟩
    | cons a b => cases hk
  | p :: ps, z, e, l, k, E, vs, h, hd, r, hs, hk => by
    simp only [xzip] at h
    split at h <;> cases h
    rename_i q f hq hf
    cases l with
    | nil => cases hk
    | cons x l =>
      obtain ⟨y, ys, hy, hl, rfl⟩ := shL_cons.1 hs
      simp only [dupE] at hd
      split at hd
      · rename_i hm hb
        have hk' : f (q e (some x)) l k = true := hk
        obtain ⟨e0, E1, h1, h2, h3⟩ := xzip_ok hf hd (r.put hq hy) hl hk'
        obtain ⟨E2, h4, h5⟩ := zip_swap (fun hin => by rw [memN_iff.2 hin] at hm; cases hm) h1
        exact ⟨e0, (p, y) :: E2, by simp only [zipE, h4], h2.congr fun t => (h5 t).symm, h3⟩
      · cases hd
theorem xsetlp_ok {l a b : Nat} {j : Option (Option Nat)} {k : XSt → Bool} {bb : Nat × Nat} (h : xsetlp l a b j s k = true) (H : Rep w0 v s w) (hb : v.β l = some bb) : w.heap[bb.1]? = some (v.R l (stOf a) none) ∧ ∃ s', k s' = true ∧ Rep w0 v s' (w.putObj bb.1 (v.R l (stOf b) (jOf j))) := by
  unfold xsetlp at h
  split at h
  · rename_i q hg
    obtain ⟨h1, h2⟩ := bB_out h
    have := Nat.eq_of_beq_eq_true h1
    subst this
    obtain ⟨b', O, hb', h0, hO, hR⟩ := H.held _ _ hg
    rw [hb] at hb'; cases hb'
    have hR' : O = v.R l (stOf q) none := hR
    subst hR'
    have hlt := H.blt hg hb
    refine ⟨hO, _, h2, H.put hg hb _ rfl rfl rfl (by simp [World.putObj]) (O' := v.R l (stOf b) (jOf j)) (by simp [World.putObj, hlt]) (fun i _ hne => by simp [World.putObj, Ne.symm hne]) rfl⟩
  · cases h
theorem lookJ_ok {K : KC} {E : Env} {dl : List Nat} {id : Nat} : ∀ {l : List Nat}, id ∈ l → K (.exit id) E dl w → lookJ (exK K E dl l) id w
  | i :: r, hm, h => by
    simp only [exK, lookJ]
    split
    · rename_i hb; have := Nat.eq_of_beq_eq_true hb; subst this; exact h
    · rename_i hb
      rcases List.mem_cons.1 hm with e | hm
      · subst e; rw [Nat.beq_refl] at hb; cases hb
      · exact lookJ_ok hm h
theorem stOf_busy {q : Nat} (h : Nat.beq q 1 = false) : stOf q ≠ .busy := by
  intro e
  match q, h, e with
  | 0, _, e => cases e
  | 1, h, _ => cases h
  | 2, _, e => cases e
  | n + 3, _, e => cases e
set_option maxHeartbeats 2000000 in
theorem ccode_ok {n D N : Nat} {T : List (Nat × List Nat)} {call : XCall} (hc : CallOk cx w0 call) (hd : CallDet call) : ∀ (c : Code) {f : XCd} {Γ : XG} {v : Vl} {s : XSt} {w : World} {e : ET} {E : Env} {dl dlw : List Nat} {Kn Kr : Kn_} {Kx : Kx_} {KC : KC}, ccode cx n D N T c = .mk f → GaDet Γ → Cxt cx w0 v → Rep w0 v s w → RE v D e E → GaOk cx w0 v Γ → DlR v dl dlw → f call Γ e dl s Kn Kr Kx = true →
    AfterC cx w0 D v dl dlw (noRF c) Kn Kr Kx KC → sCode cx.P N T c E dlw KC w
  | .skip, f, Γ, v, s, w, e, E, dl, dlw, Kn, Kr, Kx, KC, h, hΓ, C, H, r, G, d, hk, A => by
    simp only [ccode] at h; cases h
    exact A.n v s w e E dl dlw Vl.le.rfl' H r d (fun _ => ⟨rfl, rfl⟩) hk
  | .label _, f, Γ, v, s, w, e, E, dl, dlw, Kn, Kr, Kx, KC, h, hΓ, C, H, r, G, d, hk, A => by
    simp only [ccode] at h; cases h
    exact A.n v s w e E dl dlw Vl.le.rfl' H r d (fun _ => ⟨rfl, rfl⟩) hk
  | .exit id, f, Γ, v, s, w, e, E, dl, dlw, Kn, Kr, Kx, KC, h, hΓ, C, H, r, G, d, hk, A => by
    simp only [ccode] at h; cases h
    exact A.x id v s w e E dl dlw Vl.le.rfl' H r d (fun _ => ⟨rfl, rfl⟩) hk
  | .ret, f, Γ, v, s, w, e, E, dl, dlw, Kn, Kr, Kx, KC, h, hΓ, C, H, r, G, d, hk, A => by
    simp only [ccode] at h; cases h
    exact A.r v s w e E dl dlw Vl.le.rfl' H r d (fun _ => ⟨rfl, rfl⟩) hk
  | .goto _, f, Γ, v, s, w, e, E, dl, dlw, Kn, Kr, Kx, KC, h, hΓ, C, H, r, G, d, hk, A => by simp only [ccode] at h; cases h
  | .refuse _, f, Γ, v, s, w, e, E, dl, dlw, Kn, Kr, Kx, KC, h, hΓ, C, H, r, G, d, hk, A => by simp only [ccode] at h; cases h
  | .region id ops draw, f, Γ, v, s, w, e, E, dl, dlw, Kn, Kr, Kx, KC, h, hΓ, C, H, r, G, d, hk, A => by
    simp only [ccode] at h
    split at h <;> cases h
    rename_i q hq
    have := creg_ok (KE := fun env w => KC .normal env dlw w) hq hc hd hΓ C H r G hk (fun v' s' w' e' E' h1 h2 h3 h4 => A.n v' s' w' e' E' dl dlw h1 h2 h3 (d.mono h1.tosub) (fun _ => ⟨rfl, rfl⟩) h4)
    simp only [sCode]
    exact this
  | .seq a b, f, Γ, v, s, w, e, E, dl, dlw, Kn, Kr, Kx, KC, h, hΓ, C, H, r, G, d, hk, A => by
    simp only [ccode] at h
    split at h <;> cases h
    rename_i p q hl hp hq
    have fl : noRF (.seq a b) = true → noRF a = true ∧ noRF b = true := fun h => by simpa [noRF] using h
    simp only [sCode, hl]
    refine ccode_ok hc hd a hp hΓ C H r G d hk ⟨fun v' s' w' e' E' dl' dlw' h1 h2 h3 h4 h5 h6 => ?_, fun v' s' w' e' E' dl' dlw' h1 h2 h3 h4 h5 h6 => A.r v' s' w' e' E' dl' dlw' h1 h2 h3 h4 (fun g => h5 (fl g).1) h6, fun id v' s' w' e' E' dl' dlw' h1 h2 h3 h4 h5 h6 => A.x id v' s' w' e' E' dl' dlw' h1 h2 h3 h4 (fun g => h5 (fl g).1) h6⟩
    have comp : ∀ {dl2 dlw2 : List Nat}, (noRF b = true → dl2 = dl' ∧ dlw2 = dlw') → (noRF (.seq a b) = true → dl2 = dl ∧ dlw2 = dlw) := fun k g => by
      obtain ⟨e1, e2⟩ := h5 (fl g).1
      obtain ⟨e3, e4⟩ := k (fl g).2
      exact ⟨e3.trans e1, e4.trans e2⟩
    exact ccode_ok hc hd b hq hΓ (C.mono h1) h2 h3 (G.mono h1) h4 h6 ⟨fun v2 s2 w2 e2 E2 dl2 dlw2 g1 g2 g3 g4 g5 g6 => A.n v2 s2 w2 e2 E2 dl2 dlw2 (h1.trans g1) g2 g3 g4 (comp g5) g6, fun v2 s2 w2 e2 E2 dl2 dlw2 g1 g2 g3 g4 g5 g6 => A.r v2 s2 w2 e2 E2 dl2 dlw2 (h1.trans g1) g2 g3 g4 (comp g5) g6, fun id v2 s2 w2 e2 E2 dl2 dlw2 g1 g2 g3 g4 g5 g6 => A.x id v2 s2 w2 e2 E2 dl2 dlw2 (h1.trans g1) g2 g3 g4 (comp g5) g6⟩
  | .cond c a b, f, Γ, v, s, w, e, E, dl, dlw, Kn, Kr, Kx, KC, h, hΓ, C, H, r, G, d, hk, A => by
    simp only [ccode] at h
    split at h <;> cases h
    rename_i g p q hg hp hq
    have fl : noRF (.cond c a b) = true → noRF a = true ∧ noRF b = true := fun h => by simpa [noRF] using h
    obtain ⟨x, hx, hk1⟩ := oB_out hk
    split at hk1
    · rename_i t
      obtain ⟨h1, h2, r'⟩ := r.litE hg hx
      simp only [sCode, h1, h2]
      cases t
      · exact ccode_ok hc hd b hq hΓ C H r' G d hk1 ⟨fun v' s' w' e' E' dl' dlw' h1 h2 h3 h4 h5 h6 => A.n v' s' w' e' E' dl' dlw' h1 h2 h3 h4 (fun g => h5 (fl g).2) h6, fun v' s' w' e' E' dl' dlw' h1 h2 h3 h4 h5 h6 => A.r v' s' w' e' E' dl' dlw' h1 h2 h3 h4 (fun g => h5 (fl g).2) h6, fun id v' s' w' e' E' dl' dlw' h1 h2 h3 h4 h5 h6 => A.x id v' s' w' e' E' dl' dlw' h1 h2 h3 h4 (fun g => h5 (fl g).2) h6⟩
      · exact ccode_ok hc hd a hp hΓ C H r' G d hk1 ⟨fun v' s' w' e' E' dl' dlw' h1 h2 h3 h4 h5 h6 => A.n v' s' w' e' E' dl' dlw' h1 h2 h3 h4 (fun g => h5 (fl g).1) h6, fun v' s' w' e' E' dl' dlw' h1 h2 h3 h4 h5 h6 => A.r v' s' w' e' E' dl' dlw' h1 h2 h3 h4 (fun g => h5 (fl g).1) h6, fun id v' s' w' e' E' dl' dlw' h1 h2 h3 h4 h5 h6 => A.x id v' s' w' e' E' dl' dlw' h1 h2 h3 h4 (fun g => h5 (fl g).1) h6⟩
    · cases hk1
  | .block id c, f, Γ, v, s, w, e, E, dl, dlw, Kn, Kr, Kx, KC, h, hΓ, C, H, r, G, d, hk, A => by
    simp only [ccode] at h
    split at h <;> cases h
    rename_i p hp
    simp only [sCode]
    refine ccode_ok hc hd c hp hΓ C H r G d hk ⟨fun v' s' w' e' E' dl' dlw' h1 h2 h3 h4 h5 h6 => A.n v' s' w' e' E' dl' dlw' h1 h2 h3 h4 h5 h6, fun v' s' w' e' E' dl' dlw' h1 h2 h3 h4 h5 h6 => A.r v' s' w' e' E' dl' dlw' h1 h2 h3 h4 h5 h6, fun i v' s' w' e' E' dl' dlw' h1 h2 h3 h4 h5 h6 => ?_⟩
    simp only
    cases hb : Nat.beq i id with
    | false => rw [hb] at h6; exact A.x i v' s' w' e' E' dl' dlw' h1 h2 h3 h4 h5 h6
    | true => rw [hb] at h6; exact A.n v' s' w' e' E' dl' dlw' h1 h2 h3 h4 h5 h6
  | .scope c, f, Γ, v, s, w, e, E, dl, dlw, Kn, Kr, Kx, KC, h, hΓ, C, H, r, G, d, hk, A => by
    simp only [ccode] at h
    simp only [sCode]
    exact ccode_ok hc hd c h hΓ C H r G d hk ⟨A.n, A.r, A.x⟩
  | .loop c, f, Γ, v, s, w, e, E, dl, dlw, Kn, Kr, Kx, KC, h, hΓ, C, H, r, G, d, hk, A => by
    simp only [ccode] at h
    split at h <;> cases h
    rename_i l p hn hl hp
    obtain ⟨tl, ls, rest, k1, a2, a3, a4, a5, a6⟩ := xen_ok r.wf (cslots_ok hl) r.wf (k := fun ls r => xloop (fun e s K => p call Γ e dl s K Kr Kx) ls r n e s) hk
    have hsl : ∀ t lf, (t, lf) ∈ tl ↔ (t, lf) ∈ slotsOf (wrs c) E [] := fun t lf => by
      constructor
      · intro hm
        obtain ⟨h1, h2, x, h3, h4⟩ := a5 t lf hm
        obtain ⟨y, hy, hs⟩ := r.some_ t x h2 h3
        have := sl_has (dedupB_ok.1 h1) (by simp) hy (seen := [])
        rw [xleafV_ok hs, h4] at this; exact this
      · intro hm
        obtain ⟨h1, -, y, h2, h3⟩ := sl_mem hm
        have ht : t < 8 ^ D := by
          rcases Nat.lt_or_ge t (8 ^ D) with h | h
          · exact h
          · rw [r.out t h] at h2; cases h2
        cases hx : etg D e t with
        | none => rw [r.none_ t ht hx] at h2; cases h2
        | some x =>
          obtain ⟨lf', h4⟩ := a6 t (dedupB_ok.2 h1) (by rw [hx]; rfl)
          obtain ⟨-, -, x', h5, h6⟩ := a5 t lf' h4
          rw [hx] at h5; cases h5
          obtain ⟨y', hy', hs⟩ := r.some_ t x ht hx
          rw [h2] at hy'; cases hy'
          rw [h3, xleafV_ok hs, h6]; exact h4
    have hx0 : ∃ x0, unslots (slotsOf (wrs c) E []) E = some x0 := unslots_of fun t lf hm => by
      obtain ⟨h1, -, y, h2, h3⟩ := sl_mem hm
      refine ⟨y, ?_⟩
      subst h3
      cases y <;> exact ⟨_, h2, by simp [leafV, unval]; rfl⟩
    obtain ⟨x0, hx0⟩ := hx0
    have hin : inL (wrs c) (slotsOf (wrs c) E []) = true := inL_of fun t lf hm => (sl_mem hm).1
    simp only [sCode, hx0, hin, hn]
    refine loop_ok (D := D) (L := wrs c) (body := fun e s K => p call Γ e dl s K Kr Kx) a4 a2 hsl (fun t lf hm => (a5 t lf hm).2.1) (fun v' e' E' x e0 g1 g2 g3 g4 g5 => ?_) (fun v' s' w' e0 x K I g1 g2 g3 g4 g5 => ?_) H r hx0 k1
    · have sg := fun t => slots_get (R := dropE (wrs c) E) (t := t) g3
      have dg := fun t => dropE_get (L := wrs c) (t := t) (E := E)
      have key : ∀ t, t < 8 ^ D → (¬ ∃ lf, (t, lf) ∈ tl) → (t ∈ wrs c → etg D rest t = none) ∧ (t ∉ wrs c → etg D rest t = etg D e t) := fun t ht hno => by
        rw [a3 t ht]
        constructor
        · intro hm
          cases hx : etg D e t with
          | none => simp
          | some x => exact absurd (a6 t (dedupB_ok.2 hm) (by rw [hx]; rfl)) hno
        · intro hm
          rw [if_neg (fun h => hm (dedupB_ok.1 h.1))]
      refine ⟨g4, fun t y ht hy => ?_, fun t ht hy => ?_, fun t ht => ?_⟩
      · by_cases hs : ∃ lf, (t, lf) ∈ tl
        · rw [(g5 t ht).1 hs] at hy
          obtain ⟨lf, hs'⟩ := hs
          rw [(sg t).1 ⟨lf, (hsl t lf).1 hs'⟩]
          exact g2.some_ t y ht hy
        · rw [(g5 t ht).2 hs] at hy
          rw [(sg t).2 (fun ⟨lf, h⟩ => hs ⟨lf, (hsl t lf).2 h⟩)]
          by_cases hm : t ∈ wrs c
          · rw [(key t ht hs).1 hm] at hy; cases hy
          · rw [(key t ht hs).2 hm] at hy
            rw [(dg t).2 hm]
            exact (r.mono g1).some_ t y ht hy
      · by_cases hs : ∃ lf, (t, lf) ∈ tl
        · rw [(g5 t ht).1 hs] at hy
          obtain ⟨lf, hs'⟩ := hs
          rw [(sg t).1 ⟨lf, (hsl t lf).1 hs'⟩]
          exact g2.none_ t ht hy
        · rw [(g5 t ht).2 hs] at hy
          rw [(sg t).2 (fun ⟨lf, h⟩ => hs ⟨lf, (hsl t lf).2 h⟩)]
          by_cases hm : t ∈ wrs c
          · exact (dg t).1 hm
          · rw [(key t ht hs).2 hm] at hy
            rw [(dg t).2 hm]
            exact r.none_ t ht hy
      · have hs : ¬ ∃ lf, (t, lf) ∈ tl := fun ⟨lf, h⟩ => by have := (a5 t lf h).2.1; omega
        rw [(sg t).2 (fun ⟨lf, h⟩ => hs ⟨lf, (hsl t lf).2 h⟩)]
        by_cases hm : t ∈ wrs c
        · exact (dg t).1 hm
        · rw [(dg t).2 hm]; exact r.out t ht
    · have fl : noRF (.loop c) = true := hn
      refine ccode_ok hc hd c hp hΓ (C.mono g1) g2 g3 (G.mono g1) (d.mono g1.tosub) g4 ⟨fun v2 s2 w2 e2 E2 dl2 dlw2 q1 q2 q3 q4 q5 q6 => ?_, fun v2 s2 w2 e2 E2 dl2 dlw2 q1 q2 q3 q4 q5 q6 => ?_, fun id v2 s2 w2 e2 E2 dl2 dlw2 q1 q2 q3 q4 q5 q6 => ?_⟩
      · obtain ⟨x2, hx2, hI⟩ := g5 v2 s2 w2 e2 E2 dl2 q1 q2 q3 q6
        simp only [hx2]; exact hI
      · obtain ⟨rfl, rfl⟩ := q5 hn
        exact A.r v2 s2 w2 e2 E2 _ _ (g1.trans q1) q2 q3 q4 (fun _ => ⟨rfl, rfl⟩) q6
      · obtain ⟨rfl, rfl⟩ := q5 hn
        exact A.x id v2 s2 w2 e2 E2 _ _ (g1.trans q1) q2 q3 q4 (fun _ => ⟨rfl, rfl⟩) q6
  | .rangeFunc g ps asg body, f, Γ, v, s, w, e, E, dl, dlw, Kn, Kr, Kx, KC, h, hΓ, C, H, r, G, d, hk, A => by
    simp only [ccode] at h
    split at h
    · rename_i ts q hts hdup hq
      split at h <;> cases h
      rename_i ct z fa fb hct hz hfa hfb
      obtain ⟨fv, hfv, hk1⟩ := oB_out hk
      clear hk
      obtain ⟨f1, f2⟩ := csrc_ok hq r hfv
      split at hk1
      · rename_i fi cs
        obtain ⟨D', hD', hk2⟩ := oB_out hk1
        obtain ⟨l, hl, hk3⟩ := oB_out hk2
        clear hk1 hk2
        simp only [sh] at f2
        generalize e1 : rho E g = X at f2
        split at f2 <;> cases f2
        rename_i us hus
        simp only [sCode, f1, hts, e1]
        refine ⟨fi, us.toArray, rfl, fun R hY => ?_⟩
        obtain ⟨v2, hle, H2, hβl, hβD, hR⟩ : ∃ v2 : Vl, v.le v2 ∧ Rep w0 v2 l.2 ((w.alloc (.deferred (some []))).alloc (R .ready none)) ∧ v2.β l.1 = some (w.heap.size + 1, 0) ∧ v2.β D'.1 = some (w.heap.size, 0) ∧ v2.R l.1 = R := by
          obtain ⟨le1, H1⟩ := H.nw (k := D'.1) (s' := D'.2) hD' 0 (O := .deferred (some [])) (fun _ _ => default) rfl
          obtain ⟨le2, H2⟩ := H1.nw (k := l.1) (s' := l.2) hl 0 (O := R .ready none) R (by show R .ready none = _; simp [Vl.put, stOf, jOf])
          refine ⟨_, le1.trans le2, H2, ?_, le2.β _ _ Vl.put_self, by simp [Vl.put]⟩
          have hsz : (w.alloc (.deferred (some []))).heap.size = w.heap.size + 1 := by simp only [World.alloc, Array.size_push]
          rw [Vl.put_self, hsz]
        have hR' : ∀ {v3 : Vl}, v2.sub v3 → v3.R l.1 = R := fun h => (h.R _ _ hβl).trans hR
        have hβ' : ∀ {v3 : Vl}, v2.sub v3 → v3.β l.1 = some (w.heap.size + 1, 0) := fun h => h.β _ _ hβl
        refine hc v2 l.2 _ _ fi (.yld l.1 :: cs) _ _ _ (C.mono hle) H2 ?_ ?_ hk3 ?_
        · intro p hp
          rcases List.mem_cons.1 hp with e2 | hp
          · subst e2
            refine ⟨⟨_, hβl, fun v3 s3 w3 args vs K KK hs C3 H3 hvs hrun hK => ?_⟩, hand_det hd hΓ hz hfa hfb⟩
            obtain ⟨hrd, hrun1⟩ := bB_out hrun
            obtain ⟨hct1, hrun2⟩ := bB_out hrun1
            refine hY vs KK w3 ?_ ?_
            · unfold isRdy at hrd
              split at hrd
              · rename_i q0 hg
                have := Nat.eq_of_beq_eq_true hrd
                subst this
                obtain ⟨b', O, hb', h0, hO, hRO⟩ := H3.held _ _ hg
                rw [hβ' hs] at hb'; cases hb'
                have hRO' : O = v3.R l.1 (stOf 0) none := hRO
                rw [hR' hs] at hRO'
                rw [hO, hRO']; rfl
              · cases hrd
            · refine tup_in hct hct1 hvs ?_
              obtain ⟨e0, E0, hz1, r0, hrun3⟩ := xzip_ok hz hdup (r.sub (hle.tosub.trans hs)) hvs hrun2
              simp only [List.toList_toArray, hz1, hdup]
              have G3 := G.sub (hle.tosub.trans hs)
              refine ccode_ok hc hd asg hfa hΓ C3 H3 r0 G3 .nil hrun3 ⟨fun v4 s4 w4 e4 E4 dl4 dlw4 h1 h2 h3 h4 h5 h6 => ?_, fun v4 s4 w4 e4 E4 dl4 dlw4 h1 h2 h3 h4 h5 h6 => (by cases h6), fun id v4 s4 w4 e4 E4 dl4 dlw4 h1 h2 h3 h4 h5 h6 => (by cases h6)⟩
              have hs4 := hs.trans h1.tosub
              obtain ⟨hp1, s5, hrun5, H5⟩ := xsetlp_ok h6 h2 (hβ' hs4)
              rw [hR' hs4] at hp1 H5
              refine ⟨hp1, ?_⟩
              refine ccode_ok hc hd body hfb hΓ (C3.mono h1) H5 h3 (G3.mono h1) .nil hrun5 ⟨fun v6 s6 w6 e6 E6 dl6 dlw6 g1 g2 g3 g4 g5 g6 => ?_, fun v6 s6 w6 e6 E6 dl6 dlw6 g1 g2 g3 g4 g5 g6 => ?_, fun id v6 s6 w6 e6 E6 dl6 dlw6 g1 g2 g3 g4 g5 g6 => ?_⟩
              · have hs6 := hs4.trans g1.tosub
                obtain ⟨hp2, s7, hrun7, H7⟩ := xsetlp_ok g6 g2 (hβ' hs6)
                rw [hR' hs6] at hp2 H7
                exact ⟨hp2, hK v6 s7 _ true (h1.trans g1) H7 hrun7⟩
              · have hs6 := hs4.trans g1.tosub
                obtain ⟨hp2, s7, hrun7, H7⟩ := xsetlp_ok g6 g2 (hβ' hs6)
                rw [hR' hs6] at hp2 H7
                exact ⟨hp2, hK v6 s7 _ false (h1.trans g1) H7 hrun7⟩
              · have hs6 := hs4.trans g1.tosub
                obtain ⟨hp2, s7, hrun7, H7⟩ := xsetlp_ok g6 g2 (hβ' hs6)
                rw [hR' hs6] at hp2 H7
                exact ⟨hp2, hK v6 s7 _ false (h1.trans g1) H7 hrun7⟩
          · exact G.mono hle p hp
        · refine shL_cons.2 ⟨yv (w.heap.size + 1), us, by simp only [sh, hβl, yv], shL_mono hle hus, by simp⟩
        · intro v3 s3 w3 x y h1 h2 h3 h4
          have hs3 := h1.tosub
          have fin : ∀ (q0 : Nat) (j : Option (Option Nat)), s3.get l.1 = some (.lp q0 j) → Nat.beq q0 1 = false → (Rep w0 v3 (s3.put l.1 (.lp 3 j)) (w3.putObj (w.heap.size + 1) (R .exhausted (jOf j))) → rfj (KC .normal E (w.heap.size :: dlw)) (KC .ret E (w.heap.size :: dlw)) (exK KC E (w.heap.size :: dlw) (exitsC body)) (jOf j) (w3.putObj (w.heap.size + 1) (R .exhausted (jOf j)))) → rfe (w.heap.size + 1) R (rfj (KC .normal E (w.heap.size :: dlw)) (KC .ret E (w.heap.size :: dlw)) (exK KC E (w.heap.size :: dlw) (exitsC body))) w3 := fun q0 j hg hb hJ => by
            obtain ⟨b', O, hb', h0, hO, hRO⟩ := h2.held _ _ hg
            rw [hβ' hs3] at hb'; cases hb'
            have hRO' : O = v3.R l.1 (stOf q0) (jOf j) := hRO
            rw [hR' hs3] at hRO'
            subst hRO'
            have hlt := h2.blt hg (hβ' hs3)
            simp only at hlt
            refine ⟨stOf q0, jOf j, stOf_busy hb, hO, hJ (h2.put hg (hβ' hs3) _ rfl rfl rfl (by simp [World.putObj]) (O' := R .exhausted (jOf j)) (by simp [World.putObj, hlt]) (fun i _ hne => by simp only at hne; simp [World.putObj, Ne.symm hne]) ?_)⟩
            show R .exhausted (jOf j) = v3.R l.1 (stOf 3) (jOf j)
            rw [hR' hs3]; rfl
          have dl3 : DlR v3 (D'.1 :: dl) (w.heap.size :: dlw) := .cons ⟨0, hs3.β _ _ hβD⟩ (d.mono (hle.trans h1).tosub)
          have nofl : noRF (.rangeFunc g ps asg body) = true → D'.1 :: dl = dl ∧ w.heap.size :: dlw = dlw := fun h => by simp [noRF] at h
          cases hg : s3.get l.1 with
          | none => rw [hg] at h4; cases h4
          | some o =>
            rw [hg] at h4
            cases o with
            | lp q0 j =>
              rcases j with _ | _ | id
              · have h5 : (Bool.rec (motive := fun _ => Bool) (Kn e (D'.1 :: dl) (s3.put l.1 (.lp 3 none))) false (Nat.beq q0 1)) = true := h4
                cases hb : Nat.beq q0 1 with
                | true => rw [hb] at h5; cases h5
                | false =>
                  rw [hb] at h5
                  exact fin q0 none hg hb (fun H4 => A.n v3 _ _ e E _ _ (hle.trans h1) H4 (r.mono (hle.trans h1)) dl3 nofl h5)
              · have h5 : (Bool.rec (motive := fun _ => Bool) (Kr e (D'.1 :: dl) (s3.put l.1 (.lp 3 (some none)))) false (Nat.beq q0 1)) = true := h4
                cases hb : Nat.beq q0 1 with
                | true => rw [hb] at h5; cases h5
                | false =>
                  rw [hb] at h5
                  exact fin q0 (some none) hg hb (fun H4 => A.r v3 _ _ e E _ _ (hle.trans h1) H4 (r.mono (hle.trans h1)) dl3 nofl h5)
              · have h5 : (Bool.rec (motive := fun _ => Bool) (bB (memB (exitsC body) id) (Kx id e (D'.1 :: dl) (s3.put l.1 (.lp 3 (some (some id)))))) false (Nat.beq q0 1)) = true := h4
                cases hb : Nat.beq q0 1 with
                | true => rw [hb] at h5; cases h5
                | false =>
                  rw [hb] at h5
                  obtain ⟨h6, h7⟩ := bB_out h5
                  exact fin q0 (some (some id)) hg hb (fun H4 => lookJ_ok (memB_ok.1 h6) (A.x id v3 _ _ e E _ _ (hle.trans h1) H4 (r.mono (hle.trans h1)) dl3 nofl h7))
            | _ => cases h4
      · cases hk1
    · cases h
end
end Go.Sh
