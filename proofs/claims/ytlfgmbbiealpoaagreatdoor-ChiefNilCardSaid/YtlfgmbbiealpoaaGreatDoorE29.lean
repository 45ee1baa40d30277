/- An executor for the shallow reading: a loop that looks for something in a map, walked. Conditions: none. -/
import Derived.Test.YtlfgmbbiealpoaaGreatDoorE28
set_option linter.unusedVariables false
namespace Go.Sh
open Go Go.RowKit Go.ChangeMaps
section
variable {cx : XCx} {w0 w : World} {v v0 : Vl} {s s0 st sc : XSt}
theorem Rep.ext (H : Rep w0 v s w) {s' : XSt} (hg : ∀ k, s'.get k = s.get k) (hn : s'.nx = s.nx) (hl : s'.lim = s.lim) : Rep w0 v s' w :=
  ⟨H.below, fun k o h => H.held k o (by rw [← hg]; exact h), fun k k' o o' b b' h1 h2 => H.inj k k' o o' b b' (by rw [← hg]; exact h1) (by rw [← hg]; exact h2), by rw [hn, hl]; exact H.fresh, H.dom, by rw [hl]; exact H.lim⟩
theorem unslots_nil {sl : List (Nat × Leaf)} (h : sl = []) {env : Env} : ∃ x, unslots sl env = some x := by subst h; exact ⟨(), rfl⟩
theorem slotsE_nil {sl : List (Nat × Leaf)} (h : sl = []) (x : SlotsP sl) : slotsE sl x = [] := by subst h; rfl
theorem hasSt_in {n : Nat} {t : XTri} : ∀ {l : List XTri}, t ∈ l → t.2.2 = n → hasSt n l = true
  | u :: l, h, e => by
    simp only [hasSt]
    split
    · rfl
    · rename_i hb
      rcases List.mem_cons.1 h with rfl | h
      · rw [e, Nat.beq_refl] at hb; cases hb
      · exact hasSt_in h e
theorem nodSt_eq {t u : XTri} : ∀ {l : List XTri}, nodSt l = true → t ∈ l → u ∈ l → u.2.2 = t.2.2 → u = t
  | a :: l, h, ht, hu, e => by
    simp only [nodSt] at h
    split at h
    · cases h
    · rename_i hb
      rcases List.mem_cons.1 ht with rfl | ht2 <;> rcases List.mem_cons.1 hu with rfl | hu2
      · rfl
      · rw [hasSt_in hu2 e] at hb; cases hb
      · rw [hasSt_in ht2 e.symm] at hb; cases hb
      · exact nodSt_eq h ht2 hu2 e
theorem noJ_block {T : List (Nat × List Nat)} {j : Nat} {c : Code} : noJ T (.block j c) = noJ T c := rfl
theorem noJ_seq {T : List (Nat × List Nat)} {a b : Code} (h : noJ T (.seq a b) = true) : look T (4000000 + firstR b) = none ∧ noJ T a = true ∧ noJ T b = true := by
  simp only [noJ] at h
  split at h
  · rename_i hl
    split at h
    · rename_i ha; exact ⟨hl, ha, h⟩
    · cases h
  · cases h
set_option maxHeartbeats 1000000 in
theorem csearch_ok {n D N : Nat} {T : List (Nat × List Nat)} {call : XCall} (hc : CallOk cx w0 call) (hd : CallDet call) {c : Code} {S : SrL} (hS : srch c = some S) (hn : noRF c = true) (hj : noJ T c = true) {fT f : XCd} (hT : ccode cx n D N T S.tail = .mk fT) (h : csearch cx D N S (wrs c) fT = .mk f)
    {Γ : XG} {e : ET} {E : Env} {dl dlw : List Nat} {Kn Kr : Kn_} {Kx : Kx_} {KC : KC} (hΓ : GaDet Γ) (C : Cxt cx w0 v) (H : Rep w0 v s w) (r : RE v D e E) (G : GaOk cx w0 v Γ) (d : DlR v dl dlw) (hk : f call Γ e dl s Kn Kr Kx = true) (A : AfterC cx w0 D v dl dlw (noRF (.loop c)) Kn Kr Kx KC) : sCode cx.P N T (.loop c) E dlw KC w := by
  unfold csearch at h
  split at h <;> cases h
  rename_i gi q0 f2 g2 fA fB gn sl hgi hq0 hf2 hg2 hfA hfB hgn hsl'
  obtain ⟨tl, ls, rest, k1, a2, a3, a4, a5, a6⟩ := xen_ok r.wf (cslots_ok hsl') r.wf (k := csbody S gi q0 f2 g2 fA fB gn fT call Γ dl s Kr Kx) hk
  clear hk
  unfold csbody at k1
  split at k1
  case h_2 => cases k1
  cases a4
  obtain ⟨it, hit, k2⟩ := oB_out k1
  split at k2
  case h_2 => cases k2
  rename_i rr
  split at k2
  case h_2 => cases k2
  rename_i m since seen c0 hr0
  split at k2
  case h_2 => cases k2
  rename_i l cc hm0
  obtain ⟨hold, k3⟩ := bB_out k2
  obtain ⟨hsc, k5⟩ := bB_out k3
  obtain ⟨hscc, k6⟩ := bB_out k5
  obtain ⟨hnod, k4⟩ := bB_out k6
  clear k1 k2 k3 k5 k6
  have hsl : slotsOf (wrs c) E [] = [] := List.eq_nil_iff_forall_not_mem.2 fun ⟨t, lf⟩ hm => by
    obtain ⟨h1, -, y, h2, h3⟩ := sl_mem hm
    have ht : t < 8 ^ D := by
      rcases Nat.lt_or_ge t (8 ^ D) with h | h
      · exact h
      · rw [r.out t h] at h2; cases h2
    cases hx : etg D e t with
    | none => rw [r.none_ t ht hx] at h2; cases h2
    | some x =>
      obtain ⟨lf', h4⟩ := a6 t (dedupB_ok.2 h1) (by rw [hx]; rfl)
      cases h4
  have r0 : RE v D rest (dropE (wrs c) E) := by
    refine ⟨a2, fun t x ht hx => ?_, fun t ht hx => ?_, fun t ht => ?_⟩
    · rw [a3 t ht] at hx
      split at hx
      · cases hx
      · rename_i hno
        have : t ∉ wrs c := fun hm => hno ⟨dedupB_ok.2 hm, by rw [hx]; rfl⟩
        rw [eget_dropE this]; exact r.some_ t x ht hx
    · by_cases hm : t ∈ wrs c
      · exact eget_dropE_in hm
      · rw [eget_dropE hm]
        rw [a3 t ht, if_neg (fun h => hm (dedupB_ok.1 h.1))] at hx
        exact r.none_ t ht hx
    · by_cases hm : t ∈ wrs c
      · exact eget_dropE_in hm
      · rw [eget_dropE hm]; exact r.out t ht
  have hrr : rr < 1000000000 := H.lt hr0
  have hmr : m ≠ rr := fun e => by subst e; rw [hr0] at hm0; cases hm0
  have gp : ∀ (o : EObj) k, (s.put rr o).get k = if k = rr then some o else s.get k := fun o k => XSt.get_put hrr
  have gdl : ∀ k, (s.del rr).get k = if k = rr then none else s.get k := fun k => XSt.get_del hrr
  have gpp : ∀ (o o' : EObj) k, ((s.put rr o).put rr o').get k = if k = rr then some o' else s.get k := fun o o' k => by
    rw [XSt.get_put hrr, gp]; split <;> rfl
  have gdp : ∀ (o : EObj) k, ((s.del rr).put rr o).get k = if k = rr then some o else s.get k := fun o k => by
    rw [XSt.get_put hrr, gdl]; split <;> rfl
  have gpd : ∀ (o : EObj) k, ((s.put rr o).del rr).get k = if k = rr then none else s.get k := fun o k => by
    rw [XSt.get_del hrr, gp]; split <;> rfl
  -- what was looked at
  let pr := sprobe f2 fA fB g2 gn q0 call Γ rest (fun t => (s.del rr).put rr (.it m since [t.2.2] cc))
  have hpd : ∀ t, Det2 (pr t) := sprobe_det hd hΓ hf2 hfA hfB
  have hgo := sgo_none hpd _ k4
  let P : XTri → Prop := fun t => ∃ e', ∀ k, pr t k = k e' true
  -- the loop
  obtain ⟨x0, hx0⟩ := unslots_nil hsl (env := E)
  have hin : inL (wrs c) (slotsOf (wrs c) E []) = true := by rw [hsl]; rfl
  simp only [sCode, hx0, hin, hn]
  let Inv : Nat → World → Prop := fun n w => ∃ v' sn c1, v.le v' ∧ Rep w0 v' (s.put rr (.it m since sn c1)) w ∧ Nat.ble since c1 = true ∧ (∀ t ∈ leftX sn l, t ∈ leftX seen l) ∧ (∀ t ∈ leftX seen l, t ∈ leftX sn l ∨ P t) ∧ (leftX sn l).length = n
  have least : ∀ w, (∃ n, Inv n w) → ∃ n, Inv n w ∧ ∀ m, m < n → ¬ Inv m w := fun w ⟨n, hn⟩ => by
    induction n using Nat.strongRecOn with
    | _ n ih =>
      by_cases h : ∃ m, m < n ∧ Inv m w
      · obtain ⟨m, hm, hi⟩ := h; exact ih m hm hi
      · exact ⟨n, hn, fun m hm hi => h ⟨m, hm, hi⟩⟩
  classical
  let me : World → Nat := fun w => if h : ∃ n, Inv n w then Classical.choose (least w h) else 0
  have me_spec : ∀ w (h : ∃ n, Inv n w), Inv (me w) w ∧ ∀ m, m < me w → ¬ Inv m w := fun w h => by
    have : me w = Classical.choose (least w h) := by simp only [me]; rw [dif_pos h]
    rw [this]
    exact Classical.choose_spec (least w h)
  refine ⟨fun _ w => ∃ n, Inv n w, fun _ w => me w, ⟨_, v, seen, c0, Vl.le.rfl', H.ext (fun k => ?_) rfl rfl, hsc, fun t h => h, fun t h => .inl h, rfl⟩, fun x w1 hI => ?_⟩
  · rw [gp]; split
    · rename_i e; rw [e, hr0]
    · rfl
  obtain ⟨hi, -⟩ := me_spec w1 hI
  obtain ⟨v1, sn, c1, le1, H1, hs1, hL1, hL2, hn1⟩ := hi
  obtain ⟨i2, R2, iA, RA, iB, RB, rfl, hR2, hR2', ho, hdst, hgd, hxj, rd2, hRA, rdA, hRB, rdB⟩ := srch_out hS
  have hnt : noRF S.tail = true := by
    have := hn
    simp only [noRF, Bool.and_eq_true] at this
    simp_all
  obtain ⟨j1, -, jb⟩ := noJ_seq hj
  obtain ⟨j2, -, jc⟩ := noJ_seq jb
  rw [noJ_block] at jc
  obtain ⟨j3, -, jd⟩ := noJ_seq jc
  obtain ⟨j4, je, -⟩ := noJ_seq jd
  obtain ⟨j5, -, -⟩ := noJ_seq je
  obtain ⟨xq, hxq⟩ := unslots_nil hsl (env := E)
  rw [slotsE_nil hsl x, List.nil_append]
  simp only [sCode, j1, j2, j3, j4, j5, sRegY]
  rw [hR2, hR2', hRA, hRB]
  have r1 := r0.mono le1
  obtain ⟨kn, hsi⟩ := csrc_ok hgi r1 hit
  have hye : ∀ {K : Env → World → Prop} {w : World} {E0 : Env}, sOpY cx.P N S.o1 E0 K w → sOpYE cx.P N (S.o1 :: S.rest2) S.o1 E0 K w := fun {K w E0} h => by
    unfold sOpYE
    have : (isEnt (S.o1 :: S.rest2) S.o1 || isIfN cx.P (S.o1 :: S.rest2) S.o1) = false := by simp [isEnt, isIfN, ho]
    rw [this]; exact h
  have gs1 : (s.put rr (.it m since sn c1)).get rr = some (.it m since sn c1) := by rw [gp, if_pos rfl]
  have gs2 : (s.put rr (.it m since sn c1)).get m = some (.map l cc) := by rw [gp, if_neg hmr]; exact hm0
  rw [hR2'] at hf2
  simp only [sOpsY, hgd]
  rcases xnextA_ok (P := cx.P) (ty := S.o1.type) H1 hsi gs1 gs2 hold hs1 with ⟨hl0, hK0⟩ | ⟨t, ht, w2, rst, H2, hsh, hK2⟩
  -- all entries were looked at
  · have hall : ∀ t ∈ leftX seen l, P t := fun t ht => by
      rcases hL2 t ht with h | h
      · rw [hl0] at h; cases h
      · exact h
    rcases hgo with ⟨hf, -⟩ | ⟨t0, ht0, e0, q1, -, -⟩
    case inr =>
      obtain ⟨e', q2⟩ := hall t0 ht0
      have := (q1 (fun _ b => b)).symm.trans (q2 (fun _ b => b))
      cases this
    have S0 : Sim rr (s.del rr) (s.del rr) := ⟨fun _ _ => rfl, .inl (by rw [gdl, if_pos rfl])⟩
    obtain ⟨e2, hk2, m2⟩ := cops_rd S0 S.rest2 hf2 rd2 hf
    obtain ⟨xv, hxv, hk2⟩ := oB_out hk2
    split at hk2
    case h_2 => cases hk2
    refine hye (VOk.in (k := fun x s' => decide (x = .tup [.bool false] ∧ s' = s.put rr (.it m since sn c1))) ⟨by rw [ho]; exact kn1 kn, .tup [.bool false], s.put rr (.it m since sn c1), v1, w1, .tuple #[.bool false], by simp, Vl.le.rfl', H1, rfl, fun K hK => ?_⟩ (by rw [ho]; rfl) (by rw [ho]; rfl) (fun v2 s2 w2 x2 y2 g1 g2 g3 g4 => ?_))
    · rw [ho]
      simp only [evV]
      exact hK0 _ ⟨false, [], rfl, hK⟩
    · obtain ⟨rfl, rfl⟩ := of_decide_eq_true g4
      rw [hdst]
      obtain ⟨E', r', hset⟩ := cdst_ok hq0 (r1.mono g1) g3
      refine hset _ _ ?_
      have H3 : Rep w0 v2 (s.del rr) w2 := (g2.del rr hrr).ext (fun k => by rw [gdl, gpd]) rfl rfl
      refine cops_ok S.rest2 hf2 hc (C.mono (le1.trans g1)) H3 r' (G.mono (le1.trans g1)) (m2 (fun e s' => decide (e = e2 ∧ s' = s.del rr)) (by simp)) (fun v3 s3 w3 e3 E3 q1 q2 q3 q4 => ?_)
      obtain ⟨rfl, rfl⟩ := of_decide_eq_true q4
      obtain ⟨z1, z2, z3⟩ := q3.litE hg2 hxv
      simp only [z1, z2, br, Bool.false_eq_true, if_false]
      exact A.x S.x v3 _ w3 _ _ dl dlw ((le1.trans g1).trans q1) q2 z3 (d.mono ((le1.trans g1).trans q1).tosub) (fun _ => ⟨rfl, rfl⟩) hk2
  -- an entry
  · have htl := hL1 t ht
    have key : (∃ e4, ∀ k, pr t k = k e4 true) ∨ ∃ e4, (∀ k, pr t k = k e4 false) ∧ (fT call Γ e4 dl (s.del rr) (fun _ _ _ => false) Kr (fun i e dl s => Bool.rec (motive := fun _ => Bool) (Kx i e dl s) false (Nat.beq i S.j))) = true := by
      rcases hgo with ⟨-, hP⟩ | ⟨t0, ht0, e0, q1, q2, q3⟩
      · exact .inl (hP t htl)
      · rcases q3 t htl with rfl | h
        · exact .inr ⟨e0, q1, q2⟩
        · exact .inl h
    have H2' : Rep w0 v1 (s.put rr (.it m since (t.2.2 :: sn) cc)) w2 := H2.ext (fun k => by rw [gp, gpp]) rfl rfl
    have S0 : Sim rr ((s.del rr).put rr (.it m since [t.2.2] cc)) (s.put rr (.it m since (t.2.2 :: sn) cc)) := ⟨fun k hk => by rw [gdp, gp, if_neg hk, if_neg hk], .inr ⟨m, t.2.2, cc, since, since, [], sn, by rw [gdp, if_pos rfl], by rw [gp, if_pos rfl]⟩⟩
    obtain ⟨e4, b, hpr, hb⟩ : ∃ e4 b, (∀ k, pr t k = k e4 b) ∧ (b = false → (fT call Γ e4 dl (s.del rr) (fun _ _ _ => false) Kr (fun i e dl s => Bool.rec (motive := fun _ => Bool) (Kx i e dl s) false (Nat.beq i S.j))) = true) := by
      rcases key with ⟨e4, h⟩ | ⟨e4, h, h2⟩
      · exact ⟨e4, true, h, fun e => by cases e⟩
      · exact ⟨e4, false, h, fun _ => h2⟩
    obtain ⟨e2, e3, m2, hx2, mA, mB, hx4⟩ := sprobe_out hf2 hfA hfB rd2 rdA rdB S0 hpr
    refine hye (VOk.in (k := fun x s' => decide (x = .tup [.bool true, .int .i64 t.1, t.2.1] ∧ s' = s.put rr (.it m since (t.2.2 :: sn) cc))) ⟨by rw [ho]; exact kn1 kn, .tup [.bool true, .int .i64 t.1, t.2.1], s.put rr (.it m since (t.2.2 :: sn) cc), v1, w2, _, by simp, Vl.le.rfl', H2', hsh, fun K hK => ?_⟩ (by rw [ho]; rfl) (by rw [ho]; rfl) (fun v2 s2 w3 x2 y2 g1 g2 g3 g4 => ?_))
    · rw [ho]
      simp only [evV]
      exact hK2 _ ⟨true, rst, rfl, hK⟩
    · obtain ⟨rfl, rfl⟩ := of_decide_eq_true g4
      rw [hdst]
      obtain ⟨E', r', hset⟩ := cdst_ok hq0 (r1.mono g1) g3
      refine hset _ _ ?_
      have le2 := le1.trans g1
      refine cops_ok S.rest2 hf2 hc (C.mono le2) g2 r' (G.mono le2) (m2 (fun e s' => decide (e = e2 ∧ s' = s.put rr (.it m since (t.2.2 :: sn) cc))) (by simp)) (fun v3 s3 w4 e3' E3 q1 q2 q3 q4 => ?_)
      obtain ⟨rfl, rfl⟩ := of_decide_eq_true q4
      obtain ⟨z1, z2, z3⟩ := q3.litE hg2 hx2
      simp only [z1, z2, br, if_true]
      have le3 := le2.trans q1
      refine cops_ok S.RA hfA hc (C.mono le3) q2 z3 (G.mono le3) (mA (fun e s' => decide (e = e3 ∧ s' = s.put rr (.it m since (t.2.2 :: sn) cc))) (by simp)) (fun v4 s4 w5 e4' E4 p1 p2 p3 p4 => ?_)
      obtain ⟨rfl, rfl⟩ := of_decide_eq_true p4
      have le4 := le3.trans p1
      refine cops_ok S.RB hfB hc (C.mono le4) p2 p3 (G.mono le4) (mB (fun e s' => decide (e = e4 ∧ s' = s.put rr (.it m since (t.2.2 :: sn) cc))) (by simp)) (fun v5 s5 w6 e5' E5 o1 o2 o3 o4 => ?_)
      obtain ⟨rfl, rfl⟩ := of_decide_eq_true o4
      obtain ⟨y1, y2, y3⟩ := o3.litE hgn hx4
      have le5 := le4.trans o1
      cases b with
      | true =>
        simp only [y1, y2, br, if_true, Nat.beq_refl]
        obtain ⟨xn, hxn⟩ := unslots_nil hsl (env := litE E5 S.cn true)
        simp only [hxn]
        have hin' : Inv (leftX (t.2.2 :: sn) l).length w6 := by
          refine ⟨v5, t.2.2 :: sn, cc, le5, o2, ?_, fun u hu => ?_, fun u hu => ?_, rfl⟩
          · exact hscc
          · obtain ⟨h1, h2⟩ := leftX_iff.1 hu
            rw [memX_cons, Bool.or_eq_false_iff] at h2
            exact hL1 u (leftX_iff.2 ⟨h1, h2.2⟩)
          · rcases hL2 u hu with h | h
            · by_cases hut : u.2.2 = t.2.2
              · have := nodSt_eq hnod (leftX_iff.1 ht).1 (leftX_iff.1 h).1 hut
                subst this
                exact .inr ⟨_, hpr⟩
              · left
                obtain ⟨h1, h2⟩ := leftX_iff.1 h
                refine leftX_iff.2 ⟨h1, ?_⟩
                rw [memX_cons, h2, Bool.or_false]
                cases hbb : Nat.beq u.2.2 t.2.2 with
                | false => rfl
                | true => exact absurd (Nat.eq_of_beq_eq_true hbb) hut
            · exact .inr h
        refine ⟨⟨_, hin'⟩, ?_⟩
        have hlt := leftX_lt ht
        rcases Nat.lt_or_ge (me w6) (me w1) with h | h
        · exact h
        · exact absurd hin' ((me_spec w6 ⟨_, hin'⟩).2 _ (by omega))
      | false =>
        simp only [y1, y2, br, Bool.false_eq_true, if_false]
        have H6 : Rep w0 v5 (s.del rr) w6 := (o2.del rr hrr).ext (fun k => by rw [gdl, gpd]) rfl rfl
        refine ccode_ok hc hd S.tail hT hΓ (C.mono le5) H6 y3 (G.mono le5) (d.mono le5.tosub) (hb rfl) ⟨fun v' s' w' e' E' dl' dlw' h1 h2 h3 h4 h5 h6 => (by cases h6), fun v' s' w' e' E' dl' dlw' h1 h2 h3 h4 h5 h6 => ?_, fun i v' s' w' e' E' dl' dlw' h1 h2 h3 h4 h5 h6 => ?_⟩
        · obtain ⟨rfl, rfl⟩ := h5 hnt
          exact A.r v' s' w' e' E' _ _ (le5.trans h1) h2 h3 h4 (fun _ => ⟨rfl, rfl⟩) h6
        · obtain ⟨rfl, rfl⟩ := h5 hnt
          cases hij : Nat.beq i S.j with
          | true => rw [hij] at h6; cases h6
          | false =>
            rw [hij] at h6
            simp only [hij]
            exact A.x i v' s' w' e' E' _ _ (le5.trans h1) h2 h3 h4 (fun _ => ⟨rfl, rfl⟩) h6
/-- one outcome of such a loop -/
theorem csearch_det {n D N : Nat} {T : List (Nat × List Nat)} {call : XCall} (hd : CallDet call) {S : SrL} {ws : List Nat} {fT f : XCd} (hT : ccode cx n D N T S.tail = .mk fT) (h : csearch cx D N S ws fT = .mk f) {Γ : XG} {e : ET} {dl : List Nat} (hΓ : GaDet Γ) : DetC (f call Γ e dl s) := by
  unfold csearch at h
  split at h <;> cases h
  rename_i gi q0 f2 g2 fA fB gn sl hgi hq0 hf2 hg2 hfA hfB hgn hsl'
  refine detC_2 (F := fun k => xen sl e e k) xen_det fun ls r0 => ?_
  show DetC (fun a b c => csbody S gi q0 f2 g2 fA fB gn fT call Γ dl s b c ls r0)
  unfold csbody
  split
  case h_2 => exact detC_no
  refine detC_oB fun it => ?_
  split
  case h_2 => exact detC_no
  rename_i rr
  split
  case h_2 => exact detC_no
  rename_i m since seen c0 hr0
  split
  case h_2 => exact detC_no
  rename_i l cc hm0
  refine detC_bB (detC_bB (detC_bB (detC_bB ?_)))
  have hpd : ∀ t, Det2 ((sprobe f2 fA fB g2 gn q0 call Γ r0 (fun t => (s.del rr).put rr (.it m since [t.2.2] cc))) t) := sprobe_det hd hΓ hf2 hfA hfB
  generalize (sprobe f2 fA fB g2 gn q0 call Γ r0 (fun t => (s.del rr).put rr (.it m since [t.2.2] cc))) = pr at hpd
  have hTl : ∀ e4, DetC (fun (_ : Kn_) b c => fT call Γ e4 dl (s.del rr) (fun _ _ _ => false) b (fun i e dl s => Bool.rec (motive := fun _ => Bool) (c i e dl s) false (Nat.beq i S.j))) := fun e4 =>
    detC_C (G1 := fun _ _ _ _ _ _ => false) (G2 := fun e dl s _ b _ => b e dl s) (G3 := fun i e dl s _ _ c => Bool.rec (motive := fun _ => Bool) (c i e dl s) false (Nat.beq i S.j)) (ccode_det hd S.tail hT hΓ) (fun _ _ _ => detC_no) (fun e dl s => detC_r e dl s) (fun i e dl s => by
      cases Nat.beq i S.j
      · exact detC_x _ _ _ _
      · exact detC_no)
  have hF : DetC (fun (_ : Kn_) (_ : Kn_) c => f2 call Γ (q0 r0 (some (.tup [.bool false]))) (s.del rr) fun e2 _ => oB (g2 e2) fun v => (match v with | .bool false => c S.x e2 dl (s.del rr) | _ => false)) := by
    refine detC_2 (F := fun k => f2 call Γ (q0 r0 (some (.tup [.bool false]))) (s.del rr) k) (G := fun e2 _ _ _ c => oB (g2 e2) fun v => (match v with | .bool false => c S.x e2 dl (s.del rr) | _ => false)) (cops_det hd hΓ S.rest2 hf2) fun e2 _ => detC_oB fun v => ?_
    cases v <;> first | exact detC_no | skip
    rename_i b
    cases b
    · exact detC_x _ _ _ _
    · exact detC_no
  have go : ∀ (L : List XTri) (acc : Option ET), DetC (fun (a : Kn_) b c => sgo pr (fun e4 => fT call Γ e4 dl (s.del rr) (fun _ _ _ => false) b (fun i e dl s => Bool.rec (motive := fun _ => Bool) (c i e dl s) false (Nat.beq i S.j))) (f2 call Γ (q0 r0 (some (.tup [.bool false]))) (s.del rr) fun e2 _ => oB (g2 e2) fun v => (match v with | .bool false => c S.x e2 dl (s.del rr) | _ => false)) L acc) := fun L => by
    induction L with
    | nil =>
      intro acc
      cases acc with
      | none => exact hF
      | some e4 => exact hTl e4
    | cons t L ih =>
      intro acc
      simp only [sgo]
      rcases hpd t with dd | ⟨e', b, dd⟩
      · simp only [dd]; exact detC_no
      · simp only [dd]
        cases b <;> cases acc <;> first | exact ih _ | exact detC_no
  exact go _ _
theorem ccode1_det {n D N : Nat} {T : List (Nat × List Nat)} {call : XCall} (hd : CallDet call) : ∀ (c : Code) {f : XCd} {Γ : XG} {e : ET} {dl : List Nat} {s : XSt}, ccode1 cx n D N T c = .mk f → GaDet Γ → DetC (f call Γ e dl s)
  | .skip, f, Γ, e, dl, s, h, hΓ => ccode_det hd .skip h hΓ
  | .label l, f, Γ, e, dl, s, h, hΓ => ccode_det hd (.label l) h hΓ
  | .exit i, f, Γ, e, dl, s, h, hΓ => ccode_det hd (.exit i) h hΓ
  | .ret, f, Γ, e, dl, s, h, hΓ => ccode_det hd .ret h hΓ
  | .goto l, f, Γ, e, dl, s, h, hΓ => ccode_det hd (.goto l) h hΓ
  | .refuse l, f, Γ, e, dl, s, h, hΓ => ccode_det hd (.refuse l) h hΓ
  | .region i o b, f, Γ, e, dl, s, h, hΓ => ccode_det hd (.region i o b) h hΓ
  | .rangeFunc g ps a b, f, Γ, e, dl, s, h, hΓ => ccode_det hd (.rangeFunc g ps a b) h hΓ
  | .seq a b, f, Γ, e, dl, s, h, hΓ => by
    simp only [ccode1] at h
    split at h <;> cases h
    rename_i p q _ hp hq
    exact detC_C (G2 := fun e dl s _ b _ => b e dl s) (G3 := fun i e dl s _ _ c => c i e dl s) (ccode1_det hd a hp hΓ) (fun e dl s => ccode1_det hd b hq hΓ) (fun e dl s => detC_r e dl s) (fun i e dl s => detC_x i e dl s)
  | .cond c a b, f, Γ, e, dl, s, h, hΓ => by
    simp only [ccode1] at h
    split at h <;> cases h
    rename_i g p q hg hp hq
    refine detC_oB fun v => ?_
    cases v <;> first | exact detC_no | skip
    rename_i x
    cases x
    · exact ccode1_det hd b hq hΓ
    · exact ccode1_det hd a hp hΓ
  | .block id c, f, Γ, e, dl, s, h, hΓ => by
    simp only [ccode1] at h
    split at h <;> cases h
    rename_i p hp
    refine detC_C (G1 := fun e dl s a _ _ => a e dl s) (G2 := fun e dl s _ b _ => b e dl s) (G3 := fun i e dl s a _ c => Bool.rec (motive := fun _ => Bool) (c i e dl s) (a e dl s) (Nat.beq i id)) (ccode1_det hd c hp hΓ) (fun e dl s => detC_n e dl s) (fun e dl s => detC_r e dl s) (fun i e dl s => ?_)
    cases Nat.beq i id
    · exact detC_x _ _ _ _
    · exact detC_n _ _ _
  | .scope c, f, Γ, e, dl, s, h, hΓ => by
    simp only [ccode1] at h
    exact ccode1_det hd c h hΓ
  | .loop c, f, Γ, e, dl, s, h, hΓ => by
    simp only [ccode1] at h
    split at h
    · split at h
      · rename_i fT hT; exact csearch_det hd hT h hΓ
      · cases h
    · exact ccode_det hd (.loop c) h hΓ
theorem ccode1_ok {n D N : Nat} {T : List (Nat × List Nat)} {call : XCall} (hc : CallOk cx w0 call) (hd : CallDet call) : ∀ (c : Code) {f : XCd} {Γ : XG} {v : Vl} {s : XSt} {w : World} {e : ET} {E : Env} {dl dlw : List Nat} {Kn Kr : Kn_} {Kx : Kx_} {KC : KC}, ccode1 cx n D N T c = .mk f → GaDet Γ → Cxt cx w0 v → Rep w0 v s w → RE v D e E → GaOk cx w0 v Γ → DlR v dl dlw → f call Γ e dl s Kn Kr Kx = true →
    AfterC cx w0 D v dl dlw (noRF c) Kn Kr Kx KC → sCode cx.P N T c E dlw KC w
  | .skip, f, Γ, v, s, w, e, E, dl, dlw, Kn, Kr, Kx, KC, h, hΓ, C, H, r, G, d, hk, A => ccode_ok hc hd .skip h hΓ C H r G d hk A
  | .label l, f, Γ, v, s, w, e, E, dl, dlw, Kn, Kr, Kx, KC, h, hΓ, C, H, r, G, d, hk, A => ccode_ok hc hd (.label l) h hΓ C H r G d hk A
  | .exit id, f, Γ, v, s, w, e, E, dl, dlw, Kn, Kr, Kx, KC, h, hΓ, C, H, r, G, d, hk, A => ccode_ok hc hd (.exit id) h hΓ C H r G d hk A
  | .ret, f, Γ, v, s, w, e, E, dl, dlw, Kn, Kr, Kx, KC, h, hΓ, C, H, r, G, d, hk, A => ccode_ok hc hd .ret h hΓ C H r G d hk A
  | .goto l, f, Γ, v, s, w, e, E, dl, dlw, Kn, Kr, Kx, KC, h, hΓ, C, H, r, G, d, hk, A => ccode_ok hc hd (.goto l) h hΓ C H r G d hk A
  | .refuse l, f, Γ, v, s, w, e, E, dl, dlw, Kn, Kr, Kx, KC, h, hΓ, C, H, r, G, d, hk, A => ccode_ok hc hd (.refuse l) h hΓ C H r G d hk A
  | .region id ops draw, f, Γ, v, s, w, e, E, dl, dlw, Kn, Kr, Kx, KC, h, hΓ, C, H, r, G, d, hk, A => ccode_ok hc hd (.region id ops draw) h hΓ C H r G d hk A
  | .rangeFunc g ps asg body, f, Γ, v, s, w, e, E, dl, dlw, Kn, Kr, Kx, KC, h, hΓ, C, H, r, G, d, hk, A => ccode_ok hc hd (.rangeFunc g ps asg body) h hΓ C H r G d hk A
  | .seq a b, f, Γ, v, s, w, e, E, dl, dlw, Kn, Kr, Kx, KC, h, hΓ, C, H, r, G, d, hk, A => by
    simp only [ccode1] at h
    split at h <;> cases h
    rename_i p q hl hp hq
    have fl : noRF (.seq a b) = true → noRF a = true ∧ noRF b = true := fun h => by simpa [noRF] using h
    simp only [sCode, hl]
    refine ccode1_ok hc hd a hp hΓ C H r G d hk ⟨fun v' s' w' e' E' dl' dlw' h1 h2 h3 h4 h5 h6 => ?_, fun v' s' w' e' E' dl' dlw' h1 h2 h3 h4 h5 h6 => A.r v' s' w' e' E' dl' dlw' h1 h2 h3 h4 (fun g => h5 (fl g).1) h6, fun id v' s' w' e' E' dl' dlw' h1 h2 h3 h4 h5 h6 => A.x id v' s' w' e' E' dl' dlw' h1 h2 h3 h4 (fun g => h5 (fl g).1) h6⟩
    have comp : ∀ {dl2 dlw2 : List Nat}, (noRF b = true → dl2 = dl' ∧ dlw2 = dlw') → (noRF (.seq a b) = true → dl2 = dl ∧ dlw2 = dlw) := fun k g => by
      obtain ⟨e1, e2⟩ := h5 (fl g).1
      obtain ⟨e3, e4⟩ := k (fl g).2
      exact ⟨e3.trans e1, e4.trans e2⟩
    exact ccode1_ok hc hd b hq hΓ (C.mono h1) h2 h3 (G.mono h1) h4 h6 ⟨fun v2 s2 w2 e2 E2 dl2 dlw2 g1 g2 g3 g4 g5 g6 => A.n v2 s2 w2 e2 E2 dl2 dlw2 (h1.trans g1) g2 g3 g4 (comp g5) g6, fun v2 s2 w2 e2 E2 dl2 dlw2 g1 g2 g3 g4 g5 g6 => A.r v2 s2 w2 e2 E2 dl2 dlw2 (h1.trans g1) g2 g3 g4 (comp g5) g6, fun id v2 s2 w2 e2 E2 dl2 dlw2 g1 g2 g3 g4 g5 g6 => A.x id v2 s2 w2 e2 E2 dl2 dlw2 (h1.trans g1) g2 g3 g4 (comp g5) g6⟩
  | .cond c a b, f, Γ, v, s, w, e, E, dl, dlw, Kn, Kr, Kx, KC, h, hΓ, C, H, r, G, d, hk, A => by
    simp only [ccode1] at h
    split at h <;> cases h
    rename_i g p q hg hp hq
    have fl : noRF (.cond c a b) = true → noRF a = true ∧ noRF b = true := fun h => by simpa [noRF] using h
    obtain ⟨x, hx, hk1⟩ := oB_out hk
    split at hk1
    · rename_i t
      obtain ⟨h1, h2, r'⟩ := r.litE hg hx
      simp only [sCode, h1, h2]
      cases t
      · exact ccode1_ok hc hd b hq hΓ C H r' G d hk1 ⟨fun v' s' w' e' E' dl' dlw' h1 h2 h3 h4 h5 h6 => A.n v' s' w' e' E' dl' dlw' h1 h2 h3 h4 (fun g => h5 (fl g).2) h6, fun v' s' w' e' E' dl' dlw' h1 h2 h3 h4 h5 h6 => A.r v' s' w' e' E' dl' dlw' h1 h2 h3 h4 (fun g => h5 (fl g).2) h6, fun id v' s' w' e' E' dl' dlw' h1 h2 h3 h4 h5 h6 => A.x id v' s' w' e' E' dl' dlw' h1 h2 h3 h4 (fun g => h5 (fl g).2) h6⟩
      · exact ccode1_ok hc hd a hp hΓ C H r' G d hk1 ⟨fun v' s' w' e' E' dl' dlw' h1 h2 h3 h4 h5 h6 => A.n v' s' w' e' E' dl' dlw' h1 h2 h3 h4 (fun g => h5 (fl g).1) h6, fun v' s' w' e' E' dl' dlw' h1 h2 h3 h4 h5 h6 => A.r v' s' w' e' E' dl' dlw' h1 h2 h3 h4 (fun g => h5 (fl g).1) h6, fun id v' s' w' e' E' dl' dlw' h1 h2 h3 h4 h5 h6 => A.x id v' s' w' e' E' dl' dlw' h1 h2 h3 h4 (fun g => h5 (fl g).1) h6⟩
    · cases hk1
  | .block id c, f, Γ, v, s, w, e, E, dl, dlw, Kn, Kr, Kx, KC, h, hΓ, C, H, r, G, d, hk, A => by
    simp only [ccode1] at h
    split at h <;> cases h
    rename_i p hp
    simp only [sCode]
    refine ccode1_ok hc hd c hp hΓ C H r G d hk ⟨fun v' s' w' e' E' dl' dlw' h1 h2 h3 h4 h5 h6 => A.n v' s' w' e' E' dl' dlw' h1 h2 h3 h4 h5 h6, fun v' s' w' e' E' dl' dlw' h1 h2 h3 h4 h5 h6 => A.r v' s' w' e' E' dl' dlw' h1 h2 h3 h4 h5 h6, fun i v' s' w' e' E' dl' dlw' h1 h2 h3 h4 h5 h6 => ?_⟩
    simp only
    cases hb : Nat.beq i id with
    | false => rw [hb] at h6; exact A.x i v' s' w' e' E' dl' dlw' h1 h2 h3 h4 h5 h6
    | true => rw [hb] at h6; exact A.n v' s' w' e' E' dl' dlw' h1 h2 h3 h4 h5 h6
  | .scope c, f, Γ, v, s, w, e, E, dl, dlw, Kn, Kr, Kx, KC, h, hΓ, C, H, r, G, d, hk, A => by
    simp only [ccode1] at h
    simp only [sCode]
    exact ccode1_ok hc hd c h hΓ C H r G d hk ⟨A.n, A.r, A.x⟩
  | .loop c, f, Γ, v, s, w, e, E, dl, dlw, Kn, Kr, Kx, KC, h, hΓ, C, H, r, G, d, hk, A => by
    simp only [ccode1] at h
    split at h
    · rename_i S hl hS hn hj
      split at h
      · rename_i fT hT; exact csearch_ok hc hd hS hn hj hT h hΓ C H r G d hk A
      · cases h
    · exact ccode_ok hc hd (.loop c) h hΓ C H r G d hk A
end
end Go.Sh
