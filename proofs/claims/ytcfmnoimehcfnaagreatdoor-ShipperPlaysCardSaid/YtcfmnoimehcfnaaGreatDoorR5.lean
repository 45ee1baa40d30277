/- What law21's ShipperPlays computes: true. Conditions: none. -/
import Derived.Test.YtcfmnoimehcfnaaGreatDoorR4
import Derived.Test.YtcfmnoimehcfnaaGreatDoorGa
import Derived.Test.YtcfmnoimehcfnaaGreatDoorFLs
set_option linter.unusedVariables false
set_option linter.unusedSimpArgs false
set_option maxRecDepth 100000
namespace Go.Proofs.YtcfmnoimehcfnaaGreatDoor
open Go Go.Sh

theorem SlI.nil {S : World → Prop} : Sl S none 0 7 (([] : List Int).map I) := Sl.nil
section
variable {w0 w : World} {hs R : List Hp} {K : KV}
theorem handleP_c {N : Nd} {es : List Pk} {d : Bool} {kind frm to id st a b : Int} (T : Tab w0) (H : Sh.Holds w0 hs w) [D : Del hs N.hp R] (I0 : NdIs N es d)
    (k0 : (ansP es N.J.room d kind frm to id a b).2 = false → ∀ (N' : Nd) w', NdIs N' (ansP es N.J.room d kind frm to id a b).1 d → N'.n = N.n → N'.J.room = N.J.room → Sh.Holds w0 (N'.hp :: R) w' → K (.slice none 0 0) w')
    (k1 : (ansP es N.J.room d kind frm to id a b).2 = true → ∀ (q : Nat) (N' : Nd) w', NdIs N' (ansP es N.J.room d kind frm to id a b).1 d → N'.n = N.n → N'.J.room = N.J.room → Sh.Holds w0 ([(q, .cells #[I 16, I 3, I 0, I id, I 0, I 0, I 0] 35 (0, 0))] :: N'.hp :: R) w' → K (.slice (some ⟨q, 0, none⟩) 1 1) w') :
    gocall Tryz.prog 32 [N.v, msgV kind frm to id st a b] K w := by
  replace H := H.get N.hp
  cases d with
  | true =>
    apply F32_go; unfold F32
    refine nw_h H (fun k8 w H => ?_)
    refine br_f rfl ?_
    refine downN_c (N := N) 1 H rfl (fun w H => ?_)
    refine asBoo_h ?_
    rw [I0.dn]
    refine br_t rfl ?_
    have e : ansP es N.J.room true kind frm to id a b = (es, false) := by unfold ansP; rw [if_pos (by simp)]
    rw [e] at k0
    exact k0 rfl N w I0 rfl rfl H.tail
  | false =>
  have hl : N.B.l = es := by have := I0.l; simpa using this
  have hlen := I0.pk.len
  have hlin : lineE sentB id [a, b] = LB (Pk.en ⟨id, a, b⟩) := lineE_B (Pk.en ⟨id, a, b⟩)
  have hfa : decide (0 ≤ idx (hasId id) N.B.l) = anyId es id := by rw [hl]; exact idx_any_id
  -- the plain answer
  have key : (toB kind frm to && shipsB N id a b) = (ansP es N.J.room false kind frm to id a b).2 ∧ (toB kind frm to && goB N id a b) = ((ansP es N.J.room false kind frm to id a b).2 && !anyId es id) ∧ (((ansP es N.J.room false kind frm to id a b).2 && !anyId es id) = false → (ansP es N.J.room false kind frm to id a b).1 = es) ∧ (((ansP es N.J.room false kind frm to id a b).2 && !anyId es id) = true → okM id a b ∧ (ansP es N.J.room false kind frm to id a b).1 = es ++ [⟨id, a, b⟩]) := by
    unfold shipsB goB
    rw [hfa]
    unfold ansP
    by_cases ht : toB kind frm to = true
    · by_cases hm : okM id a b
      · rw [ship_ok hm]
        by_cases ha : anyId es id = true
        · simp [ht, hm, ha]
        · have ha : anyId es id = false := by simpa using ha
          by_cases hr : (es.length : Int) < N.J.room
          · rw [add_ok hm I0.dn (by rw [I0.n]; exact hr)]
            simp [ht, hm, ha, hr]
          · rw [add_full hm I0.dn (by rw [I0.n]; omega)]
            simp [ht, hm, ha, hr]
      · rw [ship_bad hm]
        simp [ht, hm]
    · simp [ht]
  obtain ⟨e1, e2, e3, e4⟩ := key
  have fin : ∀ {g : Bool} {N' : Nd}, N'.Ok → NdTo g N N' id a b → g = ((ansP es N.J.room false kind frm to id a b).2 && !anyId es id) → NdIs N' (ansP es N.J.room false kind frm to id a b).1 false := by
    intro g N' okN D hg
    cases hgv : ((ansP es N.J.room false kind frm to id a b).2 && !anyId es id) with
    | false =>
      rw [hgv] at hg; subst hg
      rw [e3 hgv]
      exact ⟨okN, by rw [D.lines]; simpa using I0.lines, I0.pk, by rw [D.sure]; simpa using I0.sure, by rw [D.down]; exact I0.dn, by rw [D.l]; simpa using hl⟩
    | true =>
      rw [hgv] at hg; subst hg
      obtain ⟨hm, e5⟩ := e4 hgv
      rw [e5]
      have hno : anyId es id = false := by simp at hgv; exact hgv.2
      exact ⟨okN, by rw [D.lines, if_pos rfl, hlin, I0.lines]; simp, I0.pk.add hm hno, by rw [D.sure, if_pos rfl, I0.n]; simp, by rw [D.down]; exact I0.dn, by rw [D.l, if_pos rfl, hl]; simp⟩
  refine handle_c (N := N) T 0 H rfl I0.ok (by rw [hl]; omega) I0.dn (fun h N' w okN D H => ?_) (fun h q N' w okN D H => ?_)
  · rw [e1] at h
    exact k0 h N' w (fin okN D e2) D.n D.room H
  · rw [e1] at h
    have ht : toB kind frm to = true := by
      rw [← e1] at h
      simp at h; exact h.1
    rw [ht, Bool.true_and] at e2
    exact k1 h q N' w (fin okN D e2) D.n D.room H
/-- the two shippers, of one state -/
def OnS (w0 : World) (n m : Nat) (hs : List Hp) (w : World) : Prop := ∃ (N : Nd) (M : Rn) (es : List Pk) (d : Bool), NdIs N es d ∧ RnIs M es d ∧ N.n = n ∧ M.n = m ∧ M.J.room = N.J.room ∧ Sh.Holds w0 (N.hp :: M.hp :: hs) w
theorem new_nd {N : Nd} (ok : N.Ok) (h1 : N.J.lines = []) (h2 : N.J.sure = 0) (h3 : N.J.down = false) (h4 : N.B.l = []) : NdIs N [] false :=
  ⟨ok, by rw [h1]; rfl, ⟨by simp, by simp⟩, by rw [h2]; rfl, h3, by simpa using h4⟩
set_option maxHeartbeats 4000000 in
theorem ShipperPlays_c {p : Option Addr} {n c : Nat} {ms : List Int} {x : Int} (E : Errs w0) (T : Tab w0) (H : Sh.Holds w0 hs w) (hsl : Sl (Sh.Holds w0 hs) p n 10 (ms.map I)) (k : ∀ w', Sh.Holds w0 hs w' → K (.bool true) w') : gocall Tryz.prog 5 [I x, .slice p n c] K w := by
  apply F5_go; unfold F5
  refine newN_c H (fun N w ok l0 s0 d0 r0 b0 H => ?_)
  refine asPtr_h ?_
  refine newRs_c H (fun M w IM rM H => ?_)
  refine asPtr_h ?_
  have O0 : OnS w0 N.n M.n hs w := ⟨N, M, [], false, new_nd ok l0 s0 d0 b0, IM, rfl, rfl, by rw [rM, r0], Holds.re H⟩
  clear H IM rM ok l0 s0 d0 r0 b0
  generalize N.n = nn at O0 ⊢
  generalize M.n = mm at O0 ⊢
  refine ⟨fun _ w => OnS w0 nn mm hs w, br_f rfl O0, ?_⟩
  clear O0
  intro _ w O0
  refine ⟨fun _ w => Sh.Holds w0 hs w, ?_, fun _ w H => awakeS_c T H (fun w H => by refine asBoo_h ?_; exact k _ H)⟩
  refine ⟨fun y w => OnS w0 nn mm hs w ∧ 0 ≤ y.1 ∧ y.1 ≤ 80, fun y _ => (80 - y.1).toNat, ⟨O0, by simp, by simp⟩, ?_⟩
  clear O0
  rintro ⟨i, u⟩ w ⟨⟨N, M, es, d, I0, IM, en, em, er, H⟩, h0, h1⟩
  simp only at h0 h1
  subst en em
  refine br_s (fun h2 => ?_) (fun h2 => ?_)
  · simp only [decide_eq_true_eq] at h2
    refine slAt_i hsl h0 h2 (fun bb o q hq hld => ?_)
    obtain ⟨m0, m1, m2, m3, m4, m5, m6, m7, m8, m9, rfl⟩ := ten hq
    have H' := H.tail.tail
    refine hld 0 m0 _ _ rfl H' ?_; refine asI_h ?_
    refine hld 1 m1 _ _ rfl H' ?_; refine asI_h ?_
    refine hld 2 m2 _ _ rfl H' ?_; refine asI_h ?_
    refine hld 3 m3 _ _ rfl H' ?_; refine asI_h ?_
    refine hld 4 m4 _ _ rfl H' ?_; refine asI_h ?_
    refine hld 5 m5 _ _ rfl H' ?_; refine asI_h ?_
    refine hld 6 m6 _ _ rfl H' ?_; refine asI_h ?_
    refine hld 7 m7 _ _ rfl H' ?_; refine asI_h ?_
    refine hld 8 m8 _ _ rfl H' ?_; refine asI_h ?_
    refine hld 9 m9 _ _ rfl H' ?_; refine asI_h ?_
    clear H'
    refine nw_h H (fun k9 w H => ?_)
    iterate 10 refine stA H rfl (fun w H => ?_)
    refine ⟨fun _ w => i < 80 ∧ Sh.Holds w0 ([(k9, .cells #[I m0, I m1, I m2, I m3, I m4, I m5, I m6, I m7, I m8, I m9] 50 (0, 0))] :: N.hp :: M.hp :: hs) w, br_s (fun h3 => H.tail.tail.tail) (fun h3 => ⟨by have := of_decide_eq_false h3; omega, H⟩), ?_⟩
    clear H
    rintro _ w ⟨h3, H⟩
    refine ⟨fun y w => y.1 = true ∧ ∃ (N' : Nd) (M' : Rn) (es : List Pk) (d : Bool), NdIs N' es d ∧ RnIs M' es d ∧ N'.n = N.n ∧ M'.n = M.n ∧ M'.J.room = N'.J.room ∧ Sh.Holds w0 ([(k9, .cells #[I m0, I m1, I m2, I m3, I m4, I m5, I m6, I m7, I m8, I m9] 50 (0, 0))] :: N'.hp :: M'.hp :: hs) w, ?_, ?_⟩
    · refine ldA H ?_; refine asI_h ?_
      refine br_s (fun h4 => ?_) (fun h4 => ?_)
      · refine ldA H ?_; refine asI_h ?_
        refine ldA H ?_; refine asI_h ?_
        refine crashN_c H I0 (fun N1 w I1 n1 r1 H => ?_)
        refine asT_e [] rfl rfl ?_
        refine ldA H ?_; refine asI_h ?_
        refine ldA H ?_; refine asI_h ?_
        refine crashRs_c H IM (fun M1 w J1 n2 r2 H => ?_)
        refine asT_e [] rfl rfl ?_
        exact ⟨rfl, N1, M1, es, true, I1, J1, n1, n2, by rw [r2, r1, er], Holds.re H⟩
      · refine br_s (fun h5 => ?_) (fun h5 => ?_)
        · refine startN_c E T H I0 (fun N1 w I1 n1 r1 H => ?_)
          refine asT_e [] rfl rfl ?_
          refine startRs_c T H IM (fun M1 w J1 n2 r2 H => ?_)
          refine asT_e [] rfl rfl ?_
          exact ⟨rfl, N1, M1, es, false, I1, J1, n1, n2, by rw [r2, r1, er], Holds.re H⟩
        · replace H := H.drew
          refine keepsA [[(k9, .cells #[I m0, I m1, I m2, I m3, I m4, I m5, I m6, I m7, I m8, I m9] 50 (0, 0))]] H ?_
          iterate 14 (refine ldSA ?_; refine asI_h ?_)
          refine handleP_c (N := N) (es := es) (d := d) (st := m7) T H I0 (fun e N1 w I1 n1 r1 H => ?_) (fun e q1 N1 w I1 n1 r1 H => ?_)
          · refine asSl_h ?_
            refine kpA H ?_
            rw [← er] at e I1
            refine handleRs_c (M := M) (es := es) (d := d) (st := m7) T H IM (fun e' M1 w J1 n2 r2 H => ?_) (fun e' => by rw [e'] at e; cases e)
            refine asSl_h ?_
            refine kpA H ?_
            refine SameMsgs_c H SlI.nil SlI.nil (by simp) (fun w H => ?_)
            refine asBoo_h ?_
            refine kpA H ?_
            exact ⟨by simp [eqB], N1, M1, _, d, I1, J1, n1, n2, by rw [r2, r1, er], Holds.re H⟩
          · refine asSl_h ?_
            refine kpA H ?_
            rw [← er] at e I1
            refine handleRs_c (M := M) (es := es) (d := d) (st := m7) T H IM (fun e' => by rw [e'] at e; cases e) (fun e' q2 M1 w J1 n2 r2 H => ?_)
            refine asSl_h ?_
            refine kpA H ?_
            refine SameMsgs_c (l := [16, 3, 0, m6, 0, 0, 0]) (m := [16, 3, 0, m6, 0, 0, 0]) H (Sl.block (vals := [I 16, I 3, I 0, I m6, I 0, I 0, I 0]) 2 rfl rfl) (Sl.block (vals := [I 16, I 3, I 0, I m6, I 0, I 0, I 0]) 0 rfl rfl) (by simp) (fun w H => ?_)
            refine asBoo_h ?_
            refine kpA H ?_
            exact ⟨by simp [eqB], N1, M1, _, d, I1, J1, n1, n2, by rw [r2, r1, er], Holds.re H⟩
    · clear H I0 IM er
      rintro ⟨b, u⟩ w ⟨hb, N1, M1, es, d, I1, J1, n1, n2, er, H⟩
      simp only at hb
      subst hb
      rw [← n1, ← n2]
      have H1 : Sh.Holds w0 ([(M1.J.j, .cells #[I M1.J.room, M1.J.r.v, I M1.J.sure, .bool M1.J.down] 64 (0, 0))] :: M1.J.r.hp 9 :: [(M1.n, .cells #[M1.J.v, M1.B.v] 61 (0, 0))] :: M1.B.hp :: [(k9, .cells #[I m0, I m1, I m2, I m3, I m4, I m5, I m6, I m7, I m8, I m9] 50 (0, 0))] :: N1.hp :: hs) w := by
        have := openR (H.get M1.hp)
        exact openJ (this.get M1.J.hp)
      clear H
      have H := H1.drew
      clear H1
      refine keepsA [[(k9, .cells #[I m0, I m1, I m2, I m3, I m4, I m5, I m6, I m7, I m8, I m9] 50 (0, 0))], [(M1.n, .cells #[M1.J.v, M1.B.v] 61 (0, 0))], [(M1.J.j, .cells #[I M1.J.room, M1.J.r.v, I M1.J.sure, .bool M1.J.down] 64 (0, 0))]] H ?_
      have hlN : N1.B.l = if d = true then [] else es := I1.l
      have hlM : M1.B.l = N1.B.l := by rw [J1.l, hlN]
      have hq : ∀ p ∈ N1.B.l, okPk p := fun y hy => by
        rw [hlN] at hy
        split at hy
        · simp at hy
        · have := I1.pk.ok y hy; unfold okM at this; unfold okPk; omega
      have hsm := J1.small
      refine br_f rfl ?_
      refine parcels_c (N := N1) 5 H rfl (fun w H => ?_)
      refine asPtr_h ?_
      refine kpA H ?_
      refine br_f rfl ?_
      refine nn_h ?_
      refine ldSA ?_; refine asPtr_h ?_
      refine parcels_c (N := N1) 5 H rfl (fun w H => ?_)
      refine asPtr_h ?_
      refine kpA H ?_
      refine idsN_c (N := N1) 5 H rfl I1.ok (fun r1 w g1 g2 H => ?_)
      refine asSl_h ?_
      refine kpA H ?_
      refine idsR_c (B := M1.B) H J1.b (by omega) (fun r2 w g3 g4 H => ?_)
      refine asSl_h ?_
      refine kpA H ?_
      rw [hlM] at g3
      refine SameInts_c (l := N1.B.l.map (·.id)) (m := N1.B.l.map (·.id)) H (Sl.row 2 rfl (by rw [List.map_map]; exact g1)) (Sl.row 0 rfl (by rw [List.map_map]; exact g3)) (by rw [List.length_map, ← hlM]; omega) (fun w H => ?_)
      refine asBoo_h ?_
      refine kpA H ?_
      refine br_f (by simp [eqB]) ?_
      refine ldSA ?_; refine asI_h ?_
      refine nn_h ?_
      refine ldSA ?_; refine asPtr_h ?_
      refine ldSA ?_; refine asI_h ?_
      replace H : Sh.Holds w0 (N1.hp :: M1.B.hp :: [(M1.J.j, .cells #[I M1.J.room, M1.J.r.v, I M1.J.sure, .bool M1.J.down] 64 (0, 0))] :: [(M1.n, .cells #[M1.J.v, M1.B.v] 61 (0, 0))] :: M1.J.r.hp 9 :: [(k9, .cells #[I m0, I m1, I m2, I m3, I m4, I m5, I m6, I m7, I m8, I m9] 50 (0, 0))] :: hs) w := Holds.re H
      refine parcels_c (N := N1) 0 H rfl (fun w H => ?_)
      refine asPtr_h ?_
      refine kpA H ?_
      refine wentN_c (N := N1) 0 H rfl I1.ok hq (fun w H => ?_)
      refine asI_h ?_
      refine kpA H ?_
      refine wentR_c (B := M1.B) H J1.b (by omega) (by rw [hlM]; exact hq) (fun w H => ?_)
      refine asI_h ?_
      refine kpA H ?_
      rw [hlM]
      refine br_f (by simp) ?_
      refine nn_h ?_
      refine ldSA ?_; refine asPtr_h ?_
      refine nn_h ?_
      refine ldSA ?_; refine asBoo_h ?_
      refine downN_c (N := N1) 1 H rfl (fun w H => ?_)
      refine asBoo_h ?_
      refine kpA H ?_
      refine br_f (by rw [I1.dn, J1.dn]; cases d <;> rfl) ?_
      have w1 : IntKind.wrap .i64 (i + 1) = i + 1 := wrap64 (by omega) (by omega)
      simp only [w1]
      refine ⟨⟨⟨N1, M1, es, d, I1, J1, rfl, rfl, er, ?_⟩, by omega, by omega⟩, by omega⟩
      replace H : Sh.Holds w0 ([(M1.J.j, .cells #[I M1.J.room, M1.J.r.v, I M1.J.sure, .bool M1.J.down] 64 (0, 0))] :: M1.J.r.hp 9 :: [(M1.n, .cells #[M1.J.v, M1.B.v] 61 (0, 0))] :: M1.B.hp :: N1.hp :: hs) w := Holds.re H
      have H2 := shutJ H
      exact Holds.bring 1 (shutR (Holds.bring 1 H2 rfl)) rfl
  · exact H.tail.tail
end
end Go.Proofs.YtcfmnoimehcfnaaGreatDoor
