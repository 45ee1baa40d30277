/- The chief: a start. Conditions: none. -/
import Derived.Test.YtcfmnoimehcfnaaGreatDoorX29
set_option linter.unusedVariables false
set_option linter.unusedSimpArgs false
set_option maxRecDepth 100000
namespace Go.Proofs.YtcfmnoimehcfnaaGreatDoor
open Go Go.Sh
theorem startStep_some {P : CP} {s : CS} {id i : Int} (h : (s.L i).isSome = true) : ((startStep P s id).L i).isSome = true := by
  unfold startStep
  cases hL : s.L id with
  | none => exact h
  | some x =>
    simp only
    have h1 : ∀ s1 : CS, (s1.L i).isSome = true → (s1.L id).isSome = true → (((suresC P s1 [⟨7, id, []⟩]).getD s1).L i).isSome = true := fun s1 h1 h2 => by
      cases hN : suresC P s1 [⟨7, id, []⟩] with
      | none => exact h1
      | some s2 =>
        show (s2.L i).isSome = true
        rw [sures_L hN]
        show (playC s1.L ⟨7, id, []⟩ i).isSome = true
        unfold playC
        rw [if_neg (by simp)]
        cases hx : s1.L id with
        | none => rw [hx] at h2; cases h2
        | some y =>
          simp only [updI]
          split
          · rfl
          · exact h1
    have hid : (s.L id).isSome = true := by rw [hL]; rfl
    by_cases ho : overF x.o x.f = true
    · rw [if_pos ho]
      split
      · exact h1 s h hid
      · exact h
    · rw [if_neg ho]
      split
      · exact h1 (hangC P s id) h hid
      · exact h
section
variable {w0 w : World} {hs R : List Hp} {K : KV}
set_option maxHeartbeats 4000000 in
theorem startCh_c {S : Ch} {P : CP} {es : List CE} (E : Errs w0) (T : Tab w0) (H : Sh.Holds w0 hs w) [D : Del hs S.hp R] (I0 : ChDn S P es)
    (k : ∀ (S' : Ch) w', ChIs S' P (startC P es) → S'.n = S.n → Sh.Holds w0 (S'.hp :: R) w' → K (.tuple #[]) w') : gocall Tryz.prog 80 [S.v] K w := by
  replace H := H.get S.hp
  apply F80_go; unfold F80
  refine nw_h H (fun k1 w H => ?_)
  refine ldA H ?_; refine asPtr_h ?_
  refine br_f rfl ?_
  refine ldA H ?_; refine asPtr_h ?_
  refine downC_c (S := S) H (fun w H => ?_)
  refine asBoo_h ?_
  rw [I0.dn]
  refine br_f rfl ?_
  replace H : Sh.Holds w0 (S.hp :: [(k1, .cells #[S.v] 28 (0, 0))] :: R) w := Holds.re H
  replace H := openC H
  refine ldA H ?_; refine asPtr_h ?_
  refine nn_h ?_
  refine ldA H ?_; refine asPtr_h ?_
  have hlen := I0.len
  have hroom := I0.room.2
  have hg := I0.good
  have hgl := good_len hg
  simp only [List.length_map] at hgl
  refine Recover_c (J := S.J) 1 E T H rfl I0.ok.j I0.size (by have := I0.lenL; omega) (fun J w hJ okJ H => ?_)
  rw [I0.dn, if_pos rfl, hg] at hJ
  refine asI_h ?_
  have ev : S.J.v = J.v := by rw [hJ]
  have hX := I0.X
  replace H : Sh.Holds w0 ([(S.n, .cells #[I S.most, I S.room, I S.tr, S.J.v, I S.used, .map (some S.m), S.T.v] 136 (0, 0))] :: J.hp :: [(S.m, mapG S.l S.c)] :: S.T.hp :: ledsH S.X :: [(k1, .cells #[S.v] 28 (0, 0))] :: R) w := H
  rw [ev] at H
  refine ldA H ?_; refine asPtr_h ?_
  refine forget_c H (fun m0 T0 w okT0 t1 t2 H => ?_)
  refine asT_e [] rfl rfl ?_
  replace H : Sh.Holds w0 ([(S.n, .cells #[I S.most, I S.room, I S.tr, J.v, I 0, .map (some m0), T0.v] 136 (0, 0))] :: J.hp :: [(m0, mapG [] 0)] :: T0.hp :: [] :: [(k1, .cells #[S.v] 28 (0, 0))] :: R) w := Holds.re (Holds.nil H)
  obtain ⟨S1, hS1⟩ : ∃ S1 : Ch, S1 = ⟨S.n, S.most, S.room, S.tr, J, 0, m0, [], 0, T0, []⟩ := ⟨_, rfl⟩
  have ok1 : S1.Ok := by rw [hS1]; exact ⟨okJ, .nil 0, okT0, fun c hc => (by simp at hc), fun id => rfl, fun id h => (by cases h), by show (0 : Int) ≤ 0 ∧ (0 : Int) ≤ 4096; omega⟩
  refine ldA H ?_; refine asPtr_h ?_
  refine nn_h ?_
  refine ldA H ?_; refine asPtr_h ?_
  apply F124_go; unfold F124
  refine nw_h H (fun kb w H => ?_)
  refine asFn_h ?_
  refine rfn_h H (fun D l Rt w hround H => ?_)
  have l1 : J.lines = (es.map CE.en).map LB := by rw [hJ]
  have g1' : goodL J.lines = (es.map CE.en).map LB := by rw [l1]; exact good_ents I0.wf.may
  obtain ⟨cell, hcell⟩ : ∃ cell : Ch → List Hp, cell = fun S' => [(l, Rt .ready none)] :: [(D, .deferred (some []))] :: [(k1, .cells #[S.v] 28 (0, 0))] :: [(S'.n, .cells #[I S'.most, I S'.room, I S'.tr, S'.J.v, I S'.used, .map (some S'.m), S'.T.v] 136 (0, 0))] :: S'.J.hp :: [(S'.m, mapG S'.l S'.c)] :: S'.T.hp :: ledsH S'.X :: R := ⟨_, rfl⟩
  obtain ⟨C, hC⟩ : ∃ C : Nat → List Hp → Prop, C = fun (n : Nat) (cs : List Hp) => ∃ (S' : Ch), S'.n = S.n ∧ S'.most = S.most ∧ S'.room = S.room ∧ S'.tr = S.tr ∧ S'.J = J ∧ S'.T = T0 ∧ S'.Ok ∧ S'.used = n ∧ S'.L = runC (es.take n) ∧ (∀ x ∈ J.lines.take n, okS x = true) ∧ cs = cell S' := ⟨_, rfl⟩
  have H2 : Sh.Holds w0 (cell S1 ++ [[(kb, .cells #[J.v] 131 (0, 0))]]) w := by
    rw [hcell, hS1]
    have H3 : Sh.Holds w0 ([(kb, .cells #[J.v] 131 (0, 0))] :: ([(l, Rt .ready none)] :: [(D, .deferred (some []))] :: [(k1, .cells #[S.v] 28 (0, 0))] :: [(S.n, .cells #[I S.most, I S.room, I S.tr, J.v, I 0, .map (some m0), T0.v] 136 (0, 0))] :: J.hp :: [(m0, mapG [] 0)] :: T0.hp :: [] :: R)) w := H.re
    exact Holds.swap (a := [[(kb, .cells #[J.v] 131 (0, 0))]]) H3
  refine all_c (J := J) (ij := 4) C (fun _ => False) E T (by rw [l1]; exact LB_size I0.wf.may) (by rw [l1]; simp; omega) okJ H2 (by rw [hcell, hS1]; rfl) ?_ ?_ (fun cs w hc H => ?_) (fun _ _ h => h.elim)
  · rw [hC]
    refine ⟨S1, ?_⟩
    subst hS1
    exact ⟨rfl, rfl, rfl, rfl, rfl, rfl, ok1, rfl, rfl, by simp, rfl⟩
  · intro i s p n c cs fr K' w hgi h0 hc hsl H kt kf
    rw [hC] at hc
    obtain ⟨S', q1, q2, q3, q4, q5, q6, q7, q8, q9, q10, rfl⟩ := hc
    have hos := okS_iff h0
    have hen := ent_at I0.wf.may g1' q10 hgi hos
    rw [hcell] at H
    refine hround _ _ _ (H.mem 0 rfl) ?_
    refine asT_e [_] rfl rfl ?_
    refine asN_e [_, _, _] rfl rfl ?_
    refine asStr_e (b := B (parseE s.data.toList).2.k) rfl ?_
    refine asI_e (n := (parseE s.data.toList).2.id) rfl ?_
    refine asSl_e (a := p) (n := n) (c := c) rfl ?_
    refine nw3_h (k := (parseE s.data.toList).2.k) H (fun k58 w H => ?_)
    refine rfb_h 1 H rfl (fun w H => ?_)
    refine ld_h 3 H rfl rfl ?_
    refine asPtr_h ?_
    apply ld3_h 0 H rfl
    rw [List.getElem?_map] at hen
    obtain ⟨e, hes, hee⟩ := Option.map_eq_some_iff.1 hen
    have htk : es.take (i + 1) = es.take i ++ [e] := by rw [List.take_add_one, hes]; rfl
    have hil : i < es.length := (List.getElem?_eq_some_iff.1 hes).1
    rw [← hee] at hsl H ⊢
    have H4 : Sh.Holds w0 (S'.hp :: eHp k58 e.en.k e.en.id (.slice p n c) :: [(l, Rt .busy none)] :: [(D, .deferred (some []))] :: [(k1, .cells #[S.v] 28 (0, 0))] :: (R ++ fr)) w := by
      refine shutC ?_
      exact Holds.re (b := eHp k58 e.en.k e.en.id (.slice p n c) :: [(l, Rt .busy none)] :: [(D, .deferred (some []))] :: [(k1, .cells #[S.v] 28 (0, 0))] :: [(S'.n, .cells #[I S'.most, I S'.room, I S'.tr, S'.J.v, I S'.used, .map (some S'.m), S'.T.v] 136 (0, 0))] :: S'.J.hp :: [(S'.m, mapG S'.l S'.c)] :: S'.T.hp :: ledsH S'.X :: (R ++ fr)) H
    have hsl4 : Sl (Sh.Holds w0 (eHp k58 e.en.k e.en.id (.slice p n c) :: [(l, Rt .busy none)] :: [(D, .deferred (some []))] :: [(k1, .cells #[S.v] 28 (0, 0))] :: (R ++ fr))) p n 1 (e.ns.map I) := hsl.mono fun w H => Holds.right (a := R) H.tail.tail.tail.tail
    have hwf : okE S'.L e := by rw [q9]; exact I0.wf i e hes
    clear H
    have en : (.pointer (some ⟨S.n, 0, none⟩) : Value) = S'.v := by show _ = Value.pointer (some ⟨S'.n, 0, none⟩); rw [q1]
    show gocall _ _ [S.v, _] _ _
    rw [show S.v = S'.v from en]
    refine plays_c (S := S') (e := e) H4 q7 (by rw [q8]; omega) hwf hsl4 (fun S2 w o1 c1 u1 L1 H => ?_)
    refine asT_e [] rfl rfl ?_
    refine rfy_h 2 H rfl (fun w H => ?_)
    refine kt (cell S2) w ?_ ?_
    · rw [hC]
      refine ⟨S2, c1.n.trans q1, c1.most.trans q2, c1.room.trans q3, c1.tr.trans q4, c1.J.trans q5, c1.T.trans q6, o1, by rw [u1, q8]; rfl, by rw [L1, q9, htk, runC_add], fun x hx => ?_, rfl⟩
      rw [List.take_add_one, hgi] at hx
      rcases List.mem_append.1 hx with hx | hx
      · exact q10 x hx
      · simp only [Option.toList_some, List.mem_singleton] at hx
        subst hx; exact hos
    · rw [hcell]
      show Sh.Holds w0 ([(l, Rt .ready none)] :: [(D, .deferred (some []))] :: [(k1, .cells #[S.v] 28 (0, 0))] :: [(S2.n, .cells #[I S2.most, I S2.room, I S2.tr, S2.J.v, I S2.used, .map (some S2.m), S2.T.v] 136 (0, 0))] :: S2.J.hp :: [(S2.m, mapG S2.l S2.c)] :: S2.T.hp :: ledsH S2.X :: (R ++ fr)) w
      have H5 := openC H
      exact Holds.re (b := [(S2.n, .cells #[I S2.most, I S2.room, I S2.tr, S2.J.v, I S2.used, .map (some S2.m), S2.T.v] 136 (0, 0))] :: S2.J.hp :: [(S2.m, mapG S2.l S2.c)] :: S2.T.hp :: ledsH S2.X :: eHp k58 e.en.k e.en.id (.slice p n c) :: [(l, Rt .ready none)] :: [(D, .deferred (some []))] :: [(k1, .cells #[S.v] 28 (0, 0))] :: (R ++ fr)) H5
  · rw [hC] at hc
    obtain ⟨S', q1, q2, q3, q4, q5, q6, q7, q8, q9, q10, rfl⟩ := hc
    rw [hcell] at H
    refine rfe_h 0 (st := .ready) (pe := none) (by simp) H rfl (fun w H => ?_)
    unfold rfj
    simp only
    rw [g1', List.length_map, List.length_map] at q8 q9
    rw [List.take_length] at q9
    replace H : Sh.Holds w0 (S'.hp :: [(l, Rt .exhausted none)] :: [(D, .deferred (some []))] :: [(k1, .cells #[S.v] 28 (0, 0))] :: R) w := by
      refine shutC ?_
      have H9 : Sh.Holds w0 ([(l, Rt .exhausted none)] :: [(D, .deferred (some []))] :: [(k1, .cells #[S.v] 28 (0, 0))] :: [(S'.n, .cells #[I S'.most, I S'.room, I S'.tr, S'.J.v, I S'.used, .map (some S'.m), S'.T.v] 136 (0, 0))] :: S'.J.hp :: [(S'.m, mapG S'.l S'.c)] :: S'.T.hp :: ledsH S'.X :: R) w := H
      exact Holds.re H9
    obtain ⟨st, hst⟩ : ∃ st : CS, st = ⟨es, es.length, runC es, fun _ => none⟩ := ⟨_, rfl⟩
    have I1 : ChIs S' P st := by
      subst hst
      exact ⟨q7, by rw [q5]; exact l1, I0.wf, by rw [q5, hJ]; simp, Nat.le_refl _, by rw [q5, hJ], hlen, by rw [q8], by rw [q5, hJ]; exact I0.jroom, by rw [q3]; exact I0.room, by rw [q2]; exact I0.most, ⟨by rw [q6, t1]; exact I0.tries.2, by rw [q4]; exact I0.tries.2⟩, q9, by rw [q6, t2], fun _ => rfl⟩
    refine ld_h 3 H rfl rfl ?_
    refine asPtr_h ?_
    rw [← q1]
    refine IdsC_c H q7 (fun r k3 w okr H => ?_)
    rw [q9] at okr
    refine asFn_h ?_
    refine rfn_h H (fun D2 l2 Rt2 w hround2 H => ?_)
    obtain ⟨cell2, hcell2⟩ : ∃ cell2 : Ch → List Hp, cell2 = fun S2 => [(l2, Rt2 .ready none)] :: [(D2, .deferred (some []))] :: S2.hp :: [(l, Rt .exhausted none)] :: [(D, .deferred (some []))] :: [(k1, .cells #[S.v] 28 (0, 0))] :: R := ⟨_, rfl⟩
    obtain ⟨C2, hC2⟩ : ∃ C2 : Nat → List Hp → Prop, C2 = fun (q : Nat) (cs : List Hp) => ∃ (S2 : Ch), ChIs S2 P (((idsC (runC es)).take q).foldl (startStep P) st) ∧ S2.n = S.n ∧ cs = cell2 S2 := ⟨_, rfl⟩
    have hlen2 : (idsC (runC es)).length < 1000000 := by
      have := List.length_filter_le (fun i => ((runC es) i).isSome) allI
      have h2 : allI.length = 1000 := by simp [allI]
      unfold idsC; omega
    have H0 : Sh.Holds w0 (cell2 S' ++ [[(k3, .cells #[r.v] 56 (0, 0))], r.hp 3]) w := by
      rw [hcell2]
      have H9 : Sh.Holds w0 ([(k3, .cells #[r.v] 56 (0, 0))] :: r.hp 3 :: ([(l2, Rt2 .ready none)] :: [(D2, .deferred (some []))] :: S'.hp :: [(l, Rt .exhausted none)] :: [(D, .deferred (some []))] :: [(k1, .cells #[S.v] 28 (0, 0))] :: R)) w := Holds.re H
      exact Holds.swap (a := [[(k3, .cells #[r.v] 56 (0, 0))], r.hp 3]) H9
    refine vals_c (w0 := w0) (fr := [[(k3, .cells #[r.v] 56 (0, 0))], r.hp 3]) (cs0 := cell2 S') C2 (fun _ => False) okr hlen2 0 1 rfl rfl H0 ?_ ?_ (fun cs w hc H => ?_) (fun _ _ h => h.elim)
    · rw [hC2]; exact ⟨S', I1, q1, rfl⟩
    · intro q id cs fr K' w hid hc H kt kf
      rw [hC2] at hc
      obtain ⟨S2, I2, n2, rfl⟩ := hc
      rw [hcell2] at H
      have hat : id ∈ idsC (runC es) := List.mem_of_getElem? hid
      have htk : (idsC (runC es)).take (q + 1) = (idsC (runC es)).take q ++ [id] := by rw [List.take_add_one, hid]; rfl
      have hsome : (((((idsC (runC es)).take q).foldl (startStep P) st)).L id).isSome = true := by
        have h0 : (st.L id).isSome = true := by rw [hst]; exact (List.mem_filter.1 hat).2
        generalize (idsC (runC es)).take q = zs
        clear I2
        have : ∀ (zs : List Int) (s : CS), (s.L id).isSome = true → ((zs.foldl (startStep P) s).L id).isSome = true := by
          intro zs
          induction zs with
          | nil => exact fun s h => h
          | cons z zs ih => exact fun s h => ih _ (startStep_some h)
        exact this zs st h0
      obtain ⟨s, hs⟩ : ∃ s : CS, s = ((idsC (runC es)).take q).foldl (startStep P) st := ⟨_, rfl⟩
      rw [← hs] at I2 hsome
      obtain ⟨x, hx⟩ := Option.isSome_iff_exists.1 hsome
      have hfin : startStep P s id = ((idsC (runC es)).take (q + 1)).foldl (startStep P) st := by rw [htk, List.foldl_append, ← hs]; rfl
      clear hat htk hsome hs
      refine hround2 _ _ _ (H.mem 0 rfl) ?_
      refine asT_e [_] rfl rfl ?_
      refine asI_e rfl ?_
      refine rfb_h 0 H rfl (fun w H => ?_)
      have n2' : (.pointer (some ⟨S.n, 0, none⟩) : Value) = S2.v := by show _ = Value.pointer (some ⟨S2.n, 0, none⟩); rw [n2]
      obtain ⟨fr2, hfr2⟩ : ∃ fr2, fr2 = [(D2, .deferred (some []))] :: [(l, Rt .exhausted none)] :: [(D, .deferred (some []))] :: (R ++ fr) := ⟨_, rfl⟩
      have kt2 : ∀ (S3 : Ch) w', ChIs S3 P (startStep P s id) → S3.n = S.n → Sh.Holds w0 (S3.hp :: [(l2, Rt2 .busy none)] :: [(k1, .cells #[S.v] 28 (0, 0))] :: fr2) w' → rfy_ l2 Rt2 K' w' := by
        intro S3 w' I3 n3 H
        refine rfy_h 1 H rfl (fun w H => ?_)
        refine kt (cell2 S3) w ?_ ?_
        · rw [hC2]; exact ⟨S3, by rw [← hfin]; exact I3, n3, rfl⟩
        · rw [hcell2]
          rw [hfr2] at H
          show Sh.Holds w0 ([(l2, Rt2 .ready none)] :: [(D2, .deferred (some []))] :: S3.hp :: [(l, Rt .exhausted none)] :: [(D, .deferred (some []))] :: [(k1, .cells #[S.v] 28 (0, 0))] :: (R ++ fr)) w
          exact Holds.re (b := S3.hp :: [(l2, Rt2 .ready none)] :: [(k1, .cells #[S.v] 28 (0, 0))] :: [(D2, .deferred (some []))] :: [(l, Rt .exhausted none)] :: [(D, .deferred (some []))] :: (R ++ fr)) H
      replace H : Sh.Holds w0 (S2.hp :: [(l2, Rt2 .busy none)] :: [(k1, .cells #[S.v] 28 (0, 0))] :: fr2) w := by
        rw [hfr2]
        have H9 : Sh.Holds w0 ([(l2, Rt2 .busy none)] :: [(D2, .deferred (some []))] :: S2.hp :: [(l, Rt .exhausted none)] :: [(D, .deferred (some []))] :: [(k1, .cells #[S.v] 28 (0, 0))] :: (R ++ fr)) w := H
        exact Holds.re H9
      clear hfr2
      replace H := openC H
      refine ldA H ?_; refine asPtr_h ?_
      rw [← n2]
      refine nn_h ?_
      refine ldA H ?_; refine asMap_h ?_
      have hL' : S2.L id = some x := by rw [I2.L]; exact hx
      refine mlook (S := S2) 2 H rfl I2.ok (fun hL => ?_) (fun p x' hL hp => ?_)
      · exact absurd (hL'.symm.trans hL) (by simp)
      cases hL'.symm.trans hL
      refine asPtr_h ?_
      replace H := shutC H
      refine overS_c (S := S2) H I2.ok hL' hp (fun w H => ?_)
      refine asBoo_h ?_
      have hid := I2.id hx
      have fin : ∀ (S3 : Ch) (s1 : CS) (w : World), ChIs S3 P s1 → s1.L id = some x → S3.n = S.n → LedP S3 id p → startStep P s id = (if (x.f.asked && !x.f.decided) = true then (suresC P s1 [⟨7, id, []⟩]).getD s1 else s1) → Sh.Holds w0 (S3.hp :: [(l2, Rt2 .busy none)] :: [(k1, .cells #[S.v] 28 (0, 0))] :: fr2) w → (lB ((⟨p, 0, none⟩ : Addr).o 8) fun b135 =>
br_ b135 (cB 113 [.pointer (some ⟨p, 0, none⟩)] fun b140 =>
br_ (!b140) (drw (kps fun S143 =>
ldS_ S143 ⟨k1, 0, none⟩ fun v145 =>
aP v145 fun p147 =>
c_ 102 [(.string ({data := #[116, 117, 114, 110]})), (I id), (.slice none 0 0)] fun v149 =>
aN 3 v149 fun f151 =>
aS (f151 0) fun s153 =>
aI (f151 1) fun n155 =>
aL (f151 2) fun p157 k158 k159 =>
kp_ S143 (nw_ (.cells #[(.string s153), (I n155), (.slice p157 k158 k159)] 139 (0, 0)) fun k162 =>
kp_ S143 (cB 103 [(.pointer p147), (.slice (some ⟨k162, 0, none⟩) 1 1)] fun b167 =>
rfy_ l2 Rt2 K')))) (rfy_ l2 Rt2 K')) (rfy_ l2 Rt2 K')) w := by
        intro S3 s1 w I3 hx3 n3 hp3 heq H
        have hL3 : S3.L id = some x := by rw [I3.L]; exact hx3
        obtain ⟨c3, A3, B3, g3⟩ := ledGet I3.ok hL3 hp3
        have gx := g3.xe
        have gp := g3.pe
        subst gp
        replace H := openL (g3.out (S := S3) H)
        refine ldA H ?_; refine asBoo_h ?_
        replace H := g3.back (shutL H)
        rw [gx]
        cases ha : x.f.asked with
        | false =>
          refine br_f rfl ?_
          rw [ha, if_neg (by simp)] at heq
          exact kt2 S3 w (by rw [heq]; exact I3) n3 H
        | true =>
          refine br_t rfl ?_
          refine decidedS_c (S := S3) H I3.ok hL3 hp3 (fun w H => ?_)
          refine asBoo_h ?_
          cases hd : x.f.decided with
          | true =>
            refine br_f rfl ?_
            rw [hd, if_neg (by simp)] at heq
            exact kt2 S3 w (by rw [heq]; exact I3) n3 H
          | false =>
            refine br_t rfl ?_
            rw [ha, hd, if_pos (by simp)] at heq
            replace H := H.drew
            refine keepsA (S3.hp :: [(l2, Rt2 .busy none)] :: [(k1, .cells #[S.v] 28 (0, 0))] :: fr2) H ?_
            refine ldSA ?_
            refine asPtr_h ?_
            refine entry_c H (fun w H => ?_)
            refine asN_e [_, _, _] rfl rfl ?_
            refine asStr_e rfl ?_
            refine asI_e rfl ?_
            refine asSl_e rfl ?_
            refine kpA H ?_
            refine nw_h H (fun q5 w H => ?_)
            replace H : Sh.Holds w0 ([(q5, .cells #[.string (B (ceL 7)), I id, .slice none 0 0] 139 (0, 0))] :: S3.hp :: [(l2, Rt2 .busy none)] :: [(k1, .cells #[S.v] 28 (0, 0))] :: fr2) w := H
            refine kpA H ?_
            rw [← n3]
            refine sures_c (S := S3) (l := [(⟨7, id, []⟩, none, 0, 0)]) T H I3 (EsS.one (e := ⟨7, id, []⟩) Sl.nil) (by simp) (okSeq.one (okE_bare hid (.inr (.inr (.inl rfl))))) (fun hN w H => ?_) (fun s' hN S4 w I4 c4 H => ?_)
            · have hN : suresC P s1 [⟨7, id, []⟩] = none := hN
              refine asBoo_h ?_
              rw [hN] at heq
              exact kt2 S3 w (by rw [heq]; exact I3) n3 (Holds.re H)
            · have hN : suresC P s1 [⟨7, id, []⟩] = some s' := hN
              refine asBoo_h ?_
              rw [hN] at heq
              exact kt2 S4 w (by rw [heq]; exact I4) (c4.n.trans n3) (Holds.re H)
      cases ho : overF x.o x.f with
      | true =>
        refine br_f rfl ?_
        refine nn_h ?_
        refine fin S2 s w I2 hx n2 hp ?_ H
        unfold startStep
        rw [hx]
        simp only [ho, if_true]
      | false =>
        refine br_t rfl ?_
        refine ldA H ?_; refine asPtr_h ?_
        rw [← n2]
        refine nn_h ?_
        replace H := openC H
        refine ldA H ?_; refine asPtr_h ?_
        refine hang_c (T := S2.T) (id := id) H I2.ok.T (fun b T2 w ok2 to2 H => ?_)
        refine asBoo_h ?_
        refine nn_h ?_
        obtain ⟨u1, u2, u3⟩ := to2
        have ev2 : S2.T.v = T2.v := by show Value.pointer _ = Value.pointer _; rw [u1]
        rw [ev2] at H
        have I3 : ChIs (withT S2 T2) P (hangC P s id) := I2.withT ok2 u2 (by
          rw [u3, I2.B, I2.tries.1]
          split
          · rfl
          · exact updI_same s.B id)
        have H7 : Sh.Holds w0 ([(S2.n, .cells #[I S2.most, I S2.room, I S2.tr, S2.J.v, I S2.used, .map (some S2.m), T2.v] 136 (0, 0))] :: S2.J.hp :: [(S2.m, mapG S2.l S2.c)] :: T2.hp :: ledsH S2.X :: [(l2, Rt2 .busy none)] :: [(k1, .cells #[S.v] 28 (0, 0))] :: fr2) w := Holds.re H
        refine fin (withT S2 T2) (hangC P s id) w I3 hx n2 (hp.keep (.withT S2 u1)) ?_ (shutC (S := withT S2 T2) H7)
        unfold startStep
        rw [hx]
        simp only [ho, Bool.false_eq_true, if_false]
    · rw [hC2] at hc
      obtain ⟨S2, I2, n2, rfl⟩ := hc
      rw [hcell2] at H
      rw [List.take_length, hst] at I2
      refine rfe_h 0 (st := .ready) (pe := none) (by simp) H rfl (fun w H => ?_)
      simp only
      refine dfr_h 1 H rfl (fun w H => ?_)
      refine dfr_h 4 H rfl (fun w H => ?_)
      refine k S2 w I2 n2 ?_
      have H8 : Sh.Holds w0 (([(l2, Rt2 .exhausted none)] :: [(D2, .deferred none)] :: S2.hp :: [(l, Rt .exhausted none)] :: [(D, .deferred none)] :: [(k1, .cells #[S.v] 28 (0, 0))] :: R) ++ [[(k3, .cells #[r.v] 56 (0, 0))], r.hp 3]) w := H
      have H9 := Holds.right (Holds.swap H8)
      exact Holds.re H9
end
end Go.Proofs.YtcfmnoimehcfnaaGreatDoor
