/- What law19's ServicePlays computes: true. Conditions: none. -/
import Derived.Test.YtcfmnoimehcfnaaGreatDoorR9
import Derived.Test.YtcfmnoimehcfnaaGreatDoorFLv
set_option linter.unusedVariables false
set_option linter.unusedSimpArgs false
set_option maxRecDepth 100000
namespace Go.Proofs.YtcfmnoimehcfnaaGreatDoor
open Go Go.Sh

theorem run_s_out (room : Int) {es : List SE} (hi : ∀ e ∈ es, 1 ≤ e.en.id ∧ e.en.id ≤ 999) {x : Int} (hx : x < 1 ∨ 999 < x) : (SA.run room es).s x = 0 := by
  unfold SA.run
  have key : ∀ (es : List SE) (A : SA), (∀ e ∈ es, 1 ≤ e.en.id ∧ e.en.id ≤ 999) → A.s x = 0 → (es.foldl SA.step A).s x = 0 := by
    intro es
    induction es with
    | nil => exact fun A _ h => h
    | cons e r ih =>
      intro A hk h
      refine ih _ (fun e he => hk e (by simp [he])) ?_
      have h1 := hk e (by simp)
      cases e with
      | did id a =>
        have h1 : 1 ≤ id ∧ id ≤ 999 := h1
        show (if x = id then 1 else A.s x) = 0
        rw [if_neg (by omega)]; exact h
      | cant id =>
        have h1 : 1 ≤ id ∧ id ≤ 999 := h1
        show (if x = id then 2 else A.s x) = 0
        rw [if_neg (by omega)]; exact h
      | undid id =>
        have h1 : 1 ≤ id ∧ id ≤ 999 := h1
        show (if x = id then 3 else A.s x) = 0
        rw [if_neg (by omega)]; exact h
  exact key es _ hi rfl
theorem ansV_ids {node room jroom kind frm to id a : Int} {es : List SE} {d : Bool} (hi : ∀ e ∈ es, 1 ≤ e.en.id ∧ e.en.id ≤ 999) : ∀ e ∈ es ++ (ansV node room jroom es d kind frm to id a).1.toList, 1 ≤ e.en.id ∧ e.en.id ≤ 999 := by
  intro e he
  rcases List.mem_append.1 he with he | he
  · exact hi e he
  · unfold ansV at he
    split at he
    · simp at he
    · rename_i g
      have g : d ≠ true ∧ (to = node ∧ frm = 0 ∧ 1 ≤ id ∧ id ≤ 999 ∧ (kind = 1 ∨ kind = 4)) := by
        rw [not_or] at g
        exact ⟨g.1, Classical.not_not.1 g.2⟩
      obtain ⟨-, -, -, g1, g2, -⟩ := g
      have : e.en.id = id := by
        unfold SA.doE SA.undoE at he
        repeat' split at he
        all_goals simp at he
        all_goals (subst he; rfl)
      omega
section
variable {w0 w : World} {hs R : List Hp} {K : KV}
theorem handleSP_c {S : Sv} {es : List SE} {d : Bool} {kind frm to id st a b : Int} (T : Tab w0) (H : Sh.Holds w0 hs w) [D : Del hs S.hp R] (I0 : SvIs S es d)
    (k0 : (ansV S.node S.room S.J.room es d kind frm to id a).2 = 0 → ∀ (S' : Sv) w', SvIs S' (es ++ (ansV S.node S.room S.J.room es d kind frm to id a).1.toList) d → SvC S S' → Sh.Holds w0 (S'.hp :: R) w' → K (.slice none 0 0) w')
    (k1 : (ansV S.node S.room S.J.room es d kind frm to id a).2 ≠ 0 → ∀ (q : Nat) (S' : Sv) w', SvIs S' (es ++ (ansV S.node S.room S.J.room es d kind frm to id a).1.toList) d → SvC S S' → Sh.Holds w0 ([(q, ansO (ansV S.node S.room S.J.room es d kind frm to id a).2 S.node id st)] :: S'.hp :: R) w' → K (.slice (some ⟨q, 0, none⟩) 1 1) w') :
    gocall Tryz.prog 49 [S.v, msgV kind frm to id st a b] K w := by
  cases d with
  | true =>
    replace H := H.get S.hp
    apply F49_go; unfold F49
    refine nw_h H (fun k8 w H => ?_)
    replace H := H.drew
    refine keepsA [] H ?_
    refine br_f rfl ?_
    refine downS_c (S := S) 1 H rfl (fun w H => ?_)
    refine asBoo_h ?_
    refine kpA H ?_
    rw [I0.dn]
    refine br_t rfl ?_
    have e : ansV S.node S.room S.J.room es true kind frm to id a = (none, 0) := by unfold ansV; rw [if_pos (.inl rfl)]
    rw [e] at k0
    exact k0 rfl S w (by simpa using I0) ⟨rfl, rfl, rfl, rfl⟩ H.tail
  | false =>
    have e : ansE S es kind frm to id a = ansV S.node S.room S.J.room es false kind frm to id a := by
      unfold ansE ansV
      by_cases g : goodS S kind frm to id
      · have hng : ¬ (false = true ∨ ¬ (to = S.node ∧ frm = 0 ∧ 1 ≤ id ∧ id ≤ 999 ∧ (kind = 1 ∨ kind = 4))) := fun h => h.elim (fun h => by cases h) (fun h => h g)
        rw [if_pos g, if_neg hng]
      · rw [if_neg g, if_pos (.inr g)]
    rw [← e] at k0 k1
    exact handleI_c T H I0 k0 k1
theorem newSN_c {node most room : Int} (H : Sh.Holds w0 hs w) (hn : ¬ (4 ≤ node ∧ node ≤ 6)) (k : ∀ w', Sh.Holds w0 hs w' → K (.pointer none) w') : gocall Tryz.prog 42 [I node, I most, I room] K w := by
  apply F42_go; unfold F42
  refine br_s (fun h => k _ H) (fun h => ?_)
  refine br_t (by simp at h ⊢; omega) (k _ H)
theorem new_sv {S : Sv} (ok : S.Ok) (h1 : S.J.lines = []) (h2 : S.J.sure = 0) (h3 : S.J.down = false) (h4 : S.B.left = clampB S.room) (h5 : ∀ y, S.B.h y = 0) (h6 : ∀ y, S.s y = 0) : SvIs S [] false :=
  ⟨ok, by rw [h1]; rfl, by simp, by rw [h2]; rfl, h3, by simp, by simp only [Bool.false_eq_true, if_false]; exact ⟨h4, h5, h6⟩⟩
/-- the two services, of one state -/
def OnV (w0 : World) (n m : Nat) (hs : List Hp) (w : World) : Prop := ∃ (S : Sv) (M : Rv) (es : List SE) (d : Bool), SvIs S es d ∧ RvIs M es d ∧ S.n = n ∧ M.n = m ∧ (M.J.room = S.J.room ∧ M.node = S.node ∧ M.hold = S.room) ∧ (∀ e ∈ es, 1 ≤ e.en.id ∧ e.en.id ≤ 999) ∧ Sh.Holds w0 (S.hp :: M.hp :: hs) w
set_option maxHeartbeats 4000000 in
theorem ServicePlays_c {p : Option Addr} {n c : Nat} {ms : List Int} {x0 x1 x2 : Int} (E : Errs w0) (T : Tab w0) (H : Sh.Holds w0 hs w) (hsl : Sl (Sh.Holds w0 hs) p n 10 (ms.map I)) (k : ∀ w', Sh.Holds w0 hs w' → K (.bool true) w') : gocall Tryz.prog 6 [I x0, I x1, I x2, .slice p n c] K w := by
  apply F6_go; unfold F6
  by_cases hnode : 4 ≤ x0 ∧ x0 ≤ 6
  case neg =>
    refine newSN_c H hnode (fun w H => ?_)
    refine asPtr_h ?_
    refine newRvN_c H hnode (fun w H => ?_)
    refine asPtr_h ?_
    refine br_f rfl ?_
    refine ⟨fun _ _ => False, ?_, fun _ _ h => h.elim⟩
    refine br_t rfl ?_
    exact awakeV_c T H (fun w H => by refine asBoo_h ?_; exact k _ H)
  refine newS_c H hnode (fun S w ok g1 g2 l0 s0 d0 r0 b0 b1 b2 H => ?_)
  refine asPtr_h ?_
  refine newRv_c H hnode (fun M w IM m1 m2 m3 H => ?_)
  refine asPtr_h ?_
  have O0 : OnV w0 S.n M.n hs w := ⟨S, M, [], false, new_sv ok l0 s0 d0 (by rw [b0, g2]) b1 b2, IM, rfl, rfl, ⟨by rw [m3, r0], by rw [m1, g1], by rw [m2, g2]⟩, by simp, Holds.re H⟩
  clear H IM m1 m2 m3 ok g1 g2 l0 s0 d0 r0 b0 b1 b2
  generalize S.n = nn at O0 ⊢
  generalize M.n = mm at O0 ⊢
  refine br_f rfl ?_
  refine ⟨fun _ w => OnV w0 nn mm hs w, br_f rfl O0, ?_⟩
  clear O0
  intro _ w O0
  refine ⟨fun _ w => Sh.Holds w0 hs w, ?_, fun _ w H => awakeV_c T H (fun w H => by refine asBoo_h ?_; exact k _ H)⟩
  refine ⟨fun y w => OnV w0 nn mm hs w ∧ 0 ≤ y.1 ∧ y.1 ≤ 80, fun y _ => (80 - y.1).toNat, ⟨O0, by simp, by simp⟩, ?_⟩
  clear O0
  rintro ⟨i, u⟩ w ⟨⟨S, M, es, d, I0, IM, en, em, er, hids, H⟩, h0, h1⟩
  simp only at h0 h1
  subst en em
  refine ⟨fun _ w => i < (n : Int) ∧ Sh.Holds w0 (S.hp :: M.hp :: hs) w, br_s (fun h2 => ⟨of_decide_eq_true h2, H⟩) (fun h2 => H.tail.tail), ?_⟩
  clear H
  rintro _ w ⟨h2, H⟩
  refine slAt_i hsl h0 h2 (fun bb o q hq hld => ?_)
  obtain ⟨m0, m1, m2, m3, m4, m5, m6, m7, m8, m9, rfl⟩ := ten hq
  have H' := H.tail.tail
  refine hld 0 m0 _ _ rfl H' ?_; refine asI_h ?_
  refine hld 1 m1 _ _ rfl H' ?_; refine asI_h ?_
  refine hld 2 m2 _ _ rfl H' ?_; refine asI_h ?_
  refine hld 3 m3 _ _ rfl H' ?_; refine asI_h ?_
  refine hld 4 m4 _ _ rfl H' ?_; refine asI_h ?_
  refine hld 5 m5 _ _ rfl H' ?_; refine asI_h ?_
  refine hld 6 m6 _ _ rfl H' ?_; refine asI_h ?_
  refine hld 7 m7 _ _ rfl H' ?_; refine asI_h ?_
  refine hld 8 m8 _ _ rfl H' ?_; refine asI_h ?_
  refine hld 9 m9 _ _ rfl H' ?_; refine asI_h ?_
  clear H'
  refine nw_h H (fun k9 w H => ?_)
  iterate 10 refine stA H rfl (fun w H => ?_)
  refine ⟨fun _ w => i < 80 ∧ Sh.Holds w0 ([(k9, .cells #[I m0, I m1, I m2, I m3, I m4, I m5, I m6, I m7, I m8, I m9] 71 (0, 0))] :: S.hp :: M.hp :: hs) w, br_s (fun h3 => H.tail.tail.tail) (fun h3 => ⟨by have := of_decide_eq_false h3; omega, H⟩), ?_⟩
  clear H
  rintro _ w ⟨h3, H⟩
  refine ⟨fun y w => y.1 = true ∧ ∃ (S' : Sv) (M' : Rv) (es : List SE) (d : Bool), SvIs S' es d ∧ RvIs M' es d ∧ S'.n = S.n ∧ M'.n = M.n ∧ (M'.J.room = S'.J.room ∧ M'.node = S'.node ∧ M'.hold = S'.room) ∧ (∀ e ∈ es, 1 ≤ e.en.id ∧ e.en.id ≤ 999) ∧ Sh.Holds w0 ([(k9, .cells #[I m0, I m1, I m2, I m3, I m4, I m5, I m6, I m7, I m8, I m9] 71 (0, 0))] :: S'.hp :: M'.hp :: hs) w, ?_, ?_⟩
  · refine ldA H ?_; refine asI_h ?_
    refine br_s (fun h4 => ?_) (fun h4 => ?_)
    · refine ldA H ?_; refine asI_h ?_
      refine ldA H ?_; refine asI_h ?_
      refine crashS_c H I0 (fun S1 w I1 n1 n2 n3 n4 H => ?_)
      refine asT_e [] rfl rfl ?_
      refine ldA H ?_; refine asI_h ?_
      refine ldA H ?_; refine asI_h ?_
      refine crashRv_c H IM (fun M1 w J1 c1 H => ?_)
      refine asT_e [] rfl rfl ?_
      exact ⟨rfl, S1, M1, es, true, I1, J1, n1, c1.n, ⟨by rw [c1.room, n4, er.1], by rw [c1.node, n2, er.2.1], by rw [c1.hold, n3, er.2.2]⟩, hids, Holds.re H⟩
    · refine br_s (fun h5 => ?_) (fun h5 => ?_)
      · refine startS_c E T H I0 (fun S1 w I1 n1 n2 n3 n4 H => ?_)
        refine asT_e [] rfl rfl ?_
        refine startRv_c T H IM (fun M1 w J1 c1 H => ?_)
        refine asT_e [] rfl rfl ?_
        exact ⟨rfl, S1, M1, es, false, I1, J1, n1, c1.n, ⟨by rw [c1.room, n4, er.1], by rw [c1.node, n2, er.2.1], by rw [c1.hold, n3, er.2.2]⟩, hids, Holds.re H⟩
      · replace H := H.drew
        refine keepsA [[(k9, .cells #[I m0, I m1, I m2, I m3, I m4, I m5, I m6, I m7, I m8, I m9] 71 (0, 0))]] H ?_
        iterate 14 (refine ldSA ?_; refine asI_h ?_)
        have hid2 := ansV_ids (node := S.node) (room := S.room) (jroom := S.J.room) (kind := m3) (frm := m4) (to := m5) (id := m6) (a := m8) (d := d) hids
        refine handleSP_c (S := S) (es := es) (d := d) (st := m7) T H I0 (fun e S1 w I1 c1 H => ?_) (fun e q1 S1 w I1 c1 H => ?_)
        · refine asSl_h ?_
          refine kpA H ?_
          rw [← er.1, ← er.2.1, ← er.2.2] at e I1 hid2
          refine handleRv_c (M := M) (es := es) (d := d) (st := m7) T H IM (fun e' M1 w J1 c2 H => ?_) (fun e' => absurd e e')
          refine asSl_h ?_
          refine kpA H ?_
          refine SameMsgs_c (l := []) (m := []) H Sl.nil Sl.nil (by simp) (fun w H => ?_)
          refine asBoo_h ?_
          refine kpA H ?_
          exact ⟨by simp [eqB], S1, M1, _, d, I1, J1, c1.n, c2.n, ⟨by rw [c2.room, c1.jroom, er.1], by rw [c2.node, c1.node, er.2.1], by rw [c2.hold, c1.room, er.2.2]⟩, hid2, Holds.re H⟩
        · refine asSl_h ?_
          refine kpA H ?_
          rw [← er.1, ← er.2.1, ← er.2.2] at e I1 hid2 H
          refine handleRv_c (M := M) (es := es) (d := d) (st := m7) T H IM (fun e' => absurd e' e) (fun e' q2 M1 w J1 c2 H => ?_)
          refine asSl_h ?_
          refine kpA H ?_
          generalize hans : ansV M.node M.hold M.J.room es d m3 m4 m5 m6 m8 = A at *
          refine SameMsgs_c (l := [A.2, M.node, 0, m6, m7, 0, 0]) (m := [A.2, M.node, 0, m6, m7, 0, 0]) H (Sl.block (vals := [I A.2, I M.node, I 0, I m6, I m7, I 0, I 0]) 2 rfl rfl) (Sl.block (vals := [I A.2, I M.node, I 0, I m6, I m7, I 0, I 0]) 0 rfl rfl) (by simp) (fun w H => ?_)
          refine asBoo_h ?_
          refine kpA H ?_
          exact ⟨by simp [eqB], S1, M1, _, d, I1, J1, c1.n, c2.n, ⟨by rw [c2.room, c1.jroom, er.1], by rw [c2.node, c1.node, er.2.1], by rw [c2.hold, c1.room, er.2.2]⟩, hid2, Holds.re H⟩
  · clear H I0 IM er hids
    rintro ⟨b, u⟩ w ⟨hb, S1, M1, es, d, I1, J1, n1, n2, er, hids, H⟩
    simp only at hb
    subst hb
    rw [← n1, ← n2]
    have H1 : Sh.Holds w0 ([(M1.J.j, .cells #[I M1.J.room, M1.J.r.v, I M1.J.sure, .bool M1.J.down] 64 (0, 0))] :: M1.J.r.hp 9 :: M1.cs :: M1.B.hp :: [(k9, .cells #[I m0, I m1, I m2, I m3, I m4, I m5, I m6, I m7, I m8, I m9] 71 (0, 0))] :: S1.hp :: hs) w := by
      have := openV (H.get M1.hp)
      exact openJ (this.get M1.J.hp)
    clear H
    have H := H1.drew
    clear H1
    refine keepsA [[(k9, .cells #[I m0, I m1, I m2, I m3, I m4, I m5, I m6, I m7, I m8, I m9] 71 (0, 0))], M1.cs, [(M1.J.j, .cells #[I M1.J.room, M1.J.r.v, I M1.J.sure, .bool M1.J.down] 64 (0, 0))], M1.B.hp] H ?_
    have hA : SA.at_ M1.hold es d = (if d = true then SA.zero S1.room else SA.run S1.room es) := by unfold SA.at_; rw [er.2.2]
    refine br_f rfl ?_
    refine ldSA ?_; refine asI_h ?_
    refine ldSA ?_; refine asI_h ?_
    refine stateS_c (S := S1) (x := m6) 5 H rfl (fun w H => ?_)
    refine asI_h ?_
    refine kpA H ?_
    have H3 : Sh.Holds w0 (M1.hp :: [(k9, .cells #[I m0, I m1, I m2, I m3, I m4, I m5, I m6, I m7, I m8, I m9] 71 (0, 0))] :: S1.hp :: hs) w := shutV (Holds.re (b := M1.J.hp :: M1.cs :: M1.B.hp :: [(k9, .cells #[I m0, I m1, I m2, I m3, I m4, I m5, I m6, I m7, I m8, I m9] 71 (0, 0))] :: S1.hp :: hs) (shutJ H))
    refine stateRv_c (x := m6) H3 J1 (fun w H => ?_)
    refine asI_h ?_
    have H1 : Sh.Holds w0 ([(M1.J.j, .cells #[I M1.J.room, M1.J.r.v, I M1.J.sure, .bool M1.J.down] 64 (0, 0))] :: M1.J.r.hp 9 :: M1.cs :: M1.B.hp :: [(k9, .cells #[I m0, I m1, I m2, I m3, I m4, I m5, I m6, I m7, I m8, I m9] 71 (0, 0))] :: S1.hp :: hs) w := by
      have := openV H
      exact openJ (this.get M1.J.hp)
    clear H H3
    have H := H1
    clear H1
    refine kpA H ?_
    refine br_f ?_ ?_
    · have e1 : S1.s m6 = (SA.at_ M1.hold es d).s m6 := by rw [hA]; exact I1.is.s m6
      rw [e1]
      split
      · rename_i g
        have : (SA.at_ M1.hold es d).s m6 = 0 := by
          unfold SA.at_
          split
          · rfl
          · exact run_s_out _ hids g
        simp [this]
      · simp
    refine nn_h ?_
    refine ldS_h 1 (v := M1.B.v) rfl rfl ?_; refine asPtr_h ?_
    refine nn_h ?_
    refine ldS_h 3 (v := I M1.B.left) rfl rfl ?_; refine asI_h ?_
    refine leftS_c (S := S1) 5 H rfl (fun w H => ?_)
    refine asI_h ?_
    refine kpA H ?_
    refine br_f ?_ ?_
    · have e1 : S1.B.left = M1.B.left := by rw [J1.left, hA]; exact I1.is.left
      simp [e1]
    refine nn_h ?_
    refine ldS_h 1 (v := M1.J.v) rfl rfl ?_; refine asPtr_h ?_
    refine nn_h ?_
    refine ldSA ?_; refine asBoo_h ?_
    refine downS_c (S := S1) 5 H rfl (fun w H => ?_)
    refine asBoo_h ?_
    refine kpA H ?_
    refine br_f (by rw [I1.dn, J1.dn]; cases d <;> rfl) ?_
    have w1 : IntKind.wrap .i64 (i + 1) = i + 1 := wrap64 (by omega) (by omega)
    simp only [w1]
    refine ⟨⟨⟨S1, M1, es, d, I1, J1, rfl, rfl, er, hids, ?_⟩, by omega, by omega⟩, by omega⟩
    have H3 : Sh.Holds w0 (M1.hp :: [(k9, .cells #[I m0, I m1, I m2, I m3, I m4, I m5, I m6, I m7, I m8, I m9] 71 (0, 0))] :: S1.hp :: hs) w := shutV (Holds.re (b := M1.J.hp :: M1.cs :: M1.B.hp :: [(k9, .cells #[I m0, I m1, I m2, I m3, I m4, I m5, I m6, I m7, I m8, I m9] 71 (0, 0))] :: S1.hp :: hs) (shutJ H))
    exact Holds.re H3
end
end Go.Proofs.YtcfmnoimehcfnaaGreatDoor
