/- The chief: a crash. Conditions: none. -/
import Derived.Test.YtcfmnoimehcfnaaGreatDoorXE
import Derived.Test.YtcfmnoimehcfnaaGreatDoorFY
set_option linter.unusedVariables false
set_option linter.unusedSimpArgs false
set_option maxRecDepth 100000
namespace Go.Proofs.YtcfmnoimehcfnaaGreatDoor
open Go Go.Sh

/-- a chief that is down, with what its journal holds -/
structure ChDn (S : Ch) (P : CP) (es : List CE) : Prop where
  ok : S.Ok
  size : ∀ s ∈ S.J.lines, s.size ≤ 100000
  good : goodL S.J.lines = (es.map CE.en).map LB
  lenL : S.J.lines.length ≤ 5000
  wf : WF es
  dn : S.J.down = true
  len : (es.length : Int) ≤ P.room
  X : S.X = []
  jroom : S.J.room = P.room
  room : S.room = P.room ∧ 1 ≤ P.room ∧ P.room ≤ 4096
  most : S.most = P.most
  tries : S.T.tr = P.tries ∧ triesB S.tr = P.tries
section
variable {w0 w : World} {hs R : List Hp} {K : KV}
theorem forget_c {n : Nat} {a b t u : Int} {jv mv tv : Value} (H : Sh.Holds w0 ([(n, .cells #[I a, I b, I t, jv, I u, mv, tv] 136 (0, 0))] :: hs) w)
    (k : ∀ (m : Nat) (T : Tw) w', T.Ok → T.tr = triesB t → T.B = (fun _ => none) → Sh.Holds w0 ([(n, .cells #[I a, I b, I t, jv, I 0, .map (some m), T.v] 136 (0, 0))] :: [(m, mapG [] 0)] :: T.hp :: hs) w' → K (.tuple #[]) w') : gocall Tryz.prog 99 [.pointer (some ⟨n, 0, none⟩)] K w := by
  apply F99_go; unfold F99
  refine nw_h H (fun m w H => ?_)
  (with_reducible repeat first|refine ldA (by assumption) ?_|refine Stp.imp ?_|refine stA (by assumption) rfl fun _ _=>?_|refine nw_h (by assumption) fun _ _ _=>?_|refine ldSA ?_|refine asT_e [] rfl rfl ?_|refine ldD (by assumption) ?_|refine nwD (by assumption) fun _ _ _=>?_)
  refine newTw_c H (fun T w okT t1 t2 H => ?_)
  (with_reducible repeat first|refine ldA (by assumption) ?_|refine Stp.imp ?_|refine stA (by assumption) rfl fun _ _=>?_|refine nw_h (by assumption) fun _ _ _=>?_|refine ldSA ?_|refine asT_e [] rfl rfl ?_|refine ldD (by assumption) ?_|refine nwD (by assumption) fun _ _ _=>?_)
  rename_i w1 H1 w2 H2 w3 H3
  have H9 : Sh.Holds w0 ([(n, .cells #[I a, I b, I t, jv, I 0, .map (some m), T.v] 136 (0, 0))] :: [(m, mapG [] 0)] :: T.hp :: hs) w3 := by
    have H8 : Sh.Holds w0 (T.hp :: [(m, mapG [] 0)] :: [(n, .cells #[I a, I b, I t, jv, I 0, .map (some m), T.v] 136 (0, 0))] :: hs) w3 := H3
    exact Holds.re H8
  exact k m T _ okT t1 t2 H9
set_option maxHeartbeats 1000000 in
theorem crashCh_c {S : Ch} {P : CP} {s : CS} {x1 x2 : Int} (H : Sh.Holds w0 hs w) [D : Del hs S.hp R] (I0 : ChIs S P s)
    (k : ∀ (S' : Ch) (m : Nat) w', s.sure ≤ m → m ≤ s.es.length → (s.sure : Int) + cutI ((s.es.length : Int) - s.sure) x1 = m → ChDn S' P (s.es.take m) → S'.n = S.n → Sh.Holds w0 (S'.hp :: R) w' → K (.tuple #[]) w') :
    gocall Tryz.prog 79 [S.v, I x1, I x2] K w := by
  replace H := H.get S.hp
  apply F79_go; unfold F79
  refine br_f rfl ?_
  refine downC_c (S := S) H (fun w H => ?_)
  refine asBoo_h ?_
  refine br_f I0.dn ?_
  replace H := openC H
  (with_reducible repeat first|refine ldA (by assumption) ?_|refine Stp.imp ?_|refine stA (by assumption) rfl fun _ _=>?_|refine nw_h (by assumption) fun _ _ _=>?_|refine ldSA ?_|refine asT_e [] rfl rfl ?_|refine ldD (by assumption) ?_|refine nwD (by assumption) fun _ _ _=>?_)
  have hle := I0.le
  have hlen := I0.len
  have hroom := I0.room.2
  have hll : S.J.lines.length = s.es.length := by rw [I0.lines]; simp
  have hsz : ∀ x ∈ S.J.lines, x.size ≤ 100000 := by rw [I0.lines]; exact LB_size I0.wf.may
  have hsu := I0.sure
  refine Crash_c (J := S.J) 1 H rfl I0.ok.j hsz (by omega) (by rw [hsu]; omega) (by rw [hsu, hll]; omega) (fun J w hJ okJ H => ?_)
  rw [I0.dn, if_neg (by simp), hsu] at hJ
  refine asT_e [] rfl rfl ?_
  have ev : S.J.v = J.v := by rw [hJ]
  replace H : Sh.Holds w0 ([(S.n, .cells #[I S.most, I S.room, I S.tr, S.J.v, I S.used, .map (some S.m), S.T.v] 136 (0, 0))] :: J.hp :: [(S.m, mapG S.l S.c)] :: S.T.hp :: ledsH S.X :: R) w := H
  rw [ev] at H
  refine forget_c H (fun m T w okT t1 t2 H => ?_)
  refine asT_e [] rfl rfl ?_
  have hc := cutI_range x1 (a := (s.es.length : Int) - s.sure) (by omega)
  obtain ⟨q, hq⟩ : ∃ q : Nat, (s.sure : Int) + cutI ((s.es.length : Int) - s.sure) x1 = q := ⟨((s.sure : Int) + cutI ((s.es.length : Int) - s.sure) x1).toNat, by omega⟩
  have hJl : J.lines = crashL ((s.es.map CE.en).map LB) s.sure x1 x2 := by rw [hJ, I0.lines]
  have hq2 : (s.sure : Int) + cutI (((s.es.map CE.en).length : Int) - s.sure) x1 = q := by rw [List.length_map]; exact hq
  have hcs := crash_size (sure := s.sure) (stay := x1) (torn := x2) I0.wf.may hq2
  have hgc := good_crash (sure := s.sure) (stay := x1) (torn := x2) I0.wf.may hq2 (by rw [List.length_map]; omega)
  refine k ⟨S.n, S.most, S.room, S.tr, J, 0, m, [], 0, T, []⟩ q w (by omega) (by omega) hq ⟨⟨okJ, .nil 0, okT, fun c hc => (by simp at hc), fun id => rfl, fun id h => (by cases h), by show (0 : Int) ≤ 0 ∧ (0 : Int) ≤ 4096; omega⟩, ?_, ?_, ?_, I0.wf.take q, by rw [hJ], ?_, rfl, by rw [hJ]; exact I0.jroom, I0.room, I0.most, ⟨t1.trans I0.tries.2, I0.tries.2⟩⟩ rfl ?_
  · rw [hJl]; exact hcs.1
  · show goodL J.lines = ((s.es.take q).map CE.en).map LB
    rw [hJl, hgc]
    simp only [List.map_take]
  · have := hcs.2
    rw [List.length_map] at this
    show J.lines.length ≤ 5000
    rw [hJl]; omega
  · rw [List.length_take]; omega
  · have H9 : Sh.Holds w0 ([(S.n, .cells #[I S.most, I S.room, I S.tr, J.v, I 0, .map (some m), T.v] 136 (0, 0))] :: J.hp :: [(m, mapG [] 0)] :: T.hp :: [] :: R) w := by
      have H8 : Sh.Holds w0 ([(S.n, .cells #[I S.most, I S.room, I S.tr, J.v, I 0, .map (some m), T.v] 136 (0, 0))] :: [(m, mapG [] 0)] :: T.hp :: J.hp :: [(S.m, mapG S.l S.c)] :: S.T.hp :: ledsH S.X :: R) w := H
      have H7 := Holds.nil H8
      exact Holds.re H7
    exact shutC (S := ⟨S.n, S.most, S.room, S.tr, J, 0, m, [], 0, T, []⟩) H9
end
end Go.Proofs.YtcfmnoimehcfnaaGreatDoor
