/- A keeper of goods as its journal's entries say: crash and start. Conditions: none. -/
import Derived.Test.YtcfmnoimehcfnaaGreatDoorK5
set_option linter.unusedVariables false
set_option maxRecDepth 100000
namespace Go.Proofs.YtcfmnoimehcfnaaGreatDoor
open Go Go.Sh

theorem KpIs.size {S : Kp} {es : List KE} {d : Bool} (h : KpIs S es d) : ∀ s ∈ S.J.lines, s.size ≤ 100000 := by rw [h.lines]; exact LB_size h.may
theorem KpIs.good {S : Kp} {es : List KE} {d : Bool} (h : KpIs S es d) : goodL S.J.lines = (es.map KE.en).map LB := by rw [h.lines]; exact good_ents h.may
theorem KpIs.Ln {S : Kp} {es : List KE} {d : Bool} (h : KpIs S es d) : S.L.n = 1 := by have := h.ok.L.len; simpa using this.symm
theorem crashK_c {w0 w : World} {hs R : List Hp} {K : KV} {S : Kp} {es : List KE} {d : Bool} {x1 x2 : Int} (H : Sh.Holds w0 hs w) [D : Del hs S.hp R] (I0 : KpIs S es d)
    (k : ∀ (S' : Kp) w', KpIs S' es true → KpC S S' → Sh.Holds w0 (S'.hp :: R) w' → K (.tuple #[]) w') : gocall Tryz.prog 58 [S.v, I x1, I x2] K w := by
  replace H := H.get S.hp
  apply F58_go; unfold F58
  refine br_f rfl ?_
  refine downK_c (S := S) H (fun w H => ?_)
  refine asBoo_h ?_
  rw [I0.dn]
  cases d with
  | true => exact br_t rfl (k S w I0 (.rfl' S) H)
  | false =>
  refine br_f rfl ?_
  refine nn_h ?_
  replace H := openK H
  refine ldA H ?_; refine asPtr_h ?_
  have hn := I0.n
  have hlen := I0.len
  have hsu := I0.sure
  refine Crash_c (J := S.J) 2 H rfl I0.ok.j I0.size (by omega) (by rw [hsu]; omega) (by omega) (fun J w hJ okJ H => ?_)
  rw [I0.dn, if_neg (by simp), crash_sure (by omega)] at hJ
  refine asT_e [] rfl rfl ?_
  have ev : S.J.v = J.v := by rw [hJ]
  rw [ev] at H
  have H2 : Sh.Holds w0 ([(S.n, .cells #[I 1, S.L.v, J.v, .iface 196 (.agg #[S.G.v]), .map (some S.m)] 189 (0, 0))] :: S.L.hp 3 :: J.hp :: S.G.hp :: [(S.m, mapG S.l S.c)] :: R) w := H
  refine forgetK_c H2 I0.ok.L I0.Ln (fun G m w g1 g2 H => ?_)
  refine asT_e [] rfl rfl ?_
  refine k ⟨S.n, S.L, J, G, m, [], 0, S.g, fun _ => 0⟩ w ⟨⟨I0.ok.L, okJ, g1, .nil 0, fun x => rfl⟩, by rw [hJ]; exact I0.lines, I0.wf, by rw [hJ]; exact hsu, by rw [hJ], hlen, by rw [if_pos rfl]; exact ⟨g2, fun x => rfl⟩⟩ ⟨rfl, by rw [hJ], rfl⟩ (shutK (S := ⟨S.n, S.L, J, G, m, [], 0, S.g, fun _ => 0⟩) H.re)
set_option maxHeartbeats 1000000 in
theorem startK_c {w0 w : World} {hs R : List Hp} {K : KV} {S : Kp} {es : List KE} {d : Bool} (E : Errs w0) (T : Tab w0) (H : Sh.Holds w0 hs w) [D : Del hs S.hp R] (I0 : KpIs S es d)
    (k : ∀ (S' : Kp) w', KpIs S' es false → KpC S S' → Sh.Holds w0 (S'.hp :: R) w' → K (.tuple #[]) w') : gocall Tryz.prog 59 [S.v] K w := by
  replace H := H.get S.hp
  apply F59_go; unfold F59
  refine nw_h H (fun k1 w H => ?_)
  refine ldA H ?_; refine asPtr_h ?_
  refine br_f rfl ?_
  refine ldA H ?_; refine asPtr_h ?_
  refine downK_c (S := S) H (fun w H => ?_)
  refine asBoo_h ?_
  rw [I0.dn]
  cases d with
  | false => exact br_t rfl (k S w I0 (.rfl' S) H.re)
  | true =>
  refine br_f rfl ?_
  refine ldA H ?_; refine asPtr_h ?_
  refine nn_h ?_
  replace H := openK H
  refine ldA H ?_; refine asPtr_h ?_
  have hn := I0.n
  have hlen := I0.len
  have hsu := I0.sure
  have hg := I0.good
  have hgl := good_len hg
  rw [List.length_map] at hgl
  refine Recover_c (J := S.J) 2 E T H rfl I0.ok.j I0.size (by omega) (fun J w hJ okJ H => ?_)
  rw [I0.dn, if_pos rfl, hg] at hJ
  refine asI_h ?_
  have ev : S.J.v = J.v := by rw [hJ]
  rw [ev] at H
  have H : Sh.Holds w0 ([(S.n, .cells #[I 1, S.L.v, J.v, .iface 196 (.agg #[S.G.v]), .map (some S.m)] 189 (0, 0))] :: S.L.hp 3 :: J.hp :: S.G.hp :: [(S.m, mapG S.l S.c)] :: [(k1, .cells #[S.v] 85 (0, 0))] :: R) w := H
  refine ldA H ?_; refine asPtr_h ?_
  refine forgetK_c H I0.ok.L I0.Ln (fun G m w g1 g2 H => ?_)
  refine asT_e [] rfl rfl ?_
  replace H : Sh.Holds w0 ([(S.n, .cells #[I 1, S.L.v, J.v, .iface 196 (.agg #[G.v]), .map (some m)] 189 (0, 0))] :: S.L.hp 3 :: J.hp :: G.hp :: [(m, mapG [] 0)] :: [(k1, .cells #[S.v] 85 (0, 0))] :: R) w := H.re
  refine ldA H ?_; refine asPtr_h ?_
  refine nn_h ?_
  refine ldA H ?_; refine asPtr_h ?_
  apply F124_go; unfold F124
  refine nw_h H (fun kb w H => ?_)
  refine asFn_h ?_
  refine rfn_h H (fun D l Rt w hround H => ?_)
  have l1 : J.lines = (es.map KE.en).map LB := by rw [hJ]
  have g1' : goodL J.lines = (es.map KE.en).map LB := by rw [l1]; exact good_ents I0.may
  obtain ⟨cell, hcell⟩ : ∃ cell : Gd → Nat → List TriG → Nat → List Hp, cell = fun G m l' c' => [(l, Rt .ready none)] :: [(D, .deferred (some []))] :: [(k1, .cells #[S.v] 85 (0, 0))] :: [(S.n, .cells #[I 1, S.L.v, J.v, .iface 196 (.agg #[G.v]), .map (some m)] 189 (0, 0))] :: S.L.hp 3 :: J.hp :: G.hp :: [(m, mapG l' c')] :: R := ⟨_, rfl⟩
  obtain ⟨C, hC⟩ : ∃ C : Nat → List Hp → Prop, C = fun (n : Nat) (cs : List Hp) => ∃ (S' : Kp), S'.n = S.n ∧ S'.L = S.L ∧ S'.g = S.g ∧ S'.J = J ∧ S'.Ok ∧ S'.Is (KA.run S.g (es.take n)) ∧ (∀ x ∈ J.lines.take n, okS x = true) ∧ cs = cell S'.G S'.m S'.l S'.c := ⟨_, rfl⟩
  have H2 : Sh.Holds w0 (cell G m [] 0 ++ [[(kb, .cells #[J.v] 131 (0, 0))]]) w := by
    rw [hcell]
    have H3 : Sh.Holds w0 ([(kb, .cells #[J.v] 131 (0, 0))] :: ([(l, Rt .ready none)] :: [(D, .deferred (some []))] :: [(k1, .cells #[S.v] 85 (0, 0))] :: [(S.n, .cells #[I 1, S.L.v, J.v, .iface 196 (.agg #[G.v]), .map (some m)] 189 (0, 0))] :: S.L.hp 3 :: J.hp :: G.hp :: [(m, mapG [] 0)] :: R)) w := H.re
    exact Holds.swap (a := [[(kb, .cells #[J.v] 131 (0, 0))]]) H3
  have last : ∀ {cs w}, C (goodL J.lines).length cs → Sh.Holds w0 cs w → rfe l Rt (rfj (fun w => dfr D (fun w => K (.tuple #[]) w) w) (fun w => dfr D (fun w => K (.tuple #[]) w) w) []) w := by
    intro cs w hc H
    rw [hC] at hc
    obtain ⟨S', q1, q2, q3, q4, q5, q6, q7, rfl⟩ := hc
    rw [hcell] at H
    refine rfe_h 0 (st := .ready) (pe := none) (by simp) H rfl (fun w H => ?_)
    unfold rfj
    simp only
    refine dfr_h 1 H rfl (fun w H => ?_)
    rw [g1', List.length_map, List.length_map, List.take_length] at q6
    refine k S' w ⟨q5, by rw [q4]; exact l1, I0.wf, by rw [q4, hJ]; simp, by rw [q4, hJ], hlen, by rw [q3]; simpa using q6⟩ ⟨q1, by rw [q4, hJ], q3⟩ (shutK ?_)
    have H3 := H.tail.tail.tail
    rw [q1, q2, q4]
    exact H3
  refine all_c (J := J) (ij := 5) C (fun _ => False) E T (by rw [l1]; exact LB_size I0.may) (by rw [l1]; simp; omega) okJ H2 (by rw [hcell]; rfl) ?_ ?_ (fun cs w hc H => last hc H) (fun _ _ h => h.elim)
  · rw [hC]
    exact ⟨⟨S.n, S.L, J, G, m, [], 0, S.g, fun _ => 0⟩, rfl, rfl, rfl, rfl, ⟨I0.ok.L, okJ, g1, .nil 0, fun x => rfl⟩, ⟨g2, fun x => rfl⟩, by simp, rfl⟩
  · intro i s p n c cs fr K' w hgi h0 hc hsl H kt kf
    rw [hC] at hc
    obtain ⟨S', q1, q2, q3, q4, q5, q6, q7, rfl⟩ := hc
    have hos := okS_iff h0
    have hen := ent_at I0.may g1' q7 hgi hos
    rw [hcell] at H
    refine hround _ _ _ (H.mem 0 rfl) ?_
    refine asT_e [_] rfl rfl ?_
    refine asN_e [_, _, _] rfl rfl ?_
    refine asStr_e (b := B (parseE s.data.toList).2.k) rfl ?_
    refine asI_e (n := (parseE s.data.toList).2.id) rfl ?_
    refine asSl_e (a := p) (n := n) (c := c) rfl ?_
    refine nw3_h (k := (parseE s.data.toList).2.k) H (fun k58 w H => ?_)
    refine rfb_h 1 H rfl (fun w H => ?_)
    apply ld_h 3 H rfl rfl; refine asPtr_h ?_
    apply ld3_h 0 H rfl
    rw [List.getElem?_map] at hen
    obtain ⟨e, hes, hee⟩ := Option.map_eq_some_iff.1 hen
    have htk : es.take (i + 1) = es.take i ++ [e] := by rw [List.take_add_one, hes]; rfl
    rw [← hee] at hsl H ⊢
    have H4 : Sh.Holds w0 (S'.hp :: eHp k58 e.en.k e.en.id (.slice p n c) :: [(l, Rt .busy none)] :: [(D, .deferred (some []))] :: [(k1, .cells #[S.v] 85 (0, 0))] :: (R ++ fr)) w := by
      refine shutK ?_
      rw [q1, q2, q4]
      exact Holds.re (b := eHp k58 e.en.k e.en.id (.slice p n c) :: [(l, Rt .busy none)] :: [(D, .deferred (some []))] :: [(k1, .cells #[S.v] 85 (0, 0))] :: [(S.n, .cells #[I 1, S.L.v, J.v, .iface 196 (.agg #[S'.G.v]), .map (some S'.m)] 189 (0, 0))] :: S.L.hp 3 :: J.hp :: S'.G.hp :: [(S'.m, mapG S'.l S'.c)] :: (R ++ fr)) H
    have hsl4 : Sl (Sh.Holds w0 (eHp k58 e.en.k e.en.id (.slice p n c) :: [(l, Rt .busy none)] :: [(D, .deferred (some []))] :: [(k1, .cells #[S.v] 85 (0, 0))] :: (R ++ fr))) p n 1 (e.ns.map I) := hsl.mono fun w H => Holds.right (a := R) H.tail.tail.tail.tail
    have hwf := I0.wf e (List.mem_of_getElem? hes)
    rw [← q1]
    clear H
    refine playsK_c (S := S') (st := e.st) (id := e.id) (ns := e.ns) H4 q5 hwf.1 hsl4 (by
      rcases hwf.2.2 with ⟨h, q, hq, -⟩ | h
      · exact .inl ⟨h, q, hq⟩
      · exact .inr h) (fun S2 w o e1 e2 e3 e4 e5 e6 H => ?_)
    refine asT_e [] rfl rfl ?_
    refine rfy_h 2 H rfl (fun w H => ?_)
    refine kt (cell S2.G S2.m S2.l S2.c) w ?_ ?_
    · rw [hC]
      refine ⟨S2, e1.trans q1, e3.trans q2, e4.trans q3, e2.trans q4, o, ?_, fun x hx => ?_, rfl⟩
      · rw [htk, KA.run_add]
        refine ⟨?_, fun x => ?_⟩
        · rw [e5, q6.B]; rfl
        · rw [e6, q6.s]; rfl
      · rw [List.take_add_one, hgi] at hx
        rcases List.mem_append.1 hx with hx | hx
        · exact q7 x hx
        · simp only [Option.toList_some, List.mem_singleton] at hx
          subst hx; exact hos
    · rw [hcell]
      show Sh.Holds w0 ([(l, Rt .ready none)] :: [(D, .deferred (some []))] :: [(k1, .cells #[S.v] 85 (0, 0))] :: [(S.n, .cells #[I 1, S.L.v, J.v, .iface 196 (.agg #[S2.G.v]), .map (some S2.m)] 189 (0, 0))] :: S.L.hp 3 :: J.hp :: S2.G.hp :: [(S2.m, mapG S2.l S2.c)] :: (R ++ fr)) w
      have H5 := openK H
      rw [e1.trans q1, e3.trans q2, e2.trans q4] at H5
      exact Holds.re (b := [(S.n, .cells #[I 1, S.L.v, J.v, .iface 196 (.agg #[S2.G.v]), .map (some S2.m)] 189 (0, 0))] :: S.L.hp 3 :: J.hp :: S2.G.hp :: [(S2.m, mapG S2.l S2.c)] :: eHp k58 e.en.k e.en.id (.slice p n c) :: [(l, Rt .ready none)] :: [(D, .deferred (some []))] :: [(k1, .cells #[S.v] 85 (0, 0))] :: (R ++ fr)) H5
end Go.Proofs.YtcfmnoimehcfnaaGreatDoor
