/- A service as its journal's entries say: crash and start. Conditions: none. -/
import Derived.Test.YtcfmnoimehcfnaaGreatDoorJ7
import Derived.Test.YtcfmnoimehcfnaaGreatDoorC8
import Derived.Test.YtcfmnoimehcfnaaGreatDoorFSv
set_option linter.unusedVariables false
set_option maxRecDepth 100000
namespace Go.Proofs.YtcfmnoimehcfnaaGreatDoor
open Go Go.Sh

inductive SE where
  | did (id a : Int)
  | cant (id : Int)
  | undid (id : Int)
def SE.en : SE → En
  | .did id a => ⟨[100, 105, 100], id, [a]⟩
  | .cant id => ⟨[99, 97, 110, 116], id, []⟩
  | .undid id => ⟨[117, 110, 100, 105, 100], id, []⟩
/-- what a service keeps -/
structure SA where
  left : Int
  h : Int → Int
  s : Int → Int
def takeA (left : Int) (h : Int → Int) (id n : Int) : Int := if id < 1 ∨ 999 < id ∨ n < 1 ∨ 1000000000 < n then 1 else if 0 < h id then 8 else if n > left then 9 else 0
def SA.step (A : SA) : SE → SA
  | .did id a => ⟨if takeA A.left A.h id a = 0 then A.left - a else A.left, fun x => if takeA A.left A.h id a = 0 ∧ x = id then a else A.h x, fun x => if x = id then 1 else A.s x⟩
  | .cant id => ⟨A.left, A.h, fun x => if x = id then 2 else A.s x⟩
  | .undid id => ⟨A.left + A.h id, fun x => if x = id then 0 else A.h x, fun x => if x = id then 3 else A.s x⟩
def SA.zero (room : Int) : SA := ⟨clampB room, fun _ => 0, fun _ => 0⟩
def SA.run (room : Int) (es : List SE) : SA := es.foldl SA.step (SA.zero room)
theorem SA.run_add (room : Int) (es : List SE) (e : SE) : SA.run room (es ++ [e]) = (SA.run room es).step e := by simp [SA.run]
/-- it keeps that -/
structure Sv.Is (S : Sv) (A : SA) : Prop where
  left : S.B.left = A.left
  h : ∀ x, S.B.h x = A.h x
  s : ∀ x, S.s x = A.s x
theorem Sv.Is.take {S : Sv} {A : SA} (h : S.Is A) (id n : Int) : takeB S.B id n = takeA A.left A.h id n := by
  unfold takeB takeA; rw [h.h, h.left]
structure SvIs (S : Sv) (es : List SE) (down : Bool) : Prop where
  ok : S.Ok
  lines : S.J.lines = (es.map SE.en).map LB
  may : ∀ e ∈ es.map SE.en, mayN e = true
  sure : S.J.sure = es.length
  dn : S.J.down = down
  len : es.length ≤ 4096
  is : S.Is (if down = true then SA.zero S.room else SA.run S.room es)
theorem SvIs.size {S : Sv} {es : List SE} {d : Bool} (h : SvIs S es d) : ∀ s ∈ S.J.lines, s.size ≤ 100000 := by rw [h.lines]; exact LB_size h.may
theorem SvIs.n {S : Sv} {es : List SE} {d : Bool} (h : SvIs S es d) : S.J.lines.length = es.length := by rw [h.lines]; simp
theorem SvIs.good {S : Sv} {es : List SE} {d : Bool} (h : SvIs S es d) : goodL S.J.lines = (es.map SE.en).map LB := by rw [h.lines]; exact good_ents h.may
theorem foldS {w0 w : World} {R : List Hp} {S : Sv} (H : Sh.Holds w0 ([(S.n, .cells #[I S.node, I S.room, S.J.v, S.B.v, .map (some S.m)] 178 (0, 0))] :: S.J.hp :: S.B.hp :: [(S.m, mapO S.l S.c)] :: R) w) : Sh.Holds w0 (S.hp :: R) w := H.perm (by simp [Sv.hp])
theorem openS {w0 w : World} {R : List Hp} {S : Sv} (H : Sh.Holds w0 (S.hp :: R) w) : Sh.Holds w0 ([(S.n, .cells #[I S.node, I S.room, S.J.v, S.B.v, .map (some S.m)] 178 (0, 0))] :: S.J.hp :: S.B.hp :: [(S.m, mapO S.l S.c)] :: R) w := H.perm (by simp [Sv.hp])
theorem crashS_c {w0 w : World} {hs R : List Hp} {K : KV} {S : Sv} {es : List SE} {d : Bool} {x1 x2 : Int} (H : Sh.Holds w0 hs w) [D : Del hs S.hp R] (I0 : SvIs S es d)
    (k : ∀ (S' : Sv) w', SvIs S' es true → S'.n = S.n → S'.node = S.node → S'.room = S.room → S'.J.room = S.J.room → Sh.Holds w0 (S'.hp :: R) w' → K (.tuple #[]) w') : gocall Tryz.prog 45 [S.v, I x1, I x2] K w := by
  replace H := H.get S.hp
  apply F45_go; unfold F45
  refine br_f rfl ?_
  refine downS_c (S := S) 0 H rfl (fun w H => ?_)
  refine asBoo_h ?_
  rw [I0.dn]
  cases d with
  | true => exact br_t rfl (k S w I0 rfl rfl rfl rfl H)
  | false =>
  refine br_f rfl ?_
  refine nn_h ?_
  replace H := openS H
  apply ld_h 0 H rfl rfl; refine asPtr_h ?_
  have hn := I0.n
  have hlen := I0.len
  have hsu := I0.sure
  refine Crash_c (J := S.J) 1 H rfl I0.ok.j I0.size (by omega) (by rw [hsu]; omega) (by omega) (fun J w hJ okJ H => ?_)
  rw [I0.dn, if_neg (by simp), crash_sure (by omega)] at hJ
  refine asT_e [] rfl rfl ?_
  refine forget_c (n := S.n) (node := S.node) (room := S.room) 0 H rfl (fun Bk m w okB b1 b2 H => ?_)
  refine asT_e [] rfl rfl ?_
  have ej : J.j = S.J.j := by rw [hJ]
  have ev : S.J.v = J.v := by rw [Jr.v, Jr.v, ej]
  rw [ev] at H
  refine k ⟨S.n, S.node, S.room, J, Bk, m, [], 0⟩ w ⟨⟨okJ, okB, MOk.nil 0⟩, by rw [hJ]; exact I0.lines, I0.may, by rw [hJ]; exact hsu, by rw [hJ], hlen, by rw [if_pos rfl]; exact ⟨b1, b2, fun x => rfl⟩⟩ rfl rfl rfl (by rw [hJ]) (foldS ?_)
  replace H : Sh.Holds w0 ([(S.n, .cells #[I S.node, I S.room, J.v, Bk.v, .map (some m)] 178 (0, 0))] :: Bk.hp :: [(m, mapO [] 0)] :: J.hp :: S.B.hp :: [(S.m, mapO S.l S.c)] :: R) w := H
  exact H.re
set_option maxHeartbeats 1000000 in
theorem startS_c {w0 w : World} {hs R : List Hp} {K : KV} {S : Sv} {es : List SE} {d : Bool} (E : Errs w0) (T : Tab w0) (H : Sh.Holds w0 hs w) [D : Del hs S.hp R] (I0 : SvIs S es d)
    (k : ∀ (S' : Sv) w', SvIs S' es false → S'.n = S.n → S'.node = S.node → S'.room = S.room → S'.J.room = S.J.room → Sh.Holds w0 (S'.hp :: R) w' → K (.tuple #[]) w') : gocall Tryz.prog 47 [S.v] K w := by
  replace H := H.get S.hp
  apply F47_go; unfold F47
  refine nw_h H (fun k1 w H => ?_)
  apply ld_h 0 H rfl rfl; refine asPtr_h ?_
  refine br_f rfl ?_
  apply ld_h 0 H rfl rfl; refine asPtr_h ?_
  refine downS_c (S := S) 1 H rfl (fun w H => ?_)
  refine asBoo_h ?_
  rw [I0.dn]
  cases d with
  | false => exact br_t rfl (k S w I0 rfl rfl rfl rfl H.tail)
  | true =>
  refine br_f rfl ?_
  apply ld_h 0 H rfl rfl; refine asPtr_h ?_
  refine nn_h ?_
  replace H : Sh.Holds w0 ([(S.n, .cells #[I S.node, I S.room, S.J.v, S.B.v, .map (some S.m)] 178 (0, 0))] :: S.J.hp :: S.B.hp :: [(S.m, mapO S.l S.c)] :: [(k1, .cells #[S.v] 67 (0, 0))] :: R) w := openS (H.get S.hp)
  apply ld_h 0 H rfl rfl; refine asPtr_h ?_
  have hn := I0.n
  have hlen := I0.len
  have hsu := I0.sure
  have hg := I0.good
  have hgl := good_len hg
  rw [List.length_map] at hgl
  refine Recover_c (J := S.J) 1 E T H rfl I0.ok.j I0.size (by omega) (fun J w hJ okJ H => ?_)
  rw [I0.dn, if_pos rfl, hg] at hJ
  refine asI_h ?_
  replace H : Sh.Holds w0 ([(S.n, .cells #[I S.node, I S.room, S.J.v, S.B.v, .map (some S.m)] 178 (0, 0))] :: J.hp :: S.B.hp :: [(S.m, mapO S.l S.c)] :: [(k1, .cells #[S.v] 67 (0, 0))] :: R) w := H
  apply ld_h 4 H rfl rfl; refine asPtr_h ?_
  refine forget_c (n := S.n) (node := S.node) (room := S.room) 0 H rfl (fun Bk m w okB b1 b2 H => ?_)
  refine asT_e [] rfl rfl ?_
  have ej : J.j = S.J.j := by rw [hJ]
  have ev : S.J.v = J.v := by rw [Jr.v, Jr.v, ej]
  rw [ev] at H
  replace H : Sh.Holds w0 ([(S.n, .cells #[I S.node, I S.room, J.v, Bk.v, .map (some m)] 178 (0, 0))] :: J.hp :: Bk.hp :: [(m, mapO [] 0)] :: [(k1, .cells #[S.v] 67 (0, 0))] :: R) w := Holds.re (b := [(S.n, .cells #[I S.node, I S.room, J.v, Bk.v, .map (some m)] 178 (0, 0))] :: Bk.hp :: [(m, mapO [] 0)] :: J.hp :: S.B.hp :: [(S.m, mapO S.l S.c)] :: [(k1, .cells #[S.v] 67 (0, 0))] :: R) H
  apply ld_h 4 H rfl rfl; refine asPtr_h ?_
  refine nn_h ?_
  apply ld_h 0 H rfl rfl; refine asPtr_h ?_
  apply F124_go; unfold F124
  refine nw_h H (fun kb w H => ?_)
  refine asFn_h ?_
  refine rfn_h H (fun D l Rt w hround H => ?_)
  have l1 : J.lines = (es.map SE.en).map LB := by rw [hJ]
  have g1 : goodL J.lines = (es.map SE.en).map LB := by rw [l1]; exact good_ents I0.may
  obtain ⟨cell, hcell⟩ : ∃ cell : Hb → Nat → List Tri → Nat → List Hp, cell = fun Bk m l' c' => [(l, Rt .ready none)] :: [(D, .deferred (some []))] :: [(k1, .cells #[S.v] 67 (0, 0))] :: [(S.n, .cells #[I S.node, I S.room, J.v, Bk.v, .map (some m)] 178 (0, 0))] :: J.hp :: Bk.hp :: [(m, mapO l' c')] :: R := ⟨_, rfl⟩
  obtain ⟨C, hC⟩ : ∃ C : Nat → List Hp → Prop, C = fun (n : Nat) (cs : List Hp) => ∃ (S' : Sv), S'.n = S.n ∧ S'.node = S.node ∧ S'.room = S.room ∧ S'.J = J ∧ S'.Ok ∧ S'.Is (SA.run S.room (es.take n)) ∧ (∀ x ∈ J.lines.take n, okS x = true) ∧ cs = cell S'.B S'.m S'.l S'.c := ⟨_, rfl⟩
  have H2 : Sh.Holds w0 (cell Bk m [] 0 ++ [[(kb, .cells #[J.v] 131 (0, 0))]]) w := by
    rw [hcell]
    have H3 : Sh.Holds w0 ([(kb, .cells #[J.v] 131 (0, 0))] :: ([(l, Rt .ready none)] :: [(D, .deferred (some []))] :: [(k1, .cells #[S.v] 67 (0, 0))] :: [(S.n, .cells #[I S.node, I S.room, J.v, Bk.v, .map (some m)] 178 (0, 0))] :: J.hp :: Bk.hp :: [(m, mapO [] 0)] :: R)) w := Holds.re (b := [(l, Rt .ready none)] :: [(D, .deferred (some []))] :: [(kb, .cells #[J.v] 131 (0, 0))] :: [(S.n, .cells #[I S.node, I S.room, J.v, Bk.v, .map (some m)] 178 (0, 0))] :: J.hp :: Bk.hp :: [(m, mapO [] 0)] :: [(k1, .cells #[S.v] 67 (0, 0))] :: R) H
    exact Holds.swap (a := [[(kb, .cells #[J.v] 131 (0, 0))]]) H3
  have last : ∀ {cs w}, C (goodL J.lines).length cs → Sh.Holds w0 cs w → rfe l Rt (rfj (fun w => dfr D (fun w => K (.tuple #[]) w) w) (fun w => dfr D (fun w => K (.tuple #[]) w) w) []) w := by
    intro cs w hc H
    rw [hC] at hc
    obtain ⟨S', q1, q2, q3, q4, q5, q6, q7, rfl⟩ := hc
    rw [hcell] at H
    refine rfe_h 0 (st := .ready) (pe := none) (by simp) H rfl (fun w H => ?_)
    unfold rfj
    simp only
    refine dfr_h 1 H rfl (fun w H => ?_)
    rw [g1, List.length_map, List.length_map, List.take_length] at q6
    refine k S' w ⟨q5, by rw [q4]; exact l1, I0.may, by rw [q4, hJ]; simp, by rw [q4, hJ], hlen, by rw [q3]; simpa using q6⟩ q1 q2 q3 (by rw [q4, hJ]) (foldS ?_)
    have H3 := H.tail.tail.tail
    rw [q1, q2, q3, q4]
    exact H3
  refine all_c (J := J) (ij := 4) C (fun _ => False) E T (by rw [l1]; exact LB_size I0.may) (by rw [l1]; simp; omega) okJ H2 (by rw [hcell]; rfl) ?_ ?_ (fun cs w hc H => last hc H) (fun _ _ h => h.elim)
  · rw [hC]
    exact ⟨⟨S.n, S.node, S.room, J, Bk, m, [], 0⟩, rfl, rfl, rfl, rfl, ⟨okJ, okB, MOk.nil 0⟩, ⟨b1, b2, fun x => rfl⟩, by simp, rfl⟩
  · intro i s p n c cs fr K' w hgi h0 hc hsl H kt kf
    rw [hC] at hc
    obtain ⟨S', q1, q2, q3, q4, q5, q6, q7, rfl⟩ := hc
    have hos := okS_iff h0
    have hen := ent_at I0.may g1 q7 hgi hos
    rw [hcell] at H
    refine hround _ _ _ (H.mem 0 rfl) ?_
    refine asT_e [_] rfl rfl ?_
    refine asN_e [_, _, _] rfl rfl ?_
    refine asStr_e (b := B (parseE s.data.toList).2.k) rfl ?_
    refine asI_e (n := (parseE s.data.toList).2.id) rfl ?_
    refine asSl_e (a := p) (n := n) (c := c) rfl ?_
    refine nw3_h (k := (parseE s.data.toList).2.k) H (fun k58 w H => ?_)
    refine rfb_h 1 H rfl (fun w H => ?_)
    apply ld_h 3 H rfl rfl; refine asPtr_h ?_
    apply ld3_h 0 H rfl
    rw [List.getElem?_map] at hen
    obtain ⟨e, hes, hee⟩ := Option.map_eq_some_iff.1 hen
    have htk : es.take (i + 1) = es.take i ++ [e] := by rw [List.take_add_one, hes]; rfl
    rw [← hee] at hsl H ⊢
    have H4 : Sh.Holds w0 (S'.hp :: eHp k58 e.en.k e.en.id (.slice p n c) :: [(l, Rt .busy none)] :: [(D, .deferred (some []))] :: [(k1, .cells #[S.v] 67 (0, 0))] :: (R ++ fr)) w := by
      refine foldS ?_
      rw [q1, q2, q3, q4]
      exact Holds.re (b := eHp k58 e.en.k e.en.id (.slice p n c) :: [(l, Rt .busy none)] :: [(D, .deferred (some []))] :: [(k1, .cells #[S.v] 67 (0, 0))] :: [(S.n, .cells #[I S.node, I S.room, J.v, S'.B.v, .map (some S'.m)] 178 (0, 0))] :: J.hp :: S'.B.hp :: [(S'.m, mapO S'.l S'.c)] :: (R ++ fr)) H
    have hsl4 : Sl (Sh.Holds w0 (S'.hp :: eHp k58 e.en.k e.en.id (.slice p n c) :: [(l, Rt .busy none)] :: [(D, .deferred (some []))] :: [(k1, .cells #[S.v] 67 (0, 0))] :: (R ++ fr))) p n 1 (e.en.l.map I) := hsl.mono fun w H => Holds.right (a := R) H.tail.tail.tail.tail.tail
    have fin : ∀ (S2 : Sv) w', S2.n = S.n → S2.node = S.node → S2.room = S.room → S2.J = J → S2.Ok → S2.Is ((SA.run S.room (es.take i)).step e) → Sh.Holds w0 (S2.hp :: eHp k58 e.en.k e.en.id (.slice p n c) :: [(l, Rt .busy none)] :: [(D, .deferred (some []))] :: [(k1, .cells #[S.v] 67 (0, 0))] :: (R ++ fr)) w' →
        asT 0 (.tuple #[]) (fun f w => rfy l Rt (fun v w => K' v w) w) w' := by
      intro S2 w r1 r2 r3 r4 r5 r6 H
      refine asT_e [] rfl rfl ?_
      refine rfy_h 2 H rfl (fun w H => ?_)
      refine kt (cell S2.B S2.m S2.l S2.c) w ?_ ?_
      · rw [hC]
        refine ⟨S2, r1, r2, r3, r4, r5, by rw [htk, SA.run_add]; exact r6, fun x hx => ?_, rfl⟩
        rw [List.take_add_one, hgi] at hx
        rcases List.mem_append.1 hx with hx | hx
        · exact q7 x hx
        · simp only [Option.toList_some, List.mem_singleton] at hx
          subst hx; exact hos
      · rw [hcell]
        show Sh.Holds w0 ([(l, Rt .ready none)] :: [(D, .deferred (some []))] :: [(k1, .cells #[S.v] 67 (0, 0))] :: [(S.n, .cells #[I S.node, I S.room, J.v, S2.B.v, .map (some S2.m)] 178 (0, 0))] :: J.hp :: S2.B.hp :: [(S2.m, mapO S2.l S2.c)] :: (R ++ fr)) w
        have H5 := openS H
        rw [r1, r2, r3, r4] at H5
        exact Holds.re (b := [(S.n, .cells #[I S.node, I S.room, J.v, S2.B.v, .map (some S2.m)] 178 (0, 0))] :: J.hp :: S2.B.hp :: [(S2.m, mapO S2.l S2.c)] :: eHp k58 e.en.k e.en.id (.slice p n c) :: [(l, Rt .ready none)] :: [(D, .deferred (some []))] :: [(k1, .cells #[S.v] 67 (0, 0))] :: (R ++ fr)) H5
    rw [← q1]
    clear H
    cases e with
    | did id a =>
      refine playsDid id a 0 H4 rfl q5 hsl4 (fun S2 w r H => fin S2 w (r.n.trans q1) (r.node.trans q2) (r.room.trans q3) (r.j.trans q4) r.ok ⟨?_, fun x => ?_, fun x => ?_⟩ H)
      · rw [r.left]; simp only [q6.take, q6.left, SA.step]
      · rw [r.h]; simp only [q6.take, q6.h, SA.step]
      · rw [r.s]; simp only [q6.s, SA.step]
    | cant id =>
      refine playsCant id 0 H4 rfl q5 hsl4 (fun S2 w r H => fin S2 w (r.n.trans q1) (r.node.trans q2) (r.room.trans q3) (r.j.trans q4) r.ok ⟨?_, fun x => ?_, fun x => ?_⟩ H)
      · rw [r.left]; simp only [q6.left, SA.step]
      · rw [r.h]; simp only [q6.h, SA.step]
      · rw [r.s]; simp only [q6.s, SA.step]
    | undid id =>
      refine playsUndid id 0 H4 rfl q5 hsl4 (fun S2 w r H => fin S2 w (r.n.trans q1) (r.node.trans q2) (r.room.trans q3) (r.j.trans q4) r.ok ⟨?_, fun x => ?_, fun x => ?_⟩ H)
      · rw [r.left]; simp only [q6.left, q6.h, SA.step]
      · rw [r.h]; simp only [q6.h, SA.step]
      · rw [r.s]; simp only [q6.s, SA.step]
end Go.Proofs.YtcfmnoimehcfnaaGreatDoor
