/- A shipper as its journal's entries say: crash, start, a message handled. Conditions: none. -/
import Derived.Test.YtcfmnoimehcfnaaGreatDoorJ7
import Derived.Test.YtcfmnoimehcfnaaGreatDoorC5
import Derived.Test.YtcfmnoimehcfnaaGreatDoorAu
set_option linter.unusedVariables false
set_option maxRecDepth 100000
namespace Go.Proofs.YtcfmnoimehcfnaaGreatDoor
open Go Go.Sh

def Pk.en (p : Pk) : En := ⟨[115, 101, 110, 116], p.id, [p.item, p.qty]⟩
structure PkOk (es : List Pk) : Prop where
  ok : ∀ p ∈ es, okM p.id p.item p.qty
  ids : (es.map (·.id)).Nodup
theorem PkOk.may {es : List Pk} (h : PkOk es) : ∀ e ∈ es.map Pk.en, mayN e = true := fun e he => by
  obtain ⟨p, hp, rfl⟩ := List.mem_map.1 he
  exact show mayE sentB p.id [p.item, p.qty] = true from may_ok (h.ok p hp)
theorem PkOk.len {es : List Pk} (h : PkOk es) : es.length ≤ 1000 := by
  have key : ∀ (n : Nat) (l : List Int), l.Nodup → (∀ x ∈ l, 1 ≤ x ∧ x ≤ n) → l.length ≤ n := by
    intro n
    induction n with
    | zero =>
      intro l _ hl
      cases l with
      | nil => simp
      | cons a l => have := hl a (by simp); omega
    | succ n ih =>
      intro l hn hl
      have h1 := ih (l.filter (fun x => decide (x ≠ (n + 1 : Int)))) (hn.filter _) (fun x hx => by
        simp only [List.mem_filter, decide_eq_true_eq] at hx
        have := hl x hx.1
        omega)
      have h2 : l.length ≤ (l.filter (fun x => decide (x ≠ (n + 1 : Int)))).length + 1 := by
        clear ih hl h1
        induction l with
        | nil => simp
        | cons a l ihl =>
          simp only [List.nodup_cons] at hn
          by_cases ha : a = (n + 1 : Int)
          · have : l.filter (fun x => decide (x ≠ (n + 1 : Int))) = l := List.filter_eq_self.2 (fun x hx => by
              simp only [decide_eq_true_eq]
              intro e; rw [e, ← ha] at hx; exact hn.1 hx)
            rw [List.filter_cons_of_neg (by simp [ha]), this]; simp
          · rw [List.filter_cons_of_pos (by simp [ha])]
            have := ihl hn.2
            simp only [List.length_cons]; omega
      omega
  have := key 999 (es.map (·.id)) h.ids (fun x hx => by
    obtain ⟨p, hp, rfl⟩ := List.mem_map.1 hx
    have := h.ok p hp
    exact ⟨this.1, this.2.1⟩)
  rw [List.length_map] at this
  omega
theorem ship_next {es : List Pk} {n : Nat} {p : Pk} (h : PkOk es) (hp : es[n]? = some p) : shipB (es.take n) p.id p.item p.qty = 0 := by
  have h1 := h.ok p (List.mem_of_getElem? hp)
  have h2 : ∀ q ∈ es.take n, q.id ≠ p.id := by
    intro q hq e
    obtain ⟨j, hj, rfl⟩ := List.getElem_of_mem hq
    have hjn : j < n := by have := hj; rw [List.length_take] at this; omega
    have hnl := (List.getElem?_eq_some_iff.1 hp).1
    have e2 : (es.map (·.id))[j]'(by simp; omega) = (es.map (·.id))[n]'(by simpa using hnl) := by
      simp only [List.getElem_map]
      rw [List.getElem_take] at e
      rw [e]
      have := (List.getElem?_eq_some_iff.1 hp).2
      rw [this]
    have := (List.getElem_inj h.ids).1 e2
    omega
  have h3 := idx_no h2
  simp only [decide_eq_false_iff_not] at h3
  unfold shipB
  obtain ⟨a1, a2, a3, a4, a5, a6⟩ := h1
  rw [if_neg (by omega), if_neg h3]
structure NdIs (N : Nd) (es : List Pk) (down : Bool) : Prop where
  ok : N.Ok
  lines : N.J.lines = (es.map Pk.en).map LB
  pk : PkOk es
  sure : N.J.sure = es.length
  dn : N.J.down = down
  l : N.B.l = if down = true then [] else es
theorem NdIs.size {S : Nd} {es : List Pk} {d : Bool} (h : NdIs S es d) : ∀ s ∈ S.J.lines, s.size ≤ 100000 := by rw [h.lines]; exact LB_size h.pk.may
theorem NdIs.n {S : Nd} {es : List Pk} {d : Bool} (h : NdIs S es d) : S.J.lines.length = es.length := by rw [h.lines]; simp
theorem NdIs.good {S : Nd} {es : List Pk} {d : Bool} (h : NdIs S es d) : goodL S.J.lines = (es.map Pk.en).map LB := by rw [h.lines]; exact good_ents h.pk.may
theorem foldNd {w0 w : World} {R : List Hp} {N : Nd} (H : Sh.Holds w0 ([(N.n, .cells #[N.J.v, N.B.v] 153 (0, 0))] :: N.J.hp :: N.B.hp :: R) w) : Sh.Holds w0 (N.hp :: R) w := H.perm (by simp [Nd.hp])
theorem openNd {w0 w : World} {R : List Hp} {N : Nd} (H : Sh.Holds w0 (N.hp :: R) w) : Sh.Holds w0 ([(N.n, .cells #[N.J.v, N.B.v] 153 (0, 0))] :: N.J.hp :: N.B.hp :: R) w := H.perm (by simp [Nd.hp])
theorem crashN_c {w0 w : World} {hs R : List Hp} {K : KV} {N : Nd} {es : List Pk} {d : Bool} {x1 x2 : Int} (H : Sh.Holds w0 hs w) [D : Del hs N.hp R] (I0 : NdIs N es d)
    (k : ∀ (N' : Nd) w', NdIs N' es true → N'.n = N.n → N'.J.room = N.J.room → Sh.Holds w0 (N'.hp :: R) w' → K (.tuple #[]) w') : gocall Tryz.prog 27 [N.v, I x1, I x2] K w := by
  replace H := H.get N.hp
  apply F27_go; unfold F27
  refine br_f rfl ?_
  refine downN_c (N := N) 0 H rfl (fun w H => ?_)
  refine asBoo_h ?_
  rw [I0.dn]
  cases d with
  | true => exact br_t rfl (k N w I0 rfl rfl H)
  | false =>
  refine br_f rfl ?_
  refine nn_h ?_
  replace H := openNd H
  apply ld_h 0 H rfl rfl; refine asPtr_h ?_
  have hn := I0.n
  have hlen := I0.pk.len
  have hsu := I0.sure
  refine Crash_c (J := N.J) 1 H rfl I0.ok.j I0.size (by omega) (by rw [hsu]; omega) (by omega) (fun J w hJ okJ H => ?_)
  rw [I0.dn, if_neg (by simp), crash_sure (by omega)] at hJ
  refine asT_e [] rfl rfl ?_
  refine newBook_c H (fun Bk w okB hbl H => ?_)
  refine asPtr_h ?_
  refine nn_h ?_
  replace H : Sh.Holds w0 (Bk.hp :: [(N.n, .cells #[N.J.v, N.B.v] 153 (0, 0))] :: J.hp :: N.B.hp :: R) w := H
  apply st_h 1 H rfl rfl rfl; intro w H
  have ej : J.j = N.J.j := by rw [hJ]
  have ev : N.J.v = J.v := by rw [Jr.v, Jr.v, ej]
  replace H : Sh.Holds w0 (Bk.hp :: [(N.n, .cells #[N.J.v, Bk.v] 153 (0, 0))] :: J.hp :: N.B.hp :: R) w := H
  rw [ev] at H
  refine k ⟨N.n, J, Bk⟩ w ⟨⟨okJ, okB, by rw [hbl]; simp⟩, by rw [hJ]; exact I0.lines, I0.pk, by rw [hJ]; exact hsu, by rw [hJ], by rw [if_pos rfl]; exact hbl⟩ rfl (by rw [hJ]) (foldNd ?_)
  exact H.re
set_option maxHeartbeats 1000000 in
theorem startN_c {w0 w : World} {hs R : List Hp} {K : KV} {N : Nd} {es : List Pk} {d : Bool} (E : Errs w0) (T : Tab w0) (H : Sh.Holds w0 hs w) [D : Del hs N.hp R] (I0 : NdIs N es d)
    (k : ∀ (N' : Nd) w', NdIs N' es false → N'.n = N.n → N'.J.room = N.J.room → Sh.Holds w0 (N'.hp :: R) w' → K (.tuple #[]) w') : gocall Tryz.prog 29 [N.v] K w := by
  replace H := H.get N.hp
  apply F29_go; unfold F29
  refine nw_h H (fun k1 w H => ?_)
  apply ld_h 0 H rfl rfl; refine asPtr_h ?_
  refine br_f rfl ?_
  apply ld_h 0 H rfl rfl; refine asPtr_h ?_
  refine downN_c (N := N) 1 H rfl (fun w H => ?_)
  refine asBoo_h ?_
  rw [I0.dn]
  cases d with
  | false => exact br_t rfl (k N w I0 rfl rfl H.tail)
  | true =>
  refine br_f rfl ?_
  apply ld_h 0 H rfl rfl; refine asPtr_h ?_
  refine nn_h ?_
  replace H : Sh.Holds w0 ([(N.n, .cells #[N.J.v, N.B.v] 153 (0, 0))] :: N.J.hp :: N.B.hp :: [(k1, .cells #[N.v] 45 (0, 0))] :: R) w := openNd (H.get N.hp)
  apply ld_h 0 H rfl rfl; refine asPtr_h ?_
  have hn := I0.n
  have hlen := I0.pk.len
  have hsu := I0.sure
  have hg := I0.good
  have hgl := good_len hg
  rw [List.length_map] at hgl
  refine Recover_c (J := N.J) 1 E T H rfl I0.ok.j I0.size (by omega) (fun J w hJ okJ H => ?_)
  rw [I0.dn, if_pos rfl, hg] at hJ
  refine asI_h ?_
  replace H : Sh.Holds w0 ([(N.n, .cells #[N.J.v, N.B.v] 153 (0, 0))] :: J.hp :: N.B.hp :: [(k1, .cells #[N.v] 45 (0, 0))] :: R) w := H
  replace H := H.drew
  refine keepsA [[(k1, .cells #[N.v] 45 (0, 0))]] H ?_
  refine ldSA ?_
  refine asPtr_h ?_
  refine newBook_c H (fun Bk w okB hbl H => ?_)
  refine asPtr_h ?_
  refine kpA H ?_
  refine nn_h ?_
  apply st_h 1 H rfl rfl rfl; intro w H
  have ej : J.j = N.J.j := by rw [hJ]
  have ev : N.J.v = J.v := by rw [Jr.v, Jr.v, ej]
  replace H : Sh.Holds w0 (Bk.hp :: [(N.n, .cells #[N.J.v, Bk.v] 153 (0, 0))] :: J.hp :: N.B.hp :: [(k1, .cells #[N.v] 45 (0, 0))] :: R) w := H
  rw [ev] at H
  replace H : Sh.Holds w0 ([(N.n, .cells #[J.v, Bk.v] 153 (0, 0))] :: J.hp :: Bk.hp :: [(k1, .cells #[N.v] 45 (0, 0))] :: R) w := H.re
  apply ld_h 3 H rfl rfl; refine asPtr_h ?_
  refine nn_h ?_
  apply ld_h 0 H rfl rfl; refine asPtr_h ?_
  apply F124_go; unfold F124
  refine nw_h H (fun kb w H => ?_)
  refine asFn_h ?_
  refine rfn_h H (fun D l Rt w hround H => ?_)
  have l1 : J.lines = (es.map Pk.en).map LB := by rw [hJ]
  have g1 : goodL J.lines = (es.map Pk.en).map LB := by rw [l1]; exact good_ents I0.pk.may
  obtain ⟨cell, hcell⟩ : ∃ cell : Book → List Hp, cell = fun Bk => [(l, Rt .ready none)] :: [(D, .deferred (some []))] :: [(k1, .cells #[N.v] 45 (0, 0))] :: [(N.n, .cells #[J.v, Bk.v] 153 (0, 0))] :: J.hp :: Bk.hp :: R := ⟨_, rfl⟩
  obtain ⟨C, hC⟩ : ∃ C : Nat → List Hp → Prop, C = fun (n : Nat) (cs : List Hp) => ∃ (Bk : Book), Bk.Ok ∧ Bk.l = es.take n ∧ (∀ x ∈ J.lines.take n, okS x = true) ∧ cs = cell Bk := ⟨_, rfl⟩
  have H2 : Sh.Holds w0 (cell Bk ++ [[(kb, .cells #[J.v] 131 (0, 0))]]) w := by
    rw [hcell]
    have H3 : Sh.Holds w0 ([(kb, .cells #[J.v] 131 (0, 0))] :: ([(l, Rt .ready none)] :: [(D, .deferred (some []))] :: [(k1, .cells #[N.v] 45 (0, 0))] :: [(N.n, .cells #[J.v, Bk.v] 153 (0, 0))] :: J.hp :: Bk.hp :: R)) w := Holds.re (b := [(l, Rt .ready none)] :: [(D, .deferred (some []))] :: [(kb, .cells #[J.v] 131 (0, 0))] :: [(N.n, .cells #[J.v, Bk.v] 153 (0, 0))] :: J.hp :: Bk.hp :: [(k1, .cells #[N.v] 45 (0, 0))] :: R) H
    exact Holds.swap (a := [[(kb, .cells #[J.v] 131 (0, 0))]]) H3
  have last : ∀ {cs w}, C (goodL J.lines).length cs → Sh.Holds w0 cs w → rfe l Rt (rfj (fun w => dfr D (fun w => K (.tuple #[]) w) w) (fun w => dfr D (fun w => K (.tuple #[]) w) w) []) w := by
    intro cs w hc H
    rw [hC] at hc
    obtain ⟨Bk, q5, q6, q7, rfl⟩ := hc
    rw [hcell] at H
    refine rfe_h 0 (st := .ready) (pe := none) (by simp) H rfl (fun w H => ?_)
    unfold rfj
    simp only
    refine dfr_h 1 H rfl (fun w H => ?_)
    rw [g1, List.length_map, List.length_map, List.take_length] at q6
    refine k ⟨N.n, J, Bk⟩ w ⟨⟨okJ, q5, by rw [q6]; omega⟩, l1, I0.pk, by rw [hJ]; simp, by rw [hJ], by simpa using q6⟩ rfl (by rw [hJ]) (foldNd ?_)
    exact H.tail.tail.tail
  refine all_c (J := J) (ij := 4) C (fun _ => False) E T (by rw [l1]; exact LB_size I0.pk.may) (by rw [l1]; simp; omega) okJ H2 (by rw [hcell]; rfl) ?_ ?_ (fun cs w hc H => last hc H) (fun _ _ h => h.elim)
  · rw [hC]
    exact ⟨Bk, okB, by rw [hbl]; rfl, by simp, rfl⟩
  · intro i s p n c cs fr K' w hgi h0 hc hsl H kt kf
    rw [hC] at hc
    obtain ⟨Bk, q5, q6, q7, rfl⟩ := hc
    have hos := okS_iff h0
    have hen := ent_at I0.pk.may g1 q7 hgi hos
    rw [hcell] at H
    refine hround _ _ _ (H.mem 0 rfl) ?_
    refine asT_e [_] rfl rfl ?_
    refine asN_e [_, _, _] rfl rfl ?_
    refine asStr_e (b := B (parseE s.data.toList).2.k) rfl ?_
    refine asI_e (n := (parseE s.data.toList).2.id) rfl ?_
    refine asSl_e (a := p) (n := n) (c := c) rfl ?_
    refine nw3_h (k := (parseE s.data.toList).2.k) H (fun k58 w H => ?_)
    refine rfb_h 1 H rfl (fun w H => ?_)
    apply ld_h 3 H rfl rfl; refine asPtr_h ?_
    apply ld3_h 0 H rfl
    rw [List.getElem?_map] at hen
    obtain ⟨e, hes, hee⟩ := Option.map_eq_some_iff.1 hen
    have htk : es.take (i + 1) = es.take i ++ [e] := by rw [List.take_add_one, hes]; rfl
    rw [← hee] at hsl H ⊢
    have H4 : Sh.Holds w0 (Nd.hp ⟨N.n, J, Bk⟩ :: eHp k58 e.en.k e.en.id (.slice p n c) :: [(l, Rt .busy none)] :: [(D, .deferred (some []))] :: [(k1, .cells #[N.v] 45 (0, 0))] :: (R ++ fr)) w := by
      refine foldNd ?_
      exact Holds.re (b := eHp k58 e.en.k e.en.id (.slice p n c) :: [(l, Rt .busy none)] :: [(D, .deferred (some []))] :: [(k1, .cells #[N.v] 45 (0, 0))] :: [(N.n, .cells #[J.v, Bk.v] 153 (0, 0))] :: J.hp :: Bk.hp :: (R ++ fr)) H
    have hn2 : n = 2 := by have := hsl.len; simp [Pk.en] at this; omega
    subst hn2
    have hsl4 : Sl (Sh.Holds w0 (Nd.hp ⟨N.n, J, Bk⟩ :: eHp k58 e.en.k e.en.id (.slice p 2 c) :: [(l, Rt .busy none)] :: [(D, .deferred (some []))] :: [(k1, .cells #[N.v] 45 (0, 0))] :: (R ++ fr))) p 2 1 [I e.item, I e.qty] := hsl.mono fun w H => Holds.right (a := R) H.tail.tail.tail.tail.tail
    refine playsN_c (N := ⟨N.n, J, Bk⟩) (id := e.id) (a := e.item) (b := e.qty) 0 H4 rfl ⟨okJ, q5, by rw [q6, List.length_take]; omega⟩ hsl4 (fun B2 w r1 r2 H => ?_)
    simp only at r2
    rw [q6, ship_next I0.pk hes, if_pos rfl] at r2
    refine asT_e [] rfl rfl ?_
    replace H : Sh.Holds w0 (Nd.hp ⟨N.n, J, B2⟩ :: eHp k58 e.en.k e.en.id (.slice p 2 c) :: [(l, Rt .busy none)] :: [(D, .deferred (some []))] :: [(k1, .cells #[N.v] 45 (0, 0))] :: (R ++ fr)) w := H
    refine rfy_h 2 H rfl (fun w H => ?_)
    refine kt (cell B2) w ?_ ?_
    · rw [hC]
      refine ⟨B2, r1, by rw [htk]; exact r2, fun x hx => ?_, rfl⟩
      rw [List.take_add_one, hgi] at hx
      rcases List.mem_append.1 hx with hx | hx
      · exact q7 x hx
      · simp only [Option.toList_some, List.mem_singleton] at hx
        subst hx; exact hos
    · rw [hcell]
      show Sh.Holds w0 ([(l, Rt .ready none)] :: [(D, .deferred (some []))] :: [(k1, .cells #[N.v] 45 (0, 0))] :: [(N.n, .cells #[J.v, B2.v] 153 (0, 0))] :: J.hp :: B2.hp :: (R ++ fr)) w
      have H5 := openNd H
      exact Holds.re (b := [(N.n, .cells #[J.v, B2.v] 153 (0, 0))] :: J.hp :: B2.hp :: eHp k58 e.en.k e.en.id (.slice p 2 c) :: [(l, Rt .ready none)] :: [(D, .deferred (some []))] :: [(k1, .cells #[N.v] 45 (0, 0))] :: (R ++ fr)) H5
/-- a parcel asked for by the chief: it is told, and goes if it did not -/
def shipE (es : List Pk) (id a b : Int) : List Pk := if (es.any fun p => p.id == id) = true then es else es ++ [⟨id, a, b⟩]
theorem idx_any_id {es : List Pk} {id : Int} : decide (0 ≤ idx (hasId id) es) = es.any fun p => p.id == id := by
  cases h : es.any fun p => p.id == id with
  | true =>
    obtain ⟨p, hp, e⟩ := List.any_eq_true.1 h
    exact idx_yes hp (by simpa using e)
  | false =>
    rw [List.any_eq_false] at h
    exact idx_no fun p hp e => h p hp (by simp [e])
theorem handleN_c {w0 w : World} {hs R : List Hp} {K : KV} {N : Nd} {es : List Pk} {id x5 a b : Int} (T : Tab w0) (H : Sh.Holds w0 hs w) [D : Del hs N.hp R] (I0 : NdIs N es false) (hm : okM id a b) (hr : (es.length : Int) < N.J.room)
    (k : ∀ q N' w', NdIs N' (shipE es id a b) false → N'.n = N.n → N'.J.room = N.J.room → Sh.Holds w0 ([(q, .cells #[I 16, I 3, I 0, I id, I 0, I 0, I 0] 35 (0, 0))] :: N'.hp :: R) w' → K (.slice (some ⟨q, 0, none⟩) 1 1) w') :
    gocall Tryz.prog 32 [N.v, msgV 15 0 3 id x5 a b] K w := by
  replace H := H.get N.hp
  have hl : N.B.l = es := by have := I0.l; simpa using this
  have hlen := I0.pk.len
  have hadd : addB N.J sentB id [a, b] = 0 := add_ok hm I0.dn (by rw [I0.n]; exact hr)
  have hs : shipsB N id a b = true := by unfold shipsB; rw [ship_ok hm, hadd]; simp
  refine handle_c (N := N) T 0 H rfl I0.ok (by rw [hl]; omega) I0.dn (fun h => by rw [hs] at h; simp [toB] at h) (fun _ q N' w okN D H => ?_)
  have hgo : goB N id a b = !es.any fun p => p.id == id := by
    unfold goB
    rw [hl, idx_any_id, ship_ok hm, hadd]
    simp
  have hlin : lineE sentB id [a, b] = LB (Pk.en ⟨id, a, b⟩) := lineE_B (Pk.en ⟨id, a, b⟩)
  refine k q N' w ?_ D.n D.room H
  unfold shipE
  cases h : es.any fun p => p.id == id with
  | true =>
    rw [h] at hgo
    have hgo : goB N id a b = false := hgo
    rw [hgo] at D
    rw [if_pos rfl]
    exact ⟨okN, by rw [D.lines]; simpa using I0.lines, I0.pk, by rw [D.sure]; simpa using I0.sure, by rw [D.down]; exact I0.dn, by rw [D.l]; simpa using hl⟩
  | false =>
    rw [h] at hgo
    have hgo : goB N id a b = true := hgo
    rw [hgo] at D
    rw [if_neg (by simp)]
    rw [List.any_eq_false] at h
    refine ⟨okN, by rw [D.lines, if_pos rfl, hlin, I0.lines]; simp, ⟨fun p hp => ?_, ?_⟩, by rw [D.sure, if_pos rfl, I0.n]; simp, by rw [D.down]; exact I0.dn, by rw [D.l, if_pos rfl, hl]; simp⟩
    · rcases List.mem_append.1 hp with hp | hp
      · exact I0.pk.ok p hp
      · simp only [List.mem_singleton] at hp; subst hp; exact hm
    · rw [List.map_append, List.nodup_append]
      refine ⟨I0.pk.ids, by simp, fun x hx y hy => ?_⟩
      obtain ⟨p, hp, rfl⟩ := List.mem_map.1 hx
      simp only [List.map_cons, List.map_nil, List.mem_singleton] at hy
      subst hy
      intro e
      exact h p hp (by simp [e])
end Go.Proofs.YtcfmnoimehcfnaaGreatDoor
