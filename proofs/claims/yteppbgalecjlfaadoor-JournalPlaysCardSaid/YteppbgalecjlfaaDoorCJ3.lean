/- Contracts of journal's All with a visitor that keeps what it is given, and of law4's all. Conditions: none. -/
import Derived.Test.YteppbgalecjlfaaDoorCR
import Derived.Test.YteppbgalecjlfaaDoorFB
set_option linter.unusedVariables false
set_option maxRecDepth 100000
namespace Go.Proofs.YteppbgalecjlfaaDoor
open Go Go.Sh

theorem Holds.mid2 {w0 w : World} {A x a b : List Hp} (H : Sh.Holds w0 (A ++ (a ++ (x ++ b))) w) : Sh.Holds w0 (A ++ (x ++ (a ++ b))) w := H.perm (by
  simp only [List.flatten_append]
  exact List.Perm.append_left _ (List.perm_append_comm_assoc _ _ _))
theorem all2_c {w0 w : World} {cs0 : List Hp} {K : KV} {J : Jr} {y kb ij : Nat} (C : Nat → List Hp → Prop) (Cx : List Hp → Prop) (E : Errs w0) (T : Tab w0) (hl : ∀ s ∈ J.lines, s.size ≤ 100000) (hn : J.lines.length ≤ 5000) (ok : J.Ok)
    (H : Sh.Holds w0 (cs0 ++ [[(kb, .cells #[J.v] 23 (0, 0))]]) w) (hj : cs0[ij]? = some J.hp) (h0 : C 0 cs0)
    (hy : ∀ (i : Nat) (s : ByteArray) (r : Row) (cs fr : List Hp) (K' : KV) (w : World), J.lines[i]? = some s → okS s = true → (goodL J.lines)[i]? = some s → C i cs → r.Ok 1 ((parseE s.data.toList).2.l.map I) → Sh.Holds w0 (cs ++ (r.hp 3 :: fr)) w →
      (∀ cs' w', C (i + 1) cs' → Sh.Holds w0 (cs' ++ fr) w' → K' (.bool true) w') → (∀ cs' w', Cx cs' → Sh.Holds w0 (cs' ++ fr) w' → K' (.bool false) w') → goyield Tryd.prog y [enV (parseE s.data.toList).2 r.v] K' w)
    (k1 : ∀ cs' w', C (goodL J.lines).length cs' → Sh.Holds w0 cs' w' → K (.tuple #[]) w') (k2 : ∀ cs' w', Cx cs' → Sh.Holds w0 cs' w' → K (.tuple #[]) w') :
    gocall Tryd.prog 38 [yv y, .pointer (some ⟨kb, 0, none⟩)] K w := by
  have left : ∀ {a b : List Hp} {w}, Sh.Holds w0 (a ++ b) w → Sh.Holds w0 a w := fun H => Holds.right (Holds.swap H)
  apply F38_go; unfold F38
  have H' := Holds.swap H
  apply ld_h 0 H' rfl rfl; refine asPtr_h ?_
  refine Lines_c (J := J) ij H (by rw [List.getElem?_append_left (List.getElem?_eq_some_iff.1 hj).1]; exact hj) ok hn (fun r w okr H => ?_)
  refine asSl_h ?_
  have hrn : r.n = J.lines.length := by have := okr.len; simp at this; omega
  obtain ⟨fr0, hfr⟩ : ∃ fr0 : List Hp, fr0 = [r.hp 9, [(kb, .cells #[J.v] 23 (0, 0))]] := ⟨_, rfl⟩
  have H0 : Sh.Holds w0 (cs0 ++ fr0) w := by rw [hfr]; exact Holds.mid (x := [r.hp 9]) (a := cs0) H
  have s0 : ∀ cs : List Hp, Sl (Sh.Holds w0 (cs ++ fr0)) r.p r.n 1 (J.lines.map St) := fun cs => (Sl.row (w0 := w0) (hs := fr0) 0 (by rw [hfr]; rfl) okr).mono fun w H => Holds.right H
  refine ⟨fun y w => ∃ cs, Sh.Holds w0 (cs ++ fr0) w ∧ C y.1.toNat cs ∧ 0 ≤ y.1 ∧ y.1 ≤ J.lines.length ∧ (J.lines.take y.1.toNat).all okS = true, fun y _ => (J.lines.length - y.1).toNat, ⟨cs0, H0, h0, by simp, by simp, by simp⟩, ?_⟩
  clear H H' H0 h0 hj
  rintro ⟨i, u⟩ w ⟨cs, H, hc, g0, g1, ha⟩
  simp only at hc g0 g1 ha
  refine br_s (fun h => ?_) (fun h => ?_)
  · simp only [decide_eq_true_eq] at h
    have hil : i.toNat < J.lines.length := by omega
    have hg := List.getElem?_eq_getElem hil
    have hmem := List.getElem_mem hil
    refine slAt_s (s0 cs) g0 h (fun b1 o1 hp => ?_)
    refine ldS_s (s0 cs) hp H (v := St J.lines[i.toNat]) (by simp [hg]) ?_
    refine asStr_h ?_
    generalize hs : J.lines[i.toNat] = s at *
    have hsB : s = B s.data.toList := (B_data _).symm
    rw [hsB]
    refine Parse_c (s := s.data.toList) E T H (by have := hl s hmem; exact this) (fun r2 w ok2 H => ?_)
    refine resE_h (e := (parseE s.data.toList).2) ?_
    refine nw3_h (k := (parseE s.data.toList).2.k) H (fun k38 w H => ?_)
    refine br_s (fun hb => ?_) (fun hb => ?_)
    · have hb : okS s = false := by simpa [okS] using hb
      have hgl := good_take J.lines i.toNat ha (fun t ht => by rw [hg] at ht; cases ht; exact hb) (by omega)
      refine k1 cs w ?_ (left H.tail.tail)
      rw [hgl, List.length_take, Nat.min_eq_left (by omega)]
      exact hc
    have hb : okS s = true := by simp [okS] at hb ⊢; exact hb
    have e1 : (i + 1).toNat = i.toNat + 1 := by omega
    have ha1 : (J.lines.take (i.toNat + 1)).all okS = true := by
      rw [List.take_add_one, hg, List.all_append, ha]
      simp [hb]
    have hgi : (goodL J.lines)[i.toNat]? = some s := by
      have hpre : J.lines.take (i.toNat + 1) <+: goodL J.lines := by
        unfold goodL
        have : ∀ (ls : List ByteArray) (n : Nat), (ls.take n).all okS = true → ls.take n <+: ls.takeWhile okS := by
          intro ls
          induction ls with
          | nil => intro n _; simp
          | cons a l ih =>
            intro n hn
            cases n with
            | zero => simp
            | succ n =>
              simp only [List.take_succ_cons, List.all_cons, Bool.and_eq_true] at hn
              rw [List.take_succ_cons, List.takeWhile_cons, if_pos hn.1]
              exact List.cons_prefix_cons.2 ⟨rfl, ih n hn.2⟩
        exact this _ _ ha1
      obtain ⟨t, ht⟩ := hpre
      rw [← ht, List.getElem?_append_left (by rw [List.length_take]; omega), List.getElem?_take, if_pos (by omega)]
      exact hg
    apply ld3_h 0 H rfl
    refine hy i.toNat s r2 cs (eHp k38 (parseE s.data.toList).2.k (parseE s.data.toList).2.id r2.v :: fr0) _ _ hg hb hgi hc ok2 (Holds.mid (x := [_, _]) (H.bring 1 rfl)) (fun cs' w hc' H => ?_) (fun cs' w hc' H => ?_)
    · refine asBoo_h ?_
      refine br_f rfl ?_
      have hw : IntKind.wrap .i64 (i + 1) = i + 1 := wrap64 (by omega) (by omega)
      simp only [hw]
      exact ⟨⟨cs', (Holds.mid (x := cs') (a := [_]) H).tail, by rw [e1]; exact hc', by omega, by omega, by rw [e1]; exact ha1⟩, by omega⟩
    · refine asBoo_h ?_
      refine br_t rfl ?_
      exact k2 cs' w hc' (left H)
  · simp only [decide_eq_false_iff_not] at h
    have hgl := good_take J.lines J.lines.length (by rw [List.take_of_length_le (by omega)] at ha ⊢; exact ha) (fun t ht => by simp at ht) (by omega)
    refine k1 cs w ?_ (left H)
    rw [hgl, List.take_of_length_le (by omega)]
    rwa [show i.toNat = J.lines.length by omega] at hc
def entL (ls : List ByteArray) : List En := (goodL ls).map fun s => (parseE s.data.toList).2
def enC (x : En × Row) : List Value := [.string (B x.1.k), I x.1.id, x.2.v]
theorem el37 : ElTy Tryd.prog 37 29 3 48 := ⟨⟨_, _, rfl, rfl, rfl, rfl, rfl, rfl⟩, by decide⟩
theorem allJ_c {w0 w : World} {hs : List Hp} {K : KV} {J : Jr} {x : Int} (i : Nat) (E : Errs w0) (T : Tab w0) (H : Sh.Holds w0 hs w) (hi : hs[i]? = some J.hp) (ok : J.Ok) (hl : ∀ s ∈ J.lines, s.size ≤ 100000) (hn : J.lines.length ≤ 5000)
    (k : ∀ (row : Row) (es : List (En × Row)) w', es.map Prod.fst = (entL J.lines).take x.toNat → row.Ok 3 (es.flatMap enC) → (∀ y ∈ es, y.2.Ok 1 (y.1.l.map I)) → Sh.Holds w0 (row.hp 29 :: ((es.map fun y => y.2.hp 3) ++ hs)) w' → K row.v w') :
    gocall Tryd.prog 17 [J.v, I x] K w := by
  apply F17_go; unfold F17
  refine nw_h H (fun k2 w H => ?_)
  refine nw_h H (fun k4 w H => ?_)
  apply F31_go; unfold F31
  refine nw_h H (fun kb w H => ?_)
  refine ⟨false, .inr ⟨rfl, _, _, _, rfl⟩, ?_⟩
  refine br_f rfl ?_
  refine asFn_h ?_
  refine rfn_h H (fun D l R w hround H => ?_)
  obtain ⟨cell, hcell⟩ : ∃ cell : LoopState → Option Code → Row → List (En × Row) → List Hp, cell = fun st pe row es => [(l, R st pe)] :: [(D, .deferred (some []))] :: [(k4, .cells #[row.v] 37 (0, 0))] :: [(k2, .cells #[I x] 3 (0, 0))] :: row.hp 29 :: ((es.map fun y => y.2.hp 3) ++ hs) := ⟨_, rfl⟩
  obtain ⟨good, hgood⟩ : ∃ good : Row → List (En × Row) → Prop, good = fun row es => row.Ok 3 (es.flatMap enC) ∧ ∀ y ∈ es, y.2.Ok 1 (y.1.l.map I) := ⟨_, rfl⟩
  obtain ⟨C, hC⟩ : ∃ C : Nat → List Hp → Prop, C = fun n cs => ∃ row es, cs = cell .ready none row es ∧ good row es ∧ es.map Prod.fst = (entL J.lines).take n ∧ es.length = n ∧ n ≤ x.toNat := ⟨_, rfl⟩
  obtain ⟨Cx, hCx⟩ : ∃ Cx : List Hp → Prop, Cx = fun cs => ∃ row es, cs = cell .done (some (.exit 0)) row es ∧ good row es ∧ es.map Prod.fst = (entL J.lines).take x.toNat := ⟨_, rfl⟩
  have H2 : Sh.Holds w0 (cell .ready none Row.nil [] ++ [[(kb, .cells #[J.v] 23 (0, 0))]]) w := by
    rw [hcell]
    have H3 := Holds.swap (a := [[(kb, .cells #[J.v] 23 (0, 0))]]) (H.bring 2 rfl)
    have H4 := Holds.nil H3
    exact Sub.holds (Sub.cons 1 rfl (Sub.cons 1 rfl (Sub.cons 1 rfl (Sub.cons 1 rfl (Sub.cons 0 rfl (Sub.refl _)))))) H4
  have fin : ∀ {st pe row es w}, es.map Prod.fst = (entL J.lines).take x.toNat → good row es → Sh.Holds w0 (cell st pe row es) w → 
      ld ⟨k4, 0, none⟩ (fun v w => asSl v (fun p n c w => dfr D (fun w => K (.slice p n c) w) w) w) w := by
    intro st pe row es w hes hg H
    rw [hcell] at H
    rw [hgood] at hg
    apply ld_h 2 H rfl rfl; refine asSl_h ?_
    refine dfr_h 1 H rfl (fun w H => ?_)
    exact k row es w hes hg.1 hg.2 (H.tail.tail.tail.tail)
  refine all2_c (J := J) (ij := i + 5) C Cx E T hl hn ok H2 (by rw [hcell]; simpa using hi) (by rw [hC]; exact ⟨Row.nil, [], rfl, by rw [hgood]; exact ⟨Row.nil_ok 3, by simp⟩, by simp, rfl, by omega⟩) ?_ ?_ ?_
  · intro n s r2 cs fr K' w hg hok hgi hc ok2 H kt kf
    rw [hC] at hc
    obtain ⟨row, es, rfl, hgd, hes, hlen, hnx⟩ := hc
    rw [hcell] at H
    have hgd' := hgd
    rw [hgood] at hgd'
    obtain ⟨okr, oks⟩ := hgd'
    have hil := (List.getElem?_eq_some_iff.1 hg).1
    have hrn : row.n = n := by
      have h3 := okr.len
      have : (es.flatMap enC).length = es.length * 3 := Sh.flat_len (f := enC) (z := 3) (fun _ => rfl) es
      omega
    refine hround _ _ _ (H.mem 0 rfl) ?_
    refine asT_e [_] rfl rfl ?_
    refine asN_e [_, _, _] rfl rfl ?_
    refine asStr_e (b := B (parseE s.data.toList).2.k) rfl ?_
    refine asI_e (n := (parseE s.data.toList).2.id) rfl ?_
    refine asSl_e (a := r2.p) (n := r2.n) (c := r2.c) rfl ?_
    refine nw3_h (k := (parseE s.data.toList).2.k) H (fun k58 w H => ?_)
    refine rfb_h 1 H rfl (fun w H => ?_)
    apply ld_h 3 H rfl rfl; refine asSl_h ?_
    apply ld_h 4 H rfl rfl; refine asI_h ?_
    refine br_s (fun hb => ?_) (fun hb => ?_)
    · simp only [decide_eq_true_eq] at hb
      refine rfx_h 1 H rfl (fun w H => ?_)
      refine kf (cell .done (some (.exit 0)) row es) w (by rw [hCx]; exact ⟨row, es, rfl, hgd, by rw [hes, show n = x.toNat by omega]⟩) ?_
      rw [hcell]
      exact (Holds.mid (x := [(l, R .done (some (.exit 0)))] :: [(D, .deferred (some []))] :: [(k4, .cells #[row.v] 37 (0, 0))] :: [(k2, .cells #[I x] 3 (0, 0))] :: row.hp 29 :: ((es.map fun y => y.2.hp 3) ++ hs)) (a := [r2.hp 3]) H.tail).tail
    · simp only [decide_eq_false_iff_not] at hb
      apply ld_h 3 H rfl rfl; refine asSl_h ?_
      apply ld3_h 0 H rfl
      refine nw_h H (fun k98 w H => ?_)
      refine bapp1_h (news := enC ((parseE s.data.toList).2, r2)) el37 0 (H := Holds.bring 6 H rfl) rfl okr rfl (by simp [enC, Value.oneCell']) (by omega) (by unfold maxLen; omega) (fun r' w hr1 hr2 H => ?_)
      refine asSl_h ?_
      replace H : Sh.Holds w0 (r'.hp 29 :: [(k98, .cells (enC ((parseE s.data.toList).2, r2)).toArray 29 (0, 0))] :: eHp k58 (parseE s.data.toList).2.k (parseE s.data.toList).2.id r2.v :: [(l, R .busy none)] :: [(D, .deferred (some []))] :: [(k4, .cells #[row.v] 37 (0, 0))] :: [(k2, .cells #[I x] 3 (0, 0))] :: (((es.map fun y => y.2.hp 3) ++ hs) ++ (r2.hp 3 :: fr))) w := H
      apply st_h 5 H rfl rfl rfl; intro w H
      refine rfy_h 3 H rfl (fun w H => ?_)
      replace H : Sh.Holds w0 (r'.hp 29 :: [(k98, .cells (enC ((parseE s.data.toList).2, r2)).toArray 29 (0, 0))] :: eHp k58 (parseE s.data.toList).2.k (parseE s.data.toList).2.id r2.v :: [(l, R .ready none)] :: [(D, .deferred (some []))] :: [(k4, .cells #[r'.v] 37 (0, 0))] :: [(k2, .cells #[I x] 3 (0, 0))] :: (((es.map fun y => y.2.hp 3) ++ hs) ++ (r2.hp 3 :: fr))) w := H
      replace H : Sh.Holds w0 ([(l, R .ready none)] :: [(D, .deferred (some []))] :: [(k4, .cells #[r'.v] 37 (0, 0))] :: [(k2, .cells #[I x] 3 (0, 0))] :: r'.hp 29 :: (((es.map fun y => y.2.hp 3) ++ hs) ++ (r2.hp 3 :: fr))) w := Sub.holds (Sub.cons 3 rfl (Sub.cons 3 rfl (Sub.cons 3 rfl (Sub.cons 3 rfl (Sub.cons 0 rfl (Sub.skip (Sub.skip (Sub.refl _)))))))) H
      refine kt (cell .ready none r' (es ++ [((parseE s.data.toList).2, r2)])) w ?_ ?_
      · rw [hC]
        refine ⟨r', es ++ [((parseE s.data.toList).2, r2)], rfl, ?_, ?_, by simp [hlen], by omega⟩
        · rw [hgood]
          refine ⟨by rw [List.flatMap_append]; simpa using hr2, fun y hy => ?_⟩
          rcases List.mem_append.1 hy with hy | hy
          · exact oks y hy
          · simp only [List.mem_singleton] at hy
            subst hy; exact ok2
        · rw [List.map_append, hes, List.take_add_one]
          congr 1
          simp [entL, List.getElem?_map, hgi]
      · rw [hcell]
        have := Holds.mid2 (A := [(l, R .ready none)] :: [(D, .deferred (some []))] :: [(k4, .cells #[r'.v] 37 (0, 0))] :: [(k2, .cells #[I x] 3 (0, 0))] :: r'.hp 29 :: (es.map fun y => y.2.hp 3)) (a := hs) (x := [r2.hp 3]) (b := fr) (by simpa using H)
        simpa using this
  · intro cs' w hc H
    rw [hC] at hc
    obtain ⟨row, es, rfl, hgd, hes, hlen, hnx⟩ := hc
    have H' := H
    rw [hcell] at H'
    refine rfe_h 0 (st := .ready) (pe := none) (by simp) H' rfl (fun w H => ?_)
    refine fin (st := .exhausted) (pe := none) (row := row) (es := es) ?_ hgd (by rw [hcell]; exact H)
    have hl2 : (entL J.lines).length = (goodL J.lines).length := by simp [entL]
    rw [hes, List.take_of_length_le (by omega), List.take_of_length_le (by omega)]
  · intro cs' w hc H
    rw [hCx] at hc
    obtain ⟨row, es, rfl, hgd, hes⟩ := hc
    have H' := H
    rw [hcell] at H'
    refine rfe_h 0 (st := .done) (pe := some (.exit 0)) (by simp) H' rfl (fun w H => ?_)
    exact fin (st := .exhausted) (pe := some (.exit 0)) (row := row) (es := es) hes hgd (by rw [hcell]; exact H)
end Go.Proofs.YteppbgalecjlfaaDoor
