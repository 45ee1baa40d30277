/- What law4's JournalTold computes: true, of any entry. Conditions: none. -/
import Derived.Test.YteppbgalecjlfaaDoorCSm
import Derived.Test.YteppbgalecjlfaaDoorFG
import Derived.Test.YteppbgalecjlfaaDoorFG
set_option linter.unusedVariables false
set_option maxRecDepth 100000
namespace Go.Proofs.YteppbgalecjlfaaDoor
open Go Go.Sh

theorem stR_h {w0 w : World} {hs : List Hp} (i : Nat) {e : TypeId} {r : Row} {xs : List Value} {g j : Nat} {v : Value} {K : World → Prop} (H : Sh.Holds w0 hs w) (hi : hs[i]? = some (r.hp e)) (ok : r.Ok 1 xs) (hg : r.g = some g) (hj : j < r.n) (hv1 : v.oneCell' = true)
    (hk : ∀ w', (Row.mk r.g r.n r.c (r.cur.setIfInBounds j v)).Ok 1 (xs.set j v) → Sh.Holds w0 (hs.set i ((Row.mk r.g r.n r.c (r.cur.setIfInBounds j v)).hp e)) w' → K w') : st ⟨g, j, none⟩ v K w := by
  obtain ⟨h1, h2, h3, h4⟩ := ok.yes g hg
  have hx : ∃ u, xs[j]? = some u := ⟨_, List.getElem?_eq_getElem (by have := ok.len; omega)⟩
  obtain ⟨u, hu⟩ := hx
  have hc := Row.cur_at ok hg hu
  have hh : r.hp e = [(g, .cells r.cur e (0, 0))] := by simp [Row.hp, hg]
  refine st_h i (cs := r.cur) (e := e) H (by rw [hi, hh]) hv1 hc (fun w' H' => hk w' ⟨by rw [List.length_set]; exact ok.len, ok.no, fun g' hg' => ⟨h1, h2, by simp; omega, ?_⟩⟩ ?_)
  · simp only [Array.toList_setIfInBounds]
    rw [List.take_set, h4]
  · have : (Row.mk r.g r.n r.c (r.cur.setIfInBounds j v)).hp e = [(g, .cells (r.cur.setIfInBounds j v) e (0, 0))] := by simp [Row.hp, hg]
    rw [this]; exact H'
theorem one_of {es : List (En × Row)} {e : En} (h : es.map Prod.fst = [e]) : ∃ r, es = [(e, r)] := by
  match es, h with
  | [q], h =>
    simp at h
    exact ⟨q.2, by rw [← h]⟩
set_option maxHeartbeats 1000000 in
theorem Told_c {w0 w : World} {hs : List Hp} {K : KV} {e : En} {p : Option Addr} {n c : Nat} (E : Errs w0) (T : Tab w0) (H : Sh.Holds w0 hs w) (hsl : Sl (Sh.Holds w0 hs) p n 1 (e.l.map I)) (k : ∀ w', Sh.Holds w0 hs w' → K (.bool true) w') :
    gocall Tryd.prog 5 [enV e (.slice p n c)] K w := by
  have hn : n = e.l.length := by have := hsl.len; simp at this; omega
  apply F5_go; unfold F5
  refine nwE_h H (fun k5 w H => ?_)
  refine newJ_c H (fun J w ok l0 s0 d0 r0 H => ?_)
  have hr : J.room = 9 := by rw [r0]; decide
  have aw : ∀ {w}, Sh.Holds w0 (J.hp :: eHp k5 e.k e.id (.slice p n c) :: hs) w → gocall Tryd.prog 14 [] (fun v w => asBoo (v) (fun b w => K (Value.bool (b)) (w)) (w)) w := by
    intro w H
    refine awake4_c E T H (fun w H => ?_)
    refine asBoo_h ?_
    exact k _ H.tail.tail
  have s1 := hsl.mono (S' := Sh.Holds w0 (J.hp :: eHp k5 e.k e.id (.slice p n c) :: hs)) fun w H => H.tail.tail
  refine asPtr_h ?_
  have H' : Sh.Holds w0 (J.hp :: [(k5, .cells #[.string (B e.k), I e.id, .slice p n c] 29 (0, 0))] :: hs) w := H
  apply ld_h 1 H' rfl rfl; refine asSl_h ?_
  refine br_s (fun _ => aw H) (fun g1 => ?_)
  apply ld_h 1 H' rfl rfl; refine asStr_h ?_
  rw [B_size]
  refine br_s (fun _ => aw H) (fun g2 => ?_)
  simp only [decide_eq_false_iff_not] at g1 g2
  apply ld3_h 1 H rfl
  cases hm : mayN e with
  | false =>
    have h1 : addB J (B e.k) e.id e.l = 1 := by unfold addB; rw [if_neg (by simp [d0]), if_neg (show ¬ mayE (B e.k) e.id e.l = true from by rw [show mayE (B e.k) e.id e.l = false from hm]; simp)]
    refine add_c (s := B e.k) (id := e.id) (l := e.l) T 0 H rfl ok (by rw [B_size]; omega) s1 (fun J' w' _ hJ ok' H => ?_)
    have hJ := hJ (by rw [h1]; decide)
    subst hJ
    rw [h1]
    refine asI_h ?_
    exact br_t rfl (aw H)
  | true =>
  refine addY_c (e := e) T 0 H rfl ok hm s1 d0 (by rw [l0, hr]; decide) (fun J1 w hJ1 ok1 H => ?_)
  replace H : Sh.Holds w0 (J1.hp :: eHp k5 e.k e.id (.slice p n c) :: hs) w := H
  have l1 : J1.lines = [e].map LB := by rw [hJ1]; simp [l0, LB]
  have v1 : J1.j = J.j := by rw [hJ1]
  clear hJ1
  have hmay : ∀ x ∈ [e], mayN x = true := fun x hx => by simp only [List.mem_singleton] at hx; subst hx; exact hm
  have hent : (entL J1.lines).take (Int.toNat 3) = [e] := by rw [l1, ent_ents hmay]; rfl
  refine asI_h ?_
  refine br_f rfl ?_
  rw [← v1]
  refine allJ_c (J := J1) 0 E T H rfl ok1 (by rw [l1]; exact LB_size hmay) (by rw [l1]; simp) (fun row es w hes okr oks H => ?_)
  rw [hent] at hes
  obtain ⟨r2, rfl⟩ := one_of hes
  have ok2 : r2.Ok 1 (e.l.map I) := oks (e, r2) (by simp)
  replace H : Sh.Holds w0 (row.hp 29 :: r2.hp 3 :: J1.hp :: eHp k5 e.k e.id (.slice p n c) :: hs) w := H
  replace okr : row.Ok 3 [.string (B e.k), I e.id, r2.v] := by simpa [enC] using okr
  have hrn : row.n = 1 := by have := okr.len; simp at this; omega
  have hr2 : r2.n = e.l.length := by have := ok2.len; simp at this; omega
  refine asSl_h ?_
  refine br_f (by rw [hrn]; rfl) ?_
  refine slAt_h okr (by omega) (by omega) (fun g hg => ?_)
  refine ldR_h 0 (e := 29) (off := 2) H rfl okr hg (v := r2.v) rfl ?_
  refine asSl_h ?_
  refine ⟨fun y w => ∃ (r' : Row) (l' : List Int), r'.g = r2.g ∧ r'.n = r2.n ∧ r'.c = r2.c ∧ r'.Ok 1 (l'.map I) ∧ Sh.Holds w0 (row.hp 29 :: r'.hp 3 :: J1.hp :: eHp k5 e.k e.id (.slice p n c) :: hs) w ∧ 0 ≤ y.1 ∧ y.1 ≤ r2.n, fun y _ => ((r2.n : Int) - y.1).toNat, ⟨r2, e.l, rfl, rfl, rfl, ok2, H, by simp, by simp⟩, ?_⟩
  clear H
  rintro ⟨y, u⟩ w ⟨r', l', e1, e2, e3, ok', H, b0, b1⟩
  simp only at b0 b1
  have hp : r2.p = r'.p := by simp [Row.p, e1]
  refine br_s (fun h => ?_) (fun h => ?_)
  · simp only [decide_eq_true_eq] at h
    have hl' : l'.length = r'.n := by have := ok'.len; simp at this; omega
    have hy : y.toNat < l'.length := by omega
    have hgt := List.getElem?_eq_getElem hy
    refine slAt_h okr (by omega) (by omega) (fun g hg => ?_)
    refine ldR_h 0 (e := 29) (off := 2) H rfl okr hg (v := r2.v) rfl ?_
    refine asSl_h ?_
    rw [hp, ← e2]
    refine slAt_h ok' b0 (by omega) (fun g2 hg2 => ?_)
    refine ldR_h 1 (e := 3) H rfl ok' hg2 (v := I l'[y.toNat]) (by rw [Nat.mul_one, List.getElem?_map, hgt]; rfl) ?_
    refine asI_h ?_
    refine slAt_h ok' b0 (by omega) (fun g3 hg3 => ?_)
    refine stR_h 1 (e := 3) H rfl ok' hg3 (by omega) rfl (fun w okn H => ?_)
    have hw : IntKind.wrap .i64 (y + 1) = y + 1 := wrap64 (by have := ok'.yes g3 hg3; unfold maxLen at this; omega) (by have := ok'.yes g3 hg3; unfold maxLen at this; omega)
    simp only [hw]
    refine ⟨⟨Row.mk r'.g r'.n r'.c _, l'.set (y.toNat * 1) _, by first | exact e1 | rfl, by first | exact e2 | rfl, by first | exact e3 | rfl, by rw [List.map_set]; exact okn, H, by omega, by omega⟩, by omega⟩
  clear h
  refine Lines_c (J := J1) 2 H rfl ok1 (by rw [l1]; simp) (fun rl w okl H => ?_)
  have hln : rl.n = 1 := by have := okl.len; rw [l1] at this; simp at this; omega
  refine asSl_h ?_
  refine br_f (by rw [hln]; rfl) ?_
  refine slAt_h okl (by omega) (by omega) (fun g hg => ?_)
  refine stR_h 0 (e := 9) H rfl okl hg (by rw [hln]; decide) rfl (fun w _ H => ?_)
  generalize hrl : (Row.mk rl.g rl.n rl.c _) = rl' at H
  replace H : Sh.Holds w0 (rl'.hp 9 :: row.hp 29 :: r'.hp 3 :: J1.hp :: eHp k5 e.k e.id (.slice p n c) :: hs) w := H
  replace H := H.drew
  refine keeps_s (hs' := [eHp k5 e.k e.id (.slice p n c)]) H (by exact Sub.cons 4 rfl (Sub.nil _)) ?_
  apply ldS_h 0 rfl rfl; refine asStr_h ?_
  apply ldS_h 0 rfl rfl; refine asI_h ?_
  apply ldS_h 0 rfl rfl; refine asSl_h ?_
  refine ⟨?_, ?_⟩
  · refine allJ_c (J := J1) 3 E T H rfl ok1 (by rw [l1]; exact LB_size hmay) (by rw [l1]; simp) (fun row3 es3 w hes3 okr3 oks3 H => ?_)
    rw [hent] at hes3
    obtain ⟨r3, rfl⟩ := one_of hes3
    have ok3 : r3.Ok 1 (e.l.map I) := oks3 (e, r3) (by simp)
    replace H : Sh.Holds w0 (row3.hp 29 :: r3.hp 3 :: rl'.hp 9 :: row.hp 29 :: r'.hp 3 :: J1.hp :: eHp k5 e.k e.id (.slice p n c) :: hs) w := H
    have hr3 : row3.n = 1 := by have := okr3.len; simp [enC] at this; omega
    refine asSl_h ?_
    refine kp_s H (by exact Sub.cons 6 rfl (Sub.nil _)) ?_
    refine nwE_h H (fun k129 w H => ?_)
    refine kp_s H (by exact Sub.cons 7 rfl (Sub.nil _)) ?_
    have hx : EntSl (Sh.Holds w0 (eHp k129 e.k e.id (.slice p n c) :: row3.hp 29 :: r3.hp 3 :: rl'.hp 9 :: row.hp 29 :: r'.hp 3 :: J1.hp :: eHp k5 e.k e.id (.slice p n c) :: hs)) row3.p row3.n [⟨e, r3.p, r3.n, r3.c⟩] :=
      ⟨Sl.row 1 rfl okr3, fun x hx => by simp only [List.mem_singleton] at hx; subst hx; exact Sl.row 2 rfl ok3⟩
    have hy : EntSl (Sh.Holds w0 (eHp k129 e.k e.id (.slice p n c) :: row3.hp 29 :: r3.hp 3 :: rl'.hp 9 :: row.hp 29 :: r'.hp 3 :: J1.hp :: eHp k5 e.k e.id (.slice p n c) :: hs)) (some ⟨k129, 0, none⟩) 1 [⟨e, p, n, c⟩] :=
      ⟨Sl.block 0 rfl rfl, fun x hx => by simp only [List.mem_singleton] at hx; subst hx; exact hsl.mono fun w H => H.tail.tail.tail.tail.tail.tail.tail.tail⟩
    refine same_c H hx hy (by simp) (fun x hx => by simp only [List.mem_singleton] at hx; subst hx; show e.l.length < _; omega) (fun b w hb H => ?_)
    have hb : b = true := hb.2 rfl
    subst hb
    refine asBoo_h ?_
    refine kp_s H (by exact Sub.cons 7 rfl (Sub.nil _)) ?_
    refine br_t rfl ?_
    refine awake4_c E T H (fun w H => ?_)
    refine asBoo_h ?_
    refine kp_s H (by exact Sub.cons 7 rfl (Sub.nil _)) ?_
    exact k _ H.tail.tail.tail.tail.tail.tail.tail.tail
  · refine nwE_h H (fun k129 w H => ?_)
    refine kp_s H (by exact Sub.cons 5 rfl (Sub.nil _)) ?_
    refine allJ_c (J := J1) 4 E T H rfl ok1 (by rw [l1]; exact LB_size hmay) (by rw [l1]; simp) (fun row3 es3 w hes3 okr3 oks3 H => ?_)
    rw [hent] at hes3
    obtain ⟨r3, rfl⟩ := one_of hes3
    have ok3 : r3.Ok 1 (e.l.map I) := oks3 (e, r3) (by simp)
    replace H : Sh.Holds w0 (row3.hp 29 :: r3.hp 3 :: eHp k129 e.k e.id (.slice p n c) :: rl'.hp 9 :: row.hp 29 :: r'.hp 3 :: J1.hp :: eHp k5 e.k e.id (.slice p n c) :: hs) w := H
    refine asSl_h ?_
    refine kp_s H (by exact Sub.cons 7 rfl (Sub.nil _)) ?_
    have hx : EntSl (Sh.Holds w0 (row3.hp 29 :: r3.hp 3 :: eHp k129 e.k e.id (.slice p n c) :: rl'.hp 9 :: row.hp 29 :: r'.hp 3 :: J1.hp :: eHp k5 e.k e.id (.slice p n c) :: hs)) row3.p row3.n [⟨e, r3.p, r3.n, r3.c⟩] :=
      ⟨Sl.row 0 rfl okr3, fun x hx => by simp only [List.mem_singleton] at hx; subst hx; exact Sl.row 1 rfl ok3⟩
    have hy : EntSl (Sh.Holds w0 (row3.hp 29 :: r3.hp 3 :: eHp k129 e.k e.id (.slice p n c) :: rl'.hp 9 :: row.hp 29 :: r'.hp 3 :: J1.hp :: eHp k5 e.k e.id (.slice p n c) :: hs)) (some ⟨k129, 0, none⟩) 1 [⟨e, p, n, c⟩] :=
      ⟨Sl.block 2 rfl rfl, fun x hx => by simp only [List.mem_singleton] at hx; subst hx; exact hsl.mono fun w H => H.tail.tail.tail.tail.tail.tail.tail.tail⟩
    refine same_c H hx hy (by simp) (fun x hx => by simp only [List.mem_singleton] at hx; subst hx; show e.l.length < _; omega) (fun b w hb H => ?_)
    have hb : b = true := hb.2 rfl
    subst hb
    refine asBoo_h ?_
    refine kp_s H (by exact Sub.cons 7 rfl (Sub.nil _)) ?_
    refine br_t rfl ?_
    refine awake4_c E T H (fun w H => ?_)
    refine asBoo_h ?_
    refine kp_s H (by exact Sub.cons 7 rfl (Sub.nil _)) ?_
    exact k _ H.tail.tail.tail.tail.tail.tail.tail.tail
end Go.Proofs.YteppbgalecjlfaaDoor
