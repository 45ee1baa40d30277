/- What law4's JournalSure computes: true. Conditions: none. -/
import Derived.Test.YteppbgalecjlfaaDoorCSu
set_option linter.unusedVariables false
set_option maxRecDepth 100000
namespace Go.Proofs.YteppbgalecjlfaaDoor
open Go Go.Sh

theorem EntSl.take {S : World → Prop} {p : Option Addr} {n m : Nat} {xs : List Xe} (h : EntSl S p n xs) (hm : m ≤ n) : EntSl S p m (xs.take m) := by
  have hn := h.len
  have hl : ((xs.take m).flatMap Xe.cells).length = (xs.take m).length * 3 := Sh.flat_len (f := Xe.cells) (z := 3) (fun _ => rfl) _
  refine ⟨⟨by rw [hl, List.length_take]; congr 1; omega, fun e => by have := h.sl.no e; omega, fun a ha => ⟨?_, fun j v hv w hw => ?_⟩⟩, fun x hx => h.num x (List.mem_of_mem_take hx)⟩
  · rcases (h.sl.yes a ha).1 with h0 | h0
    · exact .inl (by omega)
    · exact .inr h0
  · refine (h.sl.yes a ha).2 j v ?_ w hw
    have hj := (List.getElem?_eq_some_iff.1 hv).1
    rw [← List.take_append_drop m xs, List.flatMap_append, List.getElem?_append_left hj]
    exact hv
theorem slSl3_h {r : Row} {xs : List Value} {m : Nat} {w : World} {K : Option Addr → Nat → Nat → World → Prop} (h : r.Ok 3 xs) (hm : m ≤ r.n) (hk : K r.p m r.c w) : slSl r.p r.c 0 (m : Int) 3 K w := by
  have hc : r.n ≤ r.c := by
    cases hg : r.g with
    | none => have := (h.no hg).1; omega
    | some g => exact (h.yes g hg).1
  refine ⟨by omega, by omega, by omega, ?_⟩
  have ea : (if r.c = Int.toNat 0 then r.p else r.p.map (·.add (Int.toNat 0 * 3))) = r.p := by
    split
    · rfl
    · cases hg : r.g with
      | none => simp [Row.p, hg]
      | some g => simp [Row.p, hg, Addr.add_lit]
  rw [ea]
  exact hk
theorem syncD_c {w0 w : World} {hs : List Hp} {K : KV} {J : Jr} (i : Nat) (H : Sh.Holds w0 hs w) (hi : hs[i]? = some J.hp) (hd : J.down = true) (k : ∀ w', Sh.Holds w0 hs w' → K (I 10) w') : gocall Tryd.prog 15 [J.v] K w := by
  apply F15_go; unfold F15
  refine br_f rfl ?_
  refine nn_h ?_
  replace H := H.open2 i hi
  apply ld_h 0 H rfl rfl; refine asBoo_h ?_
  refine br_t hd ?_
  exact k _ (H.shut2 i hi)
theorem addD_c {w0 w : World} {hs : List Hp} {K : KV} {J : Jr} {s : ByteArray} {id : Int} (T : Tab w0) (i : Nat) (H : Sh.Holds w0 hs w) (hi : hs[i]? = some J.hp) (ok : J.Ok) (hl : s.size < 1000000000) (hd : J.down = true) (k : ∀ w', Sh.Holds w0 hs w' → K (I 10) w') : gocall Tryd.prog 10 [J.v, .agg #[.string s, I id, .slice none 0 0]] K w := by
  have h0 : addB J s id [] = 10 := by unfold addB; rw [if_pos hd]
  refine add_c (l := []) T i H hi ok hl Sl.nil (fun J' w' _ hJ ok' H' => ?_)
  have hJ := hJ (by rw [h0]; decide)
  subst hJ
  rw [h0]
  rw [set_same i hi] at H'
  exact k w' H'
theorem crash_size {es : List En} (h : ∀ e ∈ es, mayN e = true) {sure stay torn : Int} {m : Nat} (hm : sure + cutI ((es.length : Int) - sure) stay = m) : (∀ s ∈ crashL (es.map LB) sure stay torn, s.size ≤ 100000) ∧ (crashL (es.map LB) sure stay torn).length ≤ es.length + 1 := by
  have hlen : (es.map LB).length = es.length := by simp
  cases hg : (es.map LB)[m]? with
  | none =>
    rw [crashL_none (m := m) (by rw [hlen]; exact hm) hg]
    exact ⟨LB_size h, by simp⟩
  | some s0 =>
    have hs0 : s0.size ≤ 100000 := LB_size h s0 (List.mem_of_getElem? hg)
    rw [crashL_at (m := m) (by rw [hlen]; exact hm) hg]
    split
    · exact ⟨fun s hs => LB_size h s (List.mem_of_mem_take hs), by rw [List.length_take]; omega⟩
    · refine ⟨fun s hs => ?_, by rw [List.length_append, List.length_take]; simp; omega⟩
      rcases List.mem_append.1 hs with hs | hs
      · exact LB_size h s (List.mem_of_mem_take hs)
      · simp only [List.mem_singleton] at hs
        subst hs
        unfold pieceB
        rw [B_size, List.length_take]
        have : s0.data.toList.length = s0.size := rfl
        omega
set_option maxHeartbeats 2000000 in
theorem SureLaw_c {w0 w : World} {hs : List Hp} {K : KV} {p : Option Addr} {n c : Nat} {qs : List Xc} {x1 x2 : Int} (E : Errs w0) (T : Tab w0) (H : Sh.Holds w0 hs w) (hq : CallSl (Sh.Holds w0 hs) p n qs) (k : ∀ w', Sh.Holds w0 hs w' → K (.bool true) w') :
    gocall Tryd.prog 8 [.slice p n c, I x1, I x2] K w := by
  have hqn := hq.len
  apply F8_go; unfold F8
  refine few_c H hq (fun b w hb H => ?_)
  refine asBoo_h ?_
  cases b with
  | false =>
    refine br_t rfl ?_
    refine awake4_c E T H (fun w H => ?_)
    refine asBoo_h ?_
    exact k _ H
  | true =>
  obtain ⟨q100, qok⟩ := hb rfl
  refine br_f rfl ?_
  refine newJ_c H (fun J w ok l0 s0 d0 r0 H => ?_)
  have hroom : roomB 4096 = 4096 := by decide
  rw [hroom] at r0
  refine asPtr_h ?_
  refine ⟨fun z w => ∃ (J' : Jr) (row : Row) (ys : List Xe), Has J' J.j (ys.map Xe.e) z.2.1 false ∧ (∀ y ∈ ys, mayN y.e = true) ∧ (∀ y ∈ ys, Sl (Sh.Holds w0 hs) y.p y.n 1 (y.e.l.map I)) ∧ row.Ok 3 (ys.flatMap Xe.cells) ∧ z.2.2.1 = (row.p, row.n, row.c) ∧ Sh.Holds w0 (row.hp 29 :: J'.hp :: hs) w ∧ 0 ≤ z.1 ∧ z.1 ≤ qs.length ∧ (ys.length : Int) ≤ z.1 ∧ 0 ≤ z.2.1 ∧ z.2.1 ≤ ys.length,
    fun z _ => ((qs.length : Int) - z.1).toNat, ⟨J, Row.nil, [], ⟨ok, rfl, r0, by rw [l0]; rfl, s0, d0⟩, by simp, by simp, by simpa using Row.nil_ok 3, rfl, Holds.nil H, by simp, by simp, by simp, by simp, by simp⟩, ?_⟩
  generalize J.j = j0
  clear H ok l0 s0 d0 r0 J
  rintro ⟨z, sr, sl, u⟩ w ⟨J1, row, ys, h1, hmay, hnum, okr, hsl, H, g0, g1, g2, g3, g4⟩
  simp only at h1 hsl g0 g1 g2 g3 g4
  subst hsl
  have hv : ∀ {J : Jr} {es sure down}, Has J j0 es sure down → (.pointer (some ⟨j0, 0, none⟩) : Value) = J.v := fun h => by rw [← h.blk]
  have hfl : (ys.flatMap Xe.cells).length = ys.length * 3 := Sh.flat_len (f := Xe.cells) (z := 3) (fun _ => rfl) ys
  have hrn : row.n = ys.length := by have := okr.len; omega
  have hmay' : ∀ e ∈ ys.map Xe.e, mayN e = true := fun e he => by
    obtain ⟨y, hy, rfl⟩ := List.mem_map.1 he
    exact hmay y hy
  refine br_s (fun h => ?_) (fun h => ?_)
  · simp only [decide_eq_true_eq] at h
    have hy : z.toNat < qs.length := by omega
    have ex := List.getElem?_eq_getElem hy
    generalize hqe : qs[z.toNat] = q at *
    have hqm := List.mem_of_getElem? ex
    obtain ⟨o1, o2⟩ := qok q hqm
    have hq' : CallSl (Sh.Holds w0 (row.hp 29 :: J1.hp :: hs)) p n qs := hq.mono fun w H => H.tail.tail
    have hw : IntKind.wrap .i64 (z + 1) = z + 1 := wrap64 (by omega) (by omega)
    refine slAt_s hq'.sl g0 h (fun b1 o1 hp => ?_)
    refine ld6S_s hq' ex hp H ?_
    refine nw6q_h (q := q) H (fun k51 w H => ?_)
    have H' := H
    unfold qHp at H'
    apply ld_h 0 H' rfl rfl; refine asI_h ?_
    have hnq := hq.num q hqm
    refine br_s (fun hd => ?_) (fun hd => ?_)
    · apply ld_h 0 H' rfl rfl; refine asStr_h ?_
      apply ld_h 0 H' rfl rfl; refine asI_h ?_
      apply ld_h 0 H' rfl rfl; refine asSl_h ?_
      rw [hv h1]
      have sq : Sl (Sh.Holds w0 (qHp k51 q :: row.hp 29 :: J1.hp :: hs)) q.x.p q.x.n 1 (q.x.e.l.map I) := hnq.mono fun w H => H.tail.tail.tail
      cases hm : mayN q.x.e with
      | true =>
        refine addY_c (e := q.x.e) T 2 H rfl h1.ok hm sq h1.down (by rw [h1.lines, List.length_map, List.length_map, h1.room]; omega) (fun J2 w hJ2 ok2 H => ?_)
        replace H : Sh.Holds w0 (qHp k51 q :: row.hp 29 :: J2.hp :: hs) w := H
        have H' := H
        unfold qHp at H'
        refine asI_h ?_
        refine br_t rfl ?_
        apply ld_h 0 H' rfl rfl; refine asStr_h ?_
        apply ld_h 0 H' rfl rfl; refine asI_h ?_
        apply ld_h 0 H' rfl rfl; refine asSl_h ?_
        refine nwE_h (e := q.x.e) H (fun k97 w H => ?_)
        refine bapp1_h (news := Xe.cells q.x) el37 0 (H := Holds.bring 2 H rfl) rfl okr rfl (by simp [Xe.cells, Value.oneCell']) (by omega) (by unfold maxLen; omega) (fun r' w hr1 hr2 H => ?_)
        refine asSl_h ?_
        simp only [hw]
        refine ⟨⟨J2, r', ys ++ [q.x], ⟨ok2, by rw [hJ2]; exact h1.blk, by rw [hJ2]; exact h1.room, ?_, by rw [hJ2]; exact h1.sure, by rw [hJ2]; exact h1.down⟩, fun y hy => ?_, fun y hy => ?_, by rw [List.flatMap_append]; simpa using hr2, rfl, Sub.holds (Sub.cons 0 rfl (Sub.skip (Sub.skip (Sub.refl _)))) H, by omega, by omega, by simp; omega, g3, by simp; omega⟩, by omega⟩
        · rw [hJ2]; simp only [h1.lines, List.map_append]; rfl
        · rcases List.mem_append.1 hy with hy | hy
          · exact hmay y hy
          · simp only [List.mem_singleton] at hy; subst hy; exact hm
        · rcases List.mem_append.1 hy with hy | hy
          · exact hnum y hy
          · simp only [List.mem_singleton] at hy; subst hy; exact hnq
      | false =>
        have h0 : addB J1 (B q.x.e.k) q.x.e.id q.x.e.l = 1 := by unfold addB; rw [if_neg (by simp [h1.down]), if_neg (by rw [show mayE (B q.x.e.k) q.x.e.id q.x.e.l = false from hm]; simp)]
        refine add_c (l := q.x.e.l) T 2 H rfl h1.ok (by rw [B_size]; omega) sq (fun J' w' _ hJ ok' H => ?_)
        have hJ := hJ (by rw [h0]; decide)
        subst hJ
        rw [h0]
        refine asI_h ?_
        refine br_f rfl ?_
        simp only [hw]
        exact ⟨⟨J', row, ys, h1, hmay, hnum, okr, rfl, Holds.tail H, by omega, by omega, by omega, g3, g4⟩, by omega⟩
    · refine br_s (fun hd2 => ?_) (fun hd2 => ?_)
      · rw [hv h1]
        refine sync_c 2 H rfl h1.ok h1.down (fun J2 w hJ2 ok2 H => ?_)
        replace H : Sh.Holds w0 (qHp k51 q :: row.hp 29 :: J2.hp :: hs) w := H
        refine asI_h ?_
        simp only [hw]
        refine ⟨⟨J2, row, ys, ⟨ok2, by rw [hJ2]; exact h1.blk, by rw [hJ2]; exact h1.room, by rw [hJ2]; exact h1.lines, by rw [hJ2]; simp [h1.lines, hrn], by rw [hJ2]; exact h1.down⟩, hmay, hnum, okr, rfl, H.tail, by omega, by omega, by omega, by omega, by omega⟩, by omega⟩
      · simp only [hw]
        exact ⟨⟨J1, row, ys, h1, hmay, hnum, okr, rfl, H.tail, by omega, by omega, by omega, g3, g4⟩, by omega⟩
  simp only [decide_eq_false_iff_not] at h
  have hes : (ys.map Xe.e).length = ys.length := by simp
  have hc := cutI_range x1 (a := (ys.length : Int) - sr) (by omega)
  obtain ⟨m, hm, hml⟩ : ∃ m : Nat, sr + cutI ((ys.length : Int) - sr) x1 = m ∧ m ≤ ys.length := ⟨(sr + cutI ((ys.length : Int) - sr) x1).toNat, by omega, by omega⟩
  have hm' : sr + cutI (((ys.map Xe.e).length : Int) - sr) x1 = m := by rw [hes]; exact hm
  obtain ⟨cz, cl⟩ := crash_size hmay' (torn := x2) hm'
  rw [hes] at cl
  rw [hv h1]
  refine Crash_c (J := J1) 1 H rfl h1.ok (by rw [h1.lines]; exact LB_size hmay') (by rw [h1.lines, List.length_map, hes]; omega) (by rw [h1.sure]; exact g3) (by rw [h1.sure, h1.lines, List.length_map, hes]; exact g4) (fun J2 w hJ2 ok2 H => ?_)
  replace H : Sh.Holds w0 (row.hp 29 :: J2.hp :: hs) w := H
  rw [h1.down] at hJ2
  simp only [Bool.false_eq_true, if_false] at hJ2
  have l2 : J2.lines = crashL ((ys.map Xe.e).map LB) sr x1 x2 := by rw [hJ2]; simp only [h1.lines, h1.sure]
  have d2 : J2.down = true := by rw [hJ2]
  have v2 : J2.j = j0 := by rw [hJ2]; exact h1.blk
  have hv2 : (.pointer (some ⟨j0, 0, none⟩) : Value) = J2.v := by rw [← v2]
  clear hJ2
  rw [← hv h1, hv2]
  refine asT_e [] rfl rfl ?_
  refine addD_c (s := B [120]) T 1 H rfl ok2 (by decide) d2 (fun w H => ?_)
  refine asI_h ?_
  refine br_f rfl ?_
  refine syncD_c 1 H rfl d2 (fun w H => ?_)
  refine asI_h ?_
  refine br_f rfl ?_
  refine downJ_c 1 H rfl (fun w H => ?_)
  rw [d2]
  refine asBoo_h ?_
  refine br_f rfl ?_
  have hg : goodL J2.lines = ((ys.map Xe.e).take m).map LB := by rw [l2]; exact good_crash hmay' hm' (by omega)
  have htl : ((ys.map Xe.e).take m).length = m := by rw [List.length_take, hes]; omega
  have hmayT : ∀ e ∈ (ys.map Xe.e).take m, mayN e = true := fun e he => hmay' e (List.mem_of_mem_take he)
  refine Recover_c (J := J2) 1 E T H rfl ok2 (by rw [l2]; exact cz) (by rw [l2]; omega) (fun J3 w hJ3 ok3 H => ?_)
  replace H : Sh.Holds w0 (row.hp 29 :: J3.hp :: hs) w := H
  rw [d2, if_pos rfl, hg] at hJ3
  have l3 : J3.lines = ((ys.map Xe.e).take m).map LB := by rw [hJ3]
  have d3 : J3.down = false := by rw [hJ3]
  have s3 : J3.sure = m := by rw [hJ3]; simp only [List.length_map, htl]
  have v3 : J3.j = j0 := by rw [hJ3]; exact v2
  have hv3 : (.pointer (some ⟨j0, 0, none⟩) : Value) = J3.v := by rw [← v3]
  clear hJ3
  rw [← hv2, hv3]
  refine asI_h ?_
  refine allJ_c (J := J3) 1 E T H rfl ok3 (by rw [l3]; exact LB_size hmayT) (by rw [l3, List.length_map, htl]; omega) (fun row3 es3 w hes3 okr3 oks3 H => ?_)
  rw [l3, ent_ents hmayT, List.take_of_length_le (by rw [htl]; show m ≤ 5000; omega)] at hes3
  have he3 : es3.length = m := by have := congrArg List.length hes3; rwa [List.length_map, htl] at this
  have hf3 : (es3.flatMap enC).length = es3.length * 3 := Sh.flat_len (f := enC) (z := 3) (fun _ => rfl) es3
  have hr3 : row3.n = m := by have := okr3.len; omega
  refine asSl_h ?_
  rw [hr3]
  refine br_f (by simp; omega) ?_
  refine br_f (by rw [hrn]; simp; omega) ?_
  refine slSl3_h okr (by omega) ?_
  have hx : EntSl (Sh.Holds w0 (row3.hp 29 :: ((es3.map fun y => y.2.hp 3) ++ (row.hp 29 :: J3.hp :: hs)))) row3.p m (es3.map fun q => ⟨q.1, q.2.p, q.2.n, q.2.c⟩) := by
    refine ⟨?_, fun x hx => ?_⟩
    · have h0 := Sl.row (w0 := w0) (hs := row3.hp 29 :: ((es3.map fun y => y.2.hp 3) ++ (row.hp 29 :: J3.hp :: hs))) 0 rfl okr3
      rw [hr3] at h0
      rw [List.flatMap_map]
      exact h0
    · obtain ⟨q, hq, rfl⟩ := List.mem_map.1 hx
      obtain ⟨j, hj, rfl⟩ := List.getElem_of_mem hq
      refine Sl.row (e := 3) (j + 1) ?_ (oks3 _ (List.getElem_mem hj))
      simp [List.getElem?_append_left, hj]
  have drop3 : ∀ {w}, Sh.Holds w0 (row3.hp 29 :: ((es3.map fun y => y.2.hp 3) ++ (row.hp 29 :: J3.hp :: hs))) w → Sh.Holds w0 (row.hp 29 :: J3.hp :: hs) w := fun H => Holds.right (a := es3.map fun y => y.2.hp 3) H.tail
  have hyb : EntSl (Sh.Holds w0 (row.hp 29 :: J3.hp :: hs)) row.p row.n ys := ⟨Sl.row 0 rfl okr, fun y hy => (hnum y hy).mono fun w H => H.tail.tail⟩
  have hy := (hyb.take (m := m) (by omega)).mono (fun w => drop3 (w := w))
  refine same_c H hx hy (by rw [List.length_map]; omega) (fun x hx => ?_) (fun b w hb H => ?_)
  · obtain ⟨q, hq, rfl⟩ := List.mem_map.1 hx
    have : q.1 ∈ (ys.map Xe.e).take m := by rw [← hes3]; exact List.mem_map.2 ⟨q, hq, rfl⟩
    have := (mayN_out (hmayT _ this)).2.2.2.2.2.2.1
    show q.1.l.length < _
    omega
  have hb : b = true := hb.2 (by rw [List.map_map, List.map_take]; exact hes3)
  subst hb
  refine asBoo_h ?_
  refine br_f rfl ?_
  have hi3 : (row3.hp 29 :: ((es3.map fun y => y.2.hp 3) ++ (row.hp 29 :: J3.hp :: hs)))[es3.length + 2]? = some J3.hp := by
    rw [List.getElem?_cons_succ, List.getElem?_append_right (by simp)]
    simp
  refine Sure_c (J := J3) _ H hi3 (fun w H => ?_)
  refine asI_h ?_
  refine br_f (by rw [s3]; simp) ?_
  refine downJ_c (J := J3) _ H hi3 (fun w H => ?_)
  rw [d3]
  refine asBoo_h ?_
  refine br_f rfl ?_
  have ew : IntKind.i64.wrap ((row.n : Int) - sr) = (ys.length : Int) - sr := by rw [hrn]; exact wrap64 (by omega) (by omega)
  rw [ew]
  have em : IntKind.i64.wrap (sr + if (if (ys.length : Int) - sr < x1 then (ys.length : Int) - sr else x1) > 0 then if (ys.length : Int) - sr < x1 then (ys.length : Int) - sr else x1 else 0) = m := by
    show IntKind.i64.wrap (sr + cutI ((ys.length : Int) - sr) x1) = m
    rw [hm]; exact wrap64 (by omega) (by omega)
  rw [em]
  refine br_t (by simp) ?_
  refine awake4_c E T H (fun w H => ?_)
  refine asBoo_h ?_
  exact k _ (drop3 H).tail.tail
end Go.Proofs.YteppbgalecjlfaaDoor
