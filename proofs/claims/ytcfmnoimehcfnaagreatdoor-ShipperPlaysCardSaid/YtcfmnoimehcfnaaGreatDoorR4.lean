/- Contracts of the reference's shipper, and of the shipper at any message. Conditions: none. -/
import Derived.Test.YtcfmnoimehcfnaaGreatDoorR3
set_option linter.unusedVariables false
set_option linter.unusedSimpArgs false
set_option maxRecDepth 100000
namespace Go.Proofs.YtcfmnoimehcfnaaGreatDoor
open Go Go.Sh

structure Rn where
  n : Nat
  J : Rj
  B : Rb
def Rn.hp (M : Rn) : Hp := [(M.n, .cells #[M.J.v, M.B.v] 61 (0, 0))] ++ (M.J.hp ++ M.B.hp)
abbrev Rn.v (M : Rn) : Value := .pointer (some ⟨M.n, 0, none⟩)
structure RnIs (M : Rn) (es : List Pk) (d : Bool) : Prop where
  j : M.J.Ok
  b : M.B.Ok
  lines : M.J.lines = (es.map Pk.en).map LB
  pk : PkOk es
  sure : M.J.sure = es.length
  dn : M.J.down = d
  l : M.B.l = if d = true then [] else es
theorem RnIs.small {M : Rn} {es : List Pk} {d : Bool} (h : RnIs M es d) : M.B.l.length ≤ 1000 := by
  have := h.pk.len
  rw [h.l]; split
  · simp
  · exact this
theorem RnIs.len {M : Rn} {es : List Pk} {d : Bool} (h : RnIs M es d) : M.J.lines.length = es.length := by rw [h.lines]; simp
/-- what is answered, and what has gone behind it -/
def ansP (es : List Pk) (room : Int) (d : Bool) (kind frm to id a b : Int) : List Pk × Bool :=
  if (d || (!toB kind frm to || !decide (okM id a b))) = true then (es, false) else if anyId es id = true then (es, true) else if (es.length : Int) < room then (es ++ [⟨id, a, b⟩], true) else (es, false)
theorem PkOk.add {es : List Pk} {id a b : Int} (h : PkOk es) (hm : okM id a b) (hn : anyId es id = false) : PkOk (es ++ [⟨id, a, b⟩]) := by
  refine ⟨fun p hp => ?_, ?_⟩
  · rcases List.mem_append.1 hp with hp | hp
    · exact h.ok p hp
    · simp only [List.mem_singleton] at hp; subst hp; exact hm
  · rw [List.map_append, List.nodup_append]
    refine ⟨h.ids, by simp, fun x hx y hy => ?_⟩
    obtain ⟨p, hp, rfl⟩ := List.mem_map.1 hx
    simp only [List.map_cons, List.map_nil, List.mem_singleton] at hy
    subst hy
    intro e
    unfold anyId at hn
    rw [List.any_eq_false] at hn
    exact hn p hp (by simp [e])
section
variable {w0 w : World} {hs R : List Hp} {K : KV}
theorem openR {M : Rn} (H : Sh.Holds w0 (M.hp :: R) w) : Sh.Holds w0 ([(M.n, .cells #[M.J.v, M.B.v] 61 (0, 0))] :: M.J.hp :: M.B.hp :: R) w := H.perm (by simp [Rn.hp])
theorem shutR {M : Rn} (H : Sh.Holds w0 ([(M.n, .cells #[M.J.v, M.B.v] 61 (0, 0))] :: M.J.hp :: M.B.hp :: R) w) : Sh.Holds w0 (M.hp :: R) w := H.perm (by simp [Rn.hp])
theorem newRs_c {x : Int} (H : Sh.Holds w0 hs w) (k : ∀ (M : Rn) w', RnIs M [] false → M.J.room = roomB x → Sh.Holds w0 (M.hp :: hs) w' → K M.v w') : gocall Tryz.prog 26 [I x] K w := by
  apply F26_go; unfold F26
  refine newR_c H (fun J w okJ j1 j2 j3 j4 H => ?_)
  refine asPtr_h ?_
  refine nw_h H (fun k5 w H => ?_)
  refine nw_h H (fun k7 w H => ?_)
  refine k ⟨k7, J, ⟨k5, Row.nil, []⟩⟩ w ⟨okJ, Row.nil_ok 3, by rw [j1]; rfl, ⟨by simp, by simp⟩, by rw [j2]; rfl, j3, rfl⟩ j4 (shutR ?_)
  have H9 : Sh.Holds w0 ([(k7, .cells #[J.v, .pointer (some ⟨k5, 0, none⟩)] 61 (0, 0))] :: J.hp :: [(k5, .cells #[.slice none 0 0] 157 (0, 0))] :: hs) w := Holds.re H
  exact H9.perm (by simp [Rb.hp, Row.hp, Row.nil, Row.v, Row.p])
theorem crashR_sure {ls : List ByteArray} {sure stay torn : Int} (h : sure = ls.length) : crashR ls sure stay torn = ls := by
  have hm : sure + cutI ((ls.length : Int) - sure) stay = ls.length := by
    have := cutI_range stay (a := (ls.length : Int) - sure) (by omega)
    omega
  unfold crashR
  rw [hm, Int.toNat_natCast]
  simp
theorem LB_pos {es : List En} (h : ∀ e ∈ es, mayN e = true) : ∀ s ∈ es.map LB, 0 < s.size ∧ s.size ≤ 100000 := by
  intro s hs
  obtain ⟨e, he, rfl⟩ := List.mem_map.1 hs
  have := line_size (h e he)
  have h2 : 3 ≤ (LB e).size := by show 3 ≤ (B (lineL e)).size; rw [B_size, lineL, signL_len]; omega
  exact ⟨by omega, by show (B (lineL e)).size ≤ _; omega⟩
theorem crashRs_c {M : Rn} {es : List Pk} {d : Bool} {x1 x2 : Int} (H : Sh.Holds w0 hs w) [D : Del hs M.hp R] (I0 : RnIs M es d)
    (k : ∀ (M' : Rn) w', RnIs M' es true → M'.n = M.n → M'.J.room = M.J.room → Sh.Holds w0 (M'.hp :: R) w' → K (.tuple #[]) w') : gocall Tryz.prog 28 [M.v, I x1, I x2] K w := by
  replace H := H.get M.hp
  have H0 := H
  replace H := openR H
  have hn := I0.len
  have hlen := I0.pk.len
  have hsu := I0.sure
  apply F28_go; unfold F28
  refine nn_h ?_
  refine ldA H ?_; refine asPtr_h ?_
  refine nn_h ?_
  have H2 : Sh.Holds w0 ([(M.J.j, .cells #[I M.J.room, M.J.r.v, I M.J.sure, .bool M.J.down] 64 (0, 0))] :: M.J.r.hp 9 :: [(M.n, .cells #[M.J.v, M.B.v] 61 (0, 0))] :: M.B.hp :: R) w := openJ (H.get M.J.hp)
  refine ldA H2 ?_; refine asBoo_h ?_
  rw [I0.dn]
  cases d with
  | true => exact br_f rfl (k M w I0 rfl rfl H0)
  | false =>
  refine br_t rfl ?_
  refine nn_h ?_
  refine ldA H ?_; refine asPtr_h ?_
  refine crashR_c (J := M.J) 1 H rfl I0.j (fun _ => by rw [I0.lines]; exact LB_pos I0.pk.may) (by omega) (by omega) (by omega) (fun J w hJ okJ H => ?_)
  rw [I0.dn, if_neg (by simp), crashR_sure (by omega)] at hJ
  refine asT_e [] rfl rfl ?_
  refine nw_h H (fun k26 w H => ?_)
  replace H : Sh.Holds w0 ([(k26, .cells #[.slice none 0 0] 157 (0, 0))] :: [(M.n, .cells #[M.J.v, M.B.v] 61 (0, 0))] :: J.hp :: M.B.hp :: R) w := H
  refine nn_h ?_
  refine stA H rfl fun w H => ?_
  have ev : M.J.v = J.v := by rw [hJ]
  rw [ev] at H
  refine k ⟨M.n, J, ⟨k26, Row.nil, []⟩⟩ w ⟨okJ, Row.nil_ok 3, by rw [hJ]; exact I0.lines, I0.pk, by rw [hJ]; exact hsu, by rw [hJ], by rw [if_pos rfl]⟩ rfl (by rw [hJ]) (shutR ?_)
  have H9 : Sh.Holds w0 ([(M.n, .cells #[J.v, .pointer (some ⟨k26, 0, none⟩)] 61 (0, 0))] :: J.hp :: [(k26, .cells #[.slice none 0 0] 157 (0, 0))] :: R) w := Holds.re H
  exact H9.perm (by simp [Rb.hp, Row.hp, Row.nil, Row.v, Row.p])
theorem anyId_take {es : List Pk} {n : Nat} {p : Pk} (h : PkOk es) (hp : es[n]? = some p) : anyId (es.take n) p.id = false := by
  have := ship_next h hp
  unfold shipB at this
  split at this
  · cases this
  · split at this
    · cases this
    · rename_i h2
      unfold anyId
      rw [← idx_any_id]
      simpa using h2
theorem Holds.left {a b : List Hp} (H : Sh.Holds w0 (a ++ b) w) : Sh.Holds w0 a w := Holds.right (Holds.swap H)
set_option maxHeartbeats 1000000 in
theorem startRs_c {M : Rn} {es : List Pk} {d : Bool} (T : Tab w0) (H : Sh.Holds w0 hs w) [D : Del hs M.hp R] (I0 : RnIs M es d)
    (k : ∀ (M' : Rn) w', RnIs M' es false → M'.n = M.n → M'.J.room = M.J.room → Sh.Holds w0 (M'.hp :: R) w' → K (.tuple #[]) w') : gocall Tryz.prog 30 [M.v] K w := by
  replace H := H.get M.hp
  have H0 := H
  replace H := openR H
  have hn := I0.len
  have hlen := I0.pk.len
  have hsu := I0.sure
  apply F30_go; unfold F30
  refine nn_h ?_
  refine ldA H ?_; refine asPtr_h ?_
  refine nn_h ?_
  have H2 : Sh.Holds w0 ([(M.J.j, .cells #[I M.J.room, M.J.r.v, I M.J.sure, .bool M.J.down] 64 (0, 0))] :: M.J.r.hp 9 :: [(M.n, .cells #[M.J.v, M.B.v] 61 (0, 0))] :: M.B.hp :: R) w := openJ (H.get M.J.hp)
  refine ldA H2 ?_; refine asBoo_h ?_
  rw [I0.dn]
  cases d with
  | false => exact br_t rfl (k M w I0 rfl rfl H0)
  | true =>
  clear H2 H0
  have hl0 : M.B.l = [] := I0.l
  refine br_f rfl ?_
  refine nn_h ?_
  refine ldA H ?_; refine asPtr_h ?_
  have hsz : ∀ s ∈ M.J.lines, s.size ≤ 100000 := by rw [I0.lines]; exact LB_size I0.pk.may
  refine recoverR_c (J := M.J) 1 T H rfl I0.j hsz (by omega) (fun J w hJ okJ H => ?_)
  have hg : goodL M.J.lines = M.J.lines := by rw [I0.lines]; exact good_ents I0.pk.may
  rw [I0.dn, if_pos rfl, hg] at hJ
  refine asI_h ?_
  replace H : Sh.Holds w0 ([(M.n, .cells #[M.J.v, M.B.v] 61 (0, 0))] :: J.hp :: M.B.hp :: R) w := H
  have l1 : J.lines = (es.map Pk.en).map LB := by rw [hJ]; exact I0.lines
  have ev : M.J.v = J.v := by rw [hJ]
  rw [ev] at H
  refine nn_h ?_
  refine ldA H ?_; refine asPtr_h ?_
  refine allR_c (J := J) 1 T H rfl okJ (by rw [l1]; exact LB_size I0.pk.may) (by rw [l1]; simp; omega) (fun row ys w hys okr oks H => ?_)
  refine asSl_h ?_
  rw [l1, ent_ents I0.pk.may] at hys
  obtain ⟨fr, hfr⟩ : ∃ fr : List Hp, fr = R ++ (row.hp 139 :: ys.map fun y => y.2.hp 3) := ⟨_, rfl⟩
  have H1 : Sh.Holds w0 ([(M.n, .cells #[J.v, M.B.v] 61 (0, 0))] :: J.hp :: M.B.hp :: fr) w := by
    rw [hfr]
    exact Holds.swap (a := row.hp 139 :: ys.map fun y => y.2.hp 3) (b := [(M.n, .cells #[J.v, M.B.v] 61 (0, 0))] :: J.hp :: M.B.hp :: R) H
  have hylen : ys.length = es.length := by have := congrArg List.length hys; simpa using this
  have hrow : Sl (Sh.Holds w0 fr) row.p row.n 3 (ys.flatMap enC) := by
    refine Sl.row R.length (e := 139) ?_ okr
    rw [hfr]; simp
  have hrn : row.n = ys.length := by
    have h3 := okr.len
    have h4 : (ys.flatMap enC).length = ys.length * 3 := Sh.flat_len (f := enC) (z := 3) (fun _ => rfl) ys
    omega
  have hnum : ∀ (i : Nat) y, ys[i]? = some y → Sl (Sh.Holds w0 fr) y.2.p y.2.n 1 (y.1.l.map I) := fun i y hy => by
    refine Sl.row (R.length + 1 + i) (e := 3) ?_ (oks y (List.mem_of_getElem? hy))
    rw [hfr, List.getElem?_append_right (by omega), show R.length + 1 + i - R.length = i + 1 by omega]
    simp [hy]
  clear H
  refine ⟨fun y w => 0 ≤ y.1 ∧ y.1 ≤ es.length ∧ ∃ Bk : Rb, Bk.Ok ∧ Bk.b = M.B.b ∧ Bk.l = es.take y.1.toNat ∧ Sh.Holds w0 ([(M.n, .cells #[J.v, M.B.v] 61 (0, 0))] :: J.hp :: Bk.hp :: fr) w, fun y _ => (es.length - y.1).toNat, ⟨by simp, by simp, M.B, I0.b, rfl, by rw [hl0]; simp, H1⟩, ?_⟩
  clear H1
  rintro ⟨i, u⟩ w ⟨h0, h1, Bk, okB, hb, hl, H⟩
  simp only at h0 h1 hl
  refine br_s (fun h => ?_) (fun h => ?_)
  · simp only [decide_eq_true_eq] at h
    have hi : i.toNat < ys.length := by omega
    have hp := List.getElem?_eq_getElem hi
    obtain ⟨p, hpe⟩ : ∃ p, es[i.toNat]? = some p := ⟨_, List.getElem?_eq_getElem (by omega)⟩
    have hye : ys[i.toNat].1 = p.en := by
      have h2 : (ys.map Prod.fst)[i.toNat]? = (es.map Pk.en)[i.toNat]? := by rw [hys]
      rw [List.getElem?_map, List.getElem?_map, hp, hpe] at h2
      exact Option.some.inj h2
    have hnu := hnum _ _ hp
    have hcc := fun {j : Nat} (hj : j < 3) => flat_at (f := enC) (z := 3) (fun _ => rfl) hp hj
    generalize ys[i.toNat] = y at hp hye hnu hcc
    obtain ⟨ye, yr⟩ := y
    simp only at hye
    subst hye
    have hn2 : yr.n = 2 := by have := hnu.len; simp [Pk.en] at this; omega
    have H' := H.tail.tail.tail
    refine slAt_s hrow h0 h (fun s1 o1 hsp => ?_)
    refine ldS_s (j := i.toNat * 3) hrow hsp H' (v := .string (B p.en.k)) (hcc (j := 0) (by omega)) ?_; refine asStr_h ?_
    refine ldS_s (j := i.toNat * 3 + 1) hrow hsp H' (v := I p.id) (hcc (j := 1) (by omega)) ?_; refine asI_h ?_
    refine ldS_s (j := i.toNat * 3 + 2) hrow hsp H' (v := .slice yr.p yr.n yr.c) (hcc (j := 2) (by omega)) ?_; refine asSl_h ?_
    rw [hn2] at hnu ⊢
    refine nw_h H (fun k57 w H => ?_)
    replace H : Sh.Holds w0 ([(k57, .cells #[.string ⟨#[]⟩, I 0, .slice none 0 0] 139 (0, 0))] :: [(M.n, .cells #[J.v, M.B.v] 61 (0, 0))] :: J.hp :: Bk.hp :: fr) w := H
    refine stA H rfl fun w H => ?_
    refine stA H rfl fun w H => ?_
    refine stA H rfl fun w H => ?_
    replace H := H.drew
    refine nn_h ?_
    refine ldA H ?_; refine asPtr_h ?_
    refine ldA H ?_; refine asI_h ?_
    refine ldA H ?_; refine asSl_h ?_
    have H5 := H.tail.tail.tail.tail
    refine slAt_s hnu (by omega) (by omega) (fun b1 q1 hq => ?_)
    refine ldS_s (j := 0) hnu hq H5 (v := I p.item) rfl ?_; refine asI_h ?_
    refine ldA H ?_; refine asSl_h ?_
    refine slAt_s hnu (by omega) (by omega) (fun b1 q1 hq => ?_)
    refine ldS_s (j := 1) hnu hq H5 (v := I p.qty) rfl ?_; refine asI_h ?_
    have eb : M.B.v = Bk.v := by rw [Rb.v, Rb.v, hb]
    rw [eb] at H
    rw [← hb]
    have hsm : Bk.l.length < 1000000 := by rw [hl, List.length_take]; omega
    refine shipR_c (B := Bk) H okB hsm (fun B2 w b1 b2 b3 H => ?_)
    refine asI_h ?_
    have hpo := I0.pk.ok p (List.mem_of_getElem? hpe)
    have hno := anyId_take I0.pk hpe
    have e0 : shipR Bk.l p.id p.item p.qty = 0 := by unfold shipR; rw [if_neg (fun g => g hpo), hl, if_neg (by simp [hno])]
    rw [if_pos e0, hl] at b3
    have hw : IntKind.wrap .i64 (i + 1) = i + 1 := wrap64 (by omega) (by omega)
    simp only [hw]
    have htk : es.take (i + 1).toNat = es.take i.toNat ++ [p] := by rw [show (i + 1).toNat = i.toNat + 1 by omega, List.take_add_one, hpe]; rfl
    refine ⟨⟨by omega, by omega, B2, b2, b1, by rw [b3, htk], ?_⟩, by omega⟩
    rw [eb]
    exact Holds.re H
  · simp only [decide_eq_false_iff_not] at h
    rw [show i.toNat = es.length by omega, List.take_length] at hl
    have eb : M.B.v = Bk.v := by rw [Rb.v, Rb.v, hb]
    rw [eb] at H
    refine k ⟨M.n, J, Bk⟩ w ⟨okJ, okB, l1, I0.pk, by rw [hJ]; show ((M.J.lines.length : Nat) : Int) = _; rw [hn], by rw [hJ], by simpa using hl⟩ rfl (by rw [hJ]) (shutR ?_)
    rw [hfr] at H
    exact Holds.left (a := [(M.n, .cells #[J.v, Bk.v] 61 (0, 0))] :: J.hp :: Bk.hp :: R) H
set_option maxHeartbeats 2000000 in
theorem handleRs_c {M : Rn} {es : List Pk} {d : Bool} {kind frm to id st a b : Int} (T : Tab w0) (H : Sh.Holds w0 hs w) [D : Del hs M.hp R] (I0 : RnIs M es d)
    (k0 : (ansP es M.J.room d kind frm to id a b).2 = false → ∀ (M' : Rn) w', RnIs M' (ansP es M.J.room d kind frm to id a b).1 d → M'.n = M.n → M'.J.room = M.J.room → Sh.Holds w0 (M'.hp :: R) w' → K (.slice none 0 0) w')
    (k1 : (ansP es M.J.room d kind frm to id a b).2 = true → ∀ (q : Nat) (M' : Rn) w', RnIs M' (ansP es M.J.room d kind frm to id a b).1 d → M'.n = M.n → M'.J.room = M.J.room → Sh.Holds w0 ([(q, .cells #[I 16, I 3, I 0, I id, I 0, I 0, I 0] 35 (0, 0))] :: M'.hp :: R) w' → K (.slice (some ⟨q, 0, none⟩) 1 1) w') :
    gocall Tryz.prog 33 [M.v, msgV kind frm to id st a b] K w := by
  replace H := H.get M.hp
  have hn := I0.len
  have hlen := I0.pk.len
  have hsm := I0.small
  have no : (d = true ∨ toB kind frm to = false ∨ ¬ okM id a b) → ∀ {w}, Sh.Holds w0 (M.hp :: R) w → K (.slice none 0 0) w := fun h w H => by
    have e : ansP es M.J.room d kind frm to id a b = (es, false) := by
      unfold ansP
      rw [if_pos (by rcases h with h | h | h <;> simp [h])]
    rw [e] at k0
    exact k0 rfl M w I0 rfl rfl H
  apply F33_go; unfold F33
  refine nw_h H (fun k8 w H => ?_)
  have H : Sh.Holds w0 ([(k8, .cells #[I kind, I frm, I to, I id, I st, I a, I b] 35 (0, 0))] :: M.hp :: R) w := H
  have H0 := H
  replace H : Sh.Holds w0 ([(M.n, .cells #[M.J.v, M.B.v] 61 (0, 0))] :: M.J.hp :: M.B.hp :: [(k8, .cells #[I kind, I frm, I to, I id, I st, I a, I b] 35 (0, 0))] :: R) w := openR (H.get M.hp)
  refine nn_h ?_
  refine ldA H ?_; refine asPtr_h ?_
  refine nn_h ?_
  have H2 : Sh.Holds w0 ([(M.J.j, .cells #[I M.J.room, M.J.r.v, I M.J.sure, .bool M.J.down] 64 (0, 0))] :: M.J.r.hp 9 :: [(M.n, .cells #[M.J.v, M.B.v] 61 (0, 0))] :: M.B.hp :: [(k8, .cells #[I kind, I frm, I to, I id, I st, I a, I b] 35 (0, 0))] :: R) w := openJ (H.get M.J.hp)
  refine ldA H2 ?_; refine asBoo_h ?_
  rw [I0.dn]
  clear H2
  refine br_s (fun hd => no (.inl hd) H0.tail) (fun hd => ?_)
  subst hd
  refine ldA H ?_; refine asI_h ?_
  refine br_s (fun h => no (.inr (.inl (by simp at h; simp [toB, h]))) H0.tail) (fun h1 => ?_)
  refine ldA H ?_; refine asI_h ?_
  refine br_s (fun h => no (.inr (.inl (by simp at h; simp [toB, h]))) H0.tail) (fun h2 => ?_)
  refine ldA H ?_; refine asI_h ?_
  refine id1_c H0 (fun w H0 => ?_)
  refine asBoo_h ?_
  refine br_s (fun h => no (.inr (.inr (fun g => ?_))) H0.tail) (fun h3 => ?_)
  · obtain ⟨g1, g2, -⟩ := g; simp at h; omega
  clear H
  refine ldA H0 ?_; refine asI_h ?_
  refine br_s (fun h => no (.inr (.inl (by simp at h; simp [toB, h]))) H0.tail) (fun h4 => ?_)
  have ht : toB kind frm to = true := by simp at h1 h2 h4; simp [toB, h1, h2, h4]
  have hl : M.B.l = es := by have := I0.l; simpa using this
  -- what comes last
  have last : ∀ (M' : Rn), (ansP es M.J.room false kind frm to id a b).2 = true → RnIs M' (ansP es M.J.room false kind frm to id a b).1 false → M'.n = M.n → M'.J.room = M.J.room → ∀ {A : List Hp} {w : World} [Re ([(k8, .cells #[I kind, I frm, I to, I id, I st, I a, I b] 35 (0, 0))] :: M'.hp :: R) A], Sh.Holds w0 A w →
      ld ⟨k8, 3, none⟩ (fun v w => asI .i64 v (fun n w => nw (.cells #[I 16, I 3, I 0, I n, I 0, I 0, I 0] 35 (0, 0)) (fun q w => K (.slice (some ⟨q, 0, none⟩) 1 1) w) w) w) w := by
    intro M' e IM en er A w _ H
    replace H : Sh.Holds w0 ([(k8, .cells #[I kind, I frm, I to, I id, I st, I a, I b] 35 (0, 0))] :: M'.hp :: R) w := Holds.re H
    refine ldA H ?_; refine asI_h ?_
    refine nw_h H (fun q w H => ?_)
    exact k1 e q M' w IM en er H.drop1
  refine ⟨fun _ w => ∃ M' : Rn, (ansP es M.J.room false kind frm to id a b).2 = true ∧ RnIs M' (ansP es M.J.room false kind frm to id a b).1 false ∧ M'.n = M.n ∧ M'.J.room = M.J.room ∧ Sh.Holds w0 ([(k8, .cells #[I kind, I frm, I to, I id, I st, I a, I b] 35 (0, 0))] :: M'.hp :: R) w, ?_, fun _ w ⟨M', e1, e2, e3, e4, H⟩ => last M' e1 e2 e3 e4 H⟩
  refine ⟨fun x w => x.1 = anyId es id ∧ Sh.Holds w0 ([(k8, .cells #[I kind, I frm, I to, I id, I st, I a, I b] 35 (0, 0))] :: M.hp :: R) w, ?_, ?_⟩
  · replace H0 := H0.drew
    replace H : Sh.Holds w0 ([(M.n, .cells #[M.J.v, M.B.v] 61 (0, 0))] :: M.J.hp :: M.B.hp :: [(k8, .cells #[I kind, I frm, I to, I id, I st, I a, I b] 35 (0, 0))] :: R) _ := openR (H0.get M.hp)
    refine keepsA [[(M.n, .cells #[M.J.v, M.B.v] 61 (0, 0))], [(k8, .cells #[I kind, I frm, I to, I id, I st, I a, I b] 35 (0, 0))]] H ?_
    refine nn_h ?_
    refine ldSA ?_; refine asPtr_h ?_
    refine ldSA ?_; refine asI_h ?_
    refine both_h ?_ ?_
    · refine findR_c (B := M.B) H I0.b (by omega) (fun a1 a2 a3 w H => ?_)
      refine asT_e [_, _] rfl rfl ?_
      refine asN_e [_, _, _] rfl rfl ?_
      refine asI_e rfl ?_; refine asI_e rfl ?_; refine asI_e rfl ?_; refine asBoo_e rfl ?_
      refine kpA H ?_
      refine nw_h H (fun k9 w H => ?_)
      replace H : Sh.Holds w0 ([(k9, .cells #[I 0, I 0, I 0] 166 (0, 0))] :: M.B.hp :: [(M.n, .cells #[M.J.v, M.B.v] 61 (0, 0))] :: M.J.hp :: [(k8, .cells #[I kind, I frm, I to, I id, I st, I a, I b] 35 (0, 0))] :: R) w := H
      refine kpA H ?_
      (with_reducible repeat first|refine ldA (by assumption) ?_|refine Stp.imp ?_|refine stA (by assumption) rfl fun _ _=>?_|refine nw_h (by assumption) fun _ _ _=>?_|refine ldSA ?_|refine asT_e [] rfl rfl ?_|refine ldD (by assumption) ?_|refine nwD (by assumption) fun _ _ _=>?_)
      rename_i H9
      refine kpA H9 ?_
      refine ⟨by rw [hl], ?_⟩
      have H8 : Sh.Holds w0 ([(M.n, .cells #[M.J.v, M.B.v] 61 (0, 0))] :: M.J.hp :: M.B.hp :: [(k8, .cells #[I kind, I frm, I to, I id, I st, I a, I b] 35 (0, 0))] :: R) _ := Holds.re H9
      exact (shutR H8).bring 1 rfl
    · refine nw_h H (fun k9 w H => ?_)
      replace H : Sh.Holds w0 ([(k9, .cells #[I 0, I 0, I 0] 166 (0, 0))] :: [(M.n, .cells #[M.J.v, M.B.v] 61 (0, 0))] :: M.J.hp :: M.B.hp :: [(k8, .cells #[I kind, I frm, I to, I id, I st, I a, I b] 35 (0, 0))] :: R) w := H
      refine kpA H ?_
      refine findR_c (B := M.B) H I0.b (by omega) (fun a1 a2 a3 w H => ?_)
      refine asT_e [_, _] rfl rfl ?_
      refine asN_e [_, _, _] rfl rfl ?_
      refine asI_e rfl ?_; refine asI_e rfl ?_; refine asI_e rfl ?_; refine asBoo_e rfl ?_
      refine kpA H ?_
      replace H : Sh.Holds w0 (M.B.hp :: [(k9, .cells #[I 0, I 0, I 0] 166 (0, 0))] :: [(M.n, .cells #[M.J.v, M.B.v] 61 (0, 0))] :: M.J.hp :: [(k8, .cells #[I kind, I frm, I to, I id, I st, I a, I b] 35 (0, 0))] :: R) w := H
      (with_reducible repeat first|refine ldA (by assumption) ?_|refine Stp.imp ?_|refine stA (by assumption) rfl fun _ _=>?_|refine nw_h (by assumption) fun _ _ _=>?_|refine ldSA ?_|refine asT_e [] rfl rfl ?_|refine ldD (by assumption) ?_|refine nwD (by assumption) fun _ _ _=>?_)
      rename_i H9
      refine kpA H9 ?_
      refine ⟨by rw [hl], ?_⟩
      have H8 : Sh.Holds w0 ([(M.n, .cells #[M.J.v, M.B.v] 61 (0, 0))] :: M.J.hp :: M.B.hp :: [(k8, .cells #[I kind, I frm, I to, I id, I st, I a, I b] 35 (0, 0))] :: R) _ := Holds.re H9
      exact (shutR H8).bring 1 rfl
  clear H0
  rintro ⟨x, u⟩ w ⟨hx, H⟩
  simp only at hx
  subst hx
  refine ⟨fun y w => y.1 = !anyId es id ∧ Sh.Holds w0 ([(k8, .cells #[I kind, I frm, I to, I id, I st, I a, I b] 35 (0, 0))] :: M.hp :: R) w, ⟨rfl, H⟩, ?_⟩
  clear H
  rintro ⟨x, u⟩ w ⟨hx, H⟩
  simp only at hx
  subst hx
  refine br_s (fun h5 => ?_) (fun h5 => ?_)
  · have h5 : anyId es id = false := by simpa using h5
    have full : M.J.room ≤ (es.length : Int) → ∀ {w}, Sh.Holds w0 (M.hp :: R) w → K (.slice none 0 0) w := fun h w H => by
      by_cases hm : okM id a b
      · have e : ansP es M.J.room false kind frm to id a b = (es, false) := by
          unfold ansP
          rw [if_neg (by simp [ht, hm]), if_neg (by simp [h5]), if_neg (by omega)]
        rw [e] at k0
        exact k0 rfl M w I0 rfl rfl H
      · exact no (.inr (.inr hm)) H
    refine ⟨fun _ w => okM id a b ∧ (es.length : Int) < M.J.room ∧ ∃ Bk : Rb, Bk.b = M.B.b ∧ Bk.Ok ∧ Bk.l = es ++ [⟨id, a, b⟩] ∧ Sh.Holds w0 ([(k8, .cells #[I kind, I frm, I to, I id, I st, I a, I b] 35 (0, 0))] :: [(M.n, .cells #[M.J.v, M.B.v] 61 (0, 0))] :: M.J.hp :: Bk.hp :: R) w, ?_, ?_⟩
    · have H0 := H.drew
      replace H : Sh.Holds w0 ([(M.n, .cells #[M.J.v, M.B.v] 61 (0, 0))] :: M.J.hp :: M.B.hp :: [(k8, .cells #[I kind, I frm, I to, I id, I st, I a, I b] 35 (0, 0))] :: R) _ := openR (H0.get M.hp)
      refine nn_h ?_
      refine ldA H ?_; refine asPtr_h ?_
      refine nn_h ?_
      have H2 : Sh.Holds w0 ([(M.J.j, .cells #[I M.J.room, M.J.r.v, I M.J.sure, .bool M.J.down] 64 (0, 0))] :: M.J.r.hp 9 :: [(M.n, .cells #[M.J.v, M.B.v] 61 (0, 0))] :: M.B.hp :: [(k8, .cells #[I kind, I frm, I to, I id, I st, I a, I b] 35 (0, 0))] :: R) _ := openJ (H.get M.J.hp)
      refine ldA H2 ?_; refine asSl_h ?_
      refine nn_h ?_
      refine ldA H ?_; refine asPtr_h ?_
      refine nn_h ?_
      refine ldA H2 ?_; refine asI_h ?_
      clear H2
      have hrn := Rj.n I0.j
      refine br_s (fun h6 => full (by have := of_decide_eq_true h6; omega) H0.tail) (fun h6 => ?_)
      have h6 : (es.length : Int) < M.J.room := by have := of_decide_eq_false h6; omega
      refine nn_h ?_
      refine ldA H ?_; refine asPtr_h ?_
      refine ldA H ?_; refine asI_h ?_
      refine ldA H ?_; refine asI_h ?_
      refine ldA H ?_; refine asI_h ?_
      refine shipR_c (B := M.B) H I0.b (by omega) (fun B2 w b1 b2 b3 H => ?_)
      refine asI_h ?_
      rw [hl] at b3 ⊢
      by_cases hm : okM id a b
      · have e0 : shipR es id a b = 0 := by unfold shipR; rw [if_neg (fun g => g hm), if_neg (by simp [h5])]
        rw [if_pos e0] at b3
        refine br_f (by simp [e0]) ?_
        exact ⟨hm, h6, B2, b1, b2, b3, Holds.re H⟩
      · have e0 : shipR es id a b = 1 := by unfold shipR; rw [if_pos hm]
        rw [if_neg (by omega)] at b3
        refine br_t (by simp [e0]) ?_
        have e : ansP es M.J.room false kind frm to id a b = (es, false) := by
          unfold ansP
          rw [if_pos (by simp [hm])]
        rw [e] at k0
        have eb : M.B.v = B2.v := by rw [Rb.v, Rb.v, b1]
        rw [eb] at H
        exact k0 rfl ⟨M.n, M.J, B2⟩ w ⟨I0.j, b2, I0.lines, I0.pk, I0.sure, I0.dn, by simpa using b3⟩ rfl rfl (shutR (Holds.re H))
    · clear H
      rintro _ w ⟨hm, h6, Bk, b1, b2, b3, H⟩
      have e : ansP es M.J.room false kind frm to id a b = (es ++ [⟨id, a, b⟩], true) := by
        unfold ansP
        rw [if_neg (by simp [ht, hm]), if_neg (by simp [h5]), if_pos h6]
      replace H := H.drew
      have eb : M.B.v = Bk.v := by rw [Rb.v, Rb.v, b1]
      rw [eb] at H
      refine keepsA [[(M.n, .cells #[M.J.v, Bk.v] 61 (0, 0))], [(k8, .cells #[I kind, I frm, I to, I id, I st, I a, I b] 35 (0, 0))]] H ?_
      refine nn_h ?_
      refine ldSA ?_; refine asPtr_h ?_
      refine ldSA ?_; refine asI_h ?_
      refine ldSA ?_; refine asI_h ?_
      refine ldSA ?_; refine asI_h ?_
      refine nw_h H (fun k160 w H => ?_)
      replace H : Sh.Holds w0 ([(k160, .cells #[I a, I b] 3 (0, 0))] :: [(k8, .cells #[I kind, I frm, I to, I id, I st, I a, I b] 35 (0, 0))] :: [(M.n, .cells #[M.J.v, Bk.v] 61 (0, 0))] :: M.J.hp :: Bk.hp :: R) w := H
      refine kpA H ?_
      refine entryR_c H (fun w H => ?_)
      refine asN_e [_, _, _] rfl rfl ?_
      refine asStr_e rfl ?_; refine asI_e rfl ?_; refine asSl_e rfl ?_
      refine kpA H ?_
      refine nw_h H (fun k176 w H => ?_)
      replace H : Sh.Holds w0 ([(k176, .cells #[.string (B (Pk.en ⟨id, a, b⟩).k), I id, .slice (some ⟨k160, 0, none⟩) 2 2] 139 (0, 0))] :: [(k160, .cells #[I a, I b] 3 (0, 0))] :: [(k8, .cells #[I kind, I frm, I to, I id, I st, I a, I b] 35 (0, 0))] :: [(M.n, .cells #[M.J.v, Bk.v] 61 (0, 0))] :: M.J.hp :: Bk.hp :: R) w := H
      refine kpA H ?_
      refine note1_c (J := M.J) (e := Pk.en ⟨id, a, b⟩) (p := some ⟨k160, 0, none⟩) (n := 2) (c := 2) T H I0.j (by omega) (show mayE sentB id [a, b] = true from may_ok hm) inferInstance inferInstance inferInstance (Sl.block (vals := [I a, I b]) 1 rfl rfl) (fun h => ?_) (fun _ _ J w hJ okJ H => ?_)
      · exfalso
        rcases h with h | h
        · rw [I0.dn] at h; cases h
        · omega
      · refine asBoo_h ?_
        refine kpA H ?_
        have ev : M.J.v = J.v := by rw [hJ]
        rw [ev] at H
        rw [e]
        refine ⟨⟨M.n, J, Bk⟩, rfl, ⟨okJ, b2, by rw [hJ]; show M.J.lines ++ [LB (Pk.en ⟨id, a, b⟩)] = _; rw [I0.lines]; simp, I0.pk.add hm h5, by rw [hJ]; show (M.J.lines.length : Int) + 1 = _; rw [hn]; simp, by rw [hJ]; exact I0.dn, by simpa using b3⟩, rfl, by rw [hJ], ?_⟩
        have H8 : Sh.Holds w0 ([(M.n, .cells #[J.v, Bk.v] 61 (0, 0))] :: J.hp :: Bk.hp :: [(k8, .cells #[I kind, I frm, I to, I id, I st, I a, I b] 35 (0, 0))] :: R) _ := Holds.re H
        exact (shutR (M := ⟨M.n, J, Bk⟩) H8).bring 1 rfl
  · have h5 : anyId es id = true := by simpa using h5
    refine nw_h H (fun k191 w H => ?_)
    replace H : Sh.Holds w0 ([(k191, .cells #[.slice none 0 0] 157 (0, 0))] :: [(k8, .cells #[I kind, I frm, I to, I id, I st, I a, I b] 35 (0, 0))] :: M.hp :: R) w := H
    refine ldA H ?_; refine asI_h ?_
    refine ldA H ?_; refine asI_h ?_
    refine ldA H ?_; refine asI_h ?_
    have H8 : Sh.Holds w0 (Rb.hp ⟨k191, Row.nil, []⟩ :: [(k8, .cells #[I kind, I frm, I to, I id, I st, I a, I b] 35 (0, 0))] :: M.hp :: R) w := H.perm (by simp [Rb.hp, Row.hp, Row.nil, Row.v, Row.p])
    refine shipR_c (B := ⟨k191, Row.nil, []⟩) H8 (Row.nil_ok 3) (by simp) (fun B2 w b1 b2 b3 H => ?_)
    refine asI_h ?_
    by_cases hm : okM id a b
    · have e0 : shipR [] id a b = 0 := by unfold shipR; rw [if_neg (fun g => g hm), if_neg (by simp [anyId])]
      refine br_f (by simp [e0]) ?_
      have e : ansP es M.J.room false kind frm to id a b = (es, true) := by
        unfold ansP
        rw [if_neg (by simp [ht, hm]), if_pos h5]
      rw [e]
      exact ⟨M, rfl, I0, rfl, rfl, H.tail⟩
    · have e0 : shipR [] id a b = 1 := by unfold shipR; rw [if_pos hm]
      refine br_t (by simp [e0]) ?_
      exact no (.inr (.inr hm)) H.tail.tail
end
end Go.Proofs.YtcfmnoimehcfnaaGreatDoor
