/- Contracts of the reference's service: start, and a message. Conditions: none. -/
import Derived.Test.YtcfmnoimehcfnaaGreatDoorR7
set_option linter.unusedVariables false
set_option linter.unusedSimpArgs false
set_option maxRecDepth 100000
namespace Go.Proofs.YtcfmnoimehcfnaaGreatDoor
open Go Go.Sh

section
variable {w0 w : World} {hs R : List Hp} {K : KV}
theorem cs_st {M : Rv} {i q : Int} {K : World → Prop} (H : Sh.Holds w0 (M.cs :: R) w) (hl : M.ss.length = 1000) (h0 : 0 ≤ i) (h1 : i < 1000) (hk : ∀ w', Sh.Holds w0 (Rv.cs ⟨M.n, M.node, M.hold, M.J, M.B, M.ss.set i.toNat q⟩ :: R) w' → K w') : st ⟨M.n, 4 + i.toNat, none⟩ (I q) K w := by
  obtain ⟨x, hx⟩ : ∃ x, M.ss[i.toNat]? = some x := ⟨_, List.getElem?_eq_getElem (by omega)⟩
  refine st_h 0 H rfl rfl (u := I x) (by rw [Nat.add_comm]; simp [hx]) (fun w H => hk w ?_)
  have e1 : (I M.node :: I M.hold :: M.J.v :: M.B.v :: M.ss.map I).toArray.setIfInBounds (4 + i.toNat) (I q) = (I M.node :: I M.hold :: M.J.v :: M.B.v :: (M.ss.set i.toNat q).map I).toArray := by rw [Nat.add_comm]; simp
  have H4 : Sh.Holds w0 ([(M.n, .cells ((I M.node :: I M.hold :: M.J.v :: M.B.v :: M.ss.map I).toArray.setIfInBounds (4 + i.toNat) (I q)) 78 (0, 0))] :: R) w := H
  rw [e1] at H4
  exact H4
theorem eqk (a b : List UInt8) : strEq (B a) (B b) = decide (a = b) := strEq_B a b
theorem may_id {e : SE} (h : mayN e.en = true) : 0 ≤ e.en.id ∧ e.en.id ≤ 999 := by
  obtain ⟨-, -, -, h1, h2, -⟩ := mayN_iff.1 h
  exact ⟨h1, h2⟩
theorem Holds.left' {a b : List Hp} (H : Sh.Holds w0 (a ++ b) w) : Sh.Holds w0 a w := Holds.right (Holds.swap H)
set_option maxHeartbeats 2000000 in
theorem startRv_c {M : Rv} {es : List SE} {d : Bool} (T : Tab w0) (H : Sh.Holds w0 hs w) [D : Del hs M.hp R] (I0 : RvIs M es d)
    (k : ∀ (M' : Rv) w', RvIs M' es false → RvC M M' → Sh.Holds w0 (M'.hp :: R) w' → K (.tuple #[]) w') : gocall Tryz.prog 48 [M.v] K w := by
  replace H := H.get M.hp
  have H0 := H
  replace H := openV H
  have hn := I0.n
  have hlen := I0.len
  have hsu := I0.sure
  apply F48_go; unfold F48
  refine nn_h ?_
  refine cs_ld (i := 2) H (v := M.J.v) rfl ?_; refine asPtr_h ?_
  refine nn_h ?_
  have H2 : Sh.Holds w0 ([(M.J.j, .cells #[I M.J.room, M.J.r.v, I M.J.sure, .bool M.J.down] 64 (0, 0))] :: M.J.r.hp 9 :: M.cs :: M.B.hp :: R) w := openJ (H.get M.J.hp)
  refine ldA H2 ?_; refine asBoo_h ?_
  rw [I0.dn]
  cases d with
  | false => exact br_t rfl (k M w I0 (.rfl' M) H0)
  | true =>
  clear H2 H0
  refine br_f rfl ?_
  refine nn_h ?_
  refine cs_ld (i := 2) H (v := M.J.v) rfl ?_; refine asPtr_h ?_
  have hsz : ∀ s ∈ M.J.lines, s.size ≤ 100000 := by rw [I0.lines]; exact LB_size I0.may
  refine recoverR_c (J := M.J) 1 T H rfl I0.j hsz (by omega) (fun J w hJ okJ H => ?_)
  have hg : goodL M.J.lines = M.J.lines := by rw [I0.lines]; exact good_ents I0.may
  rw [I0.dn, if_pos rfl, hg] at hJ
  refine asI_h ?_
  have l1 : J.lines = (es.map SE.en).map LB := by rw [hJ]; exact I0.lines
  have ev : M.J.v = J.v := by rw [hJ]
  have ecs : ∀ (B : Rh) (ss : List Int), B.b = M.B.b → Rv.cs ⟨M.n, M.node, M.hold, M.J, M.B, ss⟩ = Rv.cs ⟨M.n, M.node, M.hold, J, B, ss⟩ := fun B ss hb => by
    unfold Rv.cs; rw [ev, Rh.v, Rh.v, hb]
  replace H : Sh.Holds w0 (Rv.cs ⟨M.n, M.node, M.hold, J, M.B, M.ss⟩ :: J.hp :: M.B.hp :: R) w := by
    rw [← ecs M.B M.ss rfl]; exact H
  refine nn_h ?_
  refine cs_ld (M := ⟨M.n, M.node, M.hold, J, M.B, M.ss⟩) (i := 2) H (v := J.v) rfl ?_; refine asPtr_h ?_
  refine allR_c (J := J) 1 T H rfl okJ (by rw [l1]; exact LB_size I0.may) (by rw [l1]; simp; omega) (fun row ys w hys okr oks H => ?_)
  refine asSl_h ?_
  rw [l1, ent_ents I0.may] at hys
  obtain ⟨fr, hfr⟩ : ∃ fr : List Hp, fr = R ++ (row.hp 139 :: ys.map fun y => y.2.hp 3) := ⟨_, rfl⟩
  have H1 : Sh.Holds w0 (Rv.cs ⟨M.n, M.node, M.hold, J, M.B, M.ss⟩ :: J.hp :: M.B.hp :: fr) w := by
    rw [hfr]
    exact Holds.swap (a := row.hp 139 :: ys.map fun y => y.2.hp 3) (b := Rv.cs ⟨M.n, M.node, M.hold, J, M.B, M.ss⟩ :: J.hp :: M.B.hp :: R) H
  have hylen : ys.length = es.length := by have := congrArg List.length hys; simpa using this
  have hrow : Sl (Sh.Holds w0 fr) row.p row.n 3 (ys.flatMap enC) := by
    refine Sl.row R.length (e := 139) ?_ okr
    rw [hfr]; simp
  have hrn : row.n = ys.length := by
    have h3 := okr.len
    have h4 : (ys.flatMap enC).length = ys.length * 3 := Sh.flat_len (f := enC) (z := 3) (fun _ => rfl) ys
    omega
  have hnum : ∀ (i : Nat) y, ys[i]? = some y → Sl (Sh.Holds w0 fr) y.2.p y.2.n 1 (y.1.l.map I) := fun i y hy => by
    refine Sl.row (R.length + 1 + i) (e := 3) ?_ (oks y (List.mem_of_getElem? hy))
    rw [hfr, List.getElem?_append_right (by omega), show R.length + 1 + i - R.length = i + 1 by omega]
    simp [hy]
  clear H
  refine ⟨fun y w => 0 ≤ y.1 ∧ y.1 ≤ es.length ∧ ∃ (Bk : Rh) (ss : List Int), Bk.Ok (SA.run M.hold (es.take y.1.toNat)).h ∧ Bk.b = M.B.b ∧ Bk.left = (SA.run M.hold (es.take y.1.toNat)).left ∧ Fn1 ss (SA.run M.hold (es.take y.1.toNat)).s ∧ Sh.Holds w0 (Rv.cs ⟨M.n, M.node, M.hold, J, Bk, ss⟩ :: J.hp :: Bk.hp :: fr) w, fun y _ => (es.length - y.1).toNat, ⟨by simp, by simp, M.B, M.ss, I0.b, rfl, I0.left, I0.fn, H1⟩, ?_⟩
  clear H1
  rintro ⟨i, u⟩ w ⟨h0, h1, Bk, ss, okB, hb, hl, hf, H⟩
  simp only at h0 h1 hl okB hf
  refine br_s (fun h => ?_) (fun h => ?_)
  · simp only [decide_eq_true_eq] at h
    have hi : i.toNat < ys.length := by omega
    have hp := List.getElem?_eq_getElem hi
    obtain ⟨e, hpe⟩ : ∃ e, es[i.toNat]? = some e := ⟨_, List.getElem?_eq_getElem (by omega)⟩
    have hye : ys[i.toNat].1 = e.en := by
      have h2 : (ys.map Prod.fst)[i.toNat]? = (es.map SE.en)[i.toNat]? := by rw [hys]
      rw [List.getElem?_map, List.getElem?_map, hp, hpe] at h2
      exact Option.some.inj h2
    have hid := may_id (I0.may _ (List.mem_map.2 ⟨e, List.mem_of_getElem? hpe, rfl⟩))
    have hnu := hnum _ _ hp
    have hcc := fun {j : Nat} (hj : j < 3) => flat_at (f := enC) (z := 3) (fun _ => rfl) hp hj
    generalize ys[i.toNat] = y at hp hye hnu hcc
    obtain ⟨ye, yr⟩ := y
    simp only at hye
    subst hye
    have htk : es.take (i + 1).toNat = es.take i.toNat ++ [e] := by rw [show (i + 1).toNat = i.toNat + 1 by omega, List.take_add_one, hpe]; rfl
    have hw : IntKind.wrap .i64 (i + 1) = i + 1 := wrap64 (by omega) (by omega)
    simp only [hw]
    have H' := H.tail.tail.tail
    refine slAt_s hrow h0 h (fun s1 o1 hsp => ?_)
    refine ldS_s (j := i.toNat * 3) hrow hsp H' (v := .string (B e.en.k)) (hcc (j := 0) (by omega)) ?_; refine asStr_h ?_
    refine ldS_s (j := i.toNat * 3 + 1) hrow hsp H' (v := I e.en.id) (hcc (j := 1) (by omega)) ?_; refine asI_h ?_
    refine ldS_s (j := i.toNat * 3 + 2) hrow hsp H' (v := .slice yr.p yr.n yr.c) (hcc (j := 2) (by omega)) ?_; refine asSl_h ?_
    refine nw_h H (fun k57 w H => ?_)
    replace H : Sh.Holds w0 ([(k57, .cells #[.string ⟨#[]⟩, I 0, .slice none 0 0] 139 (0, 0))] :: Rv.cs ⟨M.n, M.node, M.hold, J, Bk, ss⟩ :: J.hp :: Bk.hp :: fr) w := H
    refine stA H rfl fun w H => ?_
    refine stA H rfl fun w H => ?_
    refine stA H rfl fun w H => ?_
    refine ldA H ?_; refine asStr_h ?_
    have fin : ∀ {ss' : List Int} {B' : Rh} {w : World}, B'.b = Bk.b → B'.Ok ((SA.run M.hold (es.take i.toNat)).step e).h → B'.left = ((SA.run M.hold (es.take i.toNat)).step e).left → Fn1 ss' ((SA.run M.hold (es.take i.toNat)).step e).s → Sh.Holds w0 (Rv.cs ⟨M.n, M.node, M.hold, J, B', ss'⟩ :: J.hp :: B'.hp :: fr) w →
        (0 ≤ i + 1 ∧ i + 1 ≤ es.length ∧ ∃ (Bk : Rh) (ss : List Int), Bk.Ok (SA.run M.hold (es.take (i + 1).toNat)).h ∧ Bk.b = M.B.b ∧ Bk.left = (SA.run M.hold (es.take (i + 1).toNat)).left ∧ Fn1 ss (SA.run M.hold (es.take (i + 1).toNat)).s ∧ Sh.Holds w0 (Rv.cs ⟨M.n, M.node, M.hold, J, Bk, ss⟩ :: J.hp :: Bk.hp :: fr) w) ∧ (es.length - (i + 1)).toNat < (es.length - i).toNat := fun b1 b2 b3 b4 H => by
      rw [htk, SA.run_add]
      exact ⟨⟨by omega, by omega, _, _, b2, b1.trans hb, b3, b4, H⟩, by omega⟩
    have ecs2 : ∀ {B' : Rh} (ss : List Int), B'.b = Bk.b → Rv.cs ⟨M.n, M.node, M.hold, J, Bk, ss⟩ = Rv.cs ⟨M.n, M.node, M.hold, J, B', ss⟩ := fun {B'} ss hb => by
      unfold Rv.cs; rw [Rh.v, Rh.v, hb]
    cases e with
    | did id a =>
      have hid : 0 ≤ id ∧ id ≤ 999 := hid
      have hn1 : yr.n = 1 := by have := hnu.len; simp [SE.en] at this; omega
      rw [hn1] at hnu H
      refine br_t (eqk [100, 105, 100] [100, 105, 100]) ?_
      replace H := H.drew
      refine nn_h ?_
      have H3 := H.get (Rv.cs ⟨M.n, M.node, M.hold, J, Bk, ss⟩)
      refine cs_ld (M := ⟨M.n, M.node, M.hold, J, Bk, ss⟩) (i := 3) H3 (v := Bk.v) rfl ?_; refine asPtr_h ?_
      refine ldA H ?_; refine asI_h ?_
      refine ldA H ?_; refine asSl_h ?_
      have H5 := H.tail.tail.tail.tail
      refine slAt_s hnu (by omega) (by omega) (fun b1 q1 hq => ?_)
      refine ldS_s (j := 0) hnu hq H5 (v := I a) rfl ?_; refine asI_h ?_
      refine take7_c (B := Bk) H okB (fun B2 w b1 b2 b3 H => ?_)
      refine asI_h ?_
      replace H := H.drew
      refine ldA H ?_; refine asI_h ?_
      refine nn_h ?_
      refine arAt1_h (q := 4) hid.1 (by show id < 1000; omega) ?_
      replace H := H.get (Rv.cs ⟨M.n, M.node, M.hold, J, Bk, ss⟩)
      refine cs_st (M := ⟨M.n, M.node, M.hold, J, Bk, ss⟩) H hf.1 hid.1 (by omega) (fun w H => ?_)
      rw [hl] at b2 b3
      rw [ecs2 _ b1] at H
      replace H : Sh.Holds w0 (Rv.cs ⟨M.n, M.node, M.hold, J, B2, ss.set id.toNat 1⟩ :: _) w := H
      refine fin b1 b2 b3 (hf.put hid.1 (by omega)) (Holds.re H)
    | cant id =>
      have hid : 0 ≤ id ∧ id ≤ 999 := hid
      refine br_f (eqk [99, 97, 110, 116] [100, 105, 100]) ?_
      refine br_t (eqk [99, 97, 110, 116] [99, 97, 110, 116]) ?_
      replace H := H.drew
      refine ldA H ?_; refine asI_h ?_
      refine nn_h ?_
      refine arAt1_h (q := 4) hid.1 (by show id < 1000; omega) ?_
      replace H := H.get (Rv.cs ⟨M.n, M.node, M.hold, J, Bk, ss⟩)
      refine cs_st (M := ⟨M.n, M.node, M.hold, J, Bk, ss⟩) H hf.1 hid.1 (by omega) (fun w H => ?_)
      replace H : Sh.Holds w0 (Rv.cs ⟨M.n, M.node, M.hold, J, Bk, ss.set id.toNat 2⟩ :: _) w := H
      refine fin rfl okB hl (hf.put hid.1 (by omega)) (Holds.re H)
    | undid id =>
      have hid : 0 ≤ id ∧ id ≤ 999 := hid
      refine br_f (eqk [117, 110, 100, 105, 100] [100, 105, 100]) ?_
      refine br_f (eqk [117, 110, 100, 105, 100] [99, 97, 110, 116]) ?_
      refine br_t (eqk [117, 110, 100, 105, 100] [117, 110, 100, 105, 100]) ?_
      replace H := H.drew
      refine nn_h ?_
      have H3 := H.get (Rv.cs ⟨M.n, M.node, M.hold, J, Bk, ss⟩)
      refine cs_ld (M := ⟨M.n, M.node, M.hold, J, Bk, ss⟩) (i := 3) H3 (v := Bk.v) rfl ?_; refine asPtr_h ?_
      refine ldA H ?_; refine asI_h ?_
      refine back7_c (B := Bk) H okB (run_out _ _) (fun B2 c w b1 b2 b3 H => ?_)
      refine asI_h ?_
      replace H := H.drew
      refine ldA H ?_; refine asI_h ?_
      refine nn_h ?_
      refine arAt1_h (q := 4) hid.1 (by show id < 1000; omega) ?_
      replace H := H.get (Rv.cs ⟨M.n, M.node, M.hold, J, Bk, ss⟩)
      refine cs_st (M := ⟨M.n, M.node, M.hold, J, Bk, ss⟩) H hf.1 hid.1 (by omega) (fun w H => ?_)
      rw [hl] at b3
      rw [ecs2 _ b1] at H
      replace H : Sh.Holds w0 (Rv.cs ⟨M.n, M.node, M.hold, J, B2, ss.set id.toNat 3⟩ :: _) w := H
      refine fin b1 b2 b3 (hf.put hid.1 (by omega)) (Holds.re H)
  · simp only [decide_eq_false_iff_not] at h
    rw [show i.toNat = es.length by omega, List.take_length] at hl okB hf
    refine k ⟨M.n, M.node, M.hold, J, Bk, ss⟩ w ⟨okJ, okB, hl, hf, l1, I0.may, by rw [hJ]; show ((M.J.lines.length : Nat) : Int) = _; rw [hn], by rw [hJ], hlen⟩ ⟨rfl, rfl, rfl, by rw [hJ]⟩ (shutV ?_)
    rw [hfr] at H
    exact Holds.left' (a := Rv.cs ⟨M.n, M.node, M.hold, J, Bk, ss⟩ :: J.hp :: Bk.hp :: R) H
end
end Go.Proofs.YtcfmnoimehcfnaaGreatDoor
