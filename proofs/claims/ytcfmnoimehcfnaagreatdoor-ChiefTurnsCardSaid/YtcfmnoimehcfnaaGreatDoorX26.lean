/- ChiefTurns. Conditions: none. -/
import Derived.Test.YtcfmnoimehcfnaaGreatDoorX25
set_option linter.unusedVariables false
set_option linter.unusedSimpArgs false
set_option maxRecDepth 100000
namespace Go.Proofs.YtcfmnoimehcfnaaGreatDoor
open Go Go.Sh

theorem tmod20 (x : Int) : ∃ t : Int, (1 ≤ t ∧ t ≤ 20) ∧ IntKind.i64.wrap (1 + IntKind.i64.wrap ((IntKind.u64.wrap x).tmod 20)) = t := by
  refine ⟨_, ?_, rfl⟩
  have h0 : 0 ≤ IntKind.u64.wrap x := by unfold IntKind.wrap; simp; first | omega | (split <;> omega) | exact Int.emod_nonneg _ (by decide)
  have h1 : 0 ≤ (IntKind.u64.wrap x).tmod 20 ∧ (IntKind.u64.wrap x).tmod 20 < 20 := by
    rw [Int.tmod_eq_emod_of_nonneg h0]; omega
  have hin : IntKind.i64.wrap ((IntKind.u64.wrap x).tmod 20) = (IntKind.u64.wrap x).tmod 20 := wrap64 (by omega) (by omega)
  rw [hin, wrap64 (by omega) (by omega)]
  omega
theorem triesB_same {t : Int} (h : 1 ≤ t ∧ t ≤ 20) : triesB t = t := by
  unfold triesB
  repeat' split
  all_goals omega
section
variable {w0 w : World} {hs R : List Hp} {K : KV}
set_option maxHeartbeats 8000000 in
theorem chiefTurns_c {o : Od} {tr : Int} {cm : Bool} {p : Option Addr} {n c : Nat} (T : Tab w0) (H : Sh.Holds w0 hs w) (hsl : Sl (Sh.Holds w0 hs) p n 2 (sps o.steps)) (hnc : n ≤ c) (k : ∀ w', Sh.Holds w0 hs w' → K (.bool true) w') : gocall Tryz.prog 3 [odV o (.slice p n c), I tr, .bool cm] K w := by
  have hn : n = o.steps.length := by have := hsl.len; rw [sps, flat_len Sp.len] at this; omega
  have awk : ∀ {A : List Hp} [Re hs A] {w : World}, Sh.Holds w0 A w → gocall Tryz.prog 16 [] (fun v w => asBoo v (fun b w => K (.bool b) w) w) w := fun {A} _ {w} H => awake22_c T (Holds.re H : Sh.Holds w0 hs w) (fun w H => asBoo_e rfl (k w H))
  apply F3_go; unfold F3
  refine nw_h H (fun k10 w H => ?_)
  replace H : Sh.Holds w0 ([(k10, .cells #[I o.id, I o.item, I o.qty, I o.client, I o.price, .slice p n c] 24 (0, 0))] :: hs) w := H
  have hsl' := hsl.mono fun w (H : Sh.Holds w0 ([(k10, .cells #[I o.id, I o.item, I o.qty, I o.client, I o.price, .slice p n c] 24 (0, 0))] :: hs) w) => H.tail
  (with_reducible repeat first|refine ldA (by assumption) ?_|refine Stp.imp ?_|refine stA (by assumption) rfl fun _ _=>?_|refine nw_h (by assumption) fun _ _ _=>?_|refine ldSA ?_|refine asT_e [] rfl rfl ?_|refine ldD (by assumption) ?_|refine nwD (by assumption) fun _ _ _=>?_)
  refine br_s (fun h => awk H) (fun h10 => ?_)
  have h10 : o.steps.length ≤ 10 := by simp at h10; omega
  (with_reducible repeat first|refine ldA (by assumption) ?_|refine Stp.imp ?_|refine stA (by assumption) rfl fun _ _=>?_|refine nw_h (by assumption) fun _ _ _=>?_|refine ldSA ?_|refine asT_e [] rfl rfl ?_|refine ldD (by assumption) ?_|refine nwD (by assumption) fun _ _ _=>?_)
  refine mayR_c (o := o) H hsl' (by omega) hnc (fun b w hb H => ?_)
  refine asBoo_h ?_
  refine br_s (fun h => awk H) (fun h => ?_)
  have hm : mayOd o = true := hb (by simpa using h)
  refine ⟨by omega, ?_⟩
  obtain ⟨t, ht, et⟩ := tmod20 tr
  rw [et]
  refine newC_c H (fun S w I0 H => ?_)
  have I0 : ChIs S ⟨3, 4096, triesB t⟩ CS.zero := I0
  rw [triesB_same ht] at I0
  generalize hP : (⟨3, 4096, t⟩ : CP) = P at I0
  have hPt : P.tries = t := by rw [← hP]
  have hPr : P.room = 4096 := by rw [← hP]
  have hPm : P.most = 3 := by rw [← hP]
  refine asPtr_h ?_
  (with_reducible repeat first|refine ldA (by assumption) ?_|refine Stp.imp ?_|refine stA (by assumption) rfl fun _ _=>?_|refine nw_h (by assumption) fun _ _ _=>?_|refine ldSA ?_|refine asT_e [] rfl rfl ?_|refine ldD (by assumption) ?_|refine nwD (by assumption) fun _ _ _=>?_)
  obtain ⟨sB, lB, eB, ph0⟩ := ph_begin (P := P) hm (by omega) (by omega)
  refine begin_c (S := S) (o := o) T H I0 hsl' (by omega) (fun r S0 w I0' c0 okr H => ?_)
  rw [eB] at I0' okr ⊢
  simp only at I0' okr ⊢
  refine asT_e [_, _] rfl rfl ?_
  refine asSl_e rfl ?_
  refine asI_e rfl ?_
  refine br_f rfl ?_
  rw [show S.n = S0.n from c0.n.symm]
  have h3 : o.steps.length ≤ 3 := (mayOd_out hm).2.2.2.2.2.1
  cases cm with
  | true =>
    refine br_t rfl ?_
    refine ⟨fun y w => (0 ≤ y.1 ∧ y.1 ≤ 10) ∧ ∃ (S1 : Ch) (X : Hp), S1.n = S0.n ∧ ChIs S1 P (ansN P (sB, lB) y.1.toNat).1 ∧ Sl (Sh.Holds w0 [X]) y.2.1.1 y.2.1.2.1 7 (mgs (ansN P (sB, lB) y.1.toNat).2) ∧ Sh.Holds w0 (X :: S1.hp :: [(k10, .cells #[I o.id, I o.item, I o.qty, I o.client, I o.price, .slice p n c] 24 (0, 0))] :: hs) w, fun y _ => (10 - y.1).toNat, ⟨by simp, S0, r.hp 35, rfl, I0', Sl.row 0 rfl okr, H⟩, ?_⟩
    clear H
    rintro ⟨i, ⟨pp, pn, pc⟩, u⟩ w ⟨⟨i0, i1⟩, S1, X, en1, I1, hX, H⟩
    simp only at i0 i1 I1 hX
    dsimp only
    refine br_s (fun hlt => ?_) (fun hlt => ?_)
    · simp only [decide_eq_true_eq] at hlt
      have php := ph_all hm ph0 i.toNat (by omega)
      generalize hc : ansN P (sB, lB) i.toNat = cc at I1 hX php
      have hlen : cc.2.length ≤ 3 := by
        obtain ⟨-, ⟨-, -, e⟩ | ⟨-, x, -, -, e⟩⟩ := php
        · rw [e]; exact nextM_len _ _
        · rw [e]; exact nextM_len _ _
      have hpn : pn = cc.2.length := by have := hX.len; rw [mgs, flat_len Mg.len] at this; omega
      refine ⟨fun y w => (0 ≤ y.1 ∧ y.1 ≤ cc.2.length) ∧ ∃ (S1 : Ch) (Y : Hp), S1.n = S0.n ∧ ChIs S1 P ((cc.2.take y.1.toNat).foldl (ans1 P) cc).1 ∧ GoodO ((cc.2.take y.1.toNat).foldl (ans1 P) cc).1.L ∧ Sl (Sh.Holds w0 [Y, X]) y.2.1.1 y.2.1.2.1 7 (mgs ((cc.2.take y.1.toNat).foldl (ans1 P) cc).2) ∧ Sh.Holds w0 (Y :: X :: S1.hp :: [(k10, .cells #[I o.id, I o.item, I o.qty, I o.client, I o.price, .slice p n c] 24 (0, 0))] :: hs) w, fun y _ => (cc.2.length - y.1).toNat, ⟨⟨by simp, by show (0 : Int) ≤ _; omega⟩, S1, [], en1, by simpa using I1, by simpa using php.1, by simpa using hX.mono fun w H => H.tail, H.nil⟩, ?_⟩
      clear H
      rintro ⟨j, ⟨qp, qn, qc⟩, u⟩ w ⟨⟨j0, j1⟩, S3, Y, en3, I3, go3, hY, H⟩
      simp only at j0 j1 I3 go3 hY
      dsimp only
      refine br_s (fun hlj => ?_) (fun hlj => ?_)
      · simp only [decide_eq_true_eq] at hlj
        have hjl : j.toNat < cc.2.length := by omega
        have hm' := List.getElem?_eq_getElem hjl
        have hcm := fun {i : Nat} (hi : i < 7) => flat_at (f := Mg.cells) Mg.len hm' hi
        generalize hmm : cc.2[j.toNat] = m at hm' hcm
        have htk : (cc.2.take (j + 1).toNat).foldl (ans1 P) cc = ans1 P ((cc.2.take j.toNat).foldl (ans1 P) cc) m := by
          rw [show (j + 1).toNat = j.toNat + 1 by omega, List.take_add_one, hm', List.foldl_append]; rfl
        generalize hcu : (cc.2.take j.toNat).foldl (ans1 P) cc = cu at I3 go3 hY htk
        have hk1 : (m.kind = 1 ∨ m.kind = 6) → ans1 P cu m = handleC P cu.1 (fitsM m false) := fun h => by unfold ans1; rw [if_pos h]
        have HX : Sh.Holds w0 [X] w := Holds.re H
        have hw : IntKind.wrap .i64 (j + 1) = j + 1 := wrap64 (by omega) (by omega)
        simp only [hw]
        refine slAt_s hX j0 (by omega) (fun b1 o1 hp => ?_)
        refine ldS_s (j := j.toNat * 7) hX hp HX (v := I m.kind) (hcm (i := 0) (by omega)) ?_
        refine asI_h ?_
        refine ldS_s (j := j.toNat * 7 + 1) hX hp HX (v := I m.frm) (hcm (i := 1) (by omega)) ?_
        refine asI_h ?_
        refine ldS_s (j := j.toNat * 7 + 2) hX hp HX (v := I m.to) (hcm (i := 2) (by omega)) ?_
        refine asI_h ?_
        refine ldS_s (j := j.toNat * 7 + 3) hX hp HX (v := I m.id) (hcm (i := 3) (by omega)) ?_
        refine asI_h ?_
        refine ldS_s (j := j.toNat * 7 + 4) hX hp HX (v := I m.step) (hcm (i := 4) (by omega)) ?_
        refine asI_h ?_
        refine ldS_s (j := j.toNat * 7 + 5) hX hp HX (v := I m.a) (hcm (i := 5) (by omega)) ?_
        refine asI_h ?_
        refine ldS_s (j := j.toNat * 7 + 6) hX hp HX (v := I m.b) (hcm (i := 6) (by omega)) ?_
        refine asI_h ?_
        refine nw_h H (fun k142 w H => ?_)
        clear HX
        refine stA H rfl (fun w H => ?_)
        refine stA H rfl (fun w H => ?_)
        refine stA H rfl (fun w H => ?_)
        refine stA H rfl (fun w H => ?_)
        refine stA H rfl (fun w H => ?_)
        refine stA H rfl (fun w H => ?_)
        refine stA H rfl (fun w H => ?_)
        replace H : Sh.Holds w0 ([(k142, .cells #[I m.kind, I m.frm, I m.to, I m.id, I m.step, I m.a, I m.b] 35 (0, 0))] :: Y :: X :: S3.hp :: [(k10, .cells #[I o.id, I o.item, I o.qty, I o.client, I o.price, .slice p n c] 24 (0, 0))] :: hs) w := H
        refine ldA H ?_
        refine asI_h ?_
        refine br_s (fun hk => ?_) (fun hk => ?_)
        · have hk : m.kind = 1 ∨ m.kind = 6 := .inl (by simpa using hk)
          (with_reducible repeat first|refine ldA (by assumption) ?_|refine Stp.imp ?_|refine stA (by assumption) rfl fun _ _=>?_|refine nw_h (by assumption) fun _ _ _=>?_|refine ldSA ?_|refine asT_e [] rfl rfl ?_|refine ldD (by assumption) ?_|refine nwD (by assumption) fun _ _ _=>?_)
          refine fits_c (m := m) (i := 1) (by assumption) (fun w H => ?_)
          rw [show zI 1 = false from rfl]
          refine asN_e [_, _, _, _, _, _, _] rfl rfl ?_
          refine asI_e rfl ?_
          refine asI_e rfl ?_
          refine asI_e rfl ?_
          refine asI_e rfl ?_
          refine asI_e rfl ?_
          refine asI_e rfl ?_
          refine asI_e rfl ?_
          rw [← en3]
          refine handle_c (S := S3) (m := fitsM m false) T H I3 go3.htt (fun r2 S4 w I4 c4 okr2 H => ?_)
          refine asSl_e rfl ?_
          refine ⟨⟨⟨by omega, by omega⟩, S4, r2.hp 35, c4.n, ?_, ?_, Sl.row 0 rfl ?_, Holds.re H⟩, by omega⟩
          · rw [htk, hk1 hk]; exact I4
          · rw [htk, hk1 hk]; exact handle_good go3 _
          · rw [htk, hk1 hk]; exact okr2
        refine ldA H ?_
        refine asI_h ?_
        refine br_s (fun hk6 => ?_) (fun hk6 => ?_)
        · have hk : m.kind = 1 ∨ m.kind = 6 := .inr (by simpa using hk6)
          (with_reducible repeat first|refine ldA (by assumption) ?_|refine Stp.imp ?_|refine stA (by assumption) rfl fun _ _=>?_|refine nw_h (by assumption) fun _ _ _=>?_|refine ldSA ?_|refine asT_e [] rfl rfl ?_|refine ldD (by assumption) ?_|refine nwD (by assumption) fun _ _ _=>?_)
          refine fits_c (m := m) (i := 1) (by assumption) (fun w H => ?_)
          rw [show zI 1 = false from rfl]
          refine asN_e [_, _, _, _, _, _, _] rfl rfl ?_
          refine asI_e rfl ?_
          refine asI_e rfl ?_
          refine asI_e rfl ?_
          refine asI_e rfl ?_
          refine asI_e rfl ?_
          refine asI_e rfl ?_
          refine asI_e rfl ?_
          rw [← en3]
          refine handle_c (S := S3) (m := fitsM m false) T H I3 go3.htt (fun r2 S4 w I4 c4 okr2 H => ?_)
          refine asSl_e rfl ?_
          refine ⟨⟨⟨by omega, by omega⟩, S4, r2.hp 35, c4.n, ?_, ?_, Sl.row 0 rfl ?_, Holds.re H⟩, by omega⟩
          · rw [htk, hk1 hk]; exact I4
          · rw [htk, hk1 hk]; exact handle_good go3 _
          · rw [htk, hk1 hk]; exact okr2
        have hk0 : ans1 P cu m = cu := by
          unfold ans1
          have a1 : m.kind ≠ 1 := by simpa using hk
          have a6 : m.kind ≠ 6 := by simpa using hk6
          rw [if_neg (by simp [a1, a6])]
        refine ⟨⟨⟨by omega, by omega⟩, S3, Y, en3, ?_, ?_, ?_, H.tail⟩, by omega⟩
        · rw [htk, hk0]; exact I3
        · rw [htk, hk0]; exact go3
        · rw [htk, hk0]; exact hY
      · have hj : j.toNat = cc.2.length := by simp at hlj; omega
        have hw : IntKind.wrap .i64 (i + 1) = i + 1 := wrap64 (by omega) (by omega)
        simp only [hw]
        rw [hj, List.take_length] at I3 hY
        have hn1 : ansN P (sB, lB) (i + 1).toNat = cc.2.foldl (ans1 P) cc := by
          rw [show (i + 1).toNat = i.toNat + 1 by omega]
          show ansR P (ansN P (sB, lB) i.toNat) = _
          rw [hc]; rfl
        refine ⟨⟨⟨by omega, by omega⟩, S3, Y ++ X, en3, ?_, ?_, H.join⟩, by omega⟩
        · rw [hn1]; exact I3
        · rw [hn1]; exact hY.mono fun w H => H.perm (by simp)
    · have hi : i = 10 := by simp at hlt; omega
      subst hi
      have ph := ph_all hm ph0 10 (by omega)
      obtain ⟨go1, ⟨hbad, -⟩ | ⟨-, x, hsaid, st1, -⟩⟩ := ph
      · omega
      have hx := said_rung hsaid
      have I1 : ChIs S1 P (ansN P (sB, lB) 10).1 := I1
      generalize (ansN P (sB, lB) 10).1 = s1 at I1 go1 st1
      replace H : Sh.Holds w0 (S1.hp :: [(k10, .cells #[I o.id, I o.item, I o.qty, I o.client, I o.price, .slice p n c] 24 (0, 0))] :: hs) w := H.tail
      rw [hPt] at st1
      have st1 : StC s1 o.id x (some t) 30 := st1.mono (by omega)
      (with_reducible repeat first|refine ldA (by assumption) ?_|refine Stp.imp ?_|refine stA (by assumption) rfl fun _ _=>?_|refine nw_h (by assumption) fun _ _ _=>?_|refine ldSA ?_|refine asT_e [] rfl rfl ?_|refine ldD (by assumption) ?_|refine nwD (by assumption) fun _ _ _=>?_)
      rw [← en1]
      refine stateC_c (S := S1) (id := o.id) H I1 (fun w H => ?_)
      have hst : stateC s1 o.id = 3 := by unfold stateC; rw [st1.L]; exact hsaid.st
      rw [hst]
      refine asI_e rfl ?_
      refine br_f rfl ?_
      rw [en1]
      refine ⟨fun y w => (0 ≤ y.1 ∧ y.1 ≤ t) ∧ ∃ (S : Ch) (s : CS), S.n = S0.n ∧ ChIs S P s ∧ StC s o.id x (some (t - y.1)) 30 ∧ GoodO s.L ∧ Sh.Holds w0 (S.hp :: [(k10, .cells #[I o.id, I o.item, I o.qty, I o.client, I o.price, .slice p n c] 24 (0, 0))] :: hs) w, fun y _ => (t - y.1).toNat, ⟨⟨by simp, by show (0 : Int) ≤ t; omega⟩, S1, s1, en1, I1, by simpa using st1, go1, H⟩, ?_⟩
      clear H
      rintro ⟨i, z, u⟩ w ⟨⟨i0, i1⟩, S2, s2, en2, I2, st2, go2, H⟩
      simp only at i0 i1 st2
      refine br_s (fun hlt => ?_) (fun hlt => ?_)
      · simp only [decide_eq_true_eq] at hlt
        (with_reducible repeat first|refine ldA (by assumption) ?_|refine Stp.imp ?_|refine stA (by assumption) rfl fun _ _=>?_|refine nw_h (by assumption) fun _ _ _=>?_|refine ldSA ?_|refine asT_e [] rfl rfl ?_|refine ldD (by assumption) ?_|refine nwD (by assumption) fun _ _ _=>?_)
        rw [← en2]
        obtain ⟨s3, e3, st3, hL3⟩ := ring_lo (P := P) st2 (by omega) hx.asks
        refine ring_c (S := S2) (id := o.id) T H I2 (fun r S3 w I3 c3 okr H => ?_)
        rw [e3] at I3 okr
        simp only at I3 okr
        have hrn := mgs_n okr
        refine asSl_e rfl ?_
        have hne : (nextM x.o x.f).length ≠ 0 := fun e => hx.ne (List.eq_nil_of_length_eq_zero e)
        refine br_f (by simp; omega) ?_
        replace H : Sh.Holds w0 (S3.hp :: [(k10, .cells #[I o.id, I o.item, I o.qty, I o.client, I o.price, .slice p n c] 24 (0, 0))] :: hs) w := Holds.re H
        (with_reducible repeat first|refine ldA (by assumption) ?_|refine Stp.imp ?_|refine stA (by assumption) rfl fun _ _=>?_|refine nw_h (by assumption) fun _ _ _=>?_|refine ldSA ?_|refine asT_e [] rfl rfl ?_|refine ldD (by assumption) ?_|refine nwD (by assumption) fun _ _ _=>?_)
        rw [show S2.n = S3.n from c3.n.symm]
        refine stateC_c (S := S3) (id := o.id) H I3 (fun w H => ?_)
        have hst : stateC s3 o.id = stateF x.o x.f := by unfold stateC; rw [st3.L]
        rw [hst]
        refine asI_e rfl ?_
        refine br_f (by simpa using hx.st) ?_
        have hw : IntKind.wrap .i64 (i + 1) = i + 1 := wrap64 (by omega) (by omega)
        simp only [hw]
        refine ⟨⟨⟨by omega, by omega⟩, S3, s3, rfl, I3, by rw [show t - (i + 1) = t - i - 1 by omega]; exact st3, by rw [hL3]; exact go2, Holds.re H⟩, by omega⟩
      have hi : i = t := by simp at hlt; omega
      rw [hi, Int.sub_self] at st2
      (with_reducible repeat first|refine ldA (by assumption) ?_|refine Stp.imp ?_|refine stA (by assumption) rfl fun _ _=>?_|refine nw_h (by assumption) fun _ _ _=>?_|refine ldSA ?_|refine asT_e [] rfl rfl ?_|refine ldD (by assumption) ?_|refine nwD (by assumption) fun _ _ _=>?_)
      rw [← en2]
      obtain ⟨s3, e3, hs3⟩ := ring_said (P := P) st2 hsaid
      have hne : (nextM x.o x.f).length ≠ 0 := fun e => hx.ne (List.eq_nil_of_length_eq_zero e)
      refine ring_c (S := S2) (id := o.id) T H I2 (fun r S3 w I3 c3 okr H => ?_)
      rw [e3] at I3 okr
      simp only at I3 okr
      have hrn := mgs_n okr
      refine asSl_e rfl ?_
      refine br_f (by simp; omega) ?_
      replace H : Sh.Holds w0 (S3.hp :: [(k10, .cells #[I o.id, I o.item, I o.qty, I o.client, I o.price, .slice p n c] 24 (0, 0))] :: hs) w := Holds.re H
      refine br_t rfl ?_
      (with_reducible repeat first|refine ldA (by assumption) ?_|refine Stp.imp ?_|refine stA (by assumption) rfl fun _ _=>?_|refine nw_h (by assumption) fun _ _ _=>?_|refine ldSA ?_|refine asT_e [] rfl rfl ?_|refine ldD (by assumption) ?_|refine nwD (by assumption) fun _ _ _=>?_)
      rw [show S2.n = S3.n from c3.n.symm]
      refine stateC_c (S := S3) (id := o.id) H I3 (fun w H => ?_)
      rw [hs3]
      refine asI_e rfl ?_
      refine br_t rfl ?_
      exact awk H
  | false =>
    refine br_f rfl ?_
    obtain ⟨go1, ⟨-, st1, -⟩ | ⟨hbad, -⟩⟩ := ph0
    rotate_left
    · omega
    obtain ⟨hx, hud⟩ := fw_rung hm
    generalize (fwL o 0).sent = x at st1 hx hud
    replace H : Sh.Holds w0 (S0.hp :: [(k10, .cells #[I o.id, I o.item, I o.qty, I o.client, I o.price, .slice p n c] 24 (0, 0))] :: hs) w := Holds.re H
    rw [hPt] at st1
    have st1 : StC sB o.id x (some t) 30 := st1.mono (by omega)
    have I1 := I0'
    have en1 : S0.n = S0.n := rfl
    refine ⟨fun y w => (0 ≤ y.1 ∧ y.1 ≤ t) ∧ ∃ (S : Ch) (s : CS), S.n = S0.n ∧ ChIs S P s ∧ StC s o.id x (some (t - y.1)) 30 ∧ GoodO s.L ∧ Sh.Holds w0 (S.hp :: [(k10, .cells #[I o.id, I o.item, I o.qty, I o.client, I o.price, .slice p n c] 24 (0, 0))] :: hs) w, fun y _ => (t - y.1).toNat, ⟨⟨by simp, by show (0 : Int) ≤ t; omega⟩, S0, sB, en1, I1, by simpa using st1, go1, H⟩, ?_⟩
    clear H
    rintro ⟨i, z, u⟩ w ⟨⟨i0, i1⟩, S2, s2, en2, I2, st2, go2, H⟩
    simp only at i0 i1 st2
    refine br_s (fun hlt => ?_) (fun hlt => ?_)
    · simp only [decide_eq_true_eq] at hlt
      (with_reducible repeat first|refine ldA (by assumption) ?_|refine Stp.imp ?_|refine stA (by assumption) rfl fun _ _=>?_|refine nw_h (by assumption) fun _ _ _=>?_|refine ldSA ?_|refine asT_e [] rfl rfl ?_|refine ldD (by assumption) ?_|refine nwD (by assumption) fun _ _ _=>?_)
      rw [← en2]
      obtain ⟨s3, e3, st3, hL3⟩ := ring_lo (P := P) st2 (by omega) hx.asks
      refine ring_c (S := S2) (id := o.id) T H I2 (fun r S3 w I3 c3 okr H => ?_)
      rw [e3] at I3 okr
      simp only at I3 okr
      have hrn := mgs_n okr
      refine asSl_e rfl ?_
      have hne : (nextM x.o x.f).length ≠ 0 := fun e => hx.ne (List.eq_nil_of_length_eq_zero e)
      refine br_f (by simp; omega) ?_
      replace H : Sh.Holds w0 (S3.hp :: [(k10, .cells #[I o.id, I o.item, I o.qty, I o.client, I o.price, .slice p n c] 24 (0, 0))] :: hs) w := Holds.re H
      (with_reducible repeat first|refine ldA (by assumption) ?_|refine Stp.imp ?_|refine stA (by assumption) rfl fun _ _=>?_|refine nw_h (by assumption) fun _ _ _=>?_|refine ldSA ?_|refine asT_e [] rfl rfl ?_|refine ldD (by assumption) ?_|refine nwD (by assumption) fun _ _ _=>?_)
      rw [show S2.n = S3.n from c3.n.symm]
      refine stateC_c (S := S3) (id := o.id) H I3 (fun w H => ?_)
      have hst : stateC s3 o.id = stateF x.o x.f := by unfold stateC; rw [st3.L]
      rw [hst]
      refine asI_e rfl ?_
      refine br_f (by simpa using hx.st) ?_
      have hw : IntKind.wrap .i64 (i + 1) = i + 1 := wrap64 (by omega) (by omega)
      simp only [hw]
      refine ⟨⟨⟨by omega, by omega⟩, S3, s3, rfl, I3, by rw [show t - (i + 1) = t - i - 1 by omega]; exact st3, by rw [hL3]; exact go2, Holds.re H⟩, by omega⟩
    have hi : i = t := by simp at hlt; omega
    rw [hi, Int.sub_self] at st2
    (with_reducible repeat first|refine ldA (by assumption) ?_|refine Stp.imp ?_|refine stA (by assumption) rfl fun _ _=>?_|refine nw_h (by assumption) fun _ _ _=>?_|refine ldSA ?_|refine asT_e [] rfl rfl ?_|refine ldD (by assumption) ?_|refine nwD (by assumption) fun _ _ _=>?_)
    rw [← en2]
    obtain ⟨s3, l3, e3, hne3, hs3⟩ := ring_turn (P := P) st2 go2 hud (by rw [hPr]; omega)
    have hne : l3.length ≠ 0 := fun e => hne3 (List.eq_nil_of_length_eq_zero e)
    refine ring_c (S := S2) (id := o.id) T H I2 (fun r S3 w I3 c3 okr H => ?_)
    rw [e3] at I3 okr
    simp only at I3 okr
    have hrn := mgs_n okr
    refine asSl_e rfl ?_
    refine br_f (by simp; omega) ?_
    replace H : Sh.Holds w0 (S3.hp :: [(k10, .cells #[I o.id, I o.item, I o.qty, I o.client, I o.price, .slice p n c] 24 (0, 0))] :: hs) w := Holds.re H
    refine br_f rfl ?_
    (with_reducible repeat first|refine ldA (by assumption) ?_|refine Stp.imp ?_|refine stA (by assumption) rfl fun _ _=>?_|refine nw_h (by assumption) fun _ _ _=>?_|refine ldSA ?_|refine asT_e [] rfl rfl ?_|refine ldD (by assumption) ?_|refine nwD (by assumption) fun _ _ _=>?_)
    rw [show S2.n = S3.n from c3.n.symm]
    refine stateC_c (S := S3) (id := o.id) H I3 (fun w H => ?_)
    rw [hs3]
    refine asI_e rfl ?_
    refine br_t rfl ?_
    exact awk H
end
end Go.Proofs.YtcfmnoimehcfnaaGreatDoor
