/- What law21's ShipperOnce computes: true. Conditions: none. -/
import Derived.Test.YtjckakeolmbidaaDoorFNO
import Derived.Test.YtjckakeolmbidaaDoorGa
set_option linter.unusedVariables false
set_option maxRecDepth 100000
namespace Go.Proofs.YtjckakeolmbidaaDoor
open Go Go.Sh

theorem idx_of (x : Int) {n : Nat} (h0 : 0 < n) (hn : n ≤ 100000) : ∃ m : Int, 1 ≤ m ∧ m ≤ n ∧ IntKind.i64.wrap (1 + IntKind.i64.wrap ((IntKind.u64.wrap x).tmod (n : Int))) = m := by
  have e2 : 0 ≤ IntKind.u64.wrap x := by rw [show IntKind.u64.wrap x = x % 18446744073709551616 by simp [IntKind.wrap, IntKind.bits, IntKind.signed]]; omega
  generalize IntKind.u64.wrap x = u at *
  rw [Int.tmod_eq_emod_of_nonneg e2]
  have h1 := Int.emod_nonneg u (b := (n : Int)) (by omega)
  have h2 := Int.emod_lt_of_pos u (b := (n : Int)) (by omega)
  refine ⟨1 + u % n, by omega, by omega, ?_⟩
  rw [wrap64 (n := u % n) (by omega) (by omega), wrap64 (by omega) (by omega)]
/-- what 'went' holds when the parcels 'es' have gone -/
structure WInv (es : List Pk) (qs : List Int) : Prop where
  len : qs.length = 10
  ge : ∀ q ∈ qs, 0 ≤ q ∧ q ≤ 1000
  sum : qs.sum = wentB es 3
  cnt : qs.countP (fun q => decide (0 < q)) = es.length
  at_ : ∀ (j : Nat) q, qs[j]? = some q → (q = 0 ↔ ∀ p ∈ es, p.id ≠ (j : Int))
theorem sum_set : ∀ {l : List Int} {j : Nat} {q : Int}, l[j]? = some 0 → (l.set j q).sum = l.sum + q
  | [], j, q, h => by simp at h
  | a :: l, 0, q, h => by simp at h; subst h; simp; omega
  | a :: l, j + 1, q, h => by
    simp only [List.getElem?_cons_succ] at h
    simp only [List.set_cons_succ, List.sum_cons, sum_set h]; omega
theorem cnt_set : ∀ {l : List Int} {j : Nat} {q : Int}, l[j]? = some 0 → 0 < q → (l.set j q).countP (fun q => decide (0 < q)) = l.countP (fun q => decide (0 < q)) + 1
  | [], j, q, h, _ => by simp at h
  | a :: l, 0, q, h, hq => by simp at h; subst h; simp [hq]
  | a :: l, j + 1, q, h, hq => by
    simp only [List.getElem?_cons_succ] at h
    simp only [List.set_cons_succ, List.countP_cons, cnt_set h hq]; omega
theorem WInv.add {es : List Pk} {qs : List Int} (h : WInv es qs) {j : Nat} {q : Int} (hz : qs[j]? = some 0) (h1 : 1 ≤ q) (h2 : q ≤ 1000) : WInv (es ++ [⟨(j : Int), 3, q⟩]) (qs.set j q) := by
  refine ⟨by rw [List.length_set]; exact h.len, fun x hx => ?_, ?_, ?_, fun i x hi => ?_⟩
  · rcases List.mem_or_eq_of_mem_set hx with hx | hx
    · exact h.ge x hx
    · omega
  · rw [sum_set hz, h.sum, wentB_app]; simp [wentB]
  · rw [cnt_set hz (by omega), h.cnt]; simp
  · rw [List.getElem?_set] at hi
    split at hi
    · rename_i hij
      subst hij
      split at hi
      · simp only [Option.some.injEq] at hi
        subst hi
        exact ⟨fun e => by omega, fun hp => absurd rfl (hp _ (List.mem_append_right _ (List.mem_singleton.2 rfl)))⟩
      · cases hi
    · rename_i hij
      rw [h.at_ i x hi]
      constructor
      · intro hp p hm
        rcases List.mem_append.1 hm with hm | hm
        · exact hp p hm
        · simp only [List.mem_singleton] at hm; subst hm; simp only; omega
      · intro hp p hm
        exact hp p (List.mem_append_left _ hm)
theorem WInv.nil : WInv [] (List.replicate 10 0) := by
  refine ⟨rfl, fun q hq => ?_, rfl, rfl, fun j q hq => ?_⟩
  · have := List.eq_of_mem_replicate hq; omega
  · have := List.eq_of_mem_replicate (List.mem_of_getElem? hq)
    simp [this]
theorem sum_le : ∀ {l : List Int}, (∀ q ∈ l, 0 ≤ q ∧ q ≤ 1000) → 0 ≤ l.sum ∧ l.sum ≤ 1000 * l.length
  | [], _ => by simp
  | a :: l, h => by
    have h1 := sum_le (l := l) (fun q hq => h q (List.mem_cons_of_mem _ hq))
    have h2 := h a (List.mem_cons_self ..)
    simp only [List.sum_cons, List.length_cons]; omega
/-- between two calls -/
def OnP (w0 : World) (n k7 : Nat) (hs : List Hp) (w : World) : Prop := ∃ (M : Nd) (es : List Pk) (qs : List Int), NdIs M es false ∧ M.n = n ∧ M.J.room = 4096 ∧ WInv es qs ∧ Sh.Holds w0 (M.hp :: [(k7, .cells (qs.map I).toArray 45 (0, 0))] :: hs) w
theorem new_nd {N : Nd} (ok : N.Ok) (h1 : N.J.lines = []) (h2 : N.J.sure = 0) (h3 : N.J.down = false) (h4 : N.B.l = []) : NdIs N [] false :=
  ⟨ok, by rw [h1]; rfl, ⟨by simp, by simp⟩, by rw [h2]; rfl, h3, by simpa using h4⟩
set_option maxHeartbeats 2000000 in
theorem Once_c {w0 w : World} {hs : List Hp} {K : KV} {p : Option Addr} {n c : Nat} {ms : List Int} (E : Errs w0) (T : Tab w0) (H : Sh.Holds w0 hs w) (hsl : Sl (Sh.Holds w0 hs) p n 10 (ms.map I)) (k : ∀ w', Sh.Holds w0 hs w' → K (.bool true) w') : gocall Tryd.prog 5 [.slice p n c] K w := by
  apply F5_go; unfold F5
  refine newN_c H (fun N w ok l0 s0 d0 r0 b0 H => ?_)
  have I0 := new_nd ok l0 s0 d0 b0
  have hroom : N.J.room = 4096 := by rw [r0]; decide
  refine asPtr_h ?_
  refine nw_h H (fun k7 w H => ?_)
  refine stN_h H rfl rfl rfl (fun w H => ?_)
  have O0 : OnP w0 N.n k7 hs w := ⟨N, [], List.replicate 10 0, I0, rfl, hroom, .nil, Holds.re (b := [(k7, .cells ((List.replicate 10 0).map I).toArray 45 (0, 0))] :: N.hp :: hs) H⟩
  clear H I0 hroom ok l0 s0 d0 r0 b0
  generalize N.n = nn at O0 ⊢
  refine ⟨fun x w => OnP w0 nn k7 hs w ∧ 0 ≤ x.1 ∧ x.1 ≤ 80, fun x _ => (80 - x.1).toNat, ⟨O0, by simp, by simp⟩, ?_⟩
  clear O0
  rintro ⟨i, b, u⟩ w ⟨⟨M, es, qs, I0, en, er, hw, H⟩, h0, h1⟩
  subst en
  refine br_s (fun h2 => ?_) (fun h2 => ?_)
  · simp only [decide_eq_true_eq] at h2
    refine slAt_i hsl h0 h2 (fun bb o q hq hld => ?_)
    obtain ⟨m0, m1, m2, m3, m4, m5, m6, m7, m8, m9, rfl⟩ := ten hq
    have H' := H.tail.tail
    refine hld 0 m0 _ _ rfl H' ?_; refine asI_h ?_
    refine hld 1 m1 _ _ rfl H' ?_; refine asI_h ?_
    refine hld 2 m2 _ _ rfl H' ?_; refine asI_h ?_
    refine hld 3 m3 _ _ rfl H' ?_; refine asI_h ?_
    refine hld 4 m4 _ _ rfl H' ?_; refine asI_h ?_
    refine hld 5 m5 _ _ rfl H' ?_; refine asI_h ?_
    refine hld 6 m6 _ _ rfl H' ?_; refine asI_h ?_
    refine hld 7 m7 _ _ rfl H' ?_; refine asI_h ?_
    refine hld 8 m8 _ _ rfl H' ?_; refine asI_h ?_
    refine hld 9 m9 _ _ rfl H' ?_; refine asI_h ?_
    clear H'
    refine nw_h H (fun k9 w H => ?_)
    refine stA H rfl (fun w H => ?_)
    refine stA H rfl (fun w H => ?_)
    refine stA H rfl (fun w H => ?_)
    refine stA H rfl (fun w H => ?_)
    refine stA H rfl (fun w H => ?_)
    refine stA H rfl (fun w H => ?_)
    refine stA H rfl (fun w H => ?_)
    refine stA H rfl (fun w H => ?_)
    refine stA H rfl (fun w H => ?_)
    refine stA H rfl (fun w H => ?_)
    refine br_s (fun h3 => ?_) (fun h3 => ?_)
    · refine awakeS_c T H (fun w H => ?_)
      refine asBoo_h ?_
      exact k _ H.tail.tail.tail
    simp only [ge_iff_le, decide_eq_false_iff_not] at h3
    refine ⟨fun _ w => OnP w0 M.n k7 hs w, ?_, ?_⟩
    · refine ldA H ?_; refine asI_h ?_
      refine br_s (fun h4 => ?_) (fun h4 => ?_)
      · refine ldA H ?_; refine asI_h ?_
        refine ldA H ?_; refine asI_h ?_
        refine crashN_c H I0 (fun M1 w I1 n1 r1 H => ?_)
        refine asT_e [] rfl rfl ?_
        rw [← n1]
        refine startN_c E T H I1 (fun M2 w I2 n2 r2 H => ?_)
        refine asT_e [] rfl rfl ?_
        rw [← n2]
        exact ⟨M2, es, qs, I2, rfl, by rw [r2, r1, er], hw, H.re⟩
      · refine ldA H ?_; refine asI_h ?_
        refine ⟨by decide, ?_⟩
        refine ldA H ?_; refine asI_h ?_
        refine ⟨by decide, ?_⟩
        obtain ⟨a, ha1, ha2, ea⟩ := idx_of m6 (n := 9) (by omega) (by omega)
        obtain ⟨d, hd1, hd2, ed⟩ := idx_of m9 (n := 1000) (by omega) (by omega)
        have ea : IntKind.i64.wrap (1 + IntKind.i64.wrap ((IntKind.u64.wrap m6).tmod 9)) = a := ea
        have ed : IntKind.i64.wrap (1 + IntKind.i64.wrap ((IntKind.u64.wrap m9).tmod 1000)) = d := ed
        rw [ea, ed]
        have hcnt : es.length ≤ 10 := by rw [← hw.cnt, ← hw.len]; exact List.countP_le_length
        have hm : okM a 3 d := by unfold okM; omega
        refine handleN_c T H I0 hm (by rw [er]; omega) (fun q1 M1 w I1 n1 r1 H => ?_)
        refine asSl_h ?_
        refine br_f rfl ?_
        refine slAt_b (by omega) (by omega) ?_
        apply ld_h 0 H rfl rfl; refine asI_h ?_
        refine br_f rfl ?_
        refine slAt_b (by omega) (by omega) ?_
        apply ld_h 0 H rfl rfl; refine asI_h ?_
        refine br_f (by simp) ?_
        refine slAt_b (by omega) (by omega) ?_
        apply ld_h 0 H rfl rfl; refine asI_h ?_
        refine br_f rfl ?_
        refine arAt_h (by omega) (by omega) ?_
        have hlt : a.toNat < qs.length := by rw [hw.len]; omega
        obtain ⟨x, hx⟩ : ∃ x, qs[a.toNat]? = some x := ⟨_, List.getElem?_eq_getElem hlt⟩
        have hat := hw.at_ _ _ hx
        have ean : ((a.toNat : Nat) : Int) = a := by omega
        rw [ean] at hat
        refine ld_h (v := I x) 3 H rfl (by simp [hx]) ?_
        refine asI_h ?_
        rw [← n1]
        refine br_s (fun h5 => ?_) (fun h5 => ?_)
        · have hx0 : x = 0 := by simpa using h5
          subst hx0
          refine arAt_h (by omega) (by omega) ?_
          refine st_h 3 H rfl rfl (u := I 0) (by simp [hx]) (fun w H => ?_)
          have hno : ¬ (es.any fun p => p.id == a) = true := by
            intro h
            obtain ⟨y, hy, e⟩ := List.any_eq_true.1 h
            exact hat.1 rfl y hy (by simpa using e)
          unfold shipE at I1
          rw [if_neg hno] at I1
          refine ⟨M1, es ++ [⟨a, 3, d⟩], qs.set a.toNat d, I1, rfl, by rw [r1, er], ?_, ?_⟩
          · have := hw.add hx (q := d) hd1 (by omega)
            rwa [ean] at this
          · have e1 : (qs.map I).toArray.setIfInBounds a.toNat (I d) = ((qs.set a.toNat d).map I).toArray := by simp
            have H2 : Sh.Holds w0 ([(q1, .cells #[I 16, I 3, I 0, I a, I 0, I 0, I 0] 30 (0, 0))] :: M1.hp :: [(k9, .cells #[I m0, I m1, I m2, I m3, I m4, I m5, I m6, I m7, I m8, I m9] 47 (0, 0))] :: [(k7, .cells ((qs.map I).toArray.setIfInBounds a.toNat (I d)) 45 (0, 0))] :: hs) w := H
            rw [e1] at H2
            exact H2.re
        · have hx0 : x ≠ 0 := by simpa using h5
          have hyes : (es.any fun p => p.id == a) = true := by
            cases hc : es.any fun p => p.id == a with
            | true => rfl
            | false =>
              rw [List.any_eq_false] at hc
              exact absurd (hat.2 (fun y hy e => hc y hy (by simpa using e))) hx0
          unfold shipE at I1
          rw [if_pos hyes] at I1
          exact ⟨M1, es, qs, I1, rfl, by rw [r1, er], hw, H.re⟩
    · clear H I0 hw er
      generalize M.n = nn
      rintro ⟨b', u'⟩ w ⟨M, es, qs, I0, en, er, hw, H⟩
      subst en
      refine ldN_h 1 H rfl (by simp [hw.len]) ?_
      refine ⟨fun y w => Sh.Holds w0 (M.hp :: [(k7, .cells (qs.map I).toArray 45 (0, 0))] :: hs) w ∧ 0 ≤ y.1 ∧ y.1 ≤ 10 ∧ y.2.1 = (((qs.take y.1.toNat).countP (fun q => decide (0 < q)) : Nat) : Int) ∧ y.2.2.1 = (qs.take y.1.toNat).sum, fun y _ => (10 - y.1).toNat, ⟨H, by simp, by simp, by simp, by simp⟩, ?_⟩
      clear H
      rintro ⟨j, kk, s, u2⟩ w ⟨H, j0, j1, hkk, hss⟩
      simp only at j0 j1 hkk hss
      have hln := hw.len
      have b1 := sum_le (l := qs.take j.toNat) (fun q hq => hw.ge q (List.mem_of_mem_take hq))
      have b2 : (qs.take j.toNat).length ≤ 10 := by rw [List.length_take]; omega
      have b3 : (qs.take j.toNat).countP (fun q => decide (0 < q)) ≤ (qs.take j.toNat).length := List.countP_le_length
      refine br_s (fun h6 => ?_) (fun h6 => ?_)
      · simp only [decide_eq_true_eq] at h6
        obtain ⟨q, hq⟩ : ∃ q, qs[j.toNat]? = some q := ⟨_, List.getElem?_eq_getElem (by omega)⟩
        have hqb := hw.ge q (List.mem_of_getElem? hq)
        refine ⟨I q, j0, by omega, by simp [hq], ?_⟩
        refine asI_h ?_
        have hj1 : (j + 1).toNat = j.toNat + 1 := by omega
        have htk : qs.take (j.toNat + 1) = qs.take j.toNat ++ [q] := by rw [List.take_add_one, hq]; rfl
        have w1 : IntKind.wrap .i64 (j + 1) = j + 1 := wrap64 (by omega) (by omega)
        have w2 : IntKind.wrap .i64 (kk + 1) = kk + 1 := wrap64 (by omega) (by omega)
        have w3 : IntKind.wrap .i64 (s + q) = s + q := wrap64 (by omega) (by omega)
        simp only [w1, w2, w3]
        refine br_s (fun h7 => ?_) (fun h7 => ?_)
        · refine ⟨⟨H, by omega, by omega, ?_, ?_⟩, by omega⟩
          · simp only [hj1, htk, List.countP_append]
            have : [q].countP (fun q => decide (0 < q)) = 1 := by simp at h7; simp [h7]
            rw [this]; omega
          · simp only [hj1, htk, List.sum_append]; simp; omega
        · refine ⟨⟨H, by omega, by omega, ?_, ?_⟩, by omega⟩
          · simp only [hj1, htk, List.countP_append]
            have : [q].countP (fun q => decide (0 < q)) = 0 := by simp at h7; simp; omega
            rw [this]; omega
          · simp only [hj1, htk, List.sum_append]; simp; omega
      · simp only [decide_eq_false_iff_not] at h6
        have ej : j.toNat = qs.length := by omega
        rw [ej, List.take_length] at hkk hss
        rw [hw.sum] at hss
        rw [hw.cnt] at hkk
        have hl : M.B.l = es := by have := I0.l; simpa using this
        refine parcels_c (N := M) 0 H rfl (fun w H => ?_)
        refine asPtr_h ?_
        refine wentN_c (N := M) 0 H rfl I0.ok (fun y hy => by rw [hl] at hy; have := I0.pk.ok y hy; unfold okM at this; unfold okPk; omega) (fun w H => ?_)
        refine asI_h ?_
        rw [hl]
        refine br_f (by simp [hss]) ?_
        refine parcels_c (N := M) 0 H rfl (fun w H => ?_)
        refine asPtr_h ?_
        refine idsN_c (N := M) 0 H rfl I0.ok (fun r w g1 g2 H => ?_)
        refine asSl_h ?_
        rw [hl] at g2
        refine br_f (by simp [hkk, g2]) ?_
        have w1 : IntKind.wrap .i64 (i + 1) = i + 1 := wrap64 (by omega) (by omega)
        simp only [w1]
        exact ⟨⟨⟨M, es, qs, I0, rfl, er, hw, H.tail⟩, by omega, by omega⟩, by omega⟩
  · refine awakeS_c T H (fun w H => ?_)
    refine asBoo_h ?_
    exact k _ H.tail.tail
end Go.Proofs.YtjckakeolmbidaaDoor
