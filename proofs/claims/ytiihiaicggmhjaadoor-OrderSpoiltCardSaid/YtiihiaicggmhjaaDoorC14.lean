/- Contracts of order's Text and Same, of slices.Equal, of the reference's SameOrder, of law5's light and awake. Conditions: none. -/
import Derived.Test.YtiihiaicggmhjaaDoorC13
set_option linter.unusedVariables false
set_option maxRecDepth 100000
namespace Go.Proofs.YtiihiaicggmhjaaDoor
open Go Go.Sh

theorem itoa_len {n : Int} (h : fitN n) : (Lib.itoa n).length ≤ 21 := Lib.itoa_length_le n (by unfold fitN at h; omega) (by unfold fitN at h; omega)
theorem mayOd_fit {o : Od} (h : mayOd o = true) : o.fit ∧ o.steps.length ≤ 3 := by
  simp only [mayOd, mayO, Bool.and_eq_true, decide_eq_true_eq, inB, someB, mayB, stepsB, List.all_eq_true, List.mem_range] at h
  obtain ⟨h1, h2, h3, h4, h5, h6, h7⟩ := h
  unfold Od.fit fitN
  refine ⟨⟨by omega, by omega, by omega, by omega, by omega, by omega, fun p hp => ?_⟩, h2⟩
  obtain ⟨i, hi, rfl⟩ := List.getElem_of_mem hp
  have := h1 i hi
  simp only [stepB, List.getElem?_eq_getElem hi, Bool.and_eq_true, decide_eq_true_eq, inB, someB, mayB] at this
  omega
def odTx (o : Od) : List UInt8 := if mayOd o = true then odT o else []
theorem spsT_len : ∀ (l : List Sp), (∀ p ∈ l, fitN p.svc ∧ fitN p.n) → (spsT l).length ≤ 45 * l.length
  | [], _ => by simp [spsT]
  | p :: l, h => by
    have h1 := h p (by simp)
    have h2 := itoa_len h1.1
    have h3 := itoa_len h1.2
    have := spsT_len l (fun q hq => h q (by simp [hq]))
    simp only [spsT, List.flatMap_cons, spT, List.length_append, List.length_cons] at this ⊢
    have e1 : lSemi.length = 2 := rfl
    have e2 : lStar.length = 1 := rfl
    omega
theorem cat_B {a b : List UInt8} {K : ByteArray → World → Prop} {w : World} (h : a.length + b.length ≤ 100000) (hk : K (B (a ++ b)) w) : strCat (B a) (B b) K w := ⟨by rw [B_size, B_size]; omega, by rw [B_app]; exact hk⟩
theorem Text_c {w0 w : World} {hs : List Hp} {K : KV} {o : Od} {p : Option Addr} {n c : Nat} (T : Tab w0) (H : Holds w0 hs w) (hsl : Sl (Holds w0 hs) p n 2 (sps o.steps)) (hl : o.steps.length < 1000000)
    (k : ∀ w', Holds w0 hs w' → K (.string (B (odTx o))) w') : gocall Tryd.prog 24 [odV o (.slice p n c)] K w := by
  have hn : n = o.steps.length := by have := hsl.len; rw [sps, flat_len Sp.len] at this; omega
  apply F24_go; unfold F24
  refine nwO_h H (fun k8 w H => ?_)
  apply ld6_h 0 H rfl
  refine mayO_c (l := o.steps) H (hsl.mono fun w H => H.tail) hl (fun w H => ?_)
  refine asBoo_h ?_
  have em : mayO o.id o.item o.qty o.client o.price o.steps = mayOd o := rfl
  rw [em]
  refine br_s (fun h1 => ?_) (fun h1 => ?_)
  · have h1' : mayOd o = false := by simpa using h1
    have := k _ H.tail
    rwa [show odTx o = [] by simp [odTx, h1']] at this
  have h1' : mayOd o = true := by simpa using h1
  obtain ⟨hfit, hl3⟩ := mayOd_fit h1'
  obtain ⟨f1, f2, f3, f4, f5, f6, f7⟩ := hfit
  have g1 := itoa_len f1
  have g2 := itoa_len f2
  have g3 := itoa_len f3
  have g4 := itoa_len f4
  have g5 := itoa_len f5
  have it : ∀ {m : Int} {hs : List Hp} {w : World} {K : KV}, fitN m → Holds w0 hs w → (∀ w', Holds w0 hs w' → K (.string (B (Lib.itoa m))) w') → gocall Tryd.prog 39 [I m] K w := fun hm H k => by
    unfold fitN at hm
    exact Itoa_c T (by omega) (by omega) H k
  replace H := H.drew
  refine keeps_p [0] H (by (repeat first | exact Sub.refl _ | (refine Sub.cons 0 rfl ?_) | (refine Sub.cons 1 rfl ?_) | (refine Sub.cons 2 rfl ?_) | (refine Sub.cons 3 rfl ?_) | (refine Sub.cons 4 rfl ?_) | (refine Sub.cons 5 rfl ?_) | (refine Sub.cons 6 rfl ?_) | (refine Sub.cons 7 rfl ?_) | refine Sub.skip ?_ | exact Sub.nil _)) ?_
  refine ldS_h 0 rfl rfl ?_
  refine asI_h ?_
  refine ldS_h 0 rfl rfl ?_
  refine asI_h ?_
  refine ldS_h 0 rfl rfl ?_
  refine asI_h ?_
  refine ldS_h 0 rfl rfl ?_
  refine asI_h ?_
  refine ldS_h 0 rfl rfl ?_
  refine asI_h ?_
  refine it f1 H (fun w H => ?_)
  refine asStr_h ?_
  refine kp_s H (by (repeat first | exact Sub.refl _ | (refine Sub.cons 0 rfl ?_) | (refine Sub.cons 1 rfl ?_) | (refine Sub.cons 2 rfl ?_) | (refine Sub.cons 3 rfl ?_) | (refine Sub.cons 4 rfl ?_) | (refine Sub.cons 5 rfl ?_) | (refine Sub.cons 6 rfl ?_) | (refine Sub.cons 7 rfl ?_) | refine Sub.skip ?_ | exact Sub.nil _)) ?_
  refine cat_B (a := lHash) (by simp only [lHash, List.length_cons, List.length_nil]; omega) ?_
  refine cat_B (b := lColon) (by simp only [lHash, lColon, List.length_append, List.length_cons, List.length_nil]; omega) ?_
  refine it f3 H (fun w H => ?_)
  refine asStr_h ?_
  refine kp_s H (by (repeat first | exact Sub.refl _ | (refine Sub.cons 0 rfl ?_) | (refine Sub.cons 1 rfl ?_) | (refine Sub.cons 2 rfl ?_) | (refine Sub.cons 3 rfl ?_) | (refine Sub.cons 4 rfl ?_) | (refine Sub.cons 5 rfl ?_) | (refine Sub.cons 6 rfl ?_) | (refine Sub.cons 7 rfl ?_) | refine Sub.skip ?_ | exact Sub.nil _)) ?_
  refine cat_B (by simp only [lHash, lColon, List.length_append, List.length_cons, List.length_nil]; omega) ?_
  refine cat_B (b := lX) (by simp only [lHash, lColon, lX, List.length_append, List.length_cons, List.length_nil]; omega) ?_
  refine it f2 H (fun w H => ?_)
  refine asStr_h ?_
  refine kp_s H (by (repeat first | exact Sub.refl _ | (refine Sub.cons 0 rfl ?_) | (refine Sub.cons 1 rfl ?_) | (refine Sub.cons 2 rfl ?_) | (refine Sub.cons 3 rfl ?_) | (refine Sub.cons 4 rfl ?_) | (refine Sub.cons 5 rfl ?_) | (refine Sub.cons 6 rfl ?_) | (refine Sub.cons 7 rfl ?_) | refine Sub.skip ?_ | exact Sub.nil _)) ?_
  refine cat_B (by simp only [lHash, lColon, lX, List.length_append, List.length_cons, List.length_nil]; omega) ?_
  refine cat_B (b := lFor) (by simp only [lHash, lColon, lX, lFor, List.length_append, List.length_cons, List.length_nil]; omega) ?_
  refine it f5 H (fun w H => ?_)
  refine asStr_h ?_
  refine kp_s H (by (repeat first | exact Sub.refl _ | (refine Sub.cons 0 rfl ?_) | (refine Sub.cons 1 rfl ?_) | (refine Sub.cons 2 rfl ?_) | (refine Sub.cons 3 rfl ?_) | (refine Sub.cons 4 rfl ?_) | (refine Sub.cons 5 rfl ?_) | (refine Sub.cons 6 rfl ?_) | (refine Sub.cons 7 rfl ?_) | refine Sub.skip ?_ | exact Sub.nil _)) ?_
  refine cat_B (by simp only [lHash, lColon, lX, lFor, List.length_append, List.length_cons, List.length_nil]; omega) ?_
  refine cat_B (b := lBy) (by simp only [lHash, lColon, lX, lFor, lBy, List.length_append, List.length_cons, List.length_nil]; omega) ?_
  refine it f4 H (fun w H => ?_)
  refine asStr_h ?_
  refine kp_s H (by (repeat first | exact Sub.refl _ | (refine Sub.cons 0 rfl ?_) | (refine Sub.cons 1 rfl ?_) | (refine Sub.cons 2 rfl ?_) | (refine Sub.cons 3 rfl ?_) | (refine Sub.cons 4 rfl ?_) | (refine Sub.cons 5 rfl ?_) | (refine Sub.cons 6 rfl ?_) | (refine Sub.cons 7 rfl ?_) | refine Sub.skip ?_ | exact Sub.nil _)) ?_
  refine cat_B (by simp only [lHash, lColon, lX, lFor, lBy, List.length_append, List.length_cons, List.length_nil]; omega) ?_
  apply ld_h 0 H rfl rfl
  refine asSl_h ?_
  obtain ⟨hd, hhd⟩ : ∃ hd, lHash ++ Lib.itoa o.id ++ lColon ++ Lib.itoa o.qty ++ lX ++ Lib.itoa o.item ++ lFor ++ Lib.itoa o.price ++ lBy ++ Lib.itoa o.client = hd := ⟨_, rfl⟩
  have hdl : hd.length ≤ 1000 := by
    rw [← hhd]
    simp only [lHash, lColon, lX, lFor, lBy, List.length_append, List.length_cons, List.length_nil]; omega
  have htx : odTx o = hd ++ spsT o.steps := by
    rw [← hhd, odTx, if_pos h1', odT]
    simp only [List.append_assoc]
  rw [hhd]
  refine ⟨fun y w => Holds w0 (odHp k8 o (.slice p n c) :: hs) w ∧ 0 ≤ y.1 ∧ y.1 ≤ o.steps.length ∧ y.2.1 = B (hd ++ spsT (o.steps.take y.1.toNat)), fun y _ => (o.steps.length - y.1).toNat, ⟨H, by simp, by simp, by simp [spsT]⟩, ?_⟩
  rintro ⟨y, a, u⟩ w ⟨H, h0, h2, hf⟩
  simp only at h0 h2 hf
  have hsp := spsT_len (o.steps.take y.toNat) (fun q hq => f7 q (List.mem_of_mem_take hq))
  have h5 : (o.steps.take y.toNat).length ≤ 3 := by rw [List.length_take]; omega
  refine br_s (fun h => ?_) (fun h => ?_)
  · simp only [decide_eq_true_eq] at h
    have hx : y.toNat < o.steps.length := by omega
    have hp' := List.getElem?_eq_getElem hx
    have hc := fun {j : Nat} (hj : j < 2) => flat_at (f := Sp.cells) Sp.len hp' hj
    have hfp := f7 _ (List.getElem_mem hx)
    have i1 := itoa_len hfp.1
    have i2 := itoa_len hfp.2
    refine slAt_s hsl h0 h (fun b o' hp => ?_)
    refine ldS_s hsl hp H.tail (v := I o.steps[y.toNat].svc) (hc (j := 0) (by omega)) ?_
    refine asI_h ?_
    refine ldS_s (j := y.toNat * 2 + 1) hsl hp H.tail (v := I o.steps[y.toNat].n) (hc (j := 1) (by omega)) ?_
    refine asI_h ?_
    refine nw_h H (fun kk w H => ?_)
    apply st_h 0 H rfl rfl rfl; intro w H
    apply st_h 0 H rfl rfl rfl; intro w H
    replace H := H.drew
    refine keeps_p [0] H (by (repeat first | exact Sub.refl _ | (refine Sub.cons 0 rfl ?_) | (refine Sub.cons 1 rfl ?_) | (refine Sub.cons 2 rfl ?_) | (refine Sub.cons 3 rfl ?_) | (refine Sub.cons 4 rfl ?_) | (refine Sub.cons 5 rfl ?_) | (refine Sub.cons 6 rfl ?_) | (refine Sub.cons 7 rfl ?_) | refine Sub.skip ?_ | exact Sub.nil _)) ?_
    refine ldS_h 0 rfl rfl ?_
    refine asI_h ?_
    refine ldS_h 0 rfl rfl ?_
    refine asI_h ?_
    refine it hfp.1 H (fun w H => ?_)
    refine asStr_h ?_
    refine kp_s H (by (repeat first | exact Sub.refl _ | (refine Sub.cons 0 rfl ?_) | (refine Sub.cons 1 rfl ?_) | (refine Sub.cons 2 rfl ?_) | (refine Sub.cons 3 rfl ?_) | (refine Sub.cons 4 rfl ?_) | (refine Sub.cons 5 rfl ?_) | (refine Sub.cons 6 rfl ?_) | (refine Sub.cons 7 rfl ?_) | refine Sub.skip ?_ | exact Sub.nil _)) ?_
    refine cat_B (a := lSemi) (by simp only [lSemi, List.length_cons, List.length_nil]; omega) ?_
    refine cat_B (b := lStar) (by simp only [lSemi, lStar, List.length_append, List.length_cons, List.length_nil]; omega) ?_
    refine it hfp.2 H (fun w H => ?_)
    refine asStr_h ?_
    refine kp_s H (by (repeat first | exact Sub.refl _ | (refine Sub.cons 0 rfl ?_) | (refine Sub.cons 1 rfl ?_) | (refine Sub.cons 2 rfl ?_) | (refine Sub.cons 3 rfl ?_) | (refine Sub.cons 4 rfl ?_) | (refine Sub.cons 5 rfl ?_) | (refine Sub.cons 6 rfl ?_) | (refine Sub.cons 7 rfl ?_) | refine Sub.skip ?_ | exact Sub.nil _)) ?_
    refine cat_B (by simp only [lSemi, lStar, List.length_append, List.length_cons, List.length_nil]; omega) ?_
    subst hf
    refine cat_B (by simp only [lSemi, lStar, List.length_append, List.length_cons, List.length_nil] at hsp ⊢; omega) ?_
    have hw : IntKind.wrap .i64 (y + 1) = y + 1 := wrap64 (by omega) (by omega)
    simp only [hw]
    refine ⟨⟨H.tail, by omega, by omega, ?_⟩, by omega⟩
    rw [show (y + 1).toNat = y.toNat + 1 by omega, List.take_add_one, hp']
    congr 1
    simp only [spsT, List.flatMap_append, Option.toList_some, List.flatMap_cons, List.flatMap_nil, List.append_nil, spT, List.append_assoc]
  · simp only [decide_eq_false_iff_not] at h
    have ht : o.steps.take y.toNat = o.steps := List.take_of_length_le (by omega)
    rw [ht] at hf
    have := k _ H.tail
    rw [htx, ← hf] at this
    exact this

/-! ### the same? -/
def eqSp : List Sp → List Sp → Bool
  | [], [] => true
  | a :: l, b :: m => (a.svc == b.svc && (a.n == b.n && true)) && eqSp l m
  | _, _ => false
theorem eqSp_iff : ∀ {l m : List Sp}, eqSp l m = true ↔ l = m
  | [], [] => by simp [eqSp]
  | [], _ :: _ => by simp [eqSp]
  | _ :: _, [] => by simp [eqSp]
  | a :: l, b :: m => by
    simp only [eqSp, Bool.and_eq_true, beq_iff_eq, eqSp_iff, List.cons.injEq, and_true]
    constructor
    · rintro ⟨⟨h1, h2⟩, h3⟩
      refine ⟨?_, h3⟩
      cases a; cases b; simp at h1 h2; simp [h1, h2]
    · rintro ⟨rfl, h3⟩
      exact ⟨⟨rfl, rfl⟩, h3⟩
def sameOd (a b : Od) : Bool := (a.id == b.id) && ((a.item == b.item) && ((a.qty == b.qty) && ((a.client == b.client) && ((a.price == b.price) && eqSp a.steps b.steps))))
theorem sameOd_iff {a b : Od} : sameOd a b = true ↔ a = b := by
  cases a; cases b
  simp only [sameOd, Bool.and_eq_true, beq_iff_eq, eqSp_iff, Od.mk.injEq]
theorem eqSp_false {l m : List Sp} (h : l ≠ m) : eqSp l m = false := by
  cases e : eqSp l m with
  | false => rfl
  | true => exact absurd (eqSp_iff.1 e) h
theorem Equal_c {w0 w : World} {hs : List Hp} {K : KV} {l m : List Sp} {p q : Option Addr} {n n' c c' : Nat} (H : Holds w0 hs w) (hsl : Sl (Holds w0 hs) p n 2 (sps l)) (hsm : Sl (Holds w0 hs) q n' 2 (sps m)) (hl : l.length < 1000000)
    (k : ∀ w', Holds w0 hs w' → K (.bool (eqSp l m)) w') : gocall Tryd.prog 43 [.slice p n c, .slice q n' c'] K w := by
  have hn : n = l.length := by have := hsl.len; rw [sps, flat_len Sp.len] at this; omega
  have hn' : n' = m.length := by have := hsm.len; rw [sps, flat_len Sp.len] at this; omega
  have bad : l ≠ m → ∀ w, Holds w0 hs w → K (.bool false) w := fun h w H => by have := k w H; rwa [eqSp_false h] at this
  apply F43_go; unfold F43
  refine br_s (fun h => ?_) (fun h => ?_)
  · refine bad (fun e => ?_) _ H
    subst e; simp [hn, hn'] at h
  have hlen : l.length = m.length := by simp at h; omega
  refine ⟨fun y w => Holds w0 hs w ∧ 0 ≤ y.1 ∧ y.1 ≤ l.length ∧ ∀ j : Nat, (j : Int) < y.1 → l[j]? = m[j]?, fun y _ => (l.length - y.1).toNat, ⟨H, by simp, by simp, fun j hj => by simp at hj; omega⟩, ?_⟩
  rintro ⟨y, b, u⟩ w ⟨H, h0, h1, hf⟩
  simp only at h0 h1 hf
  refine br_s (fun h2 => ?_) (fun h2 => ?_)
  · simp only [decide_eq_true_eq] at h2
    have hx : y.toNat < l.length := by omega
    have hy : y.toNat < m.length := by omega
    have hp' := List.getElem?_eq_getElem hx
    have hq' := List.getElem?_eq_getElem hy
    have hc := fun {j : Nat} (hj : j < 2) => flat_at (f := Sp.cells) Sp.len hp' hj
    have hd := fun {j : Nat} (hj : j < 2) => flat_at (f := Sp.cells) Sp.len hq' hj
    replace H := H.drew
    refine slAt_s hsl h0 h2 (fun b1 o1 hp => ?_)
    refine ldS_s hsl hp H (v := I l[y.toNat].svc) (hc (j := 0) (by omega)) ?_
    refine asI_h ?_
    refine ldS_s (j := y.toNat * 2 + 1) hsl hp H (v := I l[y.toNat].n) (hc (j := 1) (by omega)) ?_
    refine asI_h ?_
    refine slAt_s hsm h0 (by omega) (fun b2 o2 hq => ?_)
    refine ldS_s hsm hq H (v := I m[y.toNat].svc) (hd (j := 0) (by omega)) ?_
    refine asI_h ?_
    refine ldS_s (j := y.toNat * 2 + 1) hsm hq H (v := I m[y.toNat].n) (hd (j := 1) (by omega)) ?_
    refine asI_h ?_
    refine ⟨by kernel_rfl, ?_⟩
    refine br_s (fun h3 => ?_) (fun h3 => ?_)
    · refine bad (fun e => ?_) _ H
      subst e; simp at h3
    · have hw : IntKind.wrap .i64 (y + 1) = y + 1 := wrap64 (by omega) (by omega)
      simp only [hw]
      refine ⟨⟨H, by omega, by omega, fun j hj => ?_⟩, by omega⟩
      by_cases hj' : (j : Int) < y
      · exact hf j hj'
      · have : j = y.toNat := by omega
        subst this
        rw [hp', hq']
        simp only [Bool.not_eq_false', Bool.and_eq_true, beq_iff_eq, and_true] at h3
        congr 1
        generalize l[y.toNat] = a at h3
        generalize m[y.toNat] = b at h3
        cases a; cases b; simp at h3; simp [h3]
  · simp only [decide_eq_false_iff_not] at h2
    have e : l = m := by
      apply List.ext_getElem?
      intro j
      by_cases hj : j < l.length
      · exact hf j (by omega)
      · rw [List.getElem?_eq_none (by omega), List.getElem?_eq_none (by omega)]
    have := k _ H
    rwa [eqSp_iff.2 e] at this
theorem Same_c {w0 w : World} {hs : List Hp} {K : KV} {a b : Od} {p q : Option Addr} {n n' c c' : Nat} (H : Holds w0 hs w) (hsl : Sl (Holds w0 hs) p n 2 (sps a.steps)) (hsm : Sl (Holds w0 hs) q n' 2 (sps b.steps)) (hl : a.steps.length < 1000000)
    (k : ∀ w', Holds w0 hs w' → K (.bool (sameOd a b)) w') : gocall Tryd.prog 28 [odV a (.slice p n c), odV b (.slice q n' c')] K w := by
  apply F28_go; unfold F28
  refine nwO_h H (fun k1 w H => ?_)
  refine nwO_h H (fun k2 w H => ?_)
  have fin : ∀ (r : Bool) w', sameOd a b = r → Holds w0 (odHp k2 ⟨b.id, b.item, b.qty, b.client, b.price, []⟩ (.slice q n' c') :: odHp k1 ⟨a.id, a.item, a.qty, a.client, a.price, []⟩ (.slice p n c) :: hs) w' → K (.bool r) w' := fun r w' e H => by
    have := k w' H.tail.tail
    rwa [e] at this
  have H' := H
  unfold odHp at H'
  apply ld_h 1 H' rfl rfl; refine asI_h ?_
  apply ld_h 0 H' rfl rfl; refine asI_h ?_
  refine br_s (fun e1 => ?_) (fun e1 => fin _ _ (by simp only [sameOd, e1, Bool.false_and]) H)
  apply ld_h 1 H' rfl rfl; refine asI_h ?_
  apply ld_h 0 H' rfl rfl; refine asI_h ?_
  refine br_s (fun e2 => ?_) (fun e2 => fin _ _ (by simp only [sameOd, e1, e2, Bool.false_and, Bool.and_false]) H)
  apply ld_h 1 H' rfl rfl; refine asI_h ?_
  apply ld_h 0 H' rfl rfl; refine asI_h ?_
  refine br_s (fun e3 => ?_) (fun e3 => fin _ _ (by simp only [sameOd, e1, e2, e3, Bool.false_and, Bool.and_false]) H)
  apply ld_h 1 H' rfl rfl; refine asI_h ?_
  apply ld_h 0 H' rfl rfl; refine asI_h ?_
  refine br_s (fun e4 => ?_) (fun e4 => fin _ _ (by simp only [sameOd, e1, e2, e3, e4, Bool.false_and, Bool.and_false]) H)
  apply ld_h 1 H' rfl rfl; refine asI_h ?_
  apply ld_h 0 H' rfl rfl; refine asI_h ?_
  refine br_s (fun e5 => ?_) (fun e5 => fin _ _ (by simp only [sameOd, e1, e2, e3, e4, e5, Bool.false_and, Bool.and_false]) H)
  apply ld_h 1 H' rfl rfl; refine asSl_h ?_
  apply ld_h 0 H' rfl rfl; refine asSl_h ?_
  refine Equal_c H (hsl.mono fun w H => H.tail.tail) (hsm.mono fun w H => H.tail.tail) hl (fun w H => ?_)
  refine asBoo_h ?_
  exact fin _ _ (by simp only [sameOd, e1, e2, e3, e4, e5, Bool.true_and]) H
theorem SameOrder_c {w0 w : World} {hs : List Hp} {K : KV} {a b : Od} {p q : Option Addr} {n n' c c' : Nat} (H : Holds w0 hs w) (hsl : Sl (Holds w0 hs) p n 2 (sps a.steps)) (hsm : Sl (Holds w0 hs) q n' 2 (sps b.steps)) (hl : a.steps.length < 1000000)
    (k : ∀ w', Holds w0 hs w' → K (.bool (sameOd a b)) w') : gocall Tryd.prog 27 [odV a (.slice p n c), odV b (.slice q n' c')] K w := by
  have hn : n = a.steps.length := by have := hsl.len; rw [sps, flat_len Sp.len] at this; omega
  have hn' : n' = b.steps.length := by have := hsm.len; rw [sps, flat_len Sp.len] at this; omega
  apply F27_go; unfold F27
  refine nwO_h H (fun k1 w H => ?_)
  refine nwO_h H (fun k2 w H => ?_)
  have bad : ∀ w', a ≠ b → Holds w0 (odHp k2 ⟨b.id, b.item, b.qty, b.client, b.price, []⟩ (.slice q n' c') :: odHp k1 ⟨a.id, a.item, a.qty, a.client, a.price, []⟩ (.slice p n c) :: hs) w' → K (.bool false) w' := fun w' e H => by
    have := k w' H.tail.tail
    rwa [show sameOd a b = false by cases x : sameOd a b with | false => rfl | true => exact absurd (sameOd_iff.1 x) e] at this
  have H' := H
  unfold odHp at H'
  apply ld_h 1 H' rfl rfl; refine asI_h ?_
  apply ld_h 0 H' rfl rfl; refine asI_h ?_
  refine br_s (fun e1 => bad _ (by rintro rfl; simp at e1) H) (fun e1 => ?_)
  apply ld_h 1 H' rfl rfl; refine asI_h ?_
  apply ld_h 0 H' rfl rfl; refine asI_h ?_
  refine br_s (fun e2 => bad _ (by rintro rfl; simp at e2) H) (fun e2 => ?_)
  apply ld_h 1 H' rfl rfl; refine asI_h ?_
  apply ld_h 0 H' rfl rfl; refine asI_h ?_
  refine br_s (fun e3 => bad _ (by rintro rfl; simp at e3) H) (fun e3 => ?_)
  apply ld_h 1 H' rfl rfl; refine asI_h ?_
  apply ld_h 0 H' rfl rfl; refine asI_h ?_
  refine br_s (fun e4 => bad _ (by rintro rfl; simp at e4) H) (fun e4 => ?_)
  apply ld_h 1 H' rfl rfl; refine asI_h ?_
  apply ld_h 0 H' rfl rfl; refine asI_h ?_
  refine br_s (fun e5 => bad _ (by rintro rfl; simp at e5) H) (fun e5 => ?_)
  apply ld_h 1 H' rfl rfl; refine asSl_h ?_
  apply ld_h 0 H' rfl rfl; refine asSl_h ?_
  refine br_s (fun e6 => bad _ (by rintro rfl; simp [hn, hn'] at e6) H) (fun e6 => ?_)
  apply ld_h 1 H' rfl rfl; refine asSl_h ?_
  have hlen : a.steps.length = b.steps.length := by simp at e6; omega
  refine ⟨fun y w => Holds w0 (odHp k2 ⟨b.id, b.item, b.qty, b.client, b.price, []⟩ (.slice q n' c') :: odHp k1 ⟨a.id, a.item, a.qty, a.client, a.price, []⟩ (.slice p n c) :: hs) w ∧ 0 ≤ y.1 ∧ y.1 ≤ a.steps.length ∧ ∀ j : Nat, (j : Int) < y.1 → a.steps[j]? = b.steps[j]?, fun y _ => (a.steps.length - y.1).toNat, ⟨H, by simp, by simp, fun j hj => by simp at hj; omega⟩, ?_⟩
  clear H H'
  rintro ⟨y, bb, u⟩ w ⟨H, h0, h1, hf⟩
  simp only at h0 h1 hf
  have H' := H
  unfold odHp at H'
  refine br_s (fun h2 => ?_) (fun h2 => ?_)
  · simp only [decide_eq_true_eq] at h2
    have hx : y.toNat < a.steps.length := by omega
    have hy : y.toNat < b.steps.length := by omega
    have hp' := List.getElem?_eq_getElem hx
    have hq' := List.getElem?_eq_getElem hy
    have hc := fun {j : Nat} (hj : j < 2) => flat_at (f := Sp.cells) Sp.len hp' hj
    have hd := fun {j : Nat} (hj : j < 2) => flat_at (f := Sp.cells) Sp.len hq' hj
    replace H := H.drew
    replace H' := H'.drew
    apply ld_h 1 H' rfl rfl; refine asSl_h ?_
    refine slAt_s hsl h0 h2 (fun b1 o1 hp => ?_)
    refine ldS_s hsl hp H.tail.tail (v := I a.steps[y.toNat].svc) (hc (j := 0) (by omega)) ?_
    refine asI_h ?_
    refine ldS_s (j := y.toNat * 2 + 1) hsl hp H.tail.tail (v := I a.steps[y.toNat].n) (hc (j := 1) (by omega)) ?_
    refine asI_h ?_
    apply ld_h 0 H' rfl rfl; refine asSl_h ?_
    refine slAt_s hsm h0 (by omega) (fun b2 o2 hq => ?_)
    refine ldS_s hsm hq H.tail.tail (v := I b.steps[y.toNat].svc) (hd (j := 0) (by omega)) ?_
    refine asI_h ?_
    refine ldS_s (j := y.toNat * 2 + 1) hsm hq H.tail.tail (v := I b.steps[y.toNat].n) (hd (j := 1) (by omega)) ?_
    refine asI_h ?_
    refine ⟨by kernel_rfl, ?_⟩
    refine br_s (fun h3 => ?_) (fun h3 => ?_)
    · refine bad _ (fun e => ?_) H
      subst e; simp at h3
    · have hw : IntKind.wrap .i64 (y + 1) = y + 1 := wrap64 (by omega) (by omega)
      simp only [hw]
      refine ⟨⟨H, by omega, by omega, fun j hj => ?_⟩, by omega⟩
      by_cases hj' : (j : Int) < y
      · exact hf j hj'
      · have : j = y.toNat := by omega
        subst this
        rw [hp', hq']
        simp only [Bool.not_eq_false', Bool.and_eq_true, beq_iff_eq, and_true] at h3
        congr 1
        generalize a.steps[y.toNat] = a at h3
        generalize b.steps[y.toNat] = b at h3
        cases a; cases b; simp at h3; simp [h3]
  · simp only [decide_eq_false_iff_not] at h2
    have e : a.steps = b.steps := by
      apply List.ext_getElem?
      intro j
      by_cases hj : j < a.steps.length
      · exact hf j (by omega)
      · rw [List.getElem?_eq_none (by omega), List.getElem?_eq_none (by omega)]
    have := k _ H.tail.tail
    have e' : a = b := by
      cases a; cases b
      simp at e e1 e2 e3 e4 e5
      simp [e, e1, e2, e3, e4, e5]
    rwa [sameOd_iff.2 e'] at this
theorem light_c {w0 w : World} {hs : List Hp} {K : KV} {o : Od} {p : Option Addr} {n c : Nat} (H : Holds w0 hs w) (k : ∀ w', Holds w0 hs w' → K (.bool (decide ((n : Int) ≤ 20))) w') : gocall Tryd.prog 22 [odV o (.slice p n c)] K w := by
  apply F22_go; unfold F22
  refine nwO_h H (fun k8 w H => ?_)
  apply ld_h 0 H rfl rfl; refine asSl_h ?_
  exact k _ H.tail
end Go.Proofs.YtiihiaicggmhjaaDoor
