/- What law19's ServiceLasts computes: true. Conditions: none. -/
import Derived.Test.YtjckakeolmbidaaDoorFVL
import Derived.Test.YtjckakeolmbidaaDoorGb
set_option linter.unusedVariables false
set_option maxRecDepth 100000
namespace Go.Proofs.YtjckakeolmbidaaDoor
open Go Go.Sh

theorem handleDown_c {w0 w : World} {hs : List Hp} {K : KV} {S : Sv} {kind frm to id step a b : Int} (i : Nat) (H : Sh.Holds w0 hs w) (hi : hs[i]? = some S.hp) (hd : S.J.down = true) (k : ∀ w', Sh.Holds w0 hs w' → K (.slice none 0 0) w') : gocall Tryd.prog 30 [S.v, msgV kind frm to id step a b] K w := by
  apply F30_go; unfold F30
  refine nw_h H (fun k1 w H => ?_)
  replace H := H.drew
  refine keepsA [] H ?_
  refine br_f rfl ?_
  refine downS_c (S := S) (i + 1) H (by simpa using hi) (fun w H => ?_)
  refine asBoo_h ?_
  refine kpA H ?_
  rw [hd]
  refine br_t rfl ?_
  exact k _ H.tail
/-- what a done order holds -/
def dd (x y : Int) : Int := if x = 1 then y else 0
def ddS (st mu : List Int) : Int := (List.zipWith dd st mu).sum
theorem ddS_set : ∀ {st mu : List Int} {j : Nat} {x y x' y' : Int}, st[j]? = some x → mu[j]? = some y → ddS (st.set j x') (mu.set j y') = ddS st mu - dd x y + dd x' y'
  | [], mu, j, x, y, x', y', h, _ => by simp at h
  | a :: st, [], j, x, y, x', y', _, h => by simp at h
  | a :: st, b :: mu, 0, x, y, x', y', h1, h2 => by
    simp at h1 h2; subst h1 h2
    simp only [ddS, List.set_cons_zero, List.zipWith_cons_cons, List.sum_cons]; omega
  | a :: st, b :: mu, j + 1, x, y, x', y', h1, h2 => by
    simp only [List.getElem?_cons_succ] at h1 h2
    have := ddS_set (x' := x') (y' := y') h1 h2
    simp only [ddS, List.set_cons_succ, List.zipWith_cons_cons, List.sum_cons] at this ⊢
    omega
theorem ddS_take : ∀ {st mu : List Int} {j : Nat} {x y : Int}, st[j]? = some x → mu[j]? = some y → ddS (st.take (j + 1)) (mu.take (j + 1)) = ddS (st.take j) (mu.take j) + dd x y
  | [], mu, j, x, y, h, _ => by simp at h
  | a :: st, [], j, x, y, _, h => by simp at h
  | a :: st, b :: mu, 0, x, y, h1, h2 => by
    simp at h1 h2; subst h1 h2
    simp [ddS]
  | a :: st, b :: mu, j + 1, x, y, h1, h2 => by
    simp only [List.getElem?_cons_succ] at h1 h2
    have := ddS_take h1 h2
    rw [List.take_succ_cons, List.take_succ_cons, List.take_succ_cons, List.take_succ_cons]
    simp only [ddS, List.zipWith_cons_cons, List.sum_cons] at this ⊢
    omega
/-- what the orders' states say of what is kept -/
structure LInv (A : SA) (hold : Int) (st mu : List Int) : Prop where
  ls : st.length = 10
  lm : mu.length = 10
  z : st[0]? = some 0
  at_ : ∀ (j : Nat) x y, 1 ≤ j → st[j]? = some x → mu[j]? = some y → A.s j = x ∧ A.h j = dd x y ∧ 0 ≤ x ∧ x ≤ 3
  mub : ∀ y ∈ mu, 0 ≤ y ∧ y ≤ 300
  left : A.left = hold - ddS st mu
  ge : 0 ≤ A.left
theorem LInv.upd {A A' : SA} {hold : Int} {st mu : List Int} (h : LInv A hold st mu) {j : Nat} {x y x' y' : Int} (hj : 1 ≤ j) (hx : st[j]? = some x) (hy : mu[j]? = some y) (hs : ∀ i : Int, A'.s i = if i = j then x' else A.s i) (hh : ∀ i : Int, A'.h i = if i = j then dd x' y' else A.h i)
    (hl : A'.left = A.left + dd x y - dd x' y') (hg : 0 ≤ A'.left) (h0 : 0 ≤ x' ∧ x' ≤ 3) (h1 : 0 ≤ y' ∧ y' ≤ 300) : LInv A' hold (st.set j x') (mu.set j y') := by
  refine ⟨by rw [List.length_set]; exact h.ls, by rw [List.length_set]; exact h.lm, ?_, fun i u v hi hu hv => ?_, fun v hv => ?_, ?_, hg⟩
  · rw [List.getElem?_set_ne (by omega)]; exact h.z
  · rw [hs, hh]
    have hlx := (List.getElem?_eq_some_iff.1 hx).1
    have hly := (List.getElem?_eq_some_iff.1 hy).1
    by_cases hij : i = j
    · subst hij
      rw [List.getElem?_set_self hlx] at hu
      rw [List.getElem?_set_self hly] at hv
      cases hu; cases hv
      rw [if_pos rfl, if_pos rfl]
      exact ⟨rfl, rfl, h0.1, h0.2⟩
    · rw [List.getElem?_set_ne (fun e => hij e.symm)] at hu hv
      rw [if_neg (by omega), if_neg (by omega)]
      exact h.at_ i u v hi hu hv
  · rcases List.mem_or_eq_of_mem_set hv with hv | hv
    · exact h.mub v hv
    · subst hv; exact h1
  · rw [hl, h.left, ddS_set hx hy]; omega
theorem LInv.zero {hold : Int} (h0 : 0 ≤ hold) (h1 : hold < 1000) : LInv (SA.zero hold) hold (List.replicate 10 0) (List.replicate 10 0) := by
  refine ⟨rfl, rfl, rfl, fun j x y _ hx hy => ?_, fun y hy => ?_, ?_, ?_⟩
  · have e1 := List.eq_of_mem_replicate (List.mem_of_getElem? hx)
    subst e1
    exact ⟨rfl, rfl, by omega, by omega⟩
  · have := List.eq_of_mem_replicate hy; omega
  · have e : ddS (List.replicate 10 0) (List.replicate 10 0) = 0 := rfl
    rw [e]
    simp only [SA.zero, clampB]; (repeat' split) <;> omega
  · simp only [SA.zero, clampB]; (repeat' split) <;> omega
theorem idx_zero (x : Int) {n : Nat} (h0 : 0 < n) (hn : n ≤ 100000) : ∃ m : Int, 0 ≤ m ∧ m < n ∧ IntKind.i64.wrap ((IntKind.u64.wrap x).tmod (n : Int)) = m := by
  have e2 : 0 ≤ IntKind.u64.wrap x := by rw [show IntKind.u64.wrap x = x % 18446744073709551616 by simp [IntKind.wrap, IntKind.bits, IntKind.signed]]; omega
  generalize IntKind.u64.wrap x = u at *
  rw [Int.tmod_eq_emod_of_nonneg e2]
  have h1 := Int.emod_nonneg u (b := (n : Int)) (by omega)
  have h2 := Int.emod_lt_of_pos u (b := (n : Int)) (by omega)
  exact ⟨u % n, by omega, by omega, by rw [wrap64 (n := u % n) (by omega) (by omega)]⟩
structure Deed where
  crash : Bool
  undo : Bool
  id : Int
  a : Int
  torn : Int
def Deed.cells (d : Deed) : List Value := [.bool d.crash, .bool d.undo, I d.id, I d.a, I d.torn]
def arr (k : Nat) (l : List Int) : Hp := [(k, .cells (l.map I).toArray 45 (0, 0))]
/-- between two deeds -/
def LaP (w0 : World) (nn k1 k2 : Nat) (hold : Int) (hs : List Hp) (i : Int) (w : World) : Prop := ∃ (S : Sv) (es : List SE) (st mu : List Int), SvIs S es false ∧ S.n = nn ∧ S.node = 5 ∧ S.room = hold ∧ S.J.room = 4096 ∧ (es.length : Int) ≤ i ∧ LInv (SA.run hold es) hold st mu ∧ Sh.Holds w0 (S.hp :: arr k1 st :: arr k2 mu :: hs) w
/-- what a deed's message brings -/
def DoneE (A : SA) (undo : Bool) (id a x : Int) (o : Option SE) (cd : Int) : Prop :=
  (undo = true ∧ cd = 5 ∧ (((x = 0 ∨ x = 1) ∧ o = some (.undid id)) ∨ (2 ≤ x ∧ o = none))) ∨
  (undo = false ∧ ((x = 0 ∧ takeA A.left A.h id a = 0 ∧ o = some (.did id a) ∧ cd = 2) ∨ (x = 0 ∧ takeA A.left A.h id a ≠ 0 ∧ o = some (.cant id) ∧ cd = 3) ∨ (x = 1 ∧ o = none ∧ cd = 2) ∨ (2 ≤ x ∧ o = none ∧ cd = 3)))
theorem done_e {S : Sv} {es : List SE} {undo : Bool} {id a x : Int} (h1 : 1 ≤ id) (h2 : id ≤ 9) (hn : S.node = 5) (hr : S.J.room = 4096) (hl : es.length < 100) (hx : (SA.run S.room es).s id = x) (x0 : 0 ≤ x) : DoneE (SA.run S.room es) undo id a x (ansE S es (if undo = true then 4 else 1) 0 5 id a).1 (ansE S es (if undo = true then 4 else 1) 0 5 id a).2 := by
  unfold DoneE ansE
  have hk : (es.length : Int) < S.J.room := by omega
  cases undo with
  | true =>
    rw [show (if true = true then (4 : Int) else 1) = 4 from rfl]
    rw [if_pos ⟨hn.symm, rfl, by omega, by omega, .inr rfl⟩, if_neg (by omega)]
    refine .inl ⟨rfl, ?_⟩
    unfold SA.undoE
    rw [hx]
    by_cases h : x = 0 ∨ x = 1
    · rw [if_pos h, if_pos hk]; exact ⟨rfl, .inl ⟨h, rfl⟩⟩
    · rw [if_neg h]; exact ⟨rfl, .inr ⟨by omega, rfl⟩⟩
  | false =>
    rw [show (if false = true then (4 : Int) else 1) = 1 from rfl]
    rw [if_pos ⟨hn.symm, rfl, by omega, by omega, .inl rfl⟩, if_pos rfl]
    refine .inr ⟨rfl, ?_⟩
    unfold SA.doE
    rw [hx]
    by_cases e1 : x = 1
    · rw [if_pos e1]; exact .inr (.inr (.inl ⟨e1, rfl, rfl⟩))
    rw [if_neg e1]
    by_cases e0 : x = 0
    · rw [if_pos e0, if_pos hk]
      by_cases ht : takeA (SA.run S.room es).left (SA.run S.room es).h id a = 0
      · rw [if_pos ht]; exact .inl ⟨e0, ht, rfl, rfl⟩
      · rw [if_neg ht]; exact .inr (.inl ⟨e0, ht, rfl, rfl⟩)
    · rw [if_neg e0]; exact .inr (.inr (.inr ⟨by omega, rfl, rfl⟩))
theorem LInv.same {A : SA} {hold : Int} {st mu : List Int} (h : LInv A hold st mu) {j : Nat} {x y : Int} (hx : st[j]? = some x) (hy : mu[j]? = some y) : LInv A hold (st.set j x) (mu.set j y) := by rw [set_self hx, set_self hy]; exact h
theorem LInv.undid {A : SA} {hold : Int} {st mu : List Int} (h : LInv A hold st mu) {j : Nat} {x y : Int} (hj : 1 ≤ j) (hx : st[j]? = some x) (hy : mu[j]? = some y) : LInv (A.step (.undid j)) hold (st.set j 3) (mu.set j y) := by
  have a := h.at_ j x y hj hx hy
  have b := h.mub y (List.mem_of_getElem? hy)
  have g := h.ge
  have hd : 0 ≤ dd x y := by unfold dd; split <;> omega
  refine h.upd (x' := 3) (y' := y) hj hx hy (fun i => rfl) (fun i => rfl) ?_ ?_ (by omega) b
  · simp only [SA.step, a.2.1]
    have : dd 3 y = 0 := rfl
    omega
  · simp only [SA.step, a.2.1]; omega
theorem LInv.did {A : SA} {hold : Int} {st mu : List Int} (h : LInv A hold st mu) {j : Nat} {y a : Int} (hj : 1 ≤ j) (hx : st[j]? = some 0) (hy : mu[j]? = some y) (ht : takeA A.left A.h j a = 0) (ha : 1 ≤ a) (ha' : a ≤ 300) : LInv (A.step (.did j a)) hold (st.set j 1) (mu.set j a) := by
  have r := take_range ht
  have d0 : dd 0 y = 0 := rfl
  have d1 : dd 1 a = a := rfl
  refine h.upd (x' := 1) (y' := a) hj hx hy (fun i => rfl) (fun i => ?_) ?_ ?_ (by omega) (by omega)
  · simp only [SA.step, ht, true_and, d1]
  · simp only [SA.step, ht, if_true]; omega
  · simp only [SA.step, ht, if_true]; omega
theorem LInv.cant {A : SA} {hold : Int} {st mu : List Int} (h : LInv A hold st mu) {j : Nat} {y a : Int} (hj : 1 ≤ j) (hx : st[j]? = some 0) (hy : mu[j]? = some y) (ha : 1 ≤ a) (ha' : a ≤ 300) : LInv (A.step (.cant j)) hold (st.set j 2) (mu.set j a) := by
  have d0 : dd 0 y = 0 := rfl
  have d2 : dd 2 a = 0 := rfl
  have q := h.at_ j 0 y hj hx hy
  refine h.upd (x' := 2) (y' := a) hj hx hy (fun i => rfl) (fun i => ?_) ?_ ?_ (by omega) (by omega)
  · simp only [SA.step]
    split
    · rename_i e; rw [e, q.2.1]; omega
    · rfl
  · simp only [SA.step]; omega
  · simp only [SA.step]; exact h.ge
/-- in a deed, when the message is answered and noted -/
def MiP (w0 : World) (nn k1 k2 k9 q : Nat) (hold : Int) (hs : List Hp) (i id : Int) (d : Deed) (w : World) : Prop := ∃ (S : Sv) (es : List SE) (st mu : List Int) (cd : Int), SvIs S es false ∧ S.n = nn ∧ S.node = 5 ∧ S.room = hold ∧ S.J.room = 4096 ∧ (es.length : Int) ≤ i ∧ LInv (SA.run hold es) hold st mu ∧
  (cd = 2 ∨ cd = 3 ∨ cd = 5) ∧ (d.undo = false → ∃ x, st[id.toNat]? = some x ∧ (cd = 2 ↔ x = 1)) ∧ Sh.Holds w0 ([(q, .cells #[I cd, I 5, I 0, I id, I 2, I 0, I 0] 30 (0, 0))] :: [(k9, .cells #[.bool d.crash, .bool d.undo, I d.id, I d.a, I d.torn] 57 (0, 0))] :: S.hp :: arr k1 st :: arr k2 mu :: hs) w
theorem arr_st {k : Nat} {l : List Int} {j : Nat} {x : Int} : ([(k, .cells ((l.map I).toArray.setIfInBounds j (I x)) 45 (0, 0))] : Hp) = arr k (l.set j x) := by simp [arr]
theorem ddS_b : ∀ {st mu : List Int}, (∀ y ∈ mu, 0 ≤ y ∧ y ≤ 300) → 0 ≤ ddS st mu ∧ ddS st mu ≤ 300 * mu.length
  | [], mu, _ => by simp only [ddS, List.zipWith_nil_left, List.sum_nil]; omega
  | a :: st, [], _ => by simp [ddS]
  | a :: st, b :: mu, h => by
    have h1 := ddS_b (st := st) (mu := mu) (fun y hy => h y (List.mem_cons_of_mem _ hy))
    have h2 := h b (List.mem_cons_self ..)
    have h3 : 0 ≤ dd a b ∧ dd a b ≤ 300 := by unfold dd; split <;> omega
    simp only [ddS, List.zipWith_cons_cons, List.sum_cons, List.length_cons] at h1 ⊢
    omega
set_option maxHeartbeats 4000000 in
theorem Last_c {w0 w : World} {hs : List Hp} {K : KV} {x0 : Int} {p : Option Addr} {n c : Nat} {ds : List Deed} (E : Errs w0) (T : Tab w0) (H : Sh.Holds w0 hs w) (hsl : Sl (Sh.Holds w0 hs) p n 5 (ds.flatMap Deed.cells)) (k : ∀ w', Sh.Holds w0 hs w' → K (.bool true) w') : gocall Tryd.prog 6 [I x0, .slice p n c] K w := by
  apply F6_go; unfold F6
  obtain ⟨hold, ho0, ho1, eh⟩ := idx_zero x0 (n := 1000) (by omega) (by omega)
  have eh : IntKind.i64.wrap ((IntKind.u64.wrap x0).tmod 1000) = hold := eh
  rw [eh]
  refine ⟨by decide, ?_⟩
  refine newS_c H (by omega) (fun S w ok a1 a2 a3 a4 a5 a6 a7 a8 a9 H => ?_)
  have I0 := new_is ok a3 a4 a5 (by rw [a7, a2]) a8 a9
  have hr : S.J.room = 4096 := by rw [a6]; decide
  refine asPtr_h ?_
  refine br_f rfl ?_
  refine nw_h H (fun k1 w H => ?_)
  refine nw_h H (fun k2 w H => ?_)
  have O0 : LaP w0 S.n k1 k2 hold hs 0 w := ⟨S, [], List.replicate 10 0, List.replicate 10 0, I0, rfl, a1, a2, hr, by simp, .zero ho0 (by omega), Holds.re (b := arr k2 (List.replicate 10 0) :: arr k1 (List.replicate 10 0) :: S.hp :: hs) H⟩
  clear H I0 hr ok a1 a2 a3 a4 a5 a6 a7 a8 a9
  generalize S.n = nn at O0 ⊢
  refine ⟨fun x w => LaP w0 nn k1 k2 hold hs x.1 w ∧ 0 ≤ x.1 ∧ x.1 ≤ 80, fun x _ => (80 - x.1).toNat, ⟨O0, by simp, by simp⟩, ?_⟩
  clear O0
  rintro ⟨i, b, u⟩ w ⟨⟨S, es, st, mu, I0, en, e5, er, ej, el, hL, H⟩, h0, h1⟩
  simp only at el h0 h1
  subst en
  refine br_s (fun h2 => ?_) (fun h2 => ?_)
  · simp only [decide_eq_true_eq] at h2
    refine slAt_f (fun d => rfl) (by omega) hsl h0 h2 (fun bb o d hld => ?_)
    have H' := H.tail.tail.tail
    refine hld 0 (.bool d.crash) _ _ (by omega) rfl H' ?_; refine asBoo_h ?_
    refine hld 1 (.bool d.undo) _ _ (by omega) rfl H' ?_; refine asBoo_h ?_
    refine hld 2 (I d.id) _ _ (by omega) rfl H' ?_; refine asI_h ?_
    refine hld 3 (I d.a) _ _ (by omega) rfl H' ?_; refine asI_h ?_
    refine hld 4 (I d.torn) _ _ (by omega) rfl H' ?_; refine asI_h ?_
    clear H' hld
    refine nw_h H (fun k9 w H => ?_)
    refine stA H rfl (fun w H => ?_)
    refine stA H rfl (fun w H => ?_)
    refine stA H rfl (fun w H => ?_)
    refine stA H rfl (fun w H => ?_)
    refine stA H rfl (fun w H => ?_)
    refine br_s (fun h3 => ?_) (fun h3 => ?_)
    · refine awakeV_c T H (fun w H => ?_)
      refine asBoo_h ?_
      exact k _ H.tail.tail.tail.tail
    simp only [ge_iff_le, decide_eq_false_iff_not] at h3
    refine ⟨fun _ w => LaP w0 S.n k1 k2 hold hs (i + 1) w, ?_, ?_⟩
    · refine ldA H ?_; refine asBoo_h ?_
      refine br_s (fun h4 => ?_) (fun h4 => ?_)
      · refine ldA H ?_; refine asI_h ?_
        refine ldA H ?_; refine asI_h ?_
        refine crashS_c H I0 (fun S1 w I1 n1 d1 m1 j1 H => ?_)
        refine asT_e [] rfl rfl ?_
        rw [← n1]
        refine downS_c (S := S1) 0 H rfl (fun w H => ?_)
        refine asBoo_h ?_
        rw [I1.dn]
        refine br_f rfl ?_
        refine handleDown_c (S := S1) 0 H rfl I1.dn (fun w H => ?_)
        refine asSl_h ?_
        refine br_f rfl ?_
        refine startS_c E T H I1 (fun S2 w I2 n2 d2 m2 j2 H => ?_)
        refine asT_e [] rfl rfl ?_
        rw [← n2]
        exact ⟨S2, es, st, mu, I2, rfl, by rw [d2, d1, e5], by rw [m2, m1, er], by rw [j2, j1, ej], by omega, hL, H.re⟩
      · refine ldA H ?_; refine asI_h ?_
        refine ⟨by decide, ?_⟩
        refine ldA H ?_; refine asI_h ?_
        refine ⟨by decide, ?_⟩
        obtain ⟨id, hi1, hi2, ei⟩ := idx_one d.id (n := 9) (by omega) (by omega)
        obtain ⟨a, ha1, ha2, ea⟩ := idx_one d.a (n := 300) (by omega) (by omega)
        have ei : IntKind.i64.wrap (1 + IntKind.i64.wrap ((IntKind.u64.wrap d.id).tmod 9)) = id := ei
        have ea : IntKind.i64.wrap (1 + IntKind.i64.wrap ((IntKind.u64.wrap d.a).tmod 300)) = a := ea
        rw [ei, ea]
        refine nw_h H (fun k10 w H => ?_)
        refine stA H rfl (fun w H => ?_)
        refine stA H rfl (fun w H => ?_)
        refine stA H rfl (fun w H => ?_)
        refine stA H rfl (fun w H => ?_)
        refine stA H rfl (fun w H => ?_)
        refine stA H rfl (fun w H => ?_)
        refine stA H rfl (fun w H => ?_)
        refine ⟨fun _ w => Sh.Holds w0 ([(k10, .cells #[I (if d.undo = true then 4 else 1), I 0, I 5, I id, I 2, I a, I 0] 30 (0, 0))] :: [(k9, .cells #[.bool d.crash, .bool d.undo, I d.id, I d.a, I d.torn] 57 (0, 0))] :: S.hp :: arr k1 st :: arr k2 mu :: hs) w, ?_, ?_⟩
        · refine ldA H ?_; refine asBoo_h ?_
          refine br_s (fun h5 => ?_) (fun h5 => ?_)
          · refine stA H rfl (fun w H => ?_)
            rw [h5, if_pos rfl]
            rw [h5] at H
            exact H
          · rw [h5, if_neg (by simp)]
            rw [h5] at H
            exact H
        · clear H
          rintro u' w H
          refine ldA H ?_; refine asI_h ?_
          refine ldA H ?_; refine asI_h ?_
          refine ldA H ?_; refine asI_h ?_
          refine ldA H ?_; refine asI_h ?_
          refine ldA H ?_; refine asI_h ?_
          refine ldA H ?_; refine asI_h ?_
          refine ldA H ?_; refine asI_h ?_
          have hls := hL.ls
          have hlm := hL.lm
          obtain ⟨x, hx⟩ : ∃ x, st[id.toNat]? = some x := ⟨_, List.getElem?_eq_getElem (by omega)⟩
          obtain ⟨y, hy⟩ : ∃ y, mu[id.toNat]? = some y := ⟨_, List.getElem?_eq_getElem (by omega)⟩
          have ein : ((id.toNat : Nat) : Int) = id := by omega
          have q := hL.at_ _ x y (by omega) hx hy
          rw [ein] at q
          have D := done_e (S := S) (es := es) (undo := d.undo) (a := a) (x := x) hi1 hi2 e5 ej (by omega) (by rw [er]; exact q.1) q.2.2.1
          rw [er] at D
          obtain ⟨o, cd, hE⟩ : ∃ o cd, ansE S es (if d.undo = true then 4 else 1) 0 5 id a = (o, cd) := ⟨_, _, rfl⟩
          rw [hE] at D
          simp only at D
          have hcd : cd = 2 ∨ cd = 3 ∨ cd = 5 := by
            rcases D with ⟨-, h, -⟩ | ⟨-, ⟨-, -, -, h⟩ | ⟨-, -, -, h⟩ | ⟨-, -, h⟩ | ⟨-, -, h⟩⟩ <;> simp [h]
          refine handleI_c T H I0 (fun h => by rw [hE] at h; simp only at h; omega) (fun _ q1 S1 w I1 c1 H => ?_)
          rw [hE] at I1 H
          simp only at I1
          replace H : Sh.Holds w0 ([(q1, .cells #[I cd, I S.node, I 0, I id, I 2, I 0, I 0] 30 (0, 0))] :: S1.hp :: [(k10, .cells #[I (if d.undo = true then 4 else 1), I 0, I 5, I id, I 2, I a, I 0] 30 (0, 0))] :: [(k9, .cells #[.bool d.crash, .bool d.undo, I d.id, I d.a, I d.torn] 57 (0, 0))] :: arr k1 st :: arr k2 mu :: hs) w := H
          rw [e5] at H
          refine asSl_h ?_
          rw [← c1.n]
          refine br_f rfl ?_
          refine slAt_b (by omega) (by omega) ?_
          apply ld_h 0 H rfl rfl; refine asI_h ?_
          refine br_f rfl ?_
          refine slAt_b (by omega) (by omega) ?_
          apply ld_h 0 H rfl rfl; refine asI_h ?_
          refine br_f rfl ?_
          refine slAt_b (by omega) (by omega) ?_
          apply ld_h 0 H rfl rfl; refine asI_h ?_
          refine br_f (by simp) ?_
          refine slAt_b (by omega) (by omega) ?_
          apply ld_h 0 H rfl rfl; refine asI_h ?_
          refine br_f rfl ?_
          refine arAt_h (by omega) (by omega) ?_
          refine ld_h (v := I x) 4 H rfl (by simp [hx]) ?_
          refine asI_h ?_
          have hlen : ((es ++ o.toList).length : Int) ≤ i + 1 := by
            rw [List.length_append]
            cases o <;> simp <;> omega
          refine ⟨fun _ w => MiP w0 S1.n k1 k2 k9 q1 hold hs (i + 1) id d w, ?_, ?_⟩
          · refine ldA H ?_; refine asBoo_h ?_
            refine br_s (fun h5 => ?_) (fun h5 => ?_)
            · rcases D with ⟨-, hc5, D⟩ | ⟨h6, -⟩
              · refine br_s (fun h7 => ?_) (fun h7 => ?_)
                · have hx2 : x ≠ 2 := by simpa using h7
                  refine arAt_h (by omega) (by omega) ?_
                  refine st_h 4 H rfl rfl (u := I x) (by simp [hx]) (fun w H => ?_)
                  replace H : Sh.Holds w0 ([(q1, .cells #[I cd, I 5, I 0, I id, I 2, I 0, I 0] 30 (0, 0))] :: S1.hp :: [(k10, .cells #[I (if d.undo = true then 4 else 1), I 0, I 5, I id, I 2, I a, I 0] 30 (0, 0))] :: [(k9, .cells #[.bool d.crash, .bool d.undo, I d.id, I d.a, I d.torn] 57 (0, 0))] :: [(k1, .cells ((st.map I).toArray.setIfInBounds id.toNat (I 3)) 45 (0, 0))] :: arr k2 mu :: hs) w := H
                  rw [arr_st] at H
                  refine slAt_b (by omega) (by omega) ?_
                  apply ld_h 0 H rfl rfl; refine asI_h ?_
                  refine br_f (by simp [hc5]) ?_
                  have L' : LInv (SA.run hold (es ++ o.toList)) hold (st.set id.toNat 3) (mu.set id.toNat y) := by
                    rcases D with ⟨hx3, rfl⟩ | ⟨hx3, rfl⟩
                    · simp only [Option.toList_some]
                      rw [SA.run_add]
                      have := hL.undid (j := id.toNat) (by omega) hx hy
                      rwa [ein] at this
                    · have hx4 : x = 3 := by omega
                      subst hx4
                      simp only [Option.toList_none, List.append_nil]
                      exact hL.same hx hy
                  rw [set_self hy] at L'
                  exact ⟨S1, _, _, _, cd, I1, rfl, c1.node.trans e5, c1.room.trans er, c1.jroom.trans ej, hlen, L', hcd, fun h => by rw [h5] at h; simp at h, H.re⟩
                · have hx2 : x = 2 := by simpa using h7
                  refine slAt_b (by omega) (by omega) ?_
                  apply ld_h 0 H rfl rfl; refine asI_h ?_
                  refine br_f (by simp [hc5]) ?_
                  have ho : o = none := by
                    rcases D with ⟨hx3, -⟩ | ⟨-, h⟩
                    · omega
                    · exact h
                  subst ho
                  simp only [Option.toList_none, List.append_nil] at I1 hlen
                  exact ⟨S1, _, _, _, cd, I1, rfl, c1.node.trans e5, c1.room.trans er, c1.jroom.trans ej, hlen, hL, hcd, fun h => by rw [h5] at h; simp at h, H.re⟩
              · rw [h5] at h6; simp at h6
            · rcases D with ⟨h6, -⟩ | ⟨-, D⟩
              · rw [h5] at h6; simp at h6
              · refine br_s (fun h7 => ?_) (fun h7 => ?_)
                · have hx0 : x = 0 := by simpa using h7
                  subst hx0
                  refine arAt_h (by omega) (by omega) ?_
                  refine st_h 4 H rfl rfl (u := I 0) (by simp [hx]) (fun w H => ?_)
                  refine arAt_h (by omega) (by omega) ?_
                  refine st_h 5 H rfl rfl (u := I y) (by simp [hy]) (fun w H => ?_)
                  replace H : Sh.Holds w0 ([(q1, .cells #[I cd, I 5, I 0, I id, I 2, I 0, I 0] 30 (0, 0))] :: S1.hp :: [(k10, .cells #[I (if d.undo = true then 4 else 1), I 0, I 5, I id, I 2, I a, I 0] 30 (0, 0))] :: [(k9, .cells #[.bool d.crash, .bool d.undo, I d.id, I d.a, I d.torn] 57 (0, 0))] :: [(k1, .cells ((st.map I).toArray.setIfInBounds id.toNat (I 2)) 45 (0, 0))] :: [(k2, .cells ((mu.map I).toArray.setIfInBounds id.toNat (I a)) 45 (0, 0))] :: hs) w := H
                  rw [arr_st, arr_st] at H
                  have hst : (st.set id.toNat 2)[id.toNat]? = some 2 := List.getElem?_set_self (by omega)
                  refine slAt_b (by omega) (by omega) ?_
                  apply ld_h 0 H rfl rfl; refine asI_h ?_
                  refine br_s (fun h8 => ?_) (fun h8 => ?_)
                  · have hc2 : cd = 2 := by simpa using h8
                    refine arAt_h (by omega) (by omega) ?_
                    refine st_h 4 H rfl rfl (u := I 2) (by rw [List.getElem?_toArray, List.getElem?_map, hst]; rfl) (fun w H => ?_)
                    replace H : Sh.Holds w0 ([(q1, .cells #[I cd, I 5, I 0, I id, I 2, I 0, I 0] 30 (0, 0))] :: S1.hp :: [(k10, .cells #[I (if d.undo = true then 4 else 1), I 0, I 5, I id, I 2, I a, I 0] 30 (0, 0))] :: [(k9, .cells #[.bool d.crash, .bool d.undo, I d.id, I d.a, I d.torn] 57 (0, 0))] :: [(k1, .cells (((st.set id.toNat 2).map I).toArray.setIfInBounds id.toNat (I 1)) 45 (0, 0))] :: arr k2 (mu.set id.toNat a) :: hs) w := H
                    rw [arr_st, List.set_set] at H
                    have L' : LInv (SA.run hold (es ++ o.toList)) hold (st.set id.toNat 1) (mu.set id.toNat a) := by
                      rcases D with ⟨-, ht, rfl, -⟩ | ⟨-, -, -, h⟩ | ⟨h, -⟩ | ⟨h, -⟩
                      · simp only [Option.toList_some]
                        rw [SA.run_add]
                        have := hL.did (j := id.toNat) (a := a) (by omega) hx hy (by rw [ein]; exact ht) ha1 (by omega)
                        rwa [ein] at this
                      · omega
                      · omega
                      · omega
                    exact ⟨S1, _, _, _, cd, I1, rfl, c1.node.trans e5, c1.room.trans er, c1.jroom.trans ej, hlen, L', hcd, fun _ => ⟨1, List.getElem?_set_self (by omega), by simp [hc2]⟩, H.re⟩
                  · have hc2 : cd ≠ 2 := by simpa using h8
                    have L' : LInv (SA.run hold (es ++ o.toList)) hold (st.set id.toNat 2) (mu.set id.toNat a) := by
                      rcases D with ⟨-, -, -, h⟩ | ⟨-, -, rfl, -⟩ | ⟨h, -⟩ | ⟨h, -⟩
                      · omega
                      · simp only [Option.toList_some]
                        rw [SA.run_add]
                        have := hL.cant (j := id.toNat) (a := a) (by omega) hx hy ha1 (by omega)
                        rwa [ein] at this
                      · omega
                      · omega
                    exact ⟨S1, _, _, _, cd, I1, rfl, c1.node.trans e5, c1.room.trans er, c1.jroom.trans ej, hlen, L', hcd, fun _ => ⟨2, hst, by simp [hc2]⟩, H.re⟩
                · have hx0 : x ≠ 0 := by simpa using h7
                  have ho : o = none ∧ (cd = 2 ↔ x = 1) := by
                    rcases D with ⟨h, -⟩ | ⟨h, -⟩ | ⟨h, ho, hc⟩ | ⟨h, ho, hc⟩
                    · omega
                    · omega
                    · exact ⟨ho, by omega⟩
                    · exact ⟨ho, by omega⟩
                  obtain ⟨rfl, hc⟩ := ho
                  simp only [Option.toList_none, List.append_nil] at I1 hlen
                  exact ⟨S1, _, _, _, cd, I1, rfl, c1.node.trans e5, c1.room.trans er, c1.jroom.trans ej, hlen, hL, hcd, fun _ => ⟨x, hx, hc⟩, H.re⟩
          · clear H D hE hcd hlen hx hy q hls hlm I1
            rintro ⟨b', u'⟩ w ⟨S2, es2, st2, mu2, cd2, I2, n2, e52, er2, ej2, el2, hL2, hcd2, hun, H⟩
            replace H : Sh.Holds w0 ([(q1, .cells #[I cd2, I 5, I 0, I id, I 2, I 0, I 0] 30 (0, 0))] :: [(k9, .cells #[.bool d.crash, .bool d.undo, I d.id, I d.a, I d.torn] 57 (0, 0))] :: S2.hp :: arr k1 st2 :: arr k2 mu2 :: hs) w.drew := H.drew
            have fin : LaP w0 S1.n k1 k2 hold hs (i + 1) w.drew := ⟨S2, es2, st2, mu2, I2, n2, e52, er2, ej2, el2, hL2, H.re⟩
            refine ldA H ?_; refine asBoo_h ?_
            refine br_s (fun h5 => ?_) (fun h5 => ?_)
            · obtain ⟨x, hx, hiff⟩ := hun (by simpa using h5)
              refine slAt_b (by omega) (by omega) ?_
              apply ld_h 0 H rfl rfl; refine asI_h ?_
              refine arAt_h (by omega) (by omega) ?_
              refine ld_h (v := I x) 3 H rfl (by simp [hx]) ?_
              refine asI_h ?_
              refine br_f (by rw [show (cd2 == 2) = (x == 1) by rw [Bool.eq_iff_iff]; simpa using hiff]; simp) ?_
              refine slAt_b (by omega) (by omega) ?_
              apply ld_h 0 H rfl rfl; refine asI_h ?_
              rcases hcd2 with rfl | rfl | rfl
              · refine br_f rfl ?_
                exact fin
              · refine br_t rfl ?_
                refine slAt_b (by omega) (by omega) ?_
                apply ld_h 0 H rfl rfl; refine asI_h ?_
                refine br_f rfl ?_
                exact fin
              · refine br_t rfl ?_
                refine slAt_b (by omega) (by omega) ?_
                apply ld_h 0 H rfl rfl; refine asI_h ?_
                refine br_t rfl ?_
                refine slAt_b (by omega) (by omega) ?_
                apply ld_h 0 H rfl rfl; refine asI_h ?_
                refine br_f rfl ?_
                exact fin
            · refine slAt_b (by omega) (by omega) ?_
              apply ld_h 0 H rfl rfl; refine asI_h ?_
              rcases hcd2 with rfl | rfl | rfl
              · refine br_f rfl ?_
                exact fin
              · refine br_t rfl ?_
                refine slAt_b (by omega) (by omega) ?_
                apply ld_h 0 H rfl rfl; refine asI_h ?_
                refine br_f rfl ?_
                exact fin
              · refine br_t rfl ?_
                refine slAt_b (by omega) (by omega) ?_
                apply ld_h 0 H rfl rfl; refine asI_h ?_
                refine br_t rfl ?_
                refine slAt_b (by omega) (by omega) ?_
                apply ld_h 0 H rfl rfl; refine asI_h ?_
                refine br_f rfl ?_
                exact fin
    · clear H I0 hL er e5 ej el
      generalize S.n = nn
      rintro ⟨b', u'⟩ w ⟨S, es, st, mu, I0, en, e5, er, ej, el, hL, H⟩
      subst en
      have hls := hL.ls
      have hlm := hL.lm
      have u := I0.up
      rw [er] at u
      refine ⟨fun y w => Sh.Holds w0 (S.hp :: arr k1 st :: arr k2 mu :: hs) w ∧ 1 ≤ y.1 ∧ y.1 ≤ 10 ∧ y.2.1 = hold - ddS (st.take y.1.toNat) (mu.take y.1.toNat), fun y _ => (10 - y.1).toNat, ⟨H, by simp, by simp, ?_⟩, ?_⟩
      · obtain ⟨y, hy⟩ : ∃ y, mu[0]? = some y := ⟨_, List.getElem?_eq_getElem (by omega)⟩
        have := ddS_take hL.z hy
        have d0 : dd 0 y = 0 := rfl
        have e0 : ddS (st.take 0) (mu.take 0) = 0 := rfl
        show hold = hold - ddS (st.take (0 + 1)) (mu.take (0 + 1))
        omega
      clear H
      rintro ⟨j, l, b2, u2⟩ w ⟨H, j0, j1, hl⟩
      simp only at j0 j1 hl
      have bd := ddS_b (st := st.take j.toNat) (mu := mu.take j.toNat) (fun y hy => hL.mub y (List.mem_of_mem_take hy))
      have bl : (mu.take j.toNat).length ≤ 10 := by rw [List.length_take]; omega
      refine br_s (fun h6 => ?_) (fun h6 => ?_)
      · simp only [decide_eq_true_eq] at h6
        obtain ⟨x, hx⟩ : ∃ x, st[j.toNat]? = some x := ⟨_, List.getElem?_eq_getElem (by omega)⟩
        obtain ⟨y, hy⟩ : ∃ y, mu[j.toNat]? = some y := ⟨_, List.getElem?_eq_getElem (by omega)⟩
        have ejn : ((j.toNat : Nat) : Int) = j := by omega
        have q := hL.at_ _ x y (by omega) hx hy
        rw [ejn] at q
        have hyb := hL.mub y (List.mem_of_getElem? hy)
        have ht := ddS_take hx hy
        have hj1 : (j + 1).toNat = j.toNat + 1 := by omega
        replace H := H.drew
        refine keepsA [arr k1 st] H ?_
        refine arAt_h (by omega) (by omega) ?_
        refine ldS_h (v := I x) 0 rfl (by simp [hx]) ?_
        refine asI_h ?_
        refine stateS_c (S := S) 0 H rfl (fun w H => ?_)
        refine asI_h ?_
        refine kpA H ?_
        refine br_f (by rw [u.s, q.1]; simp) ?_
        refine arAt_h (by omega) (by omega) ?_
        refine ld_h (v := I x) 1 H rfl (by simp [hx]) ?_
        refine asI_h ?_
        have w1 : IntKind.wrap .i64 (j + 1) = j + 1 := wrap64 (by omega) (by omega)
        refine br_s (fun h7 => ?_) (fun h7 => ?_)
        · have hx1 : x = 1 := by simpa using h7
          refine arAt_h (by omega) (by omega) ?_
          refine ld_h (v := I y) 2 H rfl (by simp [hy]) ?_
          refine asI_h ?_
          have w2 : IntKind.wrap .i64 (l - y) = l - y := wrap64 (by omega) (by omega)
          simp only [w1, w2]
          have d1 : dd x y = y := by rw [hx1]; rfl
          exact ⟨⟨H, by omega, by omega, by rw [hj1, ht]; omega⟩, by omega⟩
        · have hx1 : x ≠ 1 := by simpa using h7
          simp only [w1]
          have d1 : dd x y = 0 := by unfold dd; rw [if_neg hx1]
          exact ⟨⟨H, by omega, by omega, by rw [hj1, ht]; omega⟩, by omega⟩
      · simp only [decide_eq_false_iff_not] at h6
        have ejs : j.toNat = st.length := by omega
        have ejm : j.toNat = mu.length := by omega
        have hl2 : l = hold - ddS st mu := by
          rw [hl]
          conv => lhs; rw [show st.take j.toNat = st by rw [ejs, List.take_length], show mu.take j.toNat = mu by rw [ejm, List.take_length]]
        have hA := hL.left
        have hG := hL.ge
        refine leftS_c (S := S) 0 H rfl (fun w H => ?_)
        refine asI_h ?_
        rw [u.left]
        refine br_f (by rw [hA, hl2]; simp) ?_
        refine br_f (by simp; omega) ?_
        have w1 : IntKind.wrap .i64 (i + 1) = i + 1 := wrap64 (by omega) (by omega)
        simp only [w1]
        exact ⟨⟨⟨S, es, st, mu, I0, rfl, e5, er, ej, el, hL, H⟩, by omega, by omega⟩, by omega⟩
  · refine awakeV_c T H (fun w H => ?_)
    refine asBoo_h ?_
    exact k _ H.tail.tail.tail
end Go.Proofs.YtjckakeolmbidaaDoor
