/- What law20's KeeperLasts computes: true. Conditions: none. -/
import Derived.Test.YtcfmnoimehcfnaaGreatDoorKLb
set_option linter.unusedVariables false
set_option linter.unusedSimpArgs false
set_option maxRecDepth 100000
namespace Go.Proofs.YtcfmnoimehcfnaaGreatDoor
open Go Go.Sh

/-- behind a call -/
structure PostK (g id q : Int) (es es' : List KE) (mu : Int → Int) (S S' : Kp) : Prop where
  is : KpIs S' es' false
  c : KpC S S'
  len : es'.length ≤ es.length + 1
  inv : KInv (KA.run g es') (fun x => if x = id ∧ (KA.run g es).s id = 0 ∧ (KA.run g es').s id = 1 then q else mu x) g
  st : ∀ x, stepOk ((KA.run g es).s x) ((KA.run g es').s x)
theorem post_same {g id q : Int} {es : List KE} {mu : Int → Int} {S S' : Kp} (h : KInv (KA.run g es) mu g) (is : KpIs S' es false) (c : KpC S S') : PostK g id q es es mu S S' := by
  refine ⟨is, c, by omega, ?_, fun x => .inl rfl⟩
  have e : (fun x => if x = id ∧ (KA.run g es).s id = 0 ∧ (KA.run g es).s id = 1 then q else mu x) = mu := by
    funext x; rw [if_neg (by omega)]
  rw [e]; exact h
theorem post_step {g id q : Int} {es : List KE} {mu : Int → Int} {S S' : Kp} {o : Option KE} (h : KInv (KA.run g es) mu g) (is : KpIs S' (es ++ o.toList) false) (c : KpC S S') (h1 : 1 ≤ id) (h9 : id ≤ 9) (hq : 0 ≤ q ∧ q ≤ 2000)
    (ho : ∀ e, o = some e → e.id = id ∧ goK ((KA.run g es).s id) e.st ∧ (e.st = 1 → e.ns.getD 1 0 = q ∧ (KA.run g es).B.resv id q = 0)) : PostK g id q es (es ++ o.toList) mu S S' := by
  cases o with
  | none =>
    simp only [Option.toList_none, List.append_nil] at is ⊢
    exact post_same h is c
  | some e =>
    obtain ⟨a1, a2, a3⟩ := ho e rfl
    simp only [Option.toList_some] at is ⊢
    have ee : e = ⟨e.st, id, e.ns⟩ := by obtain ⟨s, i, n⟩ := e; simp only at a1; rw [a1]
    have hs := h.step h1 h9 a2 a3 hq
    have est : ∀ x, (KA.run g (es ++ [e])).s x = if x = id then e.st else (KA.run g es).s x := fun x => by
      rw [KA.run_add]
      show (if x = e.id then e.st else _) = _
      rw [a1]
    refine ⟨is, c, by simp, ?_, fun x => ?_⟩
    · have e2 : (fun x => if x = id ∧ (KA.run g es).s id = 0 ∧ (KA.run g (es ++ [e])).s id = 1 then q else mu x) = (fun x => if x = id ∧ (KA.run g es).s id = 0 ∧ e.st = 1 then q else mu x) := by
        funext x; rw [est id, if_pos rfl]
      rw [e2, KA.run_add]
      rw [← ee] at hs
      exact hs
    · rw [est]
      split
      · rename_i hx; rw [hx]; exact .inr a2
      · exact .inl rfl
def muOk (mus : List Int) (mu : Int → Int) : Prop := mus.length = 10 ∧ ∀ i : Int, 0 ≤ i → i < 10 → mus[i.toNat]? = some (mu i)
structure WayI (W : Nat → List Int) (s : Int → Int) (n : Nat) : Prop where
  ok : ∀ j : Nat, j < 10 → wayOk (0 :: W j)
  last : ∀ j : Nat, 1 ≤ j → j < 10 → (0 :: W j).getLast? = some (s j)
  len : ∀ j : Nat, (W j).length ≤ n
def OnK (w0 : World) (nn k13 k15 : Nat) (g : Int) (i : Int) (hs : List Hp) (w : World) : Prop := ∃ (S : Kp) (es : List KE) (mu : Int → Int) (mus : List Int) (rs : List Row) (W : Nat → List Int), KpIs S es false ∧ S.n = nn ∧ S.g = g ∧ S.J.room = 4096 ∧ (es.length : Int) ≤ i ∧
  KInv (KA.run g es) mu g ∧ muOk mus mu ∧ Ways rs W ∧ WayI W (KA.run g es).s i.toNat ∧ Sh.Holds w0 (S.hp :: wcell k13 rs :: wrows rs :: [(k15, .cells (mus.map I).toArray 88 (0, 0))] :: hs) w
theorem muOk.put {mus : List Int} {mu : Int → Int} (h : muOk mus mu) {j q : Int} (h0 : 0 ≤ j) (h1 : j < 10) : muOk (mus.set j.toNat q) (fun x => if x = j then q else mu x) := by
  refine ⟨by rw [List.length_set]; exact h.1, fun i g0 g1 => ?_⟩
  rw [List.getElem?_set]
  have hl := h.1
  split
  · rename_i e
    have : i = j := by omega
    subst this
    rw [if_pos (by omega)]
    simp
  · rename_i e
    have : i ≠ j := by omega
    simp only [if_neg this]; exact h.2 i g0 g1
theorem muOk.ext {l : List Int} {f g : Int → Int} (h : muOk l f) (e : ∀ x, g x = f x) : muOk l g := ⟨h.1, fun i h0 h1 => by rw [h.2 i h0 h1, e]⟩
theorem sumT_to {f : Int → Int} {k : Int} (h1 : 1 ≤ k) : sumT f (k + 1 - 1).toNat = sumT f (k - 1).toNat + f k := by
  rw [show (k + 1 - 1).toNat = (k - 1).toNat + 1 by omega]
  simp only [sumT]
  rw [show (((k - 1).toNat : Int) + 1) = k by omega]
theorem fr_bd {s m : Int} (h : 0 ≤ m ∧ m ≤ 2000) : 0 ≤ frM s m ∧ frM s m ≤ 2000 := by unfold frM; split <;> omega
theorem on_bd {s m : Int} (h : 0 ≤ m ∧ m ≤ 2000) : 0 ≤ onM s m ∧ onM s m ≤ 2000 := by unfold onM; split <;> omega
section
variable {w0 w : World} {hs R : List Hp} {K : KV}
set_option maxHeartbeats 8000000 in
theorem KeeperLasts_c {p : Option Addr} {n c : Nat} {qs : List Kc} {x0 : Int} (E : Errs w0) (T : Tab w0) (H : Sh.Holds w0 hs w) (hsl : Sl (Sh.Holds w0 hs) p n 11 (qs.flatMap Kc.cells)) (k : ∀ w', Sh.Holds w0 hs w' → K (.bool true) w') : gocall Tryz.prog 8 [I x0, .slice p n c] K w := by
  apply F8_go; unfold F8
  refine ⟨by decide, ?_⟩
  obtain ⟨g, g0, g1, eg⟩ : ∃ g : Int, 0 ≤ g ∧ g ≤ 9999 ∧ IntKind.i64.wrap ((IntKind.u64.wrap x0).tmod 10000) = g := by
    obtain ⟨m, h0, h1, e⟩ := idx_bare x0 (n := 10000) (by omega) (by omega)
    have e : (IntKind.u64.wrap x0).tmod 10000 = m := e
    exact ⟨m, h0, by omega, by rw [e]; exact wrap64 (by omega) (by omega)⟩
  rw [eg]
  clear eg
  refine nw_h H (fun k5 w H => ?_)
  refine newK_c (g := g) 0 H rfl (fun S w I0 hg hroom H => ?_)
  refine asPtr_h ?_
  refine br_f rfl ?_
  refine nw_h H (fun k13 w H => ?_)
  refine nw_h H (fun k15 w H => ?_)
  have O0 : OnK w0 S.n k13 k15 g 0 hs w := by
    refine ⟨S, [], fun _ => 0, List.replicate 10 0, List.replicate 10 Row.nil, fun _ => [], I0, rfl, hg, by rw [hroom]; decide, by simp, KInv.zero g0 g1, ⟨rfl, fun i h0 h1 => ?_⟩, ⟨rfl, fun i r hr => ?_⟩, ⟨fun j hj => ?_, fun j h1 h2 => rfl, fun j => by simp⟩, ?_⟩
    · rw [List.getElem?_replicate, if_pos (by omega)]
    · rw [List.getElem?_replicate] at hr
      split at hr
      · cases hr; exact Row.nil_ok 1
      · cases hr
    · intro i a b ha hb
      have := (List.getElem?_eq_some_iff.1 hb).1
      simp at this
    · have H2 : Sh.Holds w0 (S.hp :: wcell k13 (List.replicate 10 Row.nil) :: [(k15, .cells ((List.replicate 10 (0 : Int)).map I).toArray 88 (0, 0))] :: hs) w := Holds.re (b := [(k15, .cells ((List.replicate 10 (0 : Int)).map I).toArray 88 (0, 0))] :: wcell k13 (List.replicate 10 Row.nil) :: S.hp :: [(k5, .cells #[I g] 3 (0, 0))] :: hs) H
      exact H2.perm (by simp [wrows, Row.hp, Row.nil, List.replicate])
  clear H I0 hg hroom
  generalize S.n = nn at O0 ⊢
  refine ⟨fun _ w => ∃ (rs : List Row) (W : Nat → List Int), Ways rs W ∧ (∀ j : Nat, j < 10 → wayOk (0 :: W j)) ∧ (∀ j : Nat, (W j).length ≤ 100) ∧ Sh.Holds w0 (wcell k13 rs :: wrows rs :: hs) w, ?_, ?_⟩
  · refine ⟨fun y w => OnK w0 nn k13 k15 g y.1 hs w ∧ 0 ≤ y.1 ∧ y.1 ≤ 80, fun y _ => (80 - y.1).toNat, ⟨O0, by simp, by simp⟩, ?_⟩
    clear O0
    rintro ⟨i, bx, u⟩ w ⟨⟨S, es, mu, mus, rs, W, I0, en, eg, er, hel, hK, hmu, hW, hWI, H⟩, h0, h1⟩
    simp only at h0 h1 hel hWI
    subst en
    have done : ∀ {w}, Sh.Holds w0 (wcell k13 rs :: wrows rs :: hs) w → ∃ (rs : List Row) (W : Nat → List Int), Ways rs W ∧ (∀ j : Nat, j < 10 → wayOk (0 :: W j)) ∧ (∀ j : Nat, (W j).length ≤ 100) ∧ Sh.Holds w0 (wcell k13 rs :: wrows rs :: hs) w := fun H => ⟨rs, W, hW, hWI.ok, fun j => by have := hWI.len j; omega, H⟩
    refine br_s (fun h2 => ?_) (fun h2 => done (Holds.re H))
    have h2 : i < (n : Int) := of_decide_eq_true h2
    refine slAt_f (fun d => rfl) (by omega) hsl h0 h2 (fun bb o q hld => ?_)
    have H' := H.tail.tail.tail.tail
    refine hld 0 (I q.d) _ _ (by omega) rfl H' ?_; refine asI_h ?_
    refine hld 1 (I q.s) _ _ (by omega) rfl H' ?_; refine asI_h ?_
    refine hld 2 (I q.t) _ _ (by omega) rfl H' ?_; refine asI_h ?_
    refine hld 3 (.bool q.y) _ _ (by omega) rfl H' ?_; refine asBoo_h ?_
    refine hld 4 (I q.k) _ _ (by omega) rfl H' ?_; refine asI_h ?_
    refine hld 5 (I q.f) _ _ (by omega) rfl H' ?_; refine asI_h ?_
    refine hld 6 (I q.o) _ _ (by omega) rfl H' ?_; refine asI_h ?_
    refine hld 7 (I q.i) _ _ (by omega) rfl H' ?_; refine asI_h ?_
    refine hld 8 (I q.p) _ _ (by omega) rfl H' ?_; refine asI_h ?_
    refine hld 9 (I q.a) _ _ (by omega) rfl H' ?_; refine asI_h ?_
    refine hld 10 (I q.b) _ _ (by omega) rfl H' ?_; refine asI_h ?_
    clear H' hld
    refine nw_h H (fun k69 w H => ?_)
    iterate 11 refine stA H rfl (fun w H => ?_)
    replace H : Sh.Holds w0 ([(k69, .cells #[I q.d, I q.s, I q.t, .bool q.y, I q.k, I q.f, I q.o, I q.i, I q.p, I q.a, I q.b] 90 (0, 0))] :: S.hp :: wcell k13 rs :: wrows rs :: [(k15, .cells (mus.map I).toArray 88 (0, 0))] :: hs) w := H
    refine br_s (fun h3 => done (Holds.re H)) (fun h3 => ?_)
    have h3 : i < 80 := by have := of_decide_eq_false h3; omega
    refine ldA H ?_; refine asI_h ?_
    refine ⟨by decide, ?_⟩
    obtain ⟨id, i1, i9, eid⟩ := idx_up q.i (n := 9) (by omega) (by omega)
    have eid : IntKind.i64.wrap (1 + IntKind.i64.wrap ((IntKind.u64.wrap q.i).tmod 9)) = id := eid
    obtain ⟨m, m1, m2, em⟩ := idx_up q.b (n := 2000) (by omega) (by omega)
    have em : IntKind.i64.wrap (1 + IntKind.i64.wrap ((IntKind.u64.wrap q.b).tmod 2000)) = m := em
    rw [eid]
    iterate 7 (refine ldA H ?_; refine asI_h ?_)
    refine nw_h H (fun k117 w H => ?_)
    replace H : Sh.Holds w0 ([(k117, .cells #[I 0, I 0, I 0, I 0, I 0, I 0, I 0] 35 (0, 0))] :: [(k69, .cells #[I q.d, I q.s, I q.t, .bool q.y, I q.k, I q.f, I q.o, I q.i, I q.p, I q.a, I q.b] 90 (0, 0))] :: S.hp :: wcell k13 rs :: wrows rs :: [(k15, .cells (mus.map I).toArray 88 (0, 0))] :: hs) w := H
    iterate 7 refine stA H rfl (fun w H => ?_)
    refine ⟨fun _ w => Sh.Holds w0 ([(k117, .cells #[I q.k, I q.f, I 1, I id, I q.p, I 0, I m] 35 (0, 0))] :: [(k69, .cells #[I q.d, I q.s, I q.t, .bool q.y, I q.k, I q.f, I q.o, I q.i, I q.p, I q.a, I q.b] 90 (0, 0))] :: S.hp :: wcell k13 rs :: wrows rs :: [(k15, .cells (mus.map I).toArray 88 (0, 0))] :: hs) w, ?_, ?_⟩
    · replace H := H.drew
      refine keepsA [[(k69, .cells #[I q.d, I q.s, I q.t, .bool q.y, I q.k, I q.f, I q.o, I q.i, I q.p, I q.a, I q.b] 90 (0, 0))]] H ?_
      refine ldSA ?_; refine asI_h ?_
      rw [em]
      repeat' first
        | assumption
        | (with_reducible refine both_h ?_ ?_)
        | (with_reducible refine kpA (by assumption) ?_)
        | (with_reducible refine stA (by assumption) rfl fun _ _ => ?_)
        | (refine ⟨by decide, ?_⟩)
    · clear H
      intro _ w H
      have u0 := I0.up
      rw [eg] at u0
      refine stateK_c (S := S) (x := id) H I0.ok (fun w H => ?_)
      refine asI_h ?_
      rw [u0.s]
      refine ⟨fun y w => ∃ (S' : Kp) (es' : List KE), PostK g id m es es' mu S S' ∧ Sh.Holds w0 ([(k117, .cells #[I q.k, I q.f, I 1, I id, I q.p, I 0, I m] 35 (0, 0))] :: [(k69, .cells #[I q.d, I q.s, I q.t, .bool q.y, I q.k, I q.f, I q.o, I q.i, I q.p, I q.a, I q.b] 90 (0, 0))] :: S'.hp :: wcell k13 rs :: wrows rs :: [(k15, .cells (mus.map I).toArray 88 (0, 0))] :: hs) w, ?_, ?_⟩
      · refine ldA H ?_; refine asI_h ?_
        have crash : ∀ {w : World} {A : List Hp} {X : World → Prop} [Re (S.hp :: [(k117, .cells #[I q.k, I q.f, I 1, I id, I q.p, I 0, I m] 35 (0, 0))] :: [(k69, .cells #[I q.d, I q.s, I q.t, .bool q.y, I q.k, I q.f, I q.o, I q.i, I q.p, I q.a, I q.b] 90 (0, 0))] :: wcell k13 rs :: wrows rs :: [(k15, .cells (mus.map I).toArray 88 (0, 0))] :: hs) A], Sh.Holds w0 A w → (∀ w, (∃ (S' : Kp) (es' : List KE), PostK g id m es es' mu S S' ∧ Sh.Holds w0 ([(k117, .cells #[I q.k, I q.f, I 1, I id, I q.p, I 0, I m] 35 (0, 0))] :: [(k69, .cells #[I q.d, I q.s, I q.t, .bool q.y, I q.k, I q.f, I q.o, I q.i, I q.p, I q.a, I q.b] 90 (0, 0))] :: S'.hp :: wcell k13 rs :: wrows rs :: [(k15, .cells (mus.map I).toArray 88 (0, 0))] :: hs) w) → X w) →
            gocall Tryz.prog 58 [S.v, I q.s, I q.t] (fun v w => asT 0 v (fun _ w => gocall Tryz.prog 59 [S.v] (fun v w => asT 0 v (fun _ w => X w) w) w) w) w := by
          intro w A X _ H hX
          have H2 : Sh.Holds w0 (S.hp :: [(k117, .cells #[I q.k, I q.f, I 1, I id, I q.p, I 0, I m] 35 (0, 0))] :: [(k69, .cells #[I q.d, I q.s, I q.t, .bool q.y, I q.k, I q.f, I q.o, I q.i, I q.p, I q.a, I q.b] 90 (0, 0))] :: wcell k13 rs :: wrows rs :: [(k15, .cells (mus.map I).toArray 88 (0, 0))] :: hs) w := Holds.re H
          refine crashK_c H2 I0 (fun S1 w I1 c1 H => ?_)
          refine asT_e [] rfl rfl ?_
          have en : S.v = S1.v := by rw [Kp.v, Kp.v, c1.n]
          rw [en]
          refine startK_c E T H I1 (fun S2 w I2 c2 H => ?_)
          refine asT_e [] rfl rfl ?_
          exact hX _ ⟨S2, es, post_same hK I2 ⟨c2.n.trans c1.n, c2.room.trans c1.room, c2.g.trans c1.g⟩, Holds.re H⟩
        refine br_s (fun h4 => ?_) (fun h4 => ?_)
        · refine ldA H ?_; refine asI_h ?_
          refine ldA H ?_; refine asI_h ?_
          exact crash H (fun w h => h)
        refine br_s (fun h5 => ?_) (fun h5 => ?_)
        · refine ldA H ?_; refine asI_h ?_
          refine ldA H ?_; refine asI_h ?_
          exact crash H (fun w h => h)
        refine br_s (fun h6 => ?_) (fun h6 => ?_)
        · refine ringK_c H I0 (fun p n c w H => ?_)
          refine asSl_h ?_
          exact ⟨S, es, post_same hK I0 (.rfl' S), Holds.re H⟩
        refine br_s (fun h7 => ?_) (fun h7 => ?_)
        · refine ldA H ?_; refine asBoo_h ?_
          refine forceK_c T H I0 (fun S1 w I1 c1 H => ?_)
          refine asI_h ?_
          rw [eg] at I1 ⊢
          refine br_f ?_ ?_
          · rw [forceE_ans i1 (by omega) (hK.st id) (by rw [er]; omega)]; simp
          · refine ⟨S1, _, post_step hK I1 c1 i1 (by omega) (by omega) (fun e he => ?_), Holds.re H⟩
            obtain ⟨a1, a2, a3, -⟩ := forceE_go he
            exact ⟨a1, a2, fun h => absurd h a3⟩
        · iterate 7 (refine ldA H ?_; refine asI_h ?_)
          have fin : ∀ {S1 : Kp}, KpIs S1 (es ++ (ansK (KA.run S.g es) es.length S.J.room q.k q.f 1 id 0 m).1.toList) false → KpC S S1 → PostK g id m es (es ++ (ansK (KA.run S.g es) es.length S.J.room q.k q.f 1 id 0 m).1.toList) mu S S1 := fun {S1} I1 c1 => by
            refine post_step hK I1 c1 i1 (by omega) (by omega) (fun e he => ?_)
            rw [eg] at he
            obtain ⟨a1, a2, a3⟩ := ansK_go hK.st he
            refine ⟨a1, a2, fun h => ?_⟩
            obtain ⟨b1, b2⟩ := a3 h
            rw [b1]
            exact ⟨rfl, b2⟩
          refine handleK_c T H I0 (fun _ => rfl) (fun _ S1 w I1 c1 H => ?_) (fun _ q1 S1 w I1 c1 H => ?_)
          · refine asSl_h ?_
            exact ⟨S1, _, fin I1 c1, Holds.re H⟩
          · refine asSl_h ?_
            exact ⟨S1, _, fin I1 c1, Holds.re H⟩
      · clear H
        rintro ⟨bx', u'⟩ w ⟨S1, es1, P1, H⟩
        have eg1 : S1.g = g := P1.c.g.trans eg
        have u1 := P1.is.up
        rw [eg1] at u1
        rw [show S.n = S1.n from P1.c.n.symm]
        obtain ⟨mu1, hmu1⟩ : ∃ mu1 : Int → Int, mu1 = fun x => if x = id ∧ (KA.run g es).s id = 0 ∧ (KA.run g es1).s id = 1 then m else mu x := ⟨_, rfl⟩
        have hK1 := P1.inv
        rw [← hmu1] at hK1
        refine ⟨fun _ w => ∃ mus1 : List Int, muOk mus1 mu1 ∧ Sh.Holds w0 ([(k117, .cells #[I q.k, I q.f, I 1, I id, I q.p, I 0, I m] 35 (0, 0))] :: [(k69, .cells #[I q.d, I q.s, I q.t, .bool q.y, I q.k, I q.f, I q.o, I q.i, I q.p, I q.a, I q.b] 90 (0, 0))] :: S1.hp :: wcell k13 rs :: wrows rs :: [(k15, .cells (mus1.map I).toArray 88 (0, 0))] :: hs) w, ?_, ?_⟩
        · refine stateK_c (S := S1) (x := id) H P1.is.ok (fun w H => ?_)
          refine asI_h ?_
          rw [u1.s]
          have same : ¬ ((KA.run g es).s id = 0 ∧ (KA.run g es1).s id = 1) → muOk mus mu1 := fun h => hmu.ext (fun x => by rw [hmu1]; exact if_neg (fun g => h g.2))
          refine br_s (fun h4 => ?_) (fun h4 => ⟨mus, same (fun g => by rw [g.2] at h4; simp at h4), Holds.re H⟩)
          refine br_s (fun h5 => ?_) (fun h5 => ⟨mus, same (fun g => by rw [g.1] at h5; simp at h5), Holds.re H⟩)
          have h4 : (KA.run g es1).s id = 1 := by simpa using h4
          have h5 : (KA.run g es).s id = 0 := by simpa using h5
          refine ldA H ?_; refine asI_h ?_
          refine arAt_h (by omega) (by omega) ?_
          have H2 := H.get [(k15, .cells (mus.map I).toArray 88 (0, 0))]
          refine st_h 0 H2 rfl rfl (u := I (mu id)) (by simp [hmu.2 id (by omega) (by omega)]) (fun w H => ?_)
          have e1 : (mus.map I).toArray.setIfInBounds id.toNat (I m) = ((mus.set id.toNat m).map I).toArray := by simp
          have H3 : Sh.Holds w0 ([(k15, .cells ((mus.map I).toArray.setIfInBounds id.toNat (I m)) 88 (0, 0))] :: S1.hp :: [(k117, .cells #[I q.k, I q.f, I 1, I id, I q.p, I 0, I m] 35 (0, 0))] :: [(k69, .cells #[I q.d, I q.s, I q.t, .bool q.y, I q.k, I q.f, I q.o, I q.i, I q.p, I q.a, I q.b] 90 (0, 0))] :: wcell k13 rs :: wrows rs :: hs) w := H
          rw [e1] at H3
          refine ⟨mus.set id.toNat m, (hmu.put (j := id) (q := m) (by omega) (by omega)).ext (fun x => by rw [hmu1]; simp [h4, h5]), Holds.re H3⟩
        · clear H
          rintro _ w ⟨mus1, hmu2, H⟩
          obtain ⟨s1, hs1⟩ : ∃ s1 : Int → Int, s1 = (KA.run g es1).s := ⟨_, rfl⟩
          have hfb : ∀ k : Nat, 0 ≤ sumT (fun x => frM (s1 x) (mu1 x)) k ∧ sumT (fun x => frM (s1 x) (mu1 x)) k ≤ 2000 * k := sumT_bd (fun x => fr_bd (hK1.mu x))
          have hob : ∀ k : Nat, 0 ≤ sumT (fun x => onM (s1 x) (mu1 x)) k ∧ sumT (fun x => onM (s1 x) (mu1 x)) k ≤ 2000 * k := sumT_bd (fun x => on_bd (hK1.mu x))
          refine ⟨fun y w => 1 ≤ y.1 ∧ y.1 ≤ 10 ∧ y.2.1 = g - sumT (fun x => frM (s1 x) (mu1 x)) (y.1 - 1).toNat ∧ y.2.2.1 = g - sumT (fun x => onM (s1 x) (mu1 x)) (y.1 - 1).toNat ∧ ∃ rs1 : List Row, Ways rs1 (fun j => if 1 ≤ (j : Int) ∧ (j : Int) < y.1 then W j ++ [s1 j] else W j) ∧ Sh.Holds w0 ([(k117, .cells #[I q.k, I q.f, I 1, I id, I q.p, I 0, I m] 35 (0, 0))] :: [(k69, .cells #[I q.d, I q.s, I q.t, .bool q.y, I q.k, I q.f, I q.o, I q.i, I q.p, I q.a, I q.b] 90 (0, 0))] :: S1.hp :: wcell k13 rs1 :: wrows rs1 :: [(k15, .cells (mus1.map I).toArray 88 (0, 0))] :: hs) w, fun y _ => (10 - y.1).toNat, ⟨by simp, by simp, by simp [sumT], by simp [sumT], rs, ⟨hW.len, fun i r hr => by rw [if_neg (by omega)]; exact hW.ok i r hr⟩, H⟩, ?_⟩
          clear H
          rintro ⟨kk, fr, on, u''⟩ w ⟨k1, k10, hfr, hon, rs1, hW1, H⟩
          simp only at k1 k10 hfr hon hW1
          subst hfr hon
          refine br_s (fun h4 => ?_) (fun h4 => ?_)
          · have h4 : kk ≤ 9 := of_decide_eq_true h4
            have hwk : IntKind.wrap .i64 (kk + 1) = kk + 1 := wrap64 (by omega) (by omega)
            refine ⟨fun x w => x.1 = g - sumT (fun x => onM (s1 x) (mu1 x)) (kk + 1 - 1).toNat ∧ x.2.1 = g - sumT (fun x => frM (s1 x) (mu1 x)) (kk + 1 - 1).toNat ∧ ∃ rs1 : List Row, Ways rs1 (fun j => if 1 ≤ (j : Int) ∧ (j : Int) < kk + 1 then W j ++ [s1 j] else W j) ∧ Sh.Holds w0 ([(k117, .cells #[I q.k, I q.f, I 1, I id, I q.p, I 0, I m] 35 (0, 0))] :: [(k69, .cells #[I q.d, I q.s, I q.t, .bool q.y, I q.k, I q.f, I q.o, I q.i, I q.p, I q.a, I q.b] 90 (0, 0))] :: S1.hp :: wcell k13 rs1 :: wrows rs1 :: [(k15, .cells (mus1.map I).toArray 88 (0, 0))] :: hs) w, ?_, ?_⟩
            · refine stateK_c (S := S1) (x := kk) H P1.is.ok (fun w H => ?_)
              refine asI_h ?_
              rw [u1.s, ← hs1]
              refine arAt_h (by omega) (by omega) ?_
              have hl1 := hW1.len
              obtain ⟨r, hr⟩ : ∃ r, rs1[kk.toNat]? = some r := ⟨_, List.getElem?_eq_getElem (by omega)⟩
              have okr := hW1.ok _ _ hr
              rw [if_neg (by omega)] at okr
              have H2 : Sh.Holds w0 (wcell k13 rs1 :: wrows rs1 :: S1.hp :: [(k117, .cells #[I q.k, I q.f, I 1, I id, I q.p, I 0, I m] 35 (0, 0))] :: [(k69, .cells #[I q.d, I q.s, I q.t, .bool q.y, I q.k, I q.f, I q.o, I q.i, I q.p, I q.a, I q.b] 90 (0, 0))] :: [(k15, .cells (mus1.map I).toArray 88 (0, 0))] :: hs) w := Holds.re H
              refine ld_h (v := r.v) 0 H2 rfl (by simp [hr]) ?_
              refine asSl_h ?_
              refine nw_h H2 (fun k359 w H => ?_)
              have H3 : Sh.Holds w0 (r.hp 3 :: wrows (rs1.eraseIdx kk.toNat) :: [(k359, .cells #[I (s1 kk)] 3 (0, 0))] :: wcell k13 rs1 :: S1.hp :: [(k117, .cells #[I q.k, I q.f, I 1, I id, I q.p, I 0, I m] 35 (0, 0))] :: [(k69, .cells #[I q.d, I q.s, I q.t, .bool q.y, I q.k, I q.f, I q.o, I q.i, I q.p, I q.a, I q.b] 90 (0, 0))] :: [(k15, .cells (mus1.map I).toArray 88 (0, 0))] :: hs) w := rows_out hr (Holds.re (b := [(k359, .cells #[I (s1 kk)] 3 (0, 0))] :: wcell k13 rs1 :: wrows rs1 :: S1.hp :: [(k117, .cells #[I q.k, I q.f, I 1, I id, I q.p, I 0, I m] 35 (0, 0))] :: [(k69, .cells #[I q.d, I q.s, I q.t, .bool q.y, I q.k, I q.f, I q.o, I q.i, I q.p, I q.a, I q.b] 90 (0, 0))] :: [(k15, .cells (mus1.map I).toArray 88 (0, 0))] :: hs) H)
              have hwl := hWI.len kk.toNat
              have hrn : r.n = (W kk.toNat).length := by have := okr.len; simp at this; omega
              refine bapp1_h (news := [I (s1 kk)]) el32 1 (H := H3) rfl okr rfl (by simp [Value.oneCell']) (by omega) (by unfold maxLen; omega) (fun r' w hr1 hr2 H => ?_)
              refine asSl_h ?_
              refine arAt_h (by omega) (by omega) ?_
              have H4 : Sh.Holds w0 (wcell k13 rs1 :: r'.hp 3 :: wrows (rs1.eraseIdx kk.toNat) :: S1.hp :: [(k117, .cells #[I q.k, I q.f, I 1, I id, I q.p, I 0, I m] 35 (0, 0))] :: [(k69, .cells #[I q.d, I q.s, I q.t, .bool q.y, I q.k, I q.f, I q.o, I q.i, I q.p, I q.a, I q.b] 90 (0, 0))] :: [(k15, .cells (mus1.map I).toArray 88 (0, 0))] :: hs) w := Holds.re H
              refine st_h 0 H4 rfl rfl (u := r.v) (by simp [hr]) (fun w H => ?_)
              have e1 : (rs1.map Row.v).toArray.setIfInBounds kk.toNat r'.v = ((rs1.set kk.toNat r').map Row.v).toArray := by simp
              have H5 : Sh.Holds w0 ([(k13, .cells ((rs1.map Row.v).toArray.setIfInBounds kk.toNat r'.v) 87 (0, 0))] :: r'.hp 3 :: wrows (rs1.eraseIdx kk.toNat) :: S1.hp :: [(k117, .cells #[I q.k, I q.f, I 1, I id, I q.p, I 0, I m] 35 (0, 0))] :: [(k69, .cells #[I q.d, I q.s, I q.t, .bool q.y, I q.k, I q.f, I q.o, I q.i, I q.p, I q.a, I q.b] 90 (0, 0))] :: [(k15, .cells (mus1.map I).toArray 88 (0, 0))] :: hs) w := H
              rw [e1] at H5
              have H6 : Sh.Holds w0 (wrows (rs1.set kk.toNat r') :: wcell k13 (rs1.set kk.toNat r') :: S1.hp :: [(k117, .cells #[I q.k, I q.f, I 1, I id, I q.p, I 0, I m] 35 (0, 0))] :: [(k69, .cells #[I q.d, I q.s, I q.t, .bool q.y, I q.k, I q.f, I q.o, I q.i, I q.p, I q.a, I q.b] 90 (0, 0))] :: [(k15, .cells (mus1.map I).toArray 88 (0, 0))] :: hs) w := rows_in (by omega) (Holds.re (b := wcell k13 (rs1.set kk.toNat r') :: r'.hp 3 :: wrows (rs1.eraseIdx kk.toNat) :: S1.hp :: [(k117, .cells #[I q.k, I q.f, I 1, I id, I q.p, I 0, I m] 35 (0, 0))] :: [(k69, .cells #[I q.d, I q.s, I q.t, .bool q.y, I q.k, I q.f, I q.o, I q.i, I q.p, I q.a, I q.b] 90 (0, 0))] :: [(k15, .cells (mus1.map I).toArray 88 (0, 0))] :: hs) H5)
              have hW2 : Ways (rs1.set kk.toNat r') (fun j => if 1 ≤ (j : Int) ∧ (j : Int) < kk + 1 then W j ++ [s1 j] else W j) := by
                refine ⟨by rw [List.length_set]; exact hl1, fun j y hy => ?_⟩
                rw [List.getElem?_set] at hy
                split at hy
                · rename_i e
                  rw [if_pos (by omega)] at hy
                  cases hy
                  have ej : (j : Int) = kk := by omega
                  rw [if_pos (by omega), ← e, List.map_append]
                  rw [show ((kk.toNat : Nat) : Int) = kk by omega]
                  exact hr2
                · rename_i e
                  have := hW1.ok j y hy
                  by_cases hj : 1 ≤ (j : Int) ∧ (j : Int) < kk
                  · rw [if_pos hj] at this
                    rw [if_pos (by omega)]; exact this
                  · rw [if_neg hj] at this
                    rw [if_neg (by omega)]; exact this
              clear H H2 H3 H4 H5
              have ef := sumT_to (f := fun x => frM (s1 x) (mu1 x)) k1
              have eo := sumT_to (f := fun x => onM (s1 x) (mu1 x)) k1
              have b1 := hfb (kk - 1).toNat
              have b2 := hob (kk - 1).toNat
              have bm := hK1.mu kk
              have hmk := hmu2.2 kk (by omega) (by omega)
              have H7 := H6.get [(k15, .cells (mus1.map I).toArray 88 (0, 0))]
              have rd : ∀ {K' : KV}, K' (I (mu1 kk)) w → ld ⟨k15, kk.toNat, none⟩ K' w := fun hK' => ld_h (v := I (mu1 kk)) 0 H7 rfl (by simp [hmk]) hK'
              -- what is left on hand, then what is free
              refine ⟨fun x w' => w' = w ∧ x.1 = g - sumT (fun x => onM (s1 x) (mu1 x)) (kk + 1 - 1).toNat, ?_, ?_⟩
              · have wsub : ∀ {z : Int}, -100000 ≤ z → z ≤ 100000 → IntKind.wrap .i64 (z - mu1 kk) = z - mu1 kk := fun h1 h2 => wrap64 (by omega) (by omega)
                refine br_s (fun h5 => ?_) (fun h5 => ?_)
                · have h5 : s1 kk = 2 := by simpa using h5
                  refine arAt_h (by omega) (by omega) ?_
                  refine rd ?_
                  refine asI_h ?_
                  rw [wsub (by simp only; omega) (by simp only; omega)]
                  refine ⟨rfl, ?_⟩
                  rw [eo]; simp only [onM, h5]; simp; omega
                refine br_s (fun h6 => ?_) (fun h6 => ?_)
                · have h6 : s1 kk = 4 := by simpa using h6
                  refine arAt_h (by omega) (by omega) ?_
                  refine rd ?_
                  refine asI_h ?_
                  rw [wsub (by simp only; omega) (by simp only; omega)]
                  refine ⟨rfl, ?_⟩
                  rw [eo]; simp only [onM, h6]; simp; omega
                · refine ⟨rfl, ?_⟩
                  have h5 : s1 kk ≠ 2 := by simpa using h5
                  have h6 : s1 kk ≠ 4 := by simpa using h6
                  rw [eo]; simp only [onM]; rw [if_neg (by omega)]; omega
              · rintro ⟨x, ux⟩ w' ⟨rfl, hx⟩
                simp only at hx
                have wsub : ∀ {z : Int}, -100000 ≤ z → z ≤ 100000 → IntKind.wrap .i64 (z - mu1 kk) = z - mu1 kk := fun h1 h2 => wrap64 (by omega) (by omega)
                have last : ∀ {z : Int}, z = g - sumT (fun x => frM (s1 x) (mu1 x)) (kk + 1 - 1).toNat → (x = g - sumT (fun x => onM (s1 x) (mu1 x)) (kk + 1 - 1).toNat ∧ z = g - sumT (fun x => frM (s1 x) (mu1 x)) (kk + 1 - 1).toNat ∧ ∃ rs1 : List Row, Ways rs1 (fun j => if 1 ≤ (j : Int) ∧ (j : Int) < kk + 1 then W j ++ [s1 j] else W j) ∧ Sh.Holds w0 ([(k117, .cells #[I q.k, I q.f, I 1, I id, I q.p, I 0, I m] 35 (0, 0))] :: [(k69, .cells #[I q.d, I q.s, I q.t, .bool q.y, I q.k, I q.f, I q.o, I q.i, I q.p, I q.a, I q.b] 90 (0, 0))] :: S1.hp :: wcell k13 rs1 :: wrows rs1 :: [(k15, .cells (mus1.map I).toArray 88 (0, 0))] :: hs) w') := fun hz => ⟨hx, hz, _, hW2, Holds.re H6⟩
                refine br_s (fun h5 => ?_) (fun h5 => ?_)
                · have h5 : s1 kk = 2 := by simpa using h5
                  refine arAt_h (by omega) (by omega) ?_
                  refine rd ?_
                  refine asI_h ?_
                  refine last ?_
                  rw [wsub (by simp only; omega) (by simp only; omega), ef]; simp only [frM, h5]; simp; omega
                refine br_s (fun h6 => ?_) (fun h6 => ?_)
                · have h6 : s1 kk = 4 := by simpa using h6
                  refine arAt_h (by omega) (by omega) ?_
                  refine rd ?_
                  refine asI_h ?_
                  refine last ?_
                  rw [wsub (by simp only; omega) (by simp only; omega), ef]; simp only [frM, h6]; simp; omega
                refine br_s (fun h7 => ?_) (fun h7 => ?_)
                · have h7 : s1 kk = 1 := by simpa using h7
                  refine arAt_h (by omega) (by omega) ?_
                  refine rd ?_
                  refine asI_h ?_
                  refine last ?_
                  rw [wsub (by simp only; omega) (by simp only; omega), ef]; simp only [frM, h7]; simp; omega
                · have h5 : s1 kk ≠ 2 := by simpa using h5
                  have h6 : s1 kk ≠ 4 := by simpa using h6
                  have h7 : s1 kk ≠ 1 := by simpa using h7
                  refine last ?_
                  rw [ef]; simp only [frM]; rw [if_neg (by omega)]; omega
            · clear H
              rintro ⟨x, y, ux⟩ w ⟨hx, hy, rs2, hW2, H⟩
              simp only at hx hy
              simp only [hwk]
              exact ⟨⟨by omega, by omega, hy, hx, rs2, hW2, H⟩, by omega⟩
          · have h4 : ¬ kk ≤ 9 := of_decide_eq_false h4
            have ek : kk = 10 := by omega
            subst ek
            have hhand := hK1.hand
            rw [← hs1] at hhand
            have hfree := hK1.f
            rw [← hs1] at hfree
            have hf0 := P1.is.ok.g.ok.f0
            rw [u1.B] at hf0
            refine goodsK_c (S := S1) H (fun w H => ?_)
            refine asPtr_h ?_
            refine handS_c (S := S1) H (fun w H => ?_)
            refine asI_h ?_
            refine br_f ?_ ?_
            · rw [u1.B, hhand]
              simp
            refine goodsK_c (S := S1) H (fun w H => ?_)
            refine asPtr_h ?_
            refine freeS_c (S := S1) H (fun w H => ?_)
            refine asI_h ?_
            refine br_f ?_ ?_
            · rw [u1.B, hfree]
              simp
            refine br_f ?_ ?_
            · have : ¬ (g - sumT (fun x => frM (s1 x) (mu1 x)) 9 < 0) := by omega
              simpa using this
            have hwi : IntKind.wrap .i64 (i + 1) = i + 1 := wrap64 (by omega) (by omega)
            simp only [hwi]
            refine ⟨⟨⟨S1, es1, mu1, mus1, rs1, _, P1.is, rfl, eg1, P1.c.room.trans er, by have := P1.len; omega, hK1, hmu2, hW1, ⟨fun j hj => ?_, fun j j1 j9 => ?_, fun j => ?_⟩, Holds.re H⟩, by omega, by omega⟩, by omega⟩
            · by_cases h : 1 ≤ (j : Int) ∧ (j : Int) < 10
              · simp only [if_pos h]
                have := (hWI.ok j hj).add (hWI.last j (by omega) hj) (P1.st j)
                rw [hs1]
                exact this
              · simp only [if_neg h]; exact hWI.ok j hj
            · simp only [if_pos (show 1 ≤ (j : Int) ∧ (j : Int) < 10 by omega)]
              rw [← List.cons_append, List.getLast?_concat, hs1]
            · have := hWI.len j
              split
              · rw [List.length_append]; simp only [List.length_singleton]; omega
              · omega
  · intro _ w
    rintro ⟨rs, W, hW, hok, hlen, H⟩
    refine ldN_h 0 H rfl (by rw [List.length_map]; exact hW.len) ?_
    refine ⟨fun y w => Sh.Holds w0 (wcell k13 rs :: wrows rs :: hs) w ∧ 0 ≤ y.1 ∧ y.1 ≤ 10, fun y _ => (10 - y.1).toNat, ⟨H, by simp, by simp⟩, ?_⟩
    clear H
    rintro ⟨x, u⟩ w ⟨H, h0, h1⟩
    simp only at h0 h1
    have hwx : IntKind.wrap .i64 (x + 1) = x + 1 := wrap64 (by omega) (by omega)
    refine br_s (fun h2 => ?_) (fun h2 => ?_)
    · have h2 : x < 10 := of_decide_eq_true h2
      have hl1 := hW.len
      obtain ⟨r, hr⟩ : ∃ r, rs[x.toNat]? = some r := ⟨_, List.getElem?_eq_getElem (by omega)⟩
      have okr := hW.ok _ _ hr
      have hwl := hlen x.toNat
      have hrn : r.n = (W x.toNat).length := by have := okr.len; simp at this; omega
      refine ⟨r.v, h0, by omega, by simp [hr], ?_⟩
      refine asSl_h ?_
      simp only [hwx]
      refine br_s (fun h3 => ?_) (fun h3 => ⟨⟨H, by omega, by omega⟩, by omega⟩)
      refine nw_h H (fun k455 w H => ?_)
      have H3 : Sh.Holds w0 (r.hp 3 :: wrows (rs.eraseIdx x.toNat) :: [(k455, .cells #[I 0] 3 (0, 0))] :: wcell k13 rs :: hs) w := rows_out hr (Holds.re (b := [(k455, .cells #[I 0] 3 (0, 0))] :: wcell k13 rs :: wrows rs :: hs) H)
      have H4 : Sh.Holds w0 ((Row.mk (some k455) 1 1 #[I 0]).hp 3 :: r.hp 3 :: wrows (rs.eraseIdx x.toNat) :: wcell k13 rs :: hs) w := Holds.re (a := [(k455, .cells #[I 0] 3 (0, 0))] :: r.hp 3 :: wrows (rs.eraseIdx x.toNat) :: wcell k13 rs :: hs) H3
      have ok0 : (Row.mk (some k455) 1 1 #[I 0]).Ok 1 [I 0] := ⟨rfl, fun h => by simp at h, fun g hg => ⟨by simp, by simp [maxLen], rfl, rfl⟩⟩
      refine bapp_s (r := ⟨some k455, 1, 1, #[I 0]⟩) el32 H4 (by simp) ok0 (Sl.row 1 rfl okr) (fun u hu => by obtain ⟨b, -, rfl⟩ := List.mem_map.1 hu; rfl) (by simp only; omega) (by simp only; unfold maxLen; omega) (fun r2 w hr1 hr2 H => ?_)
      refine asSl_h ?_
      have hsl2 : Sl (Sh.Holds w0 (r2.hp 3 :: r.hp 3 :: wrows (rs.eraseIdx x.toNat) :: wcell k13 rs :: hs)) r2.p r2.n 1 ((0 :: W x.toNat).map I) := Sl.row 0 rfl hr2
      refine Legal_c (l := 0 :: W x.toNat) H hsl2 (by simp; omega) (fun y hy => by simpa using hy.symm) (hok _ (by omega)) (fun w H => ?_)
      refine asI_h ?_
      have hw2 : IntKind.wrap .i64 ((r.n : Int) + 1) = r.n + 1 := wrap64 (by omega) (by omega)
      refine br_f ?_ ?_
      · rw [hw2, hrn]; simp
      · have H5 : Sh.Holds w0 (wrows (rs.set x.toNat r) :: wcell k13 rs :: hs) w := rows_in (by omega) H.tail
        have e : rs.set x.toNat r = rs := set_same _ hr
        rw [e] at H5
        exact ⟨⟨Holds.re H5, by omega, by omega⟩, by omega⟩
    · refine awakeK_c T H (fun w H => ?_)
      refine asBoo_h ?_
      exact k _ (Holds.re H)
end
end Go.Proofs.YtcfmnoimehcfnaaGreatDoor
