/- The chief, texts put together. Conditions: none. -/
import Derived.Test.YtcfmnoimehcfnaaGreatDoorXD
set_option linter.unusedVariables false
set_option linter.unusedSimpArgs false
set_option maxRecDepth 100000
namespace Go.Proofs.YtcfmnoimehcfnaaGreatDoor
open Go Go.Sh

theorem fact_o (x : Ld) (k n : Int) : (x.fact k n).o = x.o := by
  unfold Ld.fact
  repeat' split
  all_goals rfl
theorem playC_fact {L : Int → Option Ld} {id k : Int} {ns : List Int} {x : Ld} (h : L id = some x) (h1 : k ≠ 1) (h2 : k ≠ 2) : playC L ⟨k, id, ns⟩ = updI L id (some (x.fact k (ns.getD 0 0))) := by
  unfold playC
  rw [if_neg h1]
  simp only [h]
  unfold Ld.play
  rw [if_neg h2]
theorem GoodO.upd {L : Int → Option Ld} (g : GoodO L) {id : Int} {x : Ld} (hi : x.o.id = id) {d u : Nat} (gx : GoodL x d u) : GoodO (updI L id (some x)) :=
  ⟨fun i y h => by
    unfold updI at h
    split at h
    · rename_i e; cases h; exact ⟨hi.trans e.symm, d, u, gx⟩
    · exact g.all i y h⟩
theorem GoodO.play {L : Int → Option Ld} (g : GoodO L) {id k : Int} {ns : List Int} {x : Ld} (h : L id = some x) (h1 : k ≠ 1) (h2 : k ≠ 2) (e : evOk x k (ns.getD 0 0)) : GoodO (playC L ⟨k, id, ns⟩) := by
  obtain ⟨hi, d, u, gx⟩ := g.all id x h
  obtain ⟨d', u', g2⟩ := gx.fact e
  rw [playC_fact h h1 h2]
  exact g.upd (by rw [fact_o]; exact hi) g2
theorem ledN_good {o : Od} (h : mayOd o = true) : GoodL (ledN o) 0 0 :=
  ⟨h, Nat.zero_le _, Nat.zero_le _, fun _ => by show List.replicate _ false = _; simp [tf, ledN], by simp [ledN], by show List.replicate _ false = _; simp [ft, ledN], fun h => (by cases h), fun h => (by cases h), fun h => (by cases h), fun _ => rfl, fun h => (by cases h), fun h => (by rcases h with h | h | h | h <;> cases h), rfl, (by simp [ledN])⟩
theorem GoodO.begin {L : Int → Option Ld} (g : GoodO L) {o : Od} (h : mayOd o = true) : GoodO ((beginEs o).foldl playC L) := by
  rw [begin_play]; exact g.upd rfl (ledN_good h)
theorem GoodL.say {x : Ld} {d u : Nat} (g : GoodL x d u) {t t' : Bool × Bool} (h : x.t = some t) (hn : t' ≠ (true, true)) : GoodL ⟨x.o, x.f, some t'⟩ d u :=
  ⟨g.o, g.dn, g.un, g.done, g.dlen, g.undone, g.one, g.asked, g.yes, g.back, g.ship, g.acks, by have := g.t; rw [h] at this; exact this, by simpa using hn⟩
theorem GoodO.prim {s t : CS} (p : Prim s t) (g : GoodO s.L) : GoodO t.L := by
  cases p with
  | note h hk e => exact g.play h (by omega) (by omega) e
  | sure h hk e => exact g.play h (by omega) (by omega) e
  | begin h1 h2 => exact g.begin h1
  | say h ht hn h1 h2 =>
    obtain ⟨hi, d, u, gx⟩ := g.all _ _ h
    exact g.upd hi (gx.say ht hn)
  | bell => exact g
theorem GoodO.prims {s t : CS} (p : Prims s t) (g : GoodO s.L) : GoodO t.L := by
  induction p with
  | refl => exact g
  | more _ q ih => exact ih.prim q
theorem GoodO.nil : GoodO (fun _ => none) := ⟨fun _ _ h => by cases h⟩
theorem GoodO.htt {L : Int → Option Ld} (g : GoodO L) {id : Int} : ∀ x, L id = some x → x.t ≠ some (true, true) := fun x h => by
  obtain ⟨-, d, u, gx⟩ := g.all _ _ h
  exact gx.tt
theorem runC_app (a b : List CE) : runC (a ++ b) = b.foldl playC (runC a) := by simp [runC]
theorem alike_at {L M : Int → Option Ld} (h : AlikeL L M) {id : Int} {x : Ld} (hx : L id = some x) : ∃ y, M id = some y ∧ y.o = x.o ∧ y.f = x.f := by
  have h1 := h id
  rw [hx] at h1
  cases hy : M id with
  | none => rw [hy] at h1; cases h1
  | some y =>
    rw [hy] at h1
    have := Option.some.inj h1
    exact ⟨y, rfl, (Prod.mk.inj this).1.symm, (Prod.mk.inj this).2.symm⟩
theorem evOk_alike {x y : Ld} {k n : Int} (ho : y.o = x.o) (hf : y.f = x.f) (ht : y.t.isSome = x.t.isSome) (h : evOk x k n) : evOk y k n := by
  unfold evOk at h ⊢
  rw [hf, ht]; exact h
theorem GoodL.isSome {x y : Ld} {d u d' u' : Nat} (g : GoodL x d u) (g' : GoodL y d' u') (hf : y.f = x.f) : y.t.isSome = x.t.isSome := by
  rw [g.t, g'.t, hf]
theorem GoodO.playA {L M : Int → Option Ld} (g : GoodO L) (gM : GoodO M) (ha : AlikeL L M) {id k : Int} {ns : List Int} {x : Ld} (h : L id = some x) (h1 : k ≠ 1) (h2 : k ≠ 2) (e : evOk x k (ns.getD 0 0)) : GoodO (playC M ⟨k, id, ns⟩) := by
  obtain ⟨y, hy, ho, hf⟩ := alike_at ha h
  obtain ⟨-, d, u, gx⟩ := g.all _ _ h
  obtain ⟨-, d', u', gy⟩ := gM.all _ _ hy
  exact gM.play hy h1 h2 (evOk_alike ho hf (gx.isSome gy hf) e)
theorem CInv.alike {s : CS} (c : CInv s) : AlikeL s.L (runC s.es) := c.eq
theorem CInv.run {s : CS} (c : CInv s) : GoodO (runC s.es) := by
  have := c.pre s.es.length c.le (Nat.le_refl _)
  rwa [List.take_length] at this
theorem plays_alike {L M : Int → Option Ld} (l : List CE) (h : AlikeL L M) : AlikeL (l.foldl playC L) (l.foldl playC M) := by
  induction l generalizing L M with
  | nil => exact h
  | cons e r ih => exact ih (play_alike h e)
theorem CInv.prim {s t : CS} (p : Prim s t) (c : CInv s) : CInv t := by
  have g2 := c.good.prim p
  have le := c.le
  cases p with
  | @note id k ns x h hk e =>
    refine ⟨g2, ?_, by simp only [List.length_append]; omega, fun m h1 h2 => ?_⟩
    · show AlikeL _ _
      rw [runC_add]; exact play_alike c.alike _
    · by_cases hm : m ≤ s.es.length
      · simp only [List.take_append_of_le_length hm]; exact c.pre m h1 hm
      · have : m = (s.es ++ [(⟨k, id, ns⟩ : CE)]).length := by simp at h2 ⊢; omega
        rw [this, List.take_length, runC_add]
        exact c.good.playA c.run c.alike h (by omega) (by omega) e
  | @sure id k ns x h hk e =>
    refine ⟨g2, ?_, Nat.le_refl _, fun m h1 h2 => ?_⟩
    · show AlikeL _ _
      unfold sureC
      rw [runC_add]; exact play_alike c.alike _
    · have : m = (s.es ++ [(⟨k, id, ns⟩ : CE)]).length := Nat.le_antisymm h2 h1
      unfold sureC
      rw [this, List.take_length, runC_add]
      exact c.good.playA c.run c.alike h (by omega) (by omega) e
  | @begin o h1 h2 =>
    refine ⟨g2, ?_, Nat.le_refl _, fun m h3 h4 => ?_⟩
    · show AlikeL _ _
      unfold sureC
      rw [runC_app]; exact plays_alike _ c.alike
    · have : m = (s.es ++ beginEs o).length := Nat.le_antisymm h4 h3
      unfold sureC
      rw [this, List.take_length, runC_app]
      exact c.run.begin h1
  | @say id x t t' h ht hn h1 h2 =>
    refine ⟨g2, fun i => ?_, le, c.pre⟩
    show (updI s.L id (some ⟨x.o, x.f, some t'⟩) i).map _ = _
    rw [← c.eq i]
    unfold updI
    split
    · rename_i e; rw [e, h]; rfl
    · rfl
  | bell => exact ⟨g2, c.eq, le, c.pre⟩
theorem CInv.prims {s t : CS} (p : Prims s t) (c : CInv s) : CInv t := by
  induction p with
  | refl => exact c
  | more _ q ih => exact ih.prim q
theorem CInv.zero : CInv CS.zero := ⟨.nil, fun _ => rfl, Nat.le_refl _, fun m h1 h2 => by
  have : m = 0 := Nat.le_zero.1 h2
  subst this; exact .nil⟩
theorem startStep_P (P : CP) (s : CS) (id : Int) : Prims s (startStep P s id) := by
  unfold startStep
  split
  · exact .refl s
  · rename_i x hx
    have p1 : Prims s (if overF x.o x.f = true then s else hangC P s id) := by
      split
      · exact .refl s
      · exact hang_P P s id
    have hL : (if overF x.o x.f = true then s else hangC P s id).L = s.L := by split <;> rfl
    simp only
    split
    · rename_i h
      cases hs : suresC P (if overF x.o x.f = true then s else hangC P s id) [⟨7, id, []⟩] with
      | none => exact p1
      | some s' =>
        refine p1.trans (prim_sure (x := x) hs (by rw [hL]; exact hx) (.inr (.inl rfl)) (.inr (.inr (.inr (.inr (.inl ⟨rfl, .inl ?_⟩))))))
        simp only [Bool.and_eq_true, Bool.not_eq_true'] at h
        exact h.2
    · exact p1
theorem CInv.start {s : CS} (c : CInv s) (P : CP) {m : Nat} (h1 : s.sure ≤ m) (h2 : m ≤ s.es.length) : CInv (startC P (s.es.take m)) := by
  have g := c.pre m h1 h2
  have c0 : CInv ⟨s.es.take m, (s.es.take m).length, runC (s.es.take m), fun _ => none⟩ := ⟨g, fun _ => rfl, Nat.le_refl _, fun i h3 h4 => by
    have : i = (s.es.take m).length := Nat.le_antisymm h4 h3
    rw [this]; simp only [List.take_length]; exact g⟩
  unfold startC
  generalize idsC (runC (s.es.take m)) = l
  have key : ∀ (l : List Int) (t : CS), CInv t → CInv (l.foldl (startStep P) t) := fun l => by
    induction l with
    | nil => exact fun t h => h
    | cons a r ih => exact fun t h => ih _ (h.prims (startStep_P P t a))
  exact key l _ c0
end Go.Proofs.YtcfmnoimehcfnaaGreatDoor
namespace Go.Proofs.YtcfmnoimehcfnaaGreatDoor
open Go Go.Sh

structure StC (s : CS) (id : Int) (x : Ld) (b : Option Int) (n : Nat) : Prop where
  L : s.L id = some x
  B : s.B id = b
  le : s.es.length ≤ n
section
variable {P : CP} {s : CS} {id : Int} {x : Ld} {b : Option Int} {n : Nat}
theorem StC.note (h : StC s id x b n) {k : Int} {ns : List Int} (h1 : k ≠ 1) (h2 : k ≠ 2) (hr : (n : Int) + 1 ≤ P.room) : ∃ s', noteC P s [⟨k, id, ns⟩] = some s' ∧ StC s' id (x.fact k (ns.getD 0 0)) b (n + 1) := by
  have := h.le
  refine ⟨{ s with es := s.es ++ [⟨k, id, ns⟩], L := [(⟨k, id, ns⟩ : CE)].foldl playC s.L }, by unfold noteC; rw [if_neg (by simp; omega)], ?_, h.B, by simp; omega⟩
  show (playC s.L ⟨k, id, ns⟩) id = _
  rw [playC_fact h.L h1 h2]; simp [updI]
theorem StC.sures (h : StC s id x b n) {k : Int} {ns : List Int} (h1 : k ≠ 1) (h2 : k ≠ 2) (hr : (n : Int) + 1 ≤ P.room) : ∃ s', suresC P s [⟨k, id, ns⟩] = some s' ∧ StC s' id (x.fact k (ns.getD 0 0)) b (n + 1) := by
  obtain ⟨s', e, g⟩ := h.note (ns := ns) h1 h2 hr
  exact ⟨sureC s', by unfold suresC; rw [e]; rfl, g.L, g.B, g.le⟩
theorem StC.mono (h : StC s id x b n) {m : Nat} (hm : n ≤ m) : StC s id x b m := ⟨h.L, h.B, Nat.le_trans h.le hm⟩
def Ld.asks (x : Ld) : Bool := asksM (nextM x.o x.f) && !x.f.asked
def Ld.sent (x : Ld) : Ld := if x.asks = true then x.fact 3 0 else x
theorem StC.sends0 (h : StC s id x b n) (ha : x.asks = false) : sendsC P s id = (s, nextM x.o x.f) := by
  unfold sendsC; rw [h.L]; simp only; rw [if_neg (by unfold Ld.asks at ha; rw [ha]; simp)]
theorem StC.sends (h : StC s id x b n) (hr : (n : Int) + 1 ≤ P.room) : ∃ s', sendsC P s id = (s', nextM x.o x.f) ∧ StC s' id x.sent b (n + 1) := by
  cases ha : x.asks with
  | false => exact ⟨s, h.sends0 ha, by unfold Ld.sent; rw [if_neg (by simp [ha])]; exact h.mono (by omega)⟩
  | true =>
    obtain ⟨s', e, g⟩ := h.note (P := P) (k := 3) (ns := []) (by omega) (by omega) hr
    refine ⟨s', ?_, by unfold Ld.sent; rw [if_pos ha]; exact g⟩
    unfold sendsC; rw [h.L]; simp only; unfold Ld.asks at ha; rw [if_pos ha, e]
theorem StC.again (h : StC s id x b n) : StC (againC P s id) id x (b.map fun _ => P.tries) n := by
  refine ⟨h.L, ?_, h.le⟩
  show (if (s.B id).isSome = true then updI s.B id (some P.tries) else s.B) id = _
  rw [h.B]
  cases b with
  | none => exact h.B
  | some v => simp [updI]
theorem StC.goes (h : StC s id x b n) (hov : overF x.o x.f = false) (hr : (n : Int) + 1 ≤ P.room) : ∃ s', goesC P s id = (s', nextM x.o x.f) ∧ StC s' id x.sent (b.map fun _ => P.tries) (n + 1) := by
  obtain ⟨s', e, g⟩ := (h.again (P := P)).sends hr
  refine ⟨s', ?_, g⟩
  unfold goesC; rw [h.L]; simp only; rw [if_neg (by simp [hov]), e]
theorem fact7 (x : Ld) (n : Int) : x.fact 7 n = ⟨x.o, { x.f with turned := true }, none⟩ := by simp [Ld.fact]
theorem fact6 (x : Ld) (n : Int) : x.fact 6 n = ⟨x.o, { x.f with yes := true }, none⟩ := by simp [Ld.fact]
theorem fact3 (x : Ld) (n : Int) : x.fact 3 n = ⟨x.o, { x.f with asked := true }, some (false, false)⟩ := by simp [Ld.fact]
theorem fact4 (x : Ld) (n : Int) : x.fact 4 n = ⟨x.o, { x.f with done := setB x.f.done n }, x.t⟩ := by simp [Ld.fact]
theorem StC.turns (h : StC s id x b n) (hov : overF x.o (x.fact 7 0).f = false) (hr : (n : Int) + 2 ≤ P.room) : ∃ s', turnsC P s id = (s', nextM x.o (x.fact 7 0).f, 0) ∧ StC s' id (x.fact 7 0).sent (b.map fun _ => P.tries) (n + 2) := by
  obtain ⟨s1, e1, g1⟩ := h.sures (P := P) (k := 7) (ns := []) (by omega) (by omega) (by omega)
  have ho : ((x.fact 7 0).o) = x.o := fact_o x 7 0
  obtain ⟨s2, e2, g2⟩ := g1.goes (P := P) (by show overF (x.fact 7 0).o (x.fact 7 0).f = false; rw [ho]; exact hov) (by omega)
  refine ⟨s2, ?_, g2⟩
  unfold turnsC; rw [e1]; simp only; rw [e2]
  show (s2, nextM (x.fact 7 0).o (x.fact 7 0).f, (0 : Int)) = _
  rw [ho]
end
theorem open_zero : openN CS.zero.L = 0 := by
  unfold openN
  rw [List.countP_eq_zero.2 (fun i _ => by simp [CS.zero, overL])]; rfl
theorem beginEs_len (o : Od) : (beginEs o).length = 1 + o.steps.length := by unfold beginEs; rw [List.length_cons, stepEs_len]; omega
theorem GoodL.und {x : Ld} {d u : Nat} (g : GoodL x d u) (h : x.f.decided = false) : x.f.yes = false ∧ x.f.turned = false ∧ x.f.a0 = false ∧ x.f.a1 = false ∧ x.f.d0 = false ∧ x.f.d1 = false ∧ x.f.shipped = false := by
  have h1 : x.f.yes = false := by simp only [Fc.decided, Bool.or_eq_false_iff] at h; exact h.1
  have h2 : x.f.turned = false := by simp only [Fc.decided, Bool.or_eq_false_iff] at h; exact h.2
  have hk := g.acks
  refine ⟨h1, h2, ?_, ?_, ?_, ?_, ?_⟩
  · cases e : x.f.a0 with
    | false => rfl
    | true => exact absurd (hk (.inl e)) (by simp [h])
  · cases e : x.f.a1 with
    | false => rfl
    | true => exact absurd (hk (.inr (.inl e))) (by simp [h])
  · cases e : x.f.d0 with
    | false => rfl
    | true => exact absurd (hk (.inr (.inr (.inl e)))) (by simp [h])
  · cases e : x.f.d1 with
    | false => rfl
    | true => exact absurd (hk (.inr (.inr (.inr e)))) (by simp [h])
  · cases e : x.f.shipped with
    | false => rfl
    | true => exact absurd (g.ship e) (by simp [h1])
/-- an order that is not decided is turned -/
structure Turned (y : Ld) : Prop where
  st : stateF y.o y.f = 4
  ov : overF y.o y.f = false
  ne : nextM y.o y.f = tellM 10 1 y.o :: tellM 10 2 y.o :: undoM y.o y.f
  asks : y.asks = false
  t : y.t = none
  dec : y.f.decided = true
theorem GoodL.turn {x : Ld} {d u : Nat} (g : GoodL x d u) (h : x.f.decided = false) : Turned (x.fact 7 0) := by
  obtain ⟨d', u', gy⟩ := g.fact (k := 7) (n := 0) (.inr (.inr (.inr (.inr (.inl ⟨rfl, .inl h⟩)))))
  have hm := gy.may
  obtain ⟨h1, h2, h3, h4, h5, h6, h7⟩ := g.und h
  rw [fact7] at hm ⊢
  have he : endsF { x.f with turned := true } = 4 := by unfold endsF; simp [h3]
  have hn : nextM x.o { x.f with turned := true } = tellM 10 1 x.o :: tellM 10 2 x.o :: undoM x.o { x.f with turned := true } := by
    unfold nextM
    have hm' : mayF x.o { x.f with turned := true } = true := hm
    rw [hm']
    simp [decM, h3, h4]
  refine ⟨?_, ?_, hn, ?_, rfl, by simp [Fc.decided]⟩
  · unfold stateF
    have hm' : mayF x.o { x.f with turned := true } = true := hm
    exact (if_neg (fun e => by rw [hm'] at e; cases e)).trans ((if_neg (by show ¬ (((x.f.d0 || x.f.d1) && !x.f.acc) = true); rw [h5, h6]; simp)).trans he)
  · unfold overF; simp only [he]; simp
  · unfold Ld.asks
    rw [hn]; simp [asksM, tellM]
theorem Turned.sent {y : Ld} (h : Turned y) : y.sent = y := by unfold Ld.sent; rw [if_neg (by simp [h.asks])]
theorem begin_St {P : CP} {o : Od} (hm : mayOd o = true) (hmo : 1 ≤ P.most) (hr : 5 ≤ P.room) : ∃ s', beginC P CS.zero o = (s', nextM o (ledN o).f, 0) ∧ StC s' o.id (ledN o).sent (some P.tries) 5 ∧ GoodO s'.L := by
  have hpr := begin_P P CS.zero o
  obtain ⟨h1, -, -, -, -, h3, -⟩ := mayOd_out hm
  have hl := beginEs_len o
  have hs : suresC P CS.zero (beginEs o) = some (sureC { CS.zero with es := CS.zero.es ++ beginEs o, L := (beginEs o).foldl playC CS.zero.L }) := by
    unfold suresC noteC
    rw [if_neg (by rw [hl]; simp [CS.zero]; omega)]; rfl
  have hS : StC (hangC P (sureC { CS.zero with es := CS.zero.es ++ beginEs o, L := (beginEs o).foldl playC CS.zero.L }) o.id) o.id (ledN o) (some P.tries) 4 := by
    refine ⟨?_, ?_, ?_⟩
    · show (beginEs o).foldl playC CS.zero.L o.id = _
      rw [begin_play]; simp [updI]
    · show (if (1 ≤ o.id ∧ o.id ≤ 999) ∧ (none : Option Int) = none then updI CS.zero.B o.id (some P.tries) else CS.zero.B) o.id = _
      rw [if_pos ⟨h1, rfl⟩]; simp [updI]
    · show (CS.zero.es ++ beginEs o).length ≤ 4
      rw [List.length_append, hl]; simp [CS.zero]; omega
  have gN := (ledN_good hm).may
  have hov : overF (ledN o).o (ledN o).f = false := by
    unfold overF
    have : endsF (ledN o).f = 1 := rfl
    rw [this]; simp
  obtain ⟨s', e, g⟩ := hS.goes (P := P) hov (by omega)
  have hb : beginC P CS.zero o = (s', nextM o (ledN o).f, 0) := by
    unfold beginC
    rw [if_neg (by simp [hm]), if_neg (by simp [CS.zero]), if_neg (by rw [open_zero]; omega), hs]
    simp only
    rw [e]; rfl
  rw [hb] at hpr
  exact ⟨s', hb, g, GoodO.nil.prims hpr⟩
theorem cancels_law {P : CP} {o : Od} (hm : mayOd o = true) (hmo : 1 ≤ P.most) (hr : 7 ≤ P.room) : ∃ s1 s2 m1 m2, cancelC P CS.zero o.id = (CS.zero, [], 6) ∧ beginC P CS.zero o = (s1, m1, 0) ∧ cancelC P s1 o.id = (s2, m2, 0) ∧ cancelC P s2 o.id = (s2, [], 7) ∧ (∀ frm, handleC P s2 ⟨7, frm, 0, o.id, 0, 0, 0⟩ = (s2, [])) ∧ stateC s2 o.id = 4 ∧ acceptC P s2 o.id = (s2, 7) ∧ GoodO s2.L := by
  obtain ⟨s1, hb, g1, go1⟩ := begin_St hm hmo (by omega : 5 ≤ P.room)
  obtain ⟨-, d, u, gx⟩ := go1.all _ _ g1.L
  have hd : (ledN o).sent.f.decided = false := by
    unfold Ld.sent
    split
    · rw [fact3]; rfl
    · rfl
  have ht := gx.turn hd
  have ho : (ledN o).sent.o = o := by
    unfold Ld.sent
    split
    · rw [fact_o]; rfl
    · rfl
  obtain ⟨s2, e2, g2⟩ := g1.turns (P := P) (by have := ht.ov; rwa [fact_o] at this) (by omega : ((5 : Nat) : Int) + 2 ≤ P.room)
  rw [ht.sent] at g2
  have hc : cancelC P s1 o.id = (s2, nextM (ledN o).sent.o ((ledN o).sent.fact 7 0).f, 0) := by
    unfold cancelC; rw [g1.L]; simp only; rw [if_neg (by simp [hd]), e2]
  have hp := cancel_P P s1 o.id
  rw [hc] at hp
  have hfo : ((ledN o).sent.fact 7 0).o = o := by rw [fact_o]; exact ho
  refine ⟨s1, s2, _, _, rfl, hb, hc, ?_, fun frm => ?_, ?_, ?_, go1.prims hp⟩
  · unfold cancelC; rw [g2.L]; simp only; rw [if_pos ht.dec]
  · unfold handleC
    simp only
    rw [if_neg (by simp), if_neg (by omega), g2.L]
    simp only
    rw [if_neg (by omega), if_pos (.inl trivial)]
    unfold votesC
    split
    · rfl
    · rw [ht.t]
  · unfold stateC; rw [g2.L]; exact ht.st
  · unfold acceptC; rw [g2.L]; simp only; rw [if_pos (by rw [ht.st]; omega)]
end Go.Proofs.YtcfmnoimehcfnaaGreatDoor
namespace Go.Proofs.YtcfmnoimehcfnaaGreatDoor
open Go Go.Sh

section
variable {w0 w : World} {hs R : List Hp} {K : KV}
theorem idR_c {n : Int} (H : Sh.Holds w0 hs w) (k : ∀ w', Sh.Holds w0 hs w' → K (.bool (inB n 1 999)) w') : gocall Tryz.prog 95 [I n] K w := by
  apply F95_go; unfold F95
  have := k w H
  unfold inB at this
  refine br_s (fun h => ?_) (fun h => ?_)
  · rwa [h, Bool.true_and] at this
  · rwa [h, Bool.false_and] at this
theorem itemR_c {n : Int} (H : Sh.Holds w0 hs w) (k : ∀ w', Sh.Holds w0 hs w' → K (.bool (inB n 0 7)) w') : gocall Tryz.prog 96 [I n] K w := by
  apply F96_go; unfold F96
  have := k w H
  unfold inB at this
  have e : decide (n < 8) = decide (n ≤ 7) := decide_eq_decide.2 (by omega)
  refine br_s (fun h => ?_) (fun h => ?_)
  · rw [e]; rwa [h, Bool.true_and] at this
  · rwa [h, Bool.false_and] at this
theorem aboveR_c {n : Int} (H : Sh.Holds w0 hs w) (k : ∀ w', Sh.Holds w0 hs w' → K (.bool (inB n 1 1000000000)) w') : gocall Tryz.prog 97 [I n] K w := by
  apply F97_go; unfold F97
  have := k w H
  unfold inB at this
  refine br_s (fun h => ?_) (fun h => ?_)
  · rwa [h, Bool.true_and] at this
  · rwa [h, Bool.false_and] at this
theorem someB_in {n : Int} (h : inB n 1 1000000000 = true) : someB n = true := by
  simp only [inB, someB, mayB, Bool.and_eq_true, decide_eq_true_eq] at h ⊢
  omega
set_option maxHeartbeats 4000000 in
/-- the document's word on an order; what it lets through the program lets through -/
theorem mayR_c {o : Od} {p : Option Addr} {n c : Nat} (H : Sh.Holds w0 hs w) (hsl : Sl (Sh.Holds w0 hs) p n 2 (sps o.steps)) (hl : o.steps.length ≤ 1000) (hnc : n ≤ c)
    (k : ∀ b w', (b = true → mayOd o = true) → Sh.Holds w0 hs w' → K (.bool b) w') : gocall Tryz.prog 15 [odV o (.slice p n c)] K w := by
  have hn : n = o.steps.length := by have := hsl.len; rw [sps, flat_len Sp.len] at this; omega
  have bad : ∀ {A : List Hp} [Re hs A] {w : World}, Sh.Holds w0 A w → K (.bool false) w := fun {A} _ {w} H => k false w (fun h => by cases h) (Holds.re H)
  apply F15_go; unfold F15
  refine nw_h H (fun k8 w H => ?_)
  let ob : Hp := [(k8, .cells #[I o.id, I o.item, I o.qty, I o.client, I o.price, .slice p n c] 24 (0, 0))]
  replace H : Sh.Holds w0 ([(k8, .cells #[I o.id, I o.item, I o.qty, I o.client, I o.price, .slice p n c] 24 (0, 0))] :: hs) w := H
  (with_reducible repeat first|refine ldA (by assumption) ?_|refine Stp.imp ?_|refine stA (by assumption) rfl fun _ _=>?_|refine nw_h (by assumption) fun _ _ _=>?_|refine ldSA ?_|refine asT_e [] rfl rfl ?_|refine ldD (by assumption) ?_|refine nwD (by assumption) fun _ _ _=>?_)
  refine idR_c H (fun w H => ?_)
  refine asBoo_h ?_
  refine br_s (fun h => bad H.tail) (fun h1 => ?_)
  (with_reducible repeat first|refine ldA (by assumption) ?_|refine Stp.imp ?_|refine stA (by assumption) rfl fun _ _=>?_|refine nw_h (by assumption) fun _ _ _=>?_|refine ldSA ?_|refine asT_e [] rfl rfl ?_|refine ldD (by assumption) ?_|refine nwD (by assumption) fun _ _ _=>?_)
  refine itemR_c H (fun w H => ?_)
  refine asBoo_h ?_
  refine br_s (fun h => bad H.tail) (fun h2 => ?_)
  (with_reducible repeat first|refine ldA (by assumption) ?_|refine Stp.imp ?_|refine stA (by assumption) rfl fun _ _=>?_|refine nw_h (by assumption) fun _ _ _=>?_|refine ldSA ?_|refine asT_e [] rfl rfl ?_|refine ldD (by assumption) ?_|refine nwD (by assumption) fun _ _ _=>?_)
  refine itemR_c H (fun w H => ?_)
  refine asBoo_h ?_
  refine br_s (fun h => bad H.tail) (fun h3 => ?_)
  (with_reducible repeat first|refine ldA (by assumption) ?_|refine Stp.imp ?_|refine stA (by assumption) rfl fun _ _=>?_|refine nw_h (by assumption) fun _ _ _=>?_|refine ldSA ?_|refine asT_e [] rfl rfl ?_|refine ldD (by assumption) ?_|refine nwD (by assumption) fun _ _ _=>?_)
  refine aboveR_c H (fun w H => ?_)
  refine asBoo_h ?_
  refine br_s (fun h => bad H.tail) (fun h4 => ?_)
  (with_reducible repeat first|refine ldA (by assumption) ?_|refine Stp.imp ?_|refine stA (by assumption) rfl fun _ _=>?_|refine nw_h (by assumption) fun _ _ _=>?_|refine ldSA ?_|refine asT_e [] rfl rfl ?_|refine ldD (by assumption) ?_|refine nwD (by assumption) fun _ _ _=>?_)
  refine aboveR_c H (fun w H => ?_)
  refine asBoo_h ?_
  refine br_s (fun h => bad H.tail) (fun h5 => ?_)
  (with_reducible repeat first|refine ldA (by assumption) ?_|refine Stp.imp ?_|refine stA (by assumption) rfl fun _ _=>?_|refine nw_h (by assumption) fun _ _ _=>?_|refine ldSA ?_|refine asT_e [] rfl rfl ?_|refine ldD (by assumption) ?_|refine nwD (by assumption) fun _ _ _=>?_)
  refine br_s (fun h => bad H.tail) (fun h6 => ?_)
  (with_reducible repeat first|refine ldA (by assumption) ?_|refine Stp.imp ?_|refine stA (by assumption) rfl fun _ _=>?_|refine nw_h (by assumption) fun _ _ _=>?_|refine ldSA ?_|refine asT_e [] rfl rfl ?_|refine ldD (by assumption) ?_|refine nwD (by assumption) fun _ _ _=>?_)
  rename_i w1 H1 w2 H2 w3 H3 w4 H4 w5 H5 w H
  refine ⟨fun y w => Sh.Holds w0 ([(k8, .cells #[I o.id, I o.item, I o.qty, I o.client, I o.price, .slice p n c] 24 (0, 0))] :: hs) w ∧ 0 ≤ y.1 ∧ y.1 ≤ o.steps.length ∧ ∀ j : Nat, (j : Int) < y.1 → stepB o.steps j = true, fun y _ => (o.steps.length - y.1).toNat, ⟨H, by simp, by simp, fun j hj => by simp at hj; omega⟩, ?_⟩
  clear H1 H2 H3 H4 H5 H
  rintro ⟨y, z, u⟩ w ⟨H, h0, hy1, hf⟩
  simp only at h0 hy1 hf
  have hsl' := hsl.mono fun w (H : Sh.Holds w0 ([(k8, .cells #[I o.id, I o.item, I o.qty, I o.client, I o.price, .slice p n c] 24 (0, 0))] :: hs) w) => H.tail
  refine br_s (fun h => ?_) (fun h => ?_)
  · simp only [decide_eq_true_eq] at h
    have hy : y.toNat < o.steps.length := by omega
    have hp' := List.getElem?_eq_getElem hy
    have hc := fun {j : Nat} (hj : j < 2) => flat_at (f := Sp.cells) Sp.len hp' hj
    refine slAt_s hsl h0 h (fun b1 o1 hp => ?_)
    refine ldS_s hsl' hp H (v := I o.steps[y.toNat].svc) (hc (j := 0) (by omega)) ?_
    refine asI_h ?_
    refine ldS_s (j := y.toNat * 2 + 1) hsl' hp H (v := I o.steps[y.toNat].n) (hc (j := 1) (by omega)) ?_
    refine asI_h ?_
    generalize hs1 : o.steps[y.toNat] = sp at hp' hc
    refine nw_h H (fun k88 w H => ?_)
    refine stA H rfl (fun w H => ?_)
    refine stA H rfl (fun w H => ?_)
    replace H : Sh.Holds w0 ([(k88, .cells #[I sp.svc, I sp.n] 81 (0, 0))] :: [(k8, .cells #[I o.id, I o.item, I o.qty, I o.client, I o.price, .slice p n c] 24 (0, 0))] :: hs) w := H
    refine ldA H ?_
    refine asI_h ?_
    refine br_s (fun h => bad H.tail.tail) (fun g1 => ?_)
    refine ldA H ?_
    refine asI_h ?_
    refine br_s (fun h => bad H.tail.tail) (fun g2 => ?_)
    refine ldA H ?_
    refine asI_h ?_
    refine aboveR_c H (fun w H => ?_)
    refine asBoo_h ?_
    refine br_s (fun h => bad H.tail.tail) (fun g3 => ?_)
    refine ldA H ?_
    refine asSl_h ?_
    have hpp : (if c = (0 : Int).toNat then p else p.map (·.add ((0 : Int).toNat * 2))) = p := by
      split
      · rfl
      · rw [hp]; simp [Addr.add_lit]
    refine ⟨by omega, h0, by omega, ?_⟩
    rw [hpp]
    have hsub : Int.toNat y - Int.toNat 0 = y.toNat := by simp
    rw [hsub]
    have hslj : ∀ {j : Int} {K : Addr → World → Prop} {w : World}, 0 ≤ j → j < y → (∀ b o, p = some ⟨b, o, none⟩ → K ⟨b, o + j.toNat * 2, none⟩ w) → slAt p y.toNat j 2 K w := fun {j K w} hj0 hj1 hk => by
      have := slAt_s (w := w) (K := K) hsl hj0 (by omega) hk
      obtain ⟨a, e, -, -, h⟩ := this
      exact ⟨a, e, hj0, by omega, h⟩
    refine ⟨fun v w => Sh.Holds w0 ([(k88, .cells #[I sp.svc, I sp.n] 81 (0, 0))] :: [(k8, .cells #[I o.id, I o.item, I o.qty, I o.client, I o.price, .slice p n c] 24 (0, 0))] :: hs) w ∧ 0 ≤ v.1 ∧ v.1 ≤ y ∧ ∀ j : Nat, (j : Int) < v.1 → ∀ q, o.steps[j]? = some q → q.svc ≠ sp.svc, fun v _ => (y - v.1).toNat, ⟨H, by simp, by simpa using h0, fun j hj => by simp at hj; omega⟩, ?_⟩
    clear H
    rintro ⟨v, z2, u2⟩ w ⟨H, v0, v1, vf⟩
    simp only at v0 v1 vf
    refine br_s (fun hv => ?_) (fun hv => ?_)
    · simp only [decide_eq_true_eq] at hv
      have hv2 : v.toNat < o.steps.length := by omega
      have hq' := List.getElem?_eq_getElem hv2
      have hcq := fun {j : Nat} (hj : j < 2) => flat_at (f := Sp.cells) Sp.len hq' hj
      have hs2 := hsl.mono fun w (H : Sh.Holds w0 ([(k88, .cells #[I sp.svc, I sp.n] 81 (0, 0))] :: [(k8, .cells #[I o.id, I o.item, I o.qty, I o.client, I o.price, .slice p n c] 24 (0, 0))] :: hs) w) => H.tail.tail
      refine hslj v0 (by omega) (fun b2 o2 hp2 => ?_)
      refine ldS_s hs2 hp2 H (v := I o.steps[v.toNat].svc) (hcq (j := 0) (by omega)) ?_
      refine asI_h ?_
      refine ldS_s (j := v.toNat * 2 + 1) hs2 hp2 H (v := I o.steps[v.toNat].n) (hcq (j := 1) (by omega)) ?_
      refine asI_h ?_
      generalize hs3 : o.steps[v.toNat] = sq at hq' hcq
      refine nw_h H (fun k138 w H => ?_)
      refine stA H rfl (fun w H => ?_)
      refine stA H rfl (fun w H => ?_)
      replace H : Sh.Holds w0 ([(k138, .cells #[I sq.svc, I sq.n] 81 (0, 0))] :: [(k88, .cells #[I sp.svc, I sp.n] 81 (0, 0))] :: [(k8, .cells #[I o.id, I o.item, I o.qty, I o.client, I o.price, .slice p n c] 24 (0, 0))] :: hs) w := H
      refine ldA H ?_
      refine asI_h ?_
      refine ldA H ?_
      refine asI_h ?_
      refine br_s (fun h => bad H.tail.tail.tail) (fun g4 => ?_)
      have hw : IntKind.wrap .i64 (v + 1) = v + 1 := wrap64 (by omega) (by omega)
      simp only [hw]
      refine ⟨⟨H.tail, by omega, by omega, fun j hj q hq => ?_⟩, by omega⟩
      by_cases hj' : (j : Int) < v
      · exact vf j hj' q hq
      · have : j = v.toNat := by omega
        subst this
        rw [hq'] at hq; cases hq
        simpa using g4
    · have hvy : v = y := by simp at hv; omega
      have hw : IntKind.wrap .i64 (y + 1) = y + 1 := wrap64 (by omega) (by omega)
      simp only [hw]
      refine ⟨⟨H.tail, by omega, by omega, fun j hj => ?_⟩, by omega⟩
      by_cases hj' : (j : Int) < y
      · exact hf j hj'
      · have hjy : j = y.toNat := by omega
        subst hjy
        have hidx : idx (isSvc sp.svc) o.steps = y := by
          have : o.steps.findIdx? (isSvc sp.svc) = some y.toNat := by
            rw [List.findIdx?_eq_some_iff_getElem]
            refine ⟨hy, by rw [hs1]; simp [isSvc], fun i hi => ?_⟩
            have := vf i (by omega) o.steps[i] (List.getElem?_eq_getElem (by omega))
            simpa [isSvc] using this
          simp [idx, this]; omega
        have g3' : inB sp.n 1 1000000000 = true := by simpa using g3
        have a1 : inB sp.svc 4 6 = true := by simp at g1 g2; simp only [inB, Bool.and_eq_true, decide_eq_true_eq]; omega
        simp only [stepB, hp', a1, someB_in g3', Bool.true_and, hidx]
        simp; omega
  · simp only [decide_eq_false_iff_not] at h
    have hst : stepsB o.steps = true := by
      unfold stepsB
      rw [List.all_eq_true]
      intro j hj
      simp at hj
      exact hf j (by omega)
    refine k true w (fun _ => ?_) H.tail
    have e1 : inB o.id 1 999 = true := by simpa using h1
    have e2 : inB o.item 0 7 = true := by simpa using h2
    have e3 : inB o.client 0 7 = true := by simpa using h3
    have e4 : inB o.qty 1 1000000000 = true := by simpa using h4
    have e5 : inB o.price 1 1000000000 = true := by simpa using h5
    have e6 : decide (o.steps.length ≤ 3) = true := by simp at h6; simp; omega
    unfold mayOd mayO
    rw [hst, e1, e2, e3, e6, someB_in e4, someB_in e5]; rfl
end
end Go.Proofs.YtcfmnoimehcfnaaGreatDoor
namespace Go.Proofs.YtcfmnoimehcfnaaGreatDoor
open Go Go.Sh

def o7 : Od := ⟨7, 0, 1, 0, 1, []⟩
def P7 : CP := ⟨5, 50, 3⟩
theorem awake_law : ∃ s1 s2, beginC P7 CS.zero o7 = (s1, [⟨6, 0, 1, 7, 0, 0, 1⟩, ⟨6, 0, 2, 7, 0, 0, 1⟩], 0) ∧ handleC P7 s1 ⟨8, 2, 0, 7, 0, 0, 0⟩ = (s2, [⟨10, 0, 1, 7, 0, 0, 0⟩, ⟨10, 0, 2, 7, 0, 0, 0⟩]) ∧ stateC s2 7 = 4 ∧ GoodO s1.L := by
  obtain ⟨s1, e1, g1, go⟩ := begin_St (P := P7) (o := o7) (by kernel_rfl) (by decide) (by decide)
  have hm : nextM o7 (ledN o7).f = [⟨6, 0, 1, 7, 0, 0, 1⟩, ⟨6, 0, 2, 7, 0, 0, 1⟩] := by kernel_rfl
  rw [hm] at e1
  have hs : (ledN o7).sent = ⟨o7, { (ledN o7).f with asked := true }, some (false, false)⟩ := by kernel_rfl
  obtain ⟨-, d, u, gx⟩ := go.all _ _ g1.L
  have hd : (ledN o7).sent.f.decided = false := by kernel_rfl
  have ht := gx.turn hd
  obtain ⟨s2, e2, g2⟩ := g1.sures (P := P7) (k := 7) (ns := []) (by omega) (by omega) (by decide)
  obtain ⟨s3, e3, g3⟩ := StC.goes (P := P7) g2 ht.ov (by decide)
  have hL := g1.L
  refine ⟨s1, s3, e1, ?_, ?_, go⟩
  · unfold handleC
    simp only
    rw [if_neg (by omega), if_neg (by omega), show s1.L 7 = _ from hL]
    simp only
    rw [if_neg (by omega), if_pos (.inr trivial)]
    unfold votesC
    rw [if_neg (by decide), hs]
    simp only
    rw [if_pos (by omega)]
    unfold onSC
    rw [show suresC P7 s1 [⟨7, 7, []⟩] = some s2 from e2]
    simp only
    rw [show goesC P7 s2 7 = _ from e3]
    have : nextM ((ledN o7).sent.fact 7 (([] : List Int).getD 0 0)).o ((ledN o7).sent.fact 7 (([] : List Int).getD 0 0)).f = [⟨10, 0, 1, 7, 0, 0, 0⟩, ⟨10, 0, 2, 7, 0, 0, 0⟩] := by kernel_rfl
    rw [this]
  · unfold stateC
    rw [show s3.L 7 = _ from g3.L]
    kernel_rfl
section
variable {w0 w : World} {hs R : List Hp} {K : KV}
set_option maxHeartbeats 2000000 in
theorem awake22_c (T : Tab w0) (H : Sh.Holds w0 hs w) (k : ∀ w', Sh.Holds w0 hs w' → K (.bool true) w') : gocall Tryz.prog 16 [] K w := by
  obtain ⟨s1, s2, e1, e2, e3, go⟩ := awake_law
  apply F16_go; unfold F16
  refine newC_c H (fun S w I0 H => ?_)
  have I0 : ChIs S P7 CS.zero := I0
  refine asPtr_h ?_
  refine begin_c (S := S) (o := o7) (p := none) (n := 0) (c := 0) T H I0 Sl.nil (by show (0 : Nat) < _; omega) (fun r S1 w I1 c1 okr H => ?_)
  rw [e1] at I1 okr ⊢
  simp only at I1 okr ⊢
  refine asT_e [_, _] rfl rfl ?_
  refine asSl_e rfl ?_
  refine asI_e rfl ?_
  have en : S.n = S1.n := c1.n.symm
  rw [en]
  refine handle_c (S := S1) (m := ⟨8, 2, 0, 7, 0, 0, 0⟩) T H I1 go.htt (fun r2 S2 w I2 c2 okr2 H => ?_)
  rw [e2] at I2 okr2
  simp only at I2 okr2
  refine asSl_e rfl ?_
  refine br_t rfl ?_
  have hn := mgs_n okr
  have hn2 := mgs_n okr2
  replace H : Sh.Holds w0 (r2.hp 35 :: r.hp 35 :: S2.hp :: hs) w := Holds.re H
  refine br_t (by rw [hn]; rfl) ?_
  have hs1 : Sl (Sh.Holds w0 (r2.hp 35 :: r.hp 35 :: S2.hp :: hs)) r.p r.n 7 _ := Sl.row 1 rfl okr
  have hs2 : Sl (Sh.Holds w0 (r2.hp 35 :: r.hp 35 :: S2.hp :: hs)) r2.p r2.n 7 _ := Sl.row 0 rfl okr2
  refine slAt_s hs1 (by omega) (by rw [hn]; simp) (fun b o hp => ?_)
  refine ldS_s (j := 0) hs1 hp H (v := I 6) rfl ?_
  refine asI_h ?_
  refine br_t rfl ?_
  refine br_t (by rw [hn2]; rfl) ?_
  refine slAt_s hs2 (by omega) (by rw [hn2]; simp) (fun b o hp => ?_)
  refine ldS_s (j := 7) hs2 hp H (v := I 10) rfl ?_
  refine asI_h ?_
  refine br_t rfl ?_
  have en2 : S1.n = S2.n := c2.n.symm
  rw [en2]
  refine stateC_c (S := S2) (id := 7) H I2 (fun w H => ?_)
  rw [e3]
  refine asI_e rfl ?_
  exact k w (Holds.re H)
end
end Go.Proofs.YtcfmnoimehcfnaaGreatDoor
