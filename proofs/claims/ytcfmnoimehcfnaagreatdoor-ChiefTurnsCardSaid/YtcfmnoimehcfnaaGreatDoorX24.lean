/- The chief with one order that is answered: round by round. Plain. Conditions: none. -/
import Derived.Test.YtcfmnoimehcfnaaGreatDoorXE
set_option linter.unusedVariables false
set_option linter.unusedSimpArgs false
set_option maxRecDepth 100000
namespace Go.Proofs.YtcfmnoimehcfnaaGreatDoor
open Go Go.Sh

def fitK (kind : Int) (z : Bool) : Int := if kind = 1 then (if z = true then 3 else 2) else if kind = 6 then (if z = true then 8 else 7) else if kind = 4 then 5 else if kind = 9 ∨ kind = 10 then (if z = true then 17 else 11) else if kind = 15 then 16 else 0
/-- an answer to a message -/
def fitsM (m : Mg) (z : Bool) : Mg := ⟨fitK m.kind z, m.to, 0, m.id, m.step, 0, 0⟩
def ans1 (P : CP) (c : CS × List Mg) (m : Mg) : CS × List Mg := if m.kind = 1 ∨ m.kind = 6 then handleC P c.1 (fitsM m false) else c
def ansR (P : CP) (c : CS × List Mg) : CS × List Mg := c.2.foldl (ans1 P) c
def ansN (P : CP) (c : CS × List Mg) : Nat → CS × List Mg
  | 0 => c
  | n + 1 => ansR P (ansN P c n)
def fwF (o : Od) (r : Nat) : Fc := { Fc.zero with done := tf r (o.steps.length - r), undone := List.replicate o.steps.length false }
def fwL (o : Od) (r : Nat) : Ld := ⟨o, fwF o r, none⟩
theorem fwL_zero (o : Od) : fwL o 0 = ledN o := by simp [fwL, fwF, ledN, tf]
theorem fwL_good {o : Od} {r : Nat} (h : mayOd o = true) (hr : r ≤ o.steps.length) : GoodL (fwL o r) r 0 :=
  ⟨h, hr, Nat.zero_le _, fun _ => rfl, (by show (tf r (o.steps.length - r)).length = _; rw [tf_len]; show r + _ = o.steps.length; omega), (by show List.replicate _ false = _; simp [ft, fwL]), fun h => (by cases h), fun h => (by cases h), fun h => (by cases h), fun _ => rfl, fun h => (by cases h), fun h => (by rcases h with h | h | h | h <;> cases h), rfl, (by simp [fwL])⟩
theorem fw_next {o : Od} {r : Nat} (h : mayOd o = true) (hr : r ≤ o.steps.length) : nextM o (fwF o r) = if r < o.steps.length then [⟨1, 0, (o.steps.getD r ⟨0, 0⟩).svc, o.id, r, (o.steps.getD r ⟨0, 0⟩).n, 0⟩] else [⟨6, 0, 1, o.id, 0, o.item, o.qty⟩, ⟨6, 0, 2, o.id, 0, o.client, o.price⟩] := by
  have hm : mayF o (fwF o r) = true := (fwL_good h hr).may
  have e : nextM o (fwF o r) = forwM o (fwF o r) := by
    unfold nextM
    rw [hm]
    simp [fwF, Fc.zero]
  rw [e]
  unfold forwM
  have ef : firstNot (fwF o r).done = if o.steps.length - r = 0 then none else some r := tf_idx r (o.steps.length - r)
  rw [ef]
  by_cases hl : r < o.steps.length
  · rw [if_neg (by omega), if_pos hl]
  · rw [if_pos (by omega), if_neg hl]
theorem fw_over (o : Od) (r : Nat) : overF o (fwF o r) = false := by
  unfold overF
  have : endsF (fwF o r) = 1 := rfl
  rw [this]; simp
theorem fw_sent {o : Od} {r : Nat} (h : mayOd o = true) (hr : r ≤ o.steps.length) : (fwL o r).sent = if r < o.steps.length then fwL o r else ⟨o, { fwF o r with asked := true }, some (false, false)⟩ := by
  unfold Ld.sent Ld.asks
  have e : nextM (fwL o r).o (fwL o r).f = nextM o (fwF o r) := rfl
  rw [e, fw_next h hr]
  by_cases hl : r < o.steps.length
  · rw [if_pos hl, if_pos hl, if_neg (by simp [asksM])]
  · rw [if_neg hl, if_neg hl, if_pos (by simp [asksM, fwL, fwF, Fc.zero]), fact3]; rfl
theorem fw_fact {o : Od} {r : Nat} (hr : r < o.steps.length) : (fwL o r).fact 4 r = fwL o (r + 1) := by
  rw [fact4]
  unfold fwL
  congr 1
  unfold fwF setB
  simp only
  congr 1
  rw [show o.steps.length - r = (o.steps.length - (r + 1)) + 1 by omega, show ((r : Int)).toNat = r by omega]
  exact tf_set r _
theorem waits_ff : waitsT (false, false) = [0, 1] := rfl
/-- an order that both keepers said yes to -/
structure Said (x : Ld) (o : Od) : Prop where
  oe : x.o = o
  yes : x.f.yes = true
  st : stateF x.o x.f = 3
  next : nextM x.o x.f = [⟨9, 0, 1, o.id, 0, 0, 0⟩, ⟨9, 0, 2, o.id, 0, 0, 0⟩, ⟨15, 0, 3, o.id, 0, o.item, o.qty⟩]
  asks : x.asks = false
theorem said_of {o : Od} (h : mayOd o = true) : Said ((⟨o, { fwF o o.steps.length with asked := true }, some (true, false)⟩ : Ld).fact 6 0) o ∧ overF o ((⟨o, { fwF o o.steps.length with asked := true }, some (true, false)⟩ : Ld).fact 6 0).f = false := by
  have g0 : GoodL (⟨o, { fwF o o.steps.length with asked := true }, some (true, false)⟩ : Ld) o.steps.length 0 := by
    have g := fwL_good h (Nat.le_refl _)
    exact ⟨h, Nat.le_refl _, Nat.zero_le _, g.done, g.dlen, g.undone, fun h => (by cases h), fun _ _ => rfl, fun h => (by cases h), fun _ => rfl, fun h => (by cases h), fun h => (by rcases h with h | h | h | h <;> cases h), rfl, (by simp)⟩
  obtain ⟨d, u, g⟩ := g0.fact (k := 6) (n := 0) (.inr (.inr (.inr (.inl ⟨rfl, rfl⟩))))
  have hm := g.may
  rw [fact6] at hm ⊢
  have he : endsF { ({ fwF o o.steps.length with asked := true } : Fc) with yes := true } = 3 := rfl
  have hn : nextM o { ({ fwF o o.steps.length with asked := true } : Fc) with yes := true } = [⟨9, 0, 1, o.id, 0, 0, 0⟩, ⟨9, 0, 2, o.id, 0, 0, 0⟩, ⟨15, 0, 3, o.id, 0, o.item, o.qty⟩] := by
    unfold nextM
    have hm' : mayF o { ({ fwF o o.steps.length with asked := true } : Fc) with yes := true } = true := hm
    rw [hm']
    simp [fwF, Fc.zero, decM, tellM]
  refine ⟨⟨rfl, rfl, ?_, hn, ?_⟩, ?_⟩
  · have hm' : mayF o { ({ fwF o o.steps.length with asked := true } : Fc) with yes := true } = true := hm
    unfold stateF
    exact (if_neg (fun e => by rw [hm'] at e; cases e)).trans ((if_neg (by simp [fwF, Fc.zero])).trans he)
  · unfold Ld.asks
    rw [hn]; simp [asksM]
  · unfold overF; rw [he]; simp
theorem Said.sent {x : Ld} {o : Od} (h : Said x o) : x.sent = x := by unfold Ld.sent; rw [if_neg (by simp [h.asks])]
/-- where it stands behind so many rounds -/
def Ph (P : CP) (o : Od) (r : Nat) (c : CS × List Mg) : Prop := GoodO c.1.L ∧
  ((r ≤ o.steps.length ∧ StC c.1 o.id (fwL o r).sent (some P.tries) (5 + 2 * r) ∧ c.2 = nextM o (fwF o r)) ∨ (o.steps.length < r ∧ ∃ x, Said x o ∧ StC c.1 o.id x (some P.tries) (5 + 2 * r) ∧ c.2 = nextM x.o x.f))
theorem handle_good {P : CP} {s : CS} (g : GoodO s.L) (m : Mg) : GoodO (handleC P s m).1.L := g.prims (handle_P g m)
theorem ph_step {P : CP} {o : Od} {r : Nat} {c : CS × List Mg} (h : mayOd o = true) (hr : ((5 + 2 * (r + 1) : Nat) : Int) ≤ P.room) (hp : Ph P o r c) : Ph P o (r + 1) (ansR P c) := by
  obtain ⟨s, l⟩ := c
  obtain ⟨g, ⟨h1, st, rfl⟩ | ⟨h1, x, hx, st, rfl⟩⟩ := hp
  · rw [fw_sent h h1] at st
    simp only at st g ⊢
    unfold ansR
    by_cases hl : r < o.steps.length
    · rw [if_pos hl] at st
      rw [fw_next h h1, if_pos hl]
      simp only [List.foldl_cons, List.foldl_nil]
      unfold ans1
      rw [if_pos (.inl rfl)]
      have g2 := handle_good (P := P) g (fitsM ⟨1, 0, (o.steps.getD r ⟨0, 0⟩).svc, o.id, r, (o.steps.getD r ⟨0, 0⟩).n, 0⟩ false)
      refine ⟨g2, .inl ⟨by omega, ?_⟩⟩
      have e1 : fitsM ⟨1, 0, (o.steps.getD r ⟨0, 0⟩).svc, o.id, r, (o.steps.getD r ⟨0, 0⟩).n, 0⟩ false = ⟨2, (o.steps.getD r ⟨0, 0⟩).svc, 0, o.id, r, 0, 0⟩ := by simp [fitsM, fitK]
      rw [e1]
      have e2 : handleC P s ⟨2, (o.steps.getD r ⟨0, 0⟩).svc, 0, o.id, r, 0, 0⟩ = onC P s ⟨4, o.id, [r]⟩ := by
        rw [handle_some rfl (by simp) st.L]
        simp only
        rw [if_pos (.inl trivial)]
        unfold stepsC
        have ei : idx isNot (fwL o r).f.done = r := by
          unfold idx
          show (match (tf r (o.steps.length - r)).findIdx? isNot with | some i => ((i : Nat) : Int) | none => (-1 : Int)) = (r : Int)
          rw [tf_idx, if_neg (by omega)]
        rw [if_neg (by simp [svcB, fwL, hl]), if_neg (by simp), if_pos rfl, if_pos ⟨rfl, rfl, ei⟩]
      rw [e2]
      obtain ⟨s2, f2, st2⟩ := st.note (P := P) (k := 4) (ns := [(r : Int)]) (by omega) (by omega) (by omega)
      have ef : (fwL o r).fact 4 (([(r : Int)]).getD 0 0) = fwL o (r + 1) := fw_fact hl
      rw [ef] at st2
      obtain ⟨s3, f3, st3⟩ := st2.goes (P := P) (fw_over o (r + 1)) (by omega)
      have e3 : onC P s ⟨4, o.id, [(r : Int)]⟩ = (s3, nextM o (fwF o (r + 1))) := by
        unfold onC; rw [f2]; exact f3
      rw [e3]
      exact ⟨st3.mono (by omega), rfl⟩
    · have hr2 : r = o.steps.length := by omega
      subst hr2
      rw [if_neg hl] at st
      rw [fw_next h h1, if_neg hl]
      simp only [List.foldl_cons, List.foldl_nil]
      have k1 : ans1 P (s, [⟨6, 0, 1, o.id, 0, o.item, o.qty⟩, ⟨6, 0, 2, o.id, 0, o.client, o.price⟩]) ⟨6, 0, 1, o.id, 0, o.item, o.qty⟩ = handleC P s ⟨7, 1, 0, o.id, 0, 0, 0⟩ := by
        unfold ans1; rw [if_pos (.inr rfl)]; simp [fitsM, fitK]
      have v1 : handleC P s ⟨7, 1, 0, o.id, 0, 0, 0⟩ = ({ s with L := updI s.L o.id (some ⟨o, { fwF o o.steps.length with asked := true }, some (true, false)⟩) }, []) := by
        rw [handle_some rfl (by simp) st.L]
        simp only
        rw [if_neg (by omega), if_pos (.inl trivial)]
        unfold votesC
        rw [if_neg (by simp [kpr])]
        simp only
        rw [if_neg (by simp), if_neg (by rw [waits_ff]; simp)]
        simp [sayT]
      have st2 : StC { s with L := updI s.L o.id (some ⟨o, { fwF o o.steps.length with asked := true }, some (true, false)⟩) } o.id ⟨o, { fwF o o.steps.length with asked := true }, some (true, false)⟩ (some P.tries) (5 + 2 * o.steps.length) := ⟨by simp [updI], st.B, st.le⟩
      have g2 := handle_good (P := P) g ⟨7, 1, 0, o.id, 0, 0, 0⟩
      rw [v1] at g2
      rw [k1, v1]
      have k2 : ∀ t : CS, ans1 P (t, []) ⟨6, 0, 2, o.id, 0, o.client, o.price⟩ = handleC P t ⟨7, 2, 0, o.id, 0, 0, 0⟩ := fun t => by
        unfold ans1; rw [if_pos (.inr rfl)]; simp [fitsM, fitK]
      rw [k2]
      generalize hs1 : ({ s with L := updI s.L o.id (some ⟨o, { fwF o o.steps.length with asked := true }, some (true, false)⟩) } : CS) = s1 at st2 g2 ⊢
      have g3 := handle_good (P := P) g2 ⟨7, 2, 0, o.id, 0, 0, 0⟩
      have v2 : handleC P s1 ⟨7, 2, 0, o.id, 0, 0, 0⟩ = onSC P s1 ⟨6, o.id, []⟩ := by
        rw [handle_some rfl (by simp) st2.L]
        simp only
        rw [if_neg (by omega), if_pos (.inl trivial)]
        unfold votesC
        rw [if_neg (by simp [kpr])]
        simp only
        rw [if_neg (by simp), if_pos (by rfl)]
      obtain ⟨s2, f2, st3⟩ := st2.sures (P := P) (k := 6) (ns := []) (by omega) (by omega) (by omega)
      obtain ⟨hs, hov⟩ := said_of h
      obtain ⟨s3, f3, st4⟩ := st3.goes (P := P) (by rw [fact_o]; exact hov) (by omega)
      have e3 : onSC P s1 ⟨6, o.id, []⟩ = (s3, nextM ((⟨o, { fwF o o.steps.length with asked := true }, some (true, false)⟩ : Ld).fact 6 0).o ((⟨o, { fwF o o.steps.length with asked := true }, some (true, false)⟩ : Ld).fact 6 0).f) := by
        unfold onSC; rw [f2]; exact f3
      refine ⟨g3, .inr ⟨by omega, _, hs, ?_⟩⟩
      rw [v2, e3]
      have hse := hs.sent
      have st4' : StC s3 o.id ((⟨o, { fwF o o.steps.length with asked := true }, some (true, false)⟩ : Ld).fact 6 0).sent (some P.tries) (5 + 2 * o.steps.length + 1 + 1) := st4
      rw [hse] at st4'
      exact ⟨st4'.mono (by omega), rfl⟩
  · have e : ansR P (s, nextM x.o x.f) = (s, nextM x.o x.f) := by
      unfold ansR
      rw [hx.next]
      simp [ans1]
    rw [e]
    exact ⟨g, .inr ⟨by omega, x, hx, st.mono (by omega), rfl⟩⟩
theorem ph_all {P : CP} {o : Od} {c : CS × List Mg} (h : mayOd o = true) (h0 : Ph P o 0 c) : ∀ r, ((5 + 2 * r : Nat) : Int) ≤ P.room → Ph P o r (ansN P c r)
  | 0, _ => h0
  | r + 1, hr => ph_step h hr (ph_all h h0 r (by omega))
theorem ph_begin {P : CP} {o : Od} (hm : mayOd o = true) (hmo : 1 ≤ P.most) (hr : 5 ≤ P.room) : ∃ s' l, beginC P CS.zero o = (s', l, 0) ∧ Ph P o 0 (s', l) := by
  obtain ⟨s1, e, st, g⟩ := begin_St hm hmo hr
  refine ⟨s1, _, e, g, .inl ⟨Nat.zero_le _, ?_, ?_⟩⟩
  · rw [fwL_zero]; exact st
  · have := fwL_zero o
    have e2 : (fwL o 0).f = (ledN o).f := by rw [this]
    exact congrArg (nextM o) e2.symm
/-- who is rung, and stays as it is -/
structure Rung (x : Ld) : Prop where
  asks : x.asks = false
  ne : nextM x.o x.f ≠ []
  st : stateF x.o x.f ≠ 4
theorem ring_lo {P : CP} {s : CS} {id : Int} {x : Ld} {b : Int} {n : Nat} (h : StC s id x (some b) n) (hb : b ≠ 0) (hx : x.asks = false) : ∃ s', ringC P s id = (s', nextM x.o x.f) ∧ StC s' id x (some (b - 1)) n ∧ s'.L = s.L := by
  have h2 : StC { s with B := updI s.B id (some (b - 1)) } id x (some (b - 1)) n := ⟨h.L, by simp [updI], h.le⟩
  refine ⟨_, ?_, h2, rfl⟩
  unfold ringC
  rw [h.B]
  simp only
  rw [h.L]
  simp only
  rw [if_neg hb]
  exact h2.sends0 hx
theorem ring_said {P : CP} {s : CS} {id : Int} {x : Ld} {o : Od} {n : Nat} (h : StC s id x (some 0) n) (hx : Said x o) : ∃ s', ringC P s id = (s', nextM x.o x.f) ∧ stateC s' id = 3 := by
  have h2 := h.again (P := P)
  refine ⟨againC P s id, ?_, ?_⟩
  · unfold ringC
    rw [h.B]
    simp only
    rw [h.L]
    simp only
    rw [if_pos trivial, if_neg (by simp [Fc.decided, hx.yes])]
    exact h2.sends0 hx.asks
  · unfold stateC; rw [h2.L]; exact hx.st
theorem ring_turn {P : CP} {s : CS} {id : Int} {x : Ld} {n : Nat} (h : StC s id x (some 0) n) (g : GoodO s.L) (hd : x.f.decided = false) (hr : (n : Int) + 2 ≤ P.room) : ∃ s' l, ringC P s id = (s', l) ∧ l ≠ [] ∧ stateC s' id = 4 := by
  obtain ⟨-, d, u, gx⟩ := g.all _ _ h.L
  have ht := gx.turn hd
  obtain ⟨s2, e2, g2⟩ := h.turns (P := P) (by have := ht.ov; rwa [fact_o] at this) hr
  rw [ht.sent] at g2
  refine ⟨s2, nextM x.o (x.fact 7 0).f, ?_, ?_, ?_⟩
  · unfold ringC
    rw [h.B]
    simp only
    rw [h.L]
    simp only
    rw [if_pos trivial, if_pos hd, e2]
  · have hn := ht.ne
    rw [fact_o] at hn
    rw [hn]; simp
  · unfold stateC; rw [g2.L]; exact ht.st
theorem fw_rung {o : Od} (h : mayOd o = true) : Rung (fwL o 0).sent ∧ (fwL o 0).sent.f.decided = false := by
  have hn := fw_next h (Nat.zero_le _)
  rw [fw_sent h (Nat.zero_le _)]
  by_cases hl : 0 < o.steps.length
  · rw [if_pos hl] at hn ⊢
    have hn' : nextM (fwL o 0).o (fwL o 0).f = _ := hn
    refine ⟨⟨?_, by rw [hn']; simp, ?_⟩, rfl⟩
    · unfold Ld.asks; rw [hn']; simp [asksM]
    · have hm := (fwL_good h (Nat.zero_le _)).may
      unfold stateF
      rw [hm, if_neg (by simp), if_neg (by simp [fwL, fwF, Fc.zero])]
      show (1 : Int) ≠ 4
      omega
  · rw [if_neg hl]
    have g0 : GoodL (⟨o, { fwF o 0 with asked := true }, some (false, false)⟩ : Ld) 0 0 := by
      have g := fwL_good h (Nat.zero_le _)
      exact ⟨h, Nat.zero_le _, Nat.zero_le _, g.done, g.dlen, g.undone, fun h => (by cases h), fun _ _ => (by show 0 = o.steps.length; omega), fun h => (by cases h), fun _ => rfl, fun h => (by cases h), fun h => (by rcases h with h | h | h | h <;> cases h), rfl, (by simp)⟩
    have hm := g0.may
    have hne : nextM o { fwF o 0 with asked := true } = forwM o { fwF o 0 with asked := true } := by
      have hm' : mayF o { fwF o 0 with asked := true } = true := hm
      unfold nextM
      rw [hm']
      simp [fwF, Fc.zero]
    have hl0 : o.steps.length = 0 := by omega
    have hf : forwM o { fwF o 0 with asked := true } ≠ [] := by
      unfold forwM
      split <;> simp
    refine ⟨⟨?_, ?_, ?_⟩, rfl⟩
    · unfold Ld.asks; simp
    · show nextM o { fwF o 0 with asked := true } ≠ []
      rw [hne]; exact hf
    · unfold stateF
      rw [hm, if_neg (by simp), if_neg (by simp [fwF, Fc.zero])]
      show (2 : Int) ≠ 4
      omega
theorem said_rung {x : Ld} {o : Od} (h : Said x o) : Rung x := ⟨h.asks, by rw [h.next]; simp, by rw [h.st]; omega⟩
end Go.Proofs.YtcfmnoimehcfnaaGreatDoor
