/- ChiefPresumes: what the chief does, plain. Conditions: none. -/
import Derived.Test.YtcfmnoimehcfnaaGreatDoorX34
set_option linter.unusedVariables false
set_option linter.unusedSimpArgs false
set_option maxRecDepth 100000
namespace Go.Proofs.YtcfmnoimehcfnaaGreatDoor
open Go Go.Sh

theorem sole_id {L : Int → Option Ld} {id : Int} (hi : 1 ≤ id ∧ id ≤ 999) (h1 : (L id).isSome = true) (h2 : ∀ i, i ≠ id → L i = none) : idsC L = [id] := by
  have hall : ∀ i ∈ idsC L, i = id := fun i hm => by
    unfold idsC at hm
    rw [List.mem_filter] at hm
    by_cases e : i = id
    · exact e
    · rw [h2 i e] at hm; exact absurd hm.2 (by simp)
  have hmem : id ∈ idsC L := by
    unfold idsC
    rw [List.mem_filter]
    refine ⟨?_, h1⟩
    unfold allI
    rw [List.mem_map]
    exact ⟨id.toNat, by rw [List.mem_range]; omega, by omega⟩
  have hnd : (idsC L).Pairwise (fun a b => a ≠ b) := by
    unfold idsC allI
    refine List.Pairwise.filter _ ?_
    rw [List.pairwise_map]
    exact List.nodup_range.imp (fun h e => h (by omega))
  generalize idsC L = l at hall hmem hnd
  match l, hall, hmem, hnd with
  | [], _, hm, _ => simp at hm
  | [a], ha, _, _ => rw [ha a (by simp)]
  | a :: b :: r, ha, _, hn =>
    exfalso
    rw [List.pairwise_cons] at hn
    exact hn.1 b (by simp) ((ha a (by simp)).trans (ha b (by simp)).symm)
theorem start_one {P : CP} {es : List CE} {id : Int} {x : Ld} (hi : 1 ≤ id ∧ id ≤ 999) (h1 : runC es id = some x) (h2 : ∀ i, i ≠ id → runC es i = none) (ho : overF x.o x.f = false) :
    ∃ s1, StC s1 id x (some P.tries) es.length ∧ startC P es = if (x.f.asked && !x.f.decided) = true then (suresC P s1 [⟨7, id, []⟩]).getD s1 else s1 := by
  refine ⟨hangC P ⟨es, es.length, runC es, fun _ => none⟩ id, ⟨h1, ?_, Nat.le_refl _⟩, ?_⟩
  · show (if (1 ≤ id ∧ id ≤ 999) ∧ (none : Option Int) = none then updI (fun _ => none) id (some P.tries) else fun _ => none) id = _
    rw [if_pos ⟨hi, rfl⟩]; simp [updI]
  · unfold startC
    rw [sole_id hi (by rw [h1]; rfl) h2]
    simp only [List.foldl_cons, List.foldl_nil]
    unfold startStep
    simp only [h1]
    rw [ho]
    rfl
section
variable {o : Od}
def x1 (o : Od) : Ld := ledN o
def x2 (o : Od) : Ld := (ledN o).fact 3 0
theorem x2_eq : x2 o = ⟨o, { (ledN o).f with asked := true }, some (false, false)⟩ := fact3 _ _
theorem ov1 : overF (x1 o).o (x1 o).f = false := by
  unfold overF
  have : endsF (x1 o).f = 1 := rfl
  rw [this]; simp
theorem ov2 : overF (x2 o).o (x2 o).f = false := by
  rw [x2_eq]
  unfold overF
  have : endsF { (ledN o).f with asked := true } = 2 := rfl
  simp only
  rw [this]; simp
def m1 (o : Od) : List Mg := [⟨6, 0, 1, o.id, 0, o.item, o.qty⟩, ⟨6, 0, 2, o.id, 0, o.client, o.price⟩]
theorem next1 (hm : mayOd o = true) (h0 : o.steps = []) : nextM (x1 o).o (x1 o).f = m1 o := by
  have hM : mayF (x1 o).o (x1 o).f = true := (ledN_good hm).may
  unfold nextM
  rw [hM]
  have hd : (x1 o).f.done = [] := by show List.replicate o.steps.length false = []; rw [h0]; rfl
  have e : forwM (x1 o).o (x1 o).f = m1 o := by
    unfold forwM
    rw [hd]; rfl
  rw [if_neg (by simp), if_neg (by simp [x1, ledN, Fc.zero]), if_neg (by simp [x1, ledN, Fc.zero]), if_neg (by simp [x1, ledN, Fc.zero]), e]
theorem asks1 (hm : mayOd o = true) (h0 : o.steps = []) : (x1 o).asks = true := by
  unfold Ld.asks
  rw [next1 hm h0]
  rfl
theorem good2 (hm : mayOd o = true) (h0 : o.steps = []) : ∃ d u, GoodL (x2 o) d u := by
  refine (ledN_good hm).fact (k := 3) (n := 0) (asksM_ev ?_)
  exact asks1 hm h0
theorem state2 (hm : mayOd o = true) (h0 : o.steps = []) : stateF (x2 o).o (x2 o).f = 2 := by
  obtain ⟨d, u, g⟩ := good2 hm h0
  have hM := g.may
  unfold stateF
  rw [if_neg (by rw [hM]; simp)]
  rw [x2_eq]
  rfl
theorem len1 (h0 : o.steps = []) : (beginEs o).length = 1 := by rw [beginEs_len, h0]; rfl
theorem begin2 (hm : mayOd o = true) (h0 : o.steps = []) : ∃ s1, beginC PA CS.zero o = (s1, m1 o, 0) ∧ s1.es = beginEs o ++ [⟨3, o.id, []⟩] ∧ s1.sure = 1 ∧ s1.L o.id = some (x2 o) := by
  obtain ⟨h1, -, -, -, -, -, -⟩ := mayOd_out hm
  have hs : suresC PA CS.zero (beginEs o) = some (sureC { CS.zero with es := CS.zero.es ++ beginEs o, L := (beginEs o).foldl playC CS.zero.L }) := by
    unfold suresC noteC
    rw [if_neg (by rw [len1 h0]; simp [CS.zero, PA])]; rfl
  generalize hS : hangC PA (sureC { CS.zero with es := CS.zero.es ++ beginEs o, L := (beginEs o).foldl playC CS.zero.L }) o.id = sh at *
  have e1 : sh.es = beginEs o := by rw [← hS]; simp [hangC, sureC, CS.zero]
  have e2 : sh.sure = 1 := by rw [← hS]; show (CS.zero.es ++ beginEs o).length = 1; simp [CS.zero, len1 h0]
  have e3 : sh.L o.id = some (x1 o) := by
    rw [← hS]
    show (beginEs o).foldl playC CS.zero.L o.id = _
    rw [begin_play]; simp [updI, x1]
  have ha : (asksM (nextM (x1 o).o (x1 o).f) && !(x1 o).f.asked) = true := asks1 hm h0
  have hg : goesC PA sh o.id = ({ againC PA sh o.id with es := sh.es ++ [⟨3, o.id, []⟩], L := [(⟨3, o.id, []⟩ : CE)].foldl playC sh.L }, m1 o) := by
    unfold goesC
    rw [e3]
    simp only
    rw [if_neg (by rw [ov1]; simp)]
    unfold sendsC
    rw [show (againC PA sh o.id).L o.id = some (x1 o) from e3]
    simp only
    rw [if_pos ha]
    have hn : noteC PA (againC PA sh o.id) [⟨3, o.id, []⟩] = some { againC PA sh o.id with es := sh.es ++ [⟨3, o.id, []⟩], L := [(⟨3, o.id, []⟩ : CE)].foldl playC sh.L } := by
      unfold noteC
      rw [if_neg (by show ¬ ((sh.es.length : Int) + ([(⟨3, o.id, []⟩ : CE)].length : Nat) > 100); rw [e1, len1 h0]; simp)]
      rfl
    rw [hn]
    simp only
    rw [next1 hm h0]
  refine ⟨{ againC PA sh o.id with es := sh.es ++ [⟨3, o.id, []⟩], L := [(⟨3, o.id, []⟩ : CE)].foldl playC sh.L }, ?_, ?_, ?_, ?_⟩
  · unfold beginC
    rw [if_neg (by simp [hm]), if_neg (by simp [CS.zero]), if_neg (by rw [open_zero]; decide), hs]
    simp only
    rw [hS, hg]
  · simp only; rw [e1]
  · exact e2
  · show (playC sh.L ⟨3, o.id, []⟩) o.id = _
    rw [playC_fact e3 (by omega) (by omega)]
    simp [updI, x2, x1]
theorem run1 (i : Int) : runC (beginEs o) i = if i = o.id then some (x1 o) else none := by
  unfold runC
  rw [begin_play]
  unfold updI
  rfl
theorem run2 (i : Int) : runC (beginEs o ++ [⟨3, o.id, []⟩]) i = if i = o.id then some (x2 o) else none := by
  rw [runC_add, playC_fact (x := x1 o) (by rw [run1]; simp) (by omega) (by omega)]
  unfold updI
  by_cases h : i = o.id
  · simp [h, x2, x1]
  · rw [if_neg h, if_neg h, run1, if_neg h]
/-- what it asked was lost: it asks again -/
theorem again1 (hm : mayOd o = true) (h0 : o.steps = []) : ∃ s', ringC PA (startC PA (beginEs o)) o.id = (s', m1 o) ∧ stateC s' o.id = 2 := by
  obtain ⟨h1, -⟩ := mayOd_out hm
  obtain ⟨s1, g1, e1⟩ := start_one (P := PA) (es := beginEs o) (id := o.id) (x := x1 o) h1 (by rw [run1]; simp) (fun i hi => by rw [run1]; simp [hi]) ov1
  rw [if_neg (by simp [x1, ledN, Fc.zero])] at e1
  rw [e1]
  have g2 : StC { s1 with B := updI s1.B o.id (some ((3 : Int) - 1)) } o.id (x1 o) (some 2) 1 := ⟨g1.L, by simp [updI], by have := g1.le; rw [len1 h0] at this; exact this⟩
  obtain ⟨s', e2, g3⟩ := g2.sends (P := PA) (by decide)
  refine ⟨s', ?_, ?_⟩
  · unfold ringC
    rw [g1.B]
    simp only
    rw [g1.L]
    simp only
    rw [if_neg (by decide)]
    have : sendsC PA { s1 with B := updI s1.B o.id (some ((3 : Int) - 1)) } o.id = (s', nextM (x1 o).o (x1 o).f) := e2
    rw [next1 hm h0] at this
    exact this
  · unfold stateC
    rw [g3.L]
    unfold Ld.sent
    rw [if_pos (asks1 hm h0)]
    exact state2 hm h0
/-- what it asked is sure: it is against it -/
theorem against (hm : mayOd o = true) (h0 : o.steps = []) : ∃ s' l, ringC PA (startC PA (beginEs o ++ [⟨3, o.id, []⟩])) o.id = (s', l) ∧ stateC s' o.id = 4 ∧ ∃ a b, l = [a, b] ∧ a.kind = 10 := by
  obtain ⟨h1, -⟩ := mayOd_out hm
  obtain ⟨s1, g1, e1⟩ := start_one (P := PA) (es := beginEs o ++ [⟨3, o.id, []⟩]) (id := o.id) (x := x2 o) h1 (by rw [run2]; simp) (fun i hi => by rw [run2]; simp [hi]) ov2
  rw [if_pos (by rw [x2_eq]; rfl)] at e1
  have hl : (beginEs o ++ [(⟨3, o.id, []⟩ : CE)]).length = 2 := by rw [List.length_append, len1 h0]; rfl
  rw [hl] at g1
  obtain ⟨s2, e2, g2⟩ := g1.sures (P := PA) (k := 7) (ns := []) (by omega) (by omega) (by decide)
  rw [e2] at e1
  simp only [Option.getD_some] at e1
  rw [e1]
  obtain ⟨d, u, g⟩ := good2 hm h0
  have ht := g.turn (by rw [x2_eq]; rfl)
  have g3 : StC { s2 with B := updI s2.B o.id (some ((3 : Int) - 1)) } o.id ((x2 o).fact 7 0) (some 2) 3 := ⟨g2.L, by simp [updI], g2.le⟩
  have hu : undoM ((x2 o).fact 7 0).o ((x2 o).fact 7 0).f = [] := by
    rw [fact_o, x2_eq]
    unfold undoM
    simp only
    rw [h0]; rfl
  have hne := ht.ne
  rw [hu] at hne
  refine ⟨{ s2 with B := updI s2.B o.id (some ((3 : Int) - 1)) }, nextM ((x2 o).fact 7 0).o ((x2 o).fact 7 0).f, ?_, ?_, _, _, hne, rfl⟩
  · unfold ringC
    rw [g2.B]
    simp only
    rw [g2.L]
    simp only
    rw [if_neg (by decide)]
    exact g3.sends0 ht.asks
  · unfold stateC
    rw [g3.L]
    exact ht.st
end
end Go.Proofs.YtcfmnoimehcfnaaGreatDoor
