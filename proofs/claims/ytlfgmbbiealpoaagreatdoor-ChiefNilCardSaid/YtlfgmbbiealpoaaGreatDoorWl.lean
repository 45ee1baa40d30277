/- A row's checks, put together of their parts. Conditions: none. -/
import Derived.Test.YtlfgmbbiealpoaaGreatDoorWr
set_option linter.unusedVariables false
set_option maxRecDepth 100000
namespace Go.Proofs.YtlfgmbbiealpoaaGreatDoor
open Go Go.ChangeShapes Go.WideShapes Go.ChangeAt Go.RowKit

theorem goes_no {P : Program} (h : P.funcs.any Func.goes = false) (f : FuncId) : P.goes f = false := by
  unfold Program.goes
  rw [h, Bool.and_false, Bool.or_false, List.any_eq_false]
  intro g _
  cases e : P.funcs[g]? with
  | none => simp
  | some x =>
    have hx := (Array.any_eq_false.1 h)
    obtain ⟨hi, hg⟩ := Array.getElem?_eq_some_iff.1 e
    have := hx g hi
    rw [hg] at this
    simpa using this
theorem goesBy_no {P : Program} (h : P.funcs.any Func.goes = false) {c : OpenClaim} (hs : c.start = .entering) : false = c.goesBy P := by
  unfold OpenClaim.goesBy Program.goesAt Program.goesFrom
  rw [hs]
  cases e : P.funcNamed c.func with
  | none => simp
  | some f => simp [goes_no h f]
theorem joined_of {P : Program} {f : FuncId} {fn : Func} {s : ChangeSpec} {c : OpenClaim} (a1 : c.wf (OpenSpec.ofChange s) = true) (a2 : laidOutB P = true) (a3 : mapsRowed P = true)
    (a4 : (fn.params.all (P.readableRec ·) && namedTie P c.named s.vars) = true) (a5 : (c.stops == []) = true) (a6 : (P.stops == []) = true) (a7 : (c.knobs == []) = true) (a8 : (P.stopKnobs == []) = true)
    (a9 : (c.inPlace == P.inPlace f) = true) (a10 : (c.unfollowed == P.unfollowed f) = true) (a11 : (c.recurses == P.recurses f) = true) (a12 : (c.named == P.varsNamed f) = true)
    (a13 : ((c.maps == (fn.params.toList ++ s.plain.varTypes P).any (P.mapsRec ·)) && (c.ifaces == (fn.params.toList ++ s.plain.varTypes P).any (P.ifacesRec ·)) && (c.mapsOut == P.mapsAmong fn.resultTypes.toList) &&
      (c.loops == (fn.params.toList ++ s.plain.varTypes P).any (P.loopsFrom ·)) && (c.wideKeys == (fn.params.toList ++ s.plain.varTypes P ++ fn.resultTypes.toList).any (P.wideKeysFrom ·)) &&
      s.vars.all (P.varReadable ·) && fn.resultTypes.all (fun t => P.readableRec t && decide (t < P.types.size)) && (c.ifacesOut == fn.resultTypes.toList.any (P.ifacesRec ·)) && (c.loopsOut == fn.resultTypes.toList.any (P.loopsFrom ·))) = true)
    (a14 : (c.plainKeys == P.plainKeys) = true) (a15 : c.shortTexts.isNone = true) (a16 : P.stopsHeard = true) (a17 : P.mayEnter = true) (a18 : (c.lifted == P.liftsFinal) = true) (a19 : (P.make == some c.make) = true)
    (a20 : ((c.kinds == (if c.domain.isEmpty then [] else fn.params.toList.map fun t => match P.underlying t with | some (.int k) => some k | _ => none)) && (c.pinned == c.pinnedBy) &&
      (c.veiled == (fn.params.toList ++ s.plain.varTypes P ++ fn.resultTypes.toList).any (P.veiledRec ·)) && c.veiledFits P fn.params.toList (fn.params.toList ++ s.plain.varTypes P ++ fn.resultTypes.toList)) = true) : joinedFacts P f fn s c = true := by
  simp only [Bool.and_eq_true] at a4 a13 a20
  obtain ⟨⟨⟨⟨⟨⟨⟨⟨b1, b2⟩, b3⟩, b4⟩, b5⟩, b6⟩, b7⟩, b8⟩, b9⟩ := a13
  obtain ⟨⟨⟨c1, c2⟩, c3⟩, c4⟩ := a20
  unfold joinedFacts
  simp only [Bool.and_eq_true]
  exact ⟨⟨⟨⟨⟨⟨⟨⟨⟨⟨⟨⟨⟨⟨⟨⟨⟨⟨⟨⟨⟨⟨⟨⟨⟨⟨⟨⟨⟨⟨⟨a1, a2⟩, a3⟩, a4.1⟩, a4.2⟩, a5⟩, a6⟩, a7⟩, a8⟩, a9⟩, a10⟩, a11⟩, a12⟩, b1⟩, b2⟩, b3⟩, b4⟩, b5⟩, b6⟩, b7⟩, b8⟩, b9⟩, a14⟩, a15⟩, a16⟩, a17⟩, a18⟩, a19⟩, c1⟩, c2⟩, c3⟩, c4⟩
end Go.Proofs.YtlfgmbbiealpoaaGreatDoor
