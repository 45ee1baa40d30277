/- wharfingerlaw25.HarbourForces returns true for every input. Conditions: the listed variables of the library's hold what the program's text lays (tied by the card). -/
import Derived.Test.YtlfgmbbiealpoaaGreatDoorWr
import Derived.Test.YtlfgmbbiealpoaaGreatDoorTie
import Derived.Test.YtlfgmbbiealpoaaGreatDoorWj
import Derived.Test.YtlfgmbbiealpoaaGreatDoorWk
import Derived.Test.YtlfgmbbiealpoaaGreatDoorWl
import Derived.Test.YtlfgmbbiealpoaaGreatDoorCards
import Derived.Test.YtlfgmbbiealpoaaGreatDoorEH2
set_option linter.unusedVariables false
namespace Go.Proofs.YtlfgmbbiealpoaaGreatDoor.harbourForces
open Go Go.ChangeShapes Go.WideShapes Go.ChangeAt Go.RowKit

set_option maxRecDepth 100000 in
theorem lifted (os : Os) (started : os.Started) (H : Type) (enc : TypeId × Value → H) :
    ReturnsInHanded {} Tryz.checked os 11 .any (fun w args => (Rows.harbourForcesSpec.pre enc Tryz.prog Tryz.f11 [] false w args ∧ laidMetH Tryz.prog laid3 w) ∧ sizedMet enc Tryz.prog Tryz.f11 (OpenSpec.ofChange Rows.harbourForcesSpec) false w args)
      (Rows.harbourForcesSpec.post enc Tryz.prog Tryz.f11 false true false false) := by
  refine returnsInHanded_of_change_and (C := Tryz.checked) (X := fun w _ => laidMetH Tryz.prog laid3 w) (fun _ _ _ hh h => h.of_heap hh) own started (by kernel_rfl) Tryz.func11
    (ChangeSpec.witness_shaped (enc := enc) (C := Tryz.checked) (os := os) (X := fun w _ => laidMetH Tryz.prog laid3 w) false (World.laidAll Tryz.prog os laid3) #[(.int .i64 0), (.int .i64 0), (.bool false)] 8 (World.laidAll_os _ _ _) (World.shaped_of_ZipB (by kernel_rfl) (by kernel_rfl)) (by kernel_rfl) (by kernel_rfl) (by kernel_rfl) (door_met3 os _)) ?_
  intro W base args ds gs before hval0 hW _ hsz hL _
  have hval : ∀ (j : Nat) t v, Tryz.f11.params[j]? = some t → args[j]? = some v → Value.okWide Tryz.prog W .any base t v := hval0
  have hW' := hW
  obtain ⟨p, q, hA0, hV, rfl, hfz, hnd⟩ := hW
  have hA : DataW.TrodAll enc Tryz.prog W 0 (fun _ => true) true Tryz.f11.params.toList args.toList ds p := hA0
  rw [Tryz.params11] at hA hval
  obtain ⟨rfl, rfl⟩ := trodVars_none hV
  have hlt : ∀ x ∈ p, x.block < W.heap.size := fun x hx => by simpa using hW'.lt x (by simp [hx])
  have hK : ∀ {W' : World}, Below W.heap.size W W' → DataW.TrodAll enc Tryz.prog W' 0 (fun b => decide (b < W.heap.size)) true [3, 3, 4] args.toList ds p := fun hb => trodAll_below laidOut (by kernel_rfl) hA hb hlt
  obtain ⟨v0, vs0, d0, ds0, p0, q0, hargs0, rfl, rfl, h0, r0⟩ := trodAll_cons hA
  obtain ⟨v1, vs1, d1, ds1, p1, q1, hargs1, rfl, rfl, h1, r1⟩ := trodAll_cons r0
  obtain ⟨v2, vs2, d2, ds2, p2, q2, hargs2, rfl, rfl, h2, r2⟩ := trodAll_cons r1
  obtain ⟨hnil, rfl, rfl⟩ := trodAll_nil r2
  obtain rfl : args = #[v0, v1, v2] := by cases args; simp_all
  obtain ⟨a0, rfl⟩ := okWide_int Tryz.underlying3 (hval 0 3 v0 rfl rfl)
  obtain ⟨a1, rfl⟩ := okWide_int Tryz.underlying3 (hval 1 3 v1 rfl rfl)
  obtain ⟨b2, rfl⟩ := okWide_bool Tryz.underlying4 (hval 2 4 v2 rfl rfl)

  simp only [List.append_nil] at hW'
  have hc : Sh.gocall Tryz.prog 11 [I a0, I a1, .bool b2] (fun v w' => v = .bool true ∧ Below W.heap.size W w') W := harbourForces_c (tab_of3 hL) (fun w' hb => ⟨rfl, hb⟩)
  refine hc.2.mono ?_
  rintro e W' ⟨v, he, rfl, hb⟩
  subst he
  refine ⟨_, rfl, _, _, _, [], _, [], hW', trodAll_cons_mk (shut_bool Tryz.underlying4 _) trodAll_mk0, hK hb, rfl, hb.frame _, fun h => by cases h⟩

theorem j9 : (Rows.harbourForcesRow.inPlace == Tryz.prog.inPlace 11) = true := by kernel_rfl
theorem j10 : (Rows.harbourForcesRow.unfollowed == Tryz.prog.unfollowed 11) = true := by kernel_rfl
theorem j11 : (Rows.harbourForcesRow.recurses == Tryz.prog.recurses 11) = true := by kernel_rfl
theorem j12 : (Rows.harbourForcesRow.named == Tryz.prog.varsNamed 11) = true := by kernel_rfl
theorem closed : joinedFacts Tryz.prog 11 Tryz.f11 Rows.harbourForcesSpec Rows.harbourForcesRow = true :=
  joined_of (by kernel_rfl) laidOut rowedT (by kernel_rfl) rfl stopsN rfl knobsN j9 j10 j11 j12 (by kernel_rfl) plainT rfl heardT enterT liftsT makeT (by kernel_rfl)
theorem over : Rows.harbourForcesRow.holds Tryz.pinned (OpenSpec.ofChange Rows.harbourForcesSpec) :=
  OpenClaim.holds_of_wide 11 Tryz.f11 rfl rfl rfl rfl rfl rfl rfl ⟨rfl, rfl, rfl, rfl, rfl⟩ rfl rfl rfl rfl rfl (by kernel_rfl) Tryz.func11 closed
    (of_decide_eq_true (by kernel_rfl)) (by unfold Func.isWrapper; first | (rw [if_pos (by decide +kernel)]; kernel_rfl) | (rw [if_neg (by decide +kernel)]; exact ⟨rfl, rfl⟩))
    (fun os started H enc _ => lifted os started H enc)
end Go.Proofs.YtlfgmbbiealpoaaGreatDoor.harbourForces
namespace Go.Proofs.YtlfgmbbiealpoaaGreatDoor
open Go
theorem harbourForces_holds : Rows.HarbourForcesCardSaid :=
  Claim7.holds_tied_plain_at .later [] [.data, .data, .data] true (true, "2d15c1594fddb50522b462fb2d7dec92efa0eb3f725aea0f564a7e287067d91b") true
    harbourForces.over (fun _ h => by cases h) (by kernel_rfl) (fun _ h => by cases h) harbourForces_row_tie rfl ⟨rfl, rfl⟩ mainT rfl
    (fun f fn hf hfn => by
      obtain rfl : f = 11 := Option.some.inj ((show Tryz.prog.funcNamed "wharfinger/wharfingerlaw25.HarbourForces" = some 11 by kernel_rfl).symm.trans hf) |>.symm
      obtain rfl : fn = Tryz.f11 := (Option.some.inj (Tryz.func11.symm.trans hfn)).symm
      exact ⟨looksT, fun j t ht => by
        rw [Tryz.params11] at ht
        have hm : t ∈ [3, 3, 4] := by simpa using Array.mem_of_getElem? ht
        have hall : ([3, 3, 4].all fun u => !Tryz.prog.wantsStandIn u) = true := by kernel_rfl
        exact (show Tryz.prog.wantsStandIn t = false by simpa using List.all_eq_true.1 hall t hm)⟩)
    (goesBy_no noGoes rfl)
#print axioms harbourForces_holds
end Go.Proofs.YtlfgmbbiealpoaaGreatDoor
