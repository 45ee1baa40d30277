/- wharfingerlaw22.ChiefNil returns true for every input. Conditions: the listed variables of the library's hold what the program's text lays (tied by the card). -/
import Derived.Test.YtlfgmbbiealpoaaGreatDoorWn3
import Derived.Test.YtlfgmbbiealpoaaGreatDoorTie
import Derived.Test.YtlfgmbbiealpoaaGreatDoorWj
import Derived.Test.YtlfgmbbiealpoaaGreatDoorWk
import Derived.Test.YtlfgmbbiealpoaaGreatDoorWl
import Derived.Test.YtlfgmbbiealpoaaGreatDoorCards
import Derived.Test.YtlfgmbbiealpoaaGreatDoorEC1
set_option linter.unusedVariables false
namespace Go.Proofs.YtlfgmbbiealpoaaGreatDoor.chiefNil
open Go Go.ChangeShapes Go.WideShapes Go.ChangeAt Go.RowKit

set_option maxRecDepth 100000 in
theorem lifted (os : Os) (started : os.Started) (H : Type) (enc : TypeId × Value → H) :
    ReturnsInHanded {} Tryz.checked os 8 .any (fun w args => (Rows.chiefNilSpec.pre enc Tryz.prog Tryz.f8 [] false w args ∧ laidMetH Tryz.prog laid7 w) ∧ sizedMet enc Tryz.prog Tryz.f8 (OpenSpec.ofChange Rows.chiefNilSpec) false w args)
      (Rows.chiefNilSpec.post enc Tryz.prog Tryz.f8 false true false false) := by
  refine returnsInHanded_of_change_and (C := Tryz.checked) (X := fun w _ => laidMetH Tryz.prog laid7 w) (fun _ _ _ hh h => h.of_heap hh) own started (by kernel_rfl) Tryz.func8
    (ChangeSpec.witness_shaped (enc := enc) (C := Tryz.checked) (os := os) (X := fun w _ => laidMetH Tryz.prog laid7 w) false (World.laidAll Tryz.prog os laid7) #[.agg #[.int .i64 0, .int .i64 0, .int .i64 0, .int .i64 0, .int .i64 0, .int .i64 0, .int .i64 0, .int .i64 0, .int .i64 0, .slice none 0 0, .int .i64 0, .int .i64 0, .int .i64 0, .int .i64 0, .int .i64 0, .int .i64 0, .int .i64 0]] 8 (World.laidAll_os _ _ _) (World.shaped_of_ZipB (by kernel_rfl) (by kernel_rfl)) (by kernel_rfl) (by kernel_rfl) (by kernel_rfl) (door_met os _)) ?_
  intro W base args ds gs before hval0 hW _ hsz hL _
  have hval : ∀ (j : Nat) t v, Tryz.f8.params[j]? = some t → args[j]? = some v → Value.okWide Tryz.prog W .any base t v := hval0
  have hW' := hW
  obtain ⟨p, q, hA0, hV, rfl, hfz, hnd⟩ := hW
  have hA : DataW.TrodAll enc Tryz.prog W 0 (fun _ => true) true Tryz.f8.params.toList args.toList ds p := hA0
  rw [Tryz.params8] at hA hval
  obtain ⟨rfl, rfl⟩ := trodVars_none hV
  have hlt : ∀ x ∈ p, x.block < W.heap.size := fun x hx => by simpa using hW'.lt x (by simp [hx])
  have hK : ∀ {W' : World}, Below W.heap.size W W' → DataW.TrodAll enc Tryz.prog W' 0 (fun b => decide (b < W.heap.size)) true [53] args.toList ds p := fun hb => trodAll_below laidOut (by kernel_rfl) hA hb hlt
  obtain ⟨v0, vs0, d0, ds0, p0, q0, hargs0, rfl, rfl, h0, r0⟩ := trodAll_cons hA
  obtain ⟨hnil, rfl, rfl⟩ := trodAll_nil r0
  obtain rfl : args = #[v0] := by cases args; simp_all
  obtain ⟨x0, x1, x2, x3, x4, x5, x6, x7, x8, p9, n9, k9, x10, x11, x12, x13, x14, x15, x16, rfl⟩ := open_call0 (hval 0 53 v0 rfl rfl)

  simp only [List.append_nil] at hW'
  have hc : Sh.gocall Tryz.prog 8 [.agg #[I x0, I x1, I x2, I x3, I x4, I x5, I x6, I x7, I x8, .slice p9 n9 k9, I x10, I x11, I x12, I x13, I x14, I x15, I x16]] (fun v w' => v = .bool true ∧ Below W.heap.size W w') W := chiefNil_c (tab_of hL) (fun w' hb => ⟨rfl, hb⟩)
  refine hc.2.mono ?_
  rintro e W' ⟨v, he, rfl, hb⟩
  subst he
  refine ⟨_, rfl, _, _, _, [], _, [], hW', trodAll_cons_mk (shut_bool Tryz.underlying4 _) trodAll_mk0, hK hb, rfl, hb.frame _, fun h => by cases h⟩

theorem j9 : (Rows.chiefNilRow.inPlace == Tryz.prog.inPlace 8) = true := by kernel_rfl
theorem j10 : (Rows.chiefNilRow.unfollowed == Tryz.prog.unfollowed 8) = true := by kernel_rfl
theorem j11 : (Rows.chiefNilRow.recurses == Tryz.prog.recurses 8) = true := by kernel_rfl
theorem j12 : (Rows.chiefNilRow.named == Tryz.prog.varsNamed 8) = true := by kernel_rfl
theorem closed : joinedFacts Tryz.prog 8 Tryz.f8 Rows.chiefNilSpec Rows.chiefNilRow = true :=
  joined_of (by kernel_rfl) laidOut rowedT (by kernel_rfl) rfl stopsN rfl knobsN j9 j10 j11 j12 (by kernel_rfl) plainT rfl heardT enterT liftsT makeT (by kernel_rfl)
theorem over : Rows.chiefNilRow.holds Tryz.pinned (OpenSpec.ofChange Rows.chiefNilSpec) :=
  OpenClaim.holds_of_wide 8 Tryz.f8 rfl rfl rfl rfl rfl rfl rfl ⟨rfl, rfl, rfl, rfl, rfl⟩ rfl rfl rfl rfl rfl (by kernel_rfl) Tryz.func8 closed
    (of_decide_eq_true (by kernel_rfl)) (by unfold Func.isWrapper; first | (rw [if_pos (by decide +kernel)]; kernel_rfl) | (rw [if_neg (by decide +kernel)]; exact ⟨rfl, rfl⟩))
    (fun os started H enc _ => lifted os started H enc)
end Go.Proofs.YtlfgmbbiealpoaaGreatDoor.chiefNil
namespace Go.Proofs.YtlfgmbbiealpoaaGreatDoor
open Go
theorem chiefNil_holds : Rows.ChiefNilCardSaid :=
  Claim7.holds_tied_plain_at .later [] [.data, .data, .data, .data, .sentinel, .sentinel, .pinned] true (true, "2d15c1594fddb50522b462fb2d7dec92efa0eb3f725aea0f564a7e287067d91b") true
    chiefNil.over (fun _ h => by cases h) (by kernel_rfl) (fun _ h => by cases h) chiefNil_row_tie rfl ⟨rfl, rfl⟩ mainT rfl
    (fun f fn hf hfn => by
      obtain rfl : f = 8 := Option.some.inj ((show Tryz.prog.funcNamed "wharfinger/wharfingerlaw22.ChiefNil" = some 8 by kernel_rfl).symm.trans hf) |>.symm
      obtain rfl : fn = Tryz.f8 := (Option.some.inj (Tryz.func8.symm.trans hfn)).symm
      exact ⟨looksT, fun j t ht => by
        rw [Tryz.params8] at ht
        have hm : t ∈ [53] := by simpa using Array.mem_of_getElem? ht
        have hall : ([53].all fun u => !Tryz.prog.wantsStandIn u) = true := by kernel_rfl
        exact (show Tryz.prog.wantsStandIn t = false by simpa using List.all_eq_true.1 hall t hm)⟩)
    (goesBy_no noGoes rfl)
#print axioms chiefNil_holds
end Go.Proofs.YtlfgmbbiealpoaaGreatDoor
