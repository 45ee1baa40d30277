/- wharfingerlaw22.ChiefPresumes returns true for every input. Conditions: the listed variables of the library's hold what the program's text lays (tied by the card). -/
import Derived.Test.YtcfmnoimehcfnaaGreatDoorWo5
import Derived.Test.YtcfmnoimehcfnaaGreatDoorTie
import Derived.Test.YtcfmnoimehcfnaaGreatDoorWj
import Derived.Test.YtcfmnoimehcfnaaGreatDoorWk
import Derived.Test.YtcfmnoimehcfnaaGreatDoorWl
import Derived.Test.YtcfmnoimehcfnaaGreatDoorCards
import Derived.Test.YtcfmnoimehcfnaaGreatDoorX37
set_option linter.unusedVariables false
namespace Go.Proofs.YtcfmnoimehcfnaaGreatDoor.chiefPresumes
open Go Go.ChangeShapes Go.WideShapes Go.ChangeAt Go.RowKit

set_option maxRecDepth 100000 in
theorem lifted (os : Os) (started : os.Started) (H : Type) (enc : TypeId × Value → H) :
    ReturnsInHanded {} Tryz.checked os 11 .any (fun w args => (Rows.chiefPresumesSpec.pre enc Tryz.prog Tryz.f11 [] false w args ∧ laidMetH Tryz.prog laid7 w) ∧ sizedMet enc Tryz.prog Tryz.f11 (OpenSpec.ofChange Rows.chiefPresumesSpec) false w args)
      (Rows.chiefPresumesSpec.post enc Tryz.prog Tryz.f11 false true false false) := by
  refine returnsInHanded_of_change_and (C := Tryz.checked) (X := fun w _ => laidMetH Tryz.prog laid7 w) (fun _ _ _ hh h => h.of_heap hh) own started (by kernel_rfl) Tryz.func11
    (ChangeSpec.witness_shaped (enc := enc) (C := Tryz.checked) (os := os) (X := fun w _ => laidMetH Tryz.prog laid7 w) false (World.laidAll Tryz.prog os laid7) #[.agg #[.int .i64 0, .int .i64 0, .int .i64 0, .int .i64 0, .int .i64 0, .slice none 0 0], (.int .i64 0)] 8 (World.laidAll_os _ _ _) (World.shaped_of_ZipB (by kernel_rfl) (by kernel_rfl)) (by kernel_rfl) (by kernel_rfl) (by kernel_rfl) (door_met os _)) ?_
  intro W base args ds gs before hval0 hW _ hsz hL _
  have hval : ∀ (j : Nat) t v, Tryz.f11.params[j]? = some t → args[j]? = some v → Value.okWide Tryz.prog W .any base t v := hval0
  have hW' := hW
  obtain ⟨p, q, hA0, hV, rfl, hfz, hnd⟩ := hW
  have hA : DataW.TrodAll enc Tryz.prog W 0 (fun _ => true) true Tryz.f11.params.toList args.toList ds p := hA0
  rw [Tryz.params11] at hA hval
  obtain ⟨rfl, rfl⟩ := trodVars_none hV
  have hlt : ∀ x ∈ p, x.block < W.heap.size := fun x hx => by simpa using hW'.lt x (by simp [hx])
  have hK : ∀ {W' : World}, Below W.heap.size W W' → DataW.TrodAll enc Tryz.prog W' 0 (fun b => decide (b < W.heap.size)) true [24, 3] args.toList ds p := fun hb => trodAll_below laidOut (by kernel_rfl) hA hb hlt
  obtain ⟨v0, vs0, d0, ds0, p0, q0, hargs0, rfl, rfl, h0, r0⟩ := trodAll_cons hA
  obtain ⟨v1, vs1, d1, ds1, p1, q1, hargs1, rfl, rfl, h1, r1⟩ := trodAll_cons r0
  obtain ⟨hnil, rfl, rfl⟩ := trodAll_nil r1
  obtain rfl : args = #[v0, v1] := by cases args; simp_all
  obtain ⟨o0, p0, n0, c0, hq0, rfl⟩ := open_order h0 (hval 0 24 v0 rfl rfl)
  obtain ⟨a1, rfl⟩ := okWide_int Tryz.underlying3 (hval 1 3 v1 rfl rfl)

  simp only [List.append_nil] at hW'
  have hc : Sh.gocall Tryz.prog 11 [odV o0 (.slice p0 n0 c0), I a1] (fun v w' => v = .bool true ∧ Below W.heap.size W w') W := chiefPresumes_c (errs_of hL) (tab_of hL) (Sh.Holds.init W) hq0.1 hq0.2 (fun w' H => ⟨rfl, H.below⟩)
  refine hc.2.mono ?_
  rintro e W' ⟨v, he, rfl, hb⟩
  subst he
  refine ⟨_, rfl, _, _, _, [], _, [], hW', trodAll_cons_mk (shut_bool Tryz.underlying4 _) trodAll_mk0, hK hb, rfl, hb.frame _, fun h => by cases h⟩

theorem j9 : (Rows.chiefPresumesRow.inPlace == Tryz.prog.inPlace 11) = true := by kernel_rfl
theorem j10 : (Rows.chiefPresumesRow.unfollowed == Tryz.prog.unfollowed 11) = true := by kernel_rfl
theorem j11 : (Rows.chiefPresumesRow.recurses == Tryz.prog.recurses 11) = true := by kernel_rfl
theorem j12 : (Rows.chiefPresumesRow.named == Tryz.prog.varsNamed 11) = true := by kernel_rfl
theorem closed : joinedFacts Tryz.prog 11 Tryz.f11 Rows.chiefPresumesSpec Rows.chiefPresumesRow = true :=
  joined_of (by kernel_rfl) laidOut rowedT (by kernel_rfl) rfl stopsN rfl knobsN j9 j10 j11 j12 (by kernel_rfl) plainT rfl heardT enterT liftsT makeT (by kernel_rfl)
theorem over : Rows.chiefPresumesRow.holds Tryz.pinned (OpenSpec.ofChange Rows.chiefPresumesSpec) :=
  OpenClaim.holds_of_wide 11 Tryz.f11 rfl rfl rfl rfl rfl rfl rfl ⟨rfl, rfl, rfl, rfl, rfl⟩ rfl rfl rfl rfl rfl (by kernel_rfl) Tryz.func11 closed
    (of_decide_eq_true (by kernel_rfl)) (by unfold Func.isWrapper; first | (rw [if_pos (by decide +kernel)]; kernel_rfl) | (rw [if_neg (by decide +kernel)]; exact ⟨rfl, rfl⟩))
    (fun os started H enc _ => lifted os started H enc)
end Go.Proofs.YtcfmnoimehcfnaaGreatDoor.chiefPresumes
namespace Go.Proofs.YtcfmnoimehcfnaaGreatDoor
open Go
theorem chiefPresumes_holds : Rows.ChiefPresumesCardSaid :=
  Claim7.holds_tied_plain_at .later [] [.data, .data, .data, .data, .sentinel, .sentinel, .pinned] true (true, "94e7422748b81089c209564227daaa93d7fd9ed6f5f31dcb8c9a95358a58db66") true
    chiefPresumes.over (fun _ h => by cases h) (by kernel_rfl) (fun _ h => by cases h) chiefPresumes_row_tie rfl ⟨rfl, rfl⟩ mainT rfl
    (fun f fn hf hfn => by
      obtain rfl : f = 11 := Option.some.inj ((show Tryz.prog.funcNamed "wharfinger/wharfingerlaw22.ChiefPresumes" = some 11 by kernel_rfl).symm.trans hf) |>.symm
      obtain rfl : fn = Tryz.f11 := (Option.some.inj (Tryz.func11.symm.trans hfn)).symm
      exact ⟨looksT, fun j t ht => by
        rw [Tryz.params11] at ht
        have hm : t ∈ [24, 3] := by simpa using Array.mem_of_getElem? ht
        have hall : ([24, 3].all fun u => !Tryz.prog.wantsStandIn u) = true := by kernel_rfl
        exact (show Tryz.prog.wantsStandIn t = false by simpa using List.all_eq_true.1 hall t hm)⟩)
    (goesBy_no noGoes rfl)
#print axioms chiefPresumes_holds
end Go.Proofs.YtcfmnoimehcfnaaGreatDoor
