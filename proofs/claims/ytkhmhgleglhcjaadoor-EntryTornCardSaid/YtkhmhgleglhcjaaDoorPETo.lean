/- wharfingerlaw3.EntryTorn returns true for every input. Conditions: the listed variables of the library's hold what the program's text lays (tied by the card). -/
import Derived.Test.YtkhmhgleglhcjaaDoorWe
import Derived.Test.YtkhmhgleglhcjaaDoorTie
import Derived.Test.YtkhmhgleglhcjaaDoorCards
import Derived.Test.YtkhmhgleglhcjaaDoorC17To
set_option linter.unusedVariables false
namespace Go.Proofs.YtkhmhgleglhcjaaDoor.entryTorn
open Go Go.ChangeShapes Go.WideShapes Go.ChangeAt Go.RowKit

set_option maxRecDepth 100000 in
theorem lifted (os : Os) (started : os.Started) (H : Type) (enc : TypeId × Value → H) :
    ReturnsInHanded {} Tryd.checked os 4 .any (fun w args => (Rows.entryTornSpec.pre enc Tryd.prog Tryd.f4 [] false w args ∧ laidMetH Tryd.prog laid7 w) ∧ sizedMet enc Tryd.prog Tryd.f4 (OpenSpec.ofChange Rows.entryTornSpec) false w args)
      (Rows.entryTornSpec.post enc Tryd.prog Tryd.f4 false true false false) := by
  refine returnsInHanded_of_change_and (C := Tryd.checked) (X := fun w _ => laidMetH Tryd.prog laid7 w) (fun _ _ _ hh h => h.of_heap hh) own started (by kernel_rfl) Tryd.func4
    (ChangeSpec.witness_shaped (enc := enc) (C := Tryd.checked) (os := os) (X := fun w _ => laidMetH Tryd.prog laid7 w) false (World.laidAll Tryd.prog os laid7) #[.agg #[.string ⟨#[]⟩, .int .i64 0, .slice none 0 0], .int .i64 0, .int .i64 0, .int .u8 0] 8 (World.laidAll_os _ _ _) (World.shaped_of_ZipB (by kernel_rfl) (by kernel_rfl)) (by kernel_rfl) (by kernel_rfl) (by kernel_rfl) (door_met os _)) ?_
  intro W base args ds gs before hval0 hW _ hsz hL _
  have hval : ∀ (j : Nat) t v, Tryd.f4.params[j]? = some t → args[j]? = some v → Value.okWide Tryd.prog W .any base t v := hval0
  have hW' := hW
  obtain ⟨p, q, hA0, hV, rfl, hfz, hnd⟩ := hW
  have hA : DataW.TrodAll enc Tryd.prog W 0 (fun _ => true) true Tryd.f4.params.toList args.toList ds p := hA0
  rw [Tryd.params4] at hA hval
  obtain ⟨rfl, rfl⟩ := trodVars_none hV
  have hlt : ∀ x ∈ p, x.block < W.heap.size := fun x hx => by simpa using hW'.lt x (by simp [hx])
  have hK : ∀ {W' : World}, Below W.heap.size W W' → DataW.TrodAll enc Tryd.prog W' 0 (fun b => decide (b < W.heap.size)) true [24, 3, 3, 5] args.toList ds p := fun hb => trodAll_below laidOut (by kernel_rfl) hA hb hlt
  obtain ⟨v0, vs0, d0, ds0, p0, q0, hargs0, rfl, rfl, h0, r0⟩ := trodAll_cons hA
  obtain ⟨v1, vs1, d1, ds1, p1, q1, hargs1, rfl, rfl, h1, r1⟩ := trodAll_cons r0
  obtain ⟨v2, vs2, d2, ds2, p2, q2, hargs2, rfl, rfl, h2, r2⟩ := trodAll_cons r1
  obtain ⟨v3, vs3, d3, ds3, p3, q3, hargs3, rfl, rfl, h3, r3⟩ := trodAll_cons r2
  obtain ⟨hnil, rfl, rfl⟩ := trodAll_nil r3
  obtain rfl : args = #[v0, v1, v2, v3] := by cases args; simp_all
  obtain ⟨e0, pe0, ne0, ce0, rfl, hsl0⟩ := open_entry h0 (hval 0 24 v0 rfl rfl)
  have hk0 := ent_size (hval 0 24 _ rfl rfl)
  obtain ⟨a1, rfl⟩ := okWide_int Tryd.underlying3 (hval 1 3 v1 rfl rfl)
  obtain ⟨a2, rfl⟩ := okWide_int Tryd.underlying3 (hval 2 3 v2 rfl rfl)
  obtain ⟨y3, rfl⟩ := u8_in (hval 3 5 v3 rfl rfl)

  simp only [List.append_nil] at hW'
  have hc : Sh.gocall Tryd.prog 4 [enV e0 (.slice pe0 ne0 ce0), I a1, I a2, .int .u8 (y3.toNat : Int)] (fun v w' => v = .bool true ∧ Below W.heap.size W w') W := Torn_c (errs_of hL) (tab_of hL) (Sh.Holds.init W) hsl0 hk0 (fun w' H => ⟨rfl, H.below⟩)
  refine hc.2.mono ?_
  rintro e W' ⟨v, he, rfl, hb⟩
  subst he
  refine ⟨_, rfl, _, _, _, [], _, [], hW', trodAll_cons_mk (shut_bool Tryd.underlying4 _) trodAll_mk0, hK hb, rfl, hb.frame _, fun h => by cases h⟩

theorem over : Rows.entryTornRow.holds Tryd.pinned (OpenSpec.ofChange Rows.entryTornSpec) :=
  OpenClaim.holds_of_wide 4 Tryd.f4 rfl rfl rfl rfl rfl rfl rfl ⟨rfl, rfl, rfl, rfl, rfl⟩ rfl rfl rfl rfl rfl (by kernel_rfl) Tryd.func4 (by kernel_rfl)
    (of_decide_eq_true (by kernel_rfl)) (by unfold Func.isWrapper; first | (rw [if_pos (by decide +kernel)]; kernel_rfl) | (rw [if_neg (by decide +kernel)]; exact ⟨rfl, rfl⟩))
    (fun os started H enc _ => lifted os started H enc)
end Go.Proofs.YtkhmhgleglhcjaaDoor.entryTorn
namespace Go.Proofs.YtkhmhgleglhcjaaDoor
open Go
theorem entryTorn_holds : Rows.EntryTornCardSaid :=
  Claim7.holds_tied_plain_at .later [] [.data, .data, .data, .data, .sentinel, .sentinel, .pinned] true (true, "733692188bfe34407960a9b3639a6693bcf14739db20ca44de396caa6f49f3d8") true
    entryTorn.over (fun _ h => by cases h) (by kernel_rfl) (fun _ h => by cases h) entryTorn_row_tie rfl ⟨rfl, rfl⟩ (by kernel_rfl) rfl
    (fun f fn hf hfn => by
      obtain rfl : f = 4 := Option.some.inj ((show Tryd.prog.funcNamed "wharfinger/wharfingerlaw3.EntryTorn" = some 4 by kernel_rfl).symm.trans hf) |>.symm
      obtain rfl : fn = Tryd.f4 := (Option.some.inj (Tryd.func4.symm.trans hfn)).symm
      exact ⟨by kernel_rfl, fun j t ht => by
        rw [Tryd.params4] at ht
        have hm : t ∈ [24, 3, 3, 5] := by simpa using Array.mem_of_getElem? ht
        have hall : ([24, 3, 3, 5].all fun u => !Tryd.prog.wantsStandIn u) = true := by kernel_rfl
        exact (show Tryd.prog.wantsStandIn t = false by simpa using List.all_eq_true.1 hall t hm)⟩)
    (by kernel_rfl)
#print axioms entryTorn_holds
end Go.Proofs.YtkhmhgleglhcjaaDoor
