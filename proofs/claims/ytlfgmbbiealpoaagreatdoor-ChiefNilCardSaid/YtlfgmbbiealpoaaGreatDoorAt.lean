/- Contract of strconv.Atoi. Conditions: none. -/
import Derived.Test.YtlfgmbbiealpoaaGreatDoorC2
import Derived.Test.YtlfgmbbiealpoaaGreatDoorN5
import Derived.Test.YtlfgmbbiealpoaaGreatDoorShelfA
import Derived.Lib.SmallJoins
set_option linter.unusedVariables false
set_option maxRecDepth 100000
namespace Go.Proofs.YtlfgmbbiealpoaaGreatDoor
open Go Go.Sh Go.RowKit

/-- the two listed errors are there, whatever is done above -/
def Errs (w0 : World) : Prop := ∀ w', Below w0.heap.size w0 w' → (∃ tp p, w'.var? Tryz.prog "strconv.ErrSyntax" = some #[.iface tp p]) ∧ (∃ tp p, w'.var? Tryz.prog "strconv.ErrRange" = some #[.iface tp p])
theorem Holds.over {w0 w w' : World} {hs : List Hp} (H : Sh.Holds w0 hs w) (hb : Below w.heap.size w w') : Sh.Holds w0 hs w' :=
  H.grown ⟨hb.os, hb.tape, hb.output, hb.size, fun k hk _ => hb.block k hk⟩
theorem atoi_c {w0 w : World} {hs : List Hp} {K : KV} {s : ByteArray} (E : Errs w0) (hl : s.size ≤ 1000000) (H : Sh.Holds w0 hs w)
    (k : ∀ e w', (if atoiG s.data.toList = true then e = .nilIface else ∃ t x, e = .iface t x) → Sh.Holds w0 hs w' → K (.tuple #[I (atoiL s.data.toList), e]) w') : gocall Tryz.prog 201 [.string s] K w := by
  refine ⟨by kernel_rfl, ?_⟩
  have hE := E w H.below
  obtain ⟨⟨t1, p1, v1⟩, ⟨t2, p2, v2⟩⟩ := hE
  cases h : Lib.atoiAll s.data.toList with
  | ok v =>
    refine (Tryz.strconv_Atoi_ok s (by omega) v h w).mono ?_
    rintro e w' ⟨rfl, hw⟩
    have en : atoiL s.data.toList = v := by simp [atoiL, h]
    have eo : atoiG s.data.toList = true := by simp [atoiG, h]
    have hb : Below w.heap.size w w' := by
      rcases hw with rfl | ⟨t, rfl⟩
      · exact Below.refl _ _
      · exact Joins.below_bytesWorld _ _ _ _ (Nat.le_refl _)
    have := k .nilIface w' (by rw [if_pos eo]) (Holds.over H hb)
    rw [en] at this
    exact ⟨_, rfl, this⟩
  | range =>
    refine (Any.strconv_Atoi_range_var Tryz.laysC172 s (by omega) h t2 p2 w v2).mono ?_
    rintro e w' ⟨N, rfl, -, -, hb⟩
    have en : atoiL s.data.toList = Lib.atoiSat s.data.toList := by simp [atoiL, h]
    have eo : ¬ atoiG s.data.toList = true := by simp [atoiG, h]
    have := k (.iface 333 (.pointer (some ⟨N, 0, none⟩))) w' (by rw [if_neg eo]; exact ⟨_, _, rfl⟩) (Holds.over H hb)
    rw [en] at this
    exact ⟨_, rfl, this⟩
  | _ =>
    refine (Any.strconv_Atoi_syntax_var Tryz.laysC172 s (by omega) h t1 p1 w v1).mono ?_
    rintro e w' ⟨N, rfl, -, -, hb⟩
    have en : atoiL s.data.toList = 0 := by simp [atoiL, h]
    have eo : ¬ atoiG s.data.toList = true := by simp [atoiG, h]
    have := k (.iface 333 (.pointer (some ⟨N, 0, none⟩))) w' (by rw [if_neg eo]; exact ⟨_, _, rfl⟩) (Holds.over H hb)
    rw [en] at this
    exact ⟨_, rfl, this⟩
end Go.Proofs.YtlfgmbbiealpoaaGreatDoor
