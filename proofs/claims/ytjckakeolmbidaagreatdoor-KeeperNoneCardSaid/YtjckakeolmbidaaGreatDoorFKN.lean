/- The shallow readings of some functions of the program (printed by a program of ours out of the model's own evaluation) and, for each, the proof that it is one. Conditions: none. -/
import Derived.Test.YtjckakeolmbidaaGreatDoorK6a
set_option maxRecDepth 100000
set_option linter.unusedVariables false
namespace Go.Proofs.YtjckakeolmbidaaGreatDoor
open Go Go.Sh
def F5 (x0 : Int) (b1 : Bool) (K : KV) (w : World) : Prop :=
  divW (50) (fun w2 =>
  nw (Obj.cells #[(Value.int IntKind.i64 (50))] 3 (0, 0)) (fun k3 w4 =>
  gocall Tryz.prog (40) [(Value.int IntKind.i64 (1)), (Value.slice (some ⟨k3, 0, none⟩) (1) (1)), (Value.int IntKind.i64 (50))] (fun v5 w6 =>
  asPtr (v5) (fun p7 w8 =>
  br (p7.isNone) (fun w9 =>
  K (Value.bool (false)) (w9)) (fun w10 =>
  gocall Tryz.prog (41) [(Value.pointer p7), (Value.agg #[(Value.int IntKind.i64 (12)), (Value.int IntKind.i64 (2)), (Value.int IntKind.i64 (1)), (Value.int IntKind.i64 (6)), (Value.int IntKind.i64 (0)), (Value.int IntKind.i64 (0)), (Value.int IntKind.i64 (0))])] (fun v11 w12 =>
  asSl (v11) (fun p13 k14 k15 w16 =>
  join (X := Unit) (fun J17 w18 =>
  br (b1) (fun w19 =>
  gocall Tryz.prog (42) [(Value.pointer p7), (Value.int IntKind.i64 (0)), (Value.int IntKind.i64 (0))] (fun v20 w21 =>
  asT (0) (v20) (fun f22 w23 =>
  gocall Tryz.prog (43) [(Value.pointer p7)] (fun v24 w25 =>
  asT (0) (v24) (fun f26 w27 =>
  J17 () (w27)) (w25)) (w23)) (w21)) (w19)) (fun w28 =>
  J17 () (w28)) (w18)) (fun x29 w30 =>
  gocall Tryz.prog (41) [(Value.pointer p7), (Value.agg #[(Value.int IntKind.i64 (6)), (Value.int IntKind.i64 (0)), (Value.int IntKind.i64 (1)), (Value.int IntKind.i64 (6)), (Value.int IntKind.i64 (0)), (Value.int IntKind.i64 (0)), (Value.int IntKind.i64 (IntKind.i64.wrap (1 + IntKind.i64.wrap ((IntKind.u64.wrap x0).tmod 50))))])] (fun v31 w32 =>
  asSl (v31) (fun p33 k34 k35 w36 =>
  br ((↑k14 : Int) == 1) (fun w37 =>
  slAt (p13) (k14) (0) (7) (fun a38 w39 =>
  ld (a38) (fun v40 w41 =>
  asI (IntKind.i64) (v40) (fun n42 w43 =>
  br (n42 == 14) (fun w44 =>
  slAt (p13) (k14) (0) (7) (fun a45 w46 =>
  ld (⟨a45.block, a45.off + 2, none⟩) (fun v47 w48 =>
  asI (IntKind.i64) (v47) (fun n49 w50 =>
  br (n49 == 2) (fun w51 =>
  br ((↑k34 : Int) == 1) (fun w52 =>
  slAt (p33) (k34) (0) (7) (fun a53 w54 =>
  ld (a53) (fun v55 w56 =>
  asI (IntKind.i64) (v55) (fun n57 w58 =>
  br (n57 == 8) (fun w59 =>
  gocall Tryz.prog (44) [(Value.pointer p7)] (fun v60 w61 =>
  asPtr (v60) (fun p62 w63 =>
  gocall Tryz.prog (45) [(Value.pointer p62), (Value.int IntKind.i64 (0))] (fun v64 w65 =>
  asI (IntKind.i64) (v64) (fun n66 w67 =>
  br (n66 == 50) (fun w68 =>
  gocall Tryz.prog (46) [(Value.pointer p7), (Value.int IntKind.i64 (6))] (fun v69 w70 =>
  asI (IntKind.i64) (v69) (fun n71 w72 =>
  br (n71 == 3) (fun w73 =>
  gocall Tryz.prog (47) [] (fun v74 w75 =>
  asBoo (v74) (fun b76 w77 =>
  K (Value.bool (b76)) (w77)) (w75)) (w73)) (fun w78 =>
  K (Value.bool (false)) (w78)) (w72)) (w70)) (w68)) (fun w79 =>
  K (Value.bool (false)) (w79)) (w67)) (w65)) (w63)) (w61)) (w59)) (fun w80 =>
  K (Value.bool (false)) (w80)) (w58)) (w56)) (w54)) (w52)) (fun w81 =>
  K (Value.bool (false)) (w81)) (w51)) (fun w82 =>
  K (Value.bool (false)) (w82)) (w50)) (w48)) (w46)) (w44)) (fun w83 =>
  K (Value.bool (false)) (w83)) (w43)) (w41)) (w39)) (w37)) (fun w84 =>
  K (Value.bool (false)) (w84)) (w36)) (w32)) (w30)) (w16)) (w12)) (w10)) (w8)) (w6)) (w4)) (w2)) (w)
theorem F5_eq (x0 : Int) (b1 : Bool) : sBody Tryz.prog [(4000009, [])] Tryz.f5 [(Value.int IntKind.i64 x0), (Value.bool b1)] = F5 x0 b1 := by kernel_rfl
theorem F5_go (x0 : Int) (b1 : Bool) {K : KV} {w : World} (h : F5 x0 b1 K w) : gocall Tryz.prog 5 [(Value.int IntKind.i64 x0), (Value.bool b1)] K w :=
  ⟨by kernel_rfl, calls_of_sBody (T := [(4000009, [])]) mixed Tryz.func5 (by kernel_rfl) (by rw [F5_eq]; exact h)⟩
end Go.Proofs.YtjckakeolmbidaaGreatDoor
