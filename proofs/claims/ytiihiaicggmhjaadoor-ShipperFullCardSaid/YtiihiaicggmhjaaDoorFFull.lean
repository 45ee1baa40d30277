/- The shallow readings of some functions of the program (printed by a program of ours out of the model's own evaluation) and, for each, the proof that it is one. Conditions: none. -/
import Derived.Test.YtiihiaicggmhjaaDoorFS
set_option maxRecDepth 100000
set_option linter.unusedVariables false
namespace Go.Proofs.YtiihiaicggmhjaaDoor
open Go Go.Sh
def F4 (x0 : Int) (K : KV) (w : World) : Prop :=
  divW (20) (fun w0 =>
  gocall Tryd.prog (11) [(Value.int IntKind.i64 (IntKind.i64.wrap (1 + IntKind.i64.wrap ((IntKind.u64.wrap x0).tmod 20))))] (fun v1 w2 =>
  asPtr (v1) (fun p3 w4 =>
  loop (X := (Int) × (Bool) × Unit) (0, (false, ())) (fun x5 rec6 w7 =>
  br (decide (x5.fst < IntKind.i64.wrap (1 + IntKind.i64.wrap ((IntKind.u64.wrap x0).tmod 20)))) (fun w8 =>
  gocall Tryd.prog (12) [(Value.pointer p3), (Value.agg #[(Value.int IntKind.i64 (15)), (Value.int IntKind.i64 (0)), (Value.int IntKind.i64 (3)), (Value.int IntKind.i64 (IntKind.i64.wrap (1 + x5.fst))), (Value.int IntKind.i64 (0)), (Value.int IntKind.i64 (0)), (Value.int IntKind.i64 (1))])] (fun v9 w10 =>
  asSl (v9) (fun p11 k12 k13 w14 =>
  br ((↑k12 : Int) != 1) (fun w15 =>
  K (Value.bool (false)) (w15)) (fun w16 =>
  rec6 (IntKind.i64.wrap (x5.fst + 1), (x5.snd.fst, ())) (w16)) (w14)) (w10)) (w8)) (fun w17 =>
  gocall Tryd.prog (12) [(Value.pointer p3), (Value.agg #[(Value.int IntKind.i64 (15)), (Value.int IntKind.i64 (0)), (Value.int IntKind.i64 (3)), (Value.int IntKind.i64 (500)), (Value.int IntKind.i64 (0)), (Value.int IntKind.i64 (0)), (Value.int IntKind.i64 (1))])] (fun v18 w19 =>
  asSl (v18) (fun p20 k21 k22 w23 =>
  gocall Tryd.prog (12) [(Value.pointer p3), (Value.agg #[(Value.int IntKind.i64 (15)), (Value.int IntKind.i64 (0)), (Value.int IntKind.i64 (3)), (Value.int IntKind.i64 (1)), (Value.int IntKind.i64 (0)), (Value.int IntKind.i64 (0)), (Value.int IntKind.i64 (1))])] (fun v24 w25 =>
  asSl (v24) (fun p26 k27 k28 w29 =>
  br ((↑k21 : Int) == 0) (fun w30 =>
  br ((↑k27 : Int) == 1) (fun w31 =>
  gocall Tryd.prog (13) [(Value.pointer p3)] (fun v32 w33 =>
  asPtr (v32) (fun p34 w35 =>
  gocall Tryd.prog (16) [(Value.pointer p34)] (fun v36 w37 =>
  asSl (v36) (fun p38 k39 k40 w41 =>
  br ((↑k39 : Int) == IntKind.i64.wrap (1 + IntKind.i64.wrap ((IntKind.u64.wrap x0).tmod 20))) (fun w42 =>
  gocall Tryd.prog (15) [] (fun v43 w44 =>
  asBoo (v43) (fun b45 w46 =>
  K (Value.bool (b45)) (w46)) (w44)) (w42)) (fun w47 =>
  K (Value.bool (false)) (w47)) (w41)) (w37)) (w35)) (w33)) (w31)) (fun w48 =>
  K (Value.bool (false)) (w48)) (w30)) (fun w49 =>
  K (Value.bool (false)) (w49)) (w29)) (w25)) (w23)) (w19)) (w17)) (w7)) (w4)) (w2)) (w0)) (w)
theorem F4_eq (x0 : Int) : sBody Tryd.prog [] Tryd.f4 [(Value.int IntKind.i64 x0)] = F4 x0 := by kernel_rfl
theorem F4_go (x0 : Int) {K : KV} {w : World} (h : F4 x0 K w) : gocall Tryd.prog 4 [(Value.int IntKind.i64 x0)] K w :=
  ⟨by kernel_rfl, calls_of_sBody (T := []) mixed Tryd.func4 (by kernel_rfl) (by rw [F4_eq]; exact h)⟩
end Go.Proofs.YtiihiaicggmhjaaDoor
