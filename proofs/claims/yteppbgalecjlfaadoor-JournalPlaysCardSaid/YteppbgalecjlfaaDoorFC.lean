/- The shallow readings of some functions of the program (printed by a program of ours out of the model's own evaluation) and, for each, the proof that it is one. Conditions: none. -/
import Derived.Test.YteppbgalecjlfaaDoorCJ3
set_option maxRecDepth 100000
set_option linter.unusedVariables false
namespace Go.Proofs.YteppbgalecjlfaaDoor
open Go Go.Sh
def F4 (x0 : Int) (x1 : Int) (K : KV) (w : World) : Prop :=
  divW (30) (fun w2 =>
  divW (30) (fun w3 =>
  gocall Tryd.prog (9) [(Value.int IntKind.i64 (4096))] (fun v4 w5 =>
  asPtr (v4) (fun p6 w7 =>
  loop (X := (Int) × Unit) (0, ()) (fun x8 rec9 w10 =>
  br (decide (x8.fst < IntKind.i64.wrap ((IntKind.u64.wrap x0).tmod 30))) (fun w11 =>
  gocall Tryd.prog (10) [(Value.pointer p6), (Value.agg #[(Value.string ({ data := #[97] })), (Value.int IntKind.i64 (x8.fst)), (Value.slice none (0) (0))])] (fun v12 w13 =>
  asI (IntKind.i64) (v12) (fun n14 w15 =>
  rec9 (IntKind.i64.wrap (x8.fst + 1), ()) (w15)) (w13)) (w11)) (fun w16 =>
  gocall Tryd.prog (15) [(Value.pointer p6)] (fun v17 w18 =>
  asI (IntKind.i64) (v17) (fun n19 w20 =>
  loop (X := (Int) × Unit) (0, ()) (fun x21 rec22 w23 =>
  br (decide (x21.fst < IntKind.i64.wrap ((IntKind.u64.wrap x1).tmod 30))) (fun w24 =>
  gocall Tryd.prog (10) [(Value.pointer p6), (Value.agg #[(Value.string ({ data := #[98] })), (Value.int IntKind.i64 (x21.fst)), (Value.slice none (0) (0))])] (fun v25 w26 =>
  asI (IntKind.i64) (v25) (fun n27 w28 =>
  rec22 (IntKind.i64.wrap (x21.fst + 1), ()) (w28)) (w26)) (w24)) (fun w29 =>
  loop (X := (Int) × (Bool) × Unit) (0, (false, ())) (fun x30 rec31 w32 =>
  br (decide (x30.fst < 2)) (fun w33 =>
  gocall Tryd.prog (12) [(Value.pointer p6), (Value.int IntKind.i64 (0)), (Value.int IntKind.i64 (0))] (fun v34 w35 =>
  asT (0) (v34) (fun f36 w37 =>
  gocall Tryd.prog (13) [(Value.pointer p6)] (fun v38 w39 =>
  asI (IntKind.i64) (v38) (fun n40 w41 =>
  br (n40 != 0) (fun w42 =>
  K (Value.bool (false)) (w42)) (fun w43 =>
  gocall Tryd.prog (16) [(Value.pointer p6)] (fun v44 w45 =>
  asI (IntKind.i64) (v44) (fun n46 w47 =>
  br (n46 != IntKind.i64.wrap ((IntKind.u64.wrap x0).tmod 30)) (fun w48 =>
  K (Value.bool (false)) (w48)) (fun w49 =>
  rec31 (IntKind.i64.wrap (x30.fst + 1), (x30.snd.fst, ())) (w49)) (w47)) (w45)) (w43)) (w41)) (w39)) (w37)) (w35)) (w33)) (fun w50 =>
  gocall Tryd.prog (10) [(Value.pointer p6), (Value.agg #[(Value.string ({ data := #[99] })), (Value.int IntKind.i64 (7)), (Value.slice none (0) (0))])] (fun v51 w52 =>
  asI (IntKind.i64) (v51) (fun n53 w54 =>
  br (n53 != 0) (fun w55 =>
  K (Value.bool (false)) (w55)) (fun w56 =>
  gocall Tryd.prog (17) [(Value.pointer p6), (Value.int IntKind.i64 (100))] (fun v57 w58 =>
  asSl (v57) (fun p59 k60 k61 w62 =>
  br ((↑k60 : Int) == IntKind.i64.wrap (IntKind.i64.wrap ((IntKind.u64.wrap x0).tmod 30) + 1)) (fun w63 =>
  slAt (p59) (k60) (IntKind.i64.wrap ((IntKind.u64.wrap x0).tmod 30)) (3) (fun a64 w65 =>
  ld (a64) (fun v66 w67 =>
  asStr (v66) (fun s68 w69 =>
  br (strEq s68 { data := #[99] }) (fun w70 =>
  gocall Tryd.prog (14) [] (fun v71 w72 =>
  asBoo (v71) (fun b73 w74 =>
  K (Value.bool (b73)) (w74)) (w72)) (w70)) (fun w75 =>
  K (Value.bool (false)) (w75)) (w69)) (w67)) (w65)) (w63)) (fun w76 =>
  K (Value.bool (false)) (w76)) (w62)) (w58)) (w56)) (w54)) (w52)) (w50)) (w32)) (w29)) (w23)) (w20)) (w18)) (w16)) (w10)) (w7)) (w5)) (w3)) (w2)) (w)
theorem F4_eq (x0 : Int) (x1 : Int) : sBody Tryd.prog [] Tryd.f4 [(Value.int IntKind.i64 x0), (Value.int IntKind.i64 x1)] = F4 x0 x1 := by kernel_rfl
theorem F4_go (x0 : Int) (x1 : Int) {K : KV} {w : World} (h : F4 x0 x1 K w) : gocall Tryd.prog 4 [(Value.int IntKind.i64 x0), (Value.int IntKind.i64 x1)] K w :=
  ⟨by kernel_rfl, calls_of_sBody (T := []) mixed Tryd.func4 (by kernel_rfl) (by rw [F4_eq]; exact h)⟩
end Go.Proofs.YteppbgalecjlfaaDoor
