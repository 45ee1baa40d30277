/- The shallow readings of some functions of the program (printed by a program of ours out of the model's own evaluation) and, for each, the proof that it is one. Conditions: none. -/
import Derived.Test.YteppbgalecjlfaaDoorCJ3
set_option maxRecDepth 100000
set_option linter.unusedVariables false
namespace Go.Proofs.YteppbgalecjlfaaDoor
open Go Go.Sh
def F18 (a0 : Option Addr) (n0 : Nat) (c0 : Nat) (a1 : Option Addr) (n1 : Nat) (c1 : Nat) (K : KV) (w : World) : Prop :=
  br ((↑n0 : Int) != (↑n1 : Int)) (fun w6 =>
  K (Value.bool (false)) (w6)) (fun w7 =>
  loop (X := (Int) × (Bool) × Unit) (0, (false, ())) (fun x8 rec9 w10 =>
  br (decide (x8.fst < (↑n0 : Int))) (fun w11 =>
  slAt (a0) (n0) (x8.fst) (3) (fun a12 w13 =>
  ld (a12) (fun v14 w15 =>
  asStr (v14) (fun s16 w17 =>
  ld (⟨a12.block, a12.off + 1, none⟩) (fun v18 w19 =>
  asI (IntKind.i64) (v18) (fun n20 w21 =>
  ld (⟨a12.block, a12.off + 2, none⟩) (fun v22 w23 =>
  asSl (v22) (fun p24 k25 k26 w27 =>
  slAt (a1) (n1) (x8.fst) (3) (fun a28 w29 =>
  ld (a28) (fun v30 w31 =>
  asStr (v30) (fun s32 w33 =>
  ld (⟨a28.block, a28.off + 1, none⟩) (fun v34 w35 =>
  asI (IntKind.i64) (v34) (fun n36 w37 =>
  ld (⟨a28.block, a28.off + 2, none⟩) (fun v38 w39 =>
  asSl (v38) (fun p40 k41 k42 w43 =>
  gocall Tryd.prog (32) [(Value.agg #[(Value.string (s16)), (Value.int IntKind.i64 (n20)), (Value.slice p24 (k25) (k26))]), (Value.agg #[(Value.string (s32)), (Value.int IntKind.i64 (n36)), (Value.slice p40 (k41) (k42))])] (fun v44 w45 =>
  asBoo (v44) (fun b46 w47 =>
  br (!b46) (fun w48 =>
  K (Value.bool (false)) (w48)) (fun w49 =>
  rec9 (IntKind.i64.wrap (x8.fst + 1), (x8.snd.fst, ())) (w49)) (w47)) (w45)) (w43)) (w39)) (w37)) (w35)) (w33)) (w31)) (w29)) (w27)) (w23)) (w21)) (w19)) (w17)) (w15)) (w13)) (w11.drew)) (fun w50 =>
  K (Value.bool (true)) (w50)) (w10)) (w7)) (w)
theorem F18_eq (a0 : Option Addr) (n0 : Nat) (c0 : Nat) (a1 : Option Addr) (n1 : Nat) (c1 : Nat) : sBody Tryd.prog [] Tryd.f18 [(Value.slice a0 n0 c0), (Value.slice a1 n1 c1)] = F18 a0 n0 c0 a1 n1 c1 := by kernel_rfl
theorem F18_go (a0 : Option Addr) (n0 : Nat) (c0 : Nat) (a1 : Option Addr) (n1 : Nat) (c1 : Nat) {K : KV} {w : World} (h : F18 a0 n0 c0 a1 n1 c1 K w) : gocall Tryd.prog 18 [(Value.slice a0 n0 c0), (Value.slice a1 n1 c1)] K w :=
  ⟨by kernel_rfl, calls_of_sBody (T := []) mixed Tryd.func18 (by kernel_rfl) (by rw [F18_eq]; exact h)⟩
def F32 (s0 : ByteArray) (x1 : Int) (a2 : Option Addr) (n2 : Nat) (c2 : Nat) (s3 : ByteArray) (x4 : Int) (a5 : Option Addr) (n5 : Nat) (c5 : Nat) (K : KV) (w : World) : Prop :=
  nw (Obj.cells #[(Value.string (s0)), (Value.int IntKind.i64 (x1)), (Value.slice a2 (n2) (c2))] 29 (0, 0)) (fun k10 w11 =>
  nw (Obj.cells #[(Value.string (s3)), (Value.int IntKind.i64 (x4)), (Value.slice a5 (n5) (c5))] 29 (0, 0)) (fun k12 w13 =>
  ld (⟨k10, 0, none⟩) (fun v14 w15 =>
  asStr (v14) (fun s16 w17 =>
  ld (⟨k12, 0, none⟩) (fun v18 w19 =>
  asStr (v18) (fun s20 w21 =>
  br (strEq s16 s20) (fun w22 =>
  ld (⟨k10, 1, none⟩) (fun v23 w24 =>
  asI (IntKind.i64) (v23) (fun n25 w26 =>
  ld (⟨k12, 1, none⟩) (fun v27 w28 =>
  asI (IntKind.i64) (v27) (fun n29 w30 =>
  br (n25 == n29) (fun w31 =>
  ld (⟨k10, 2, none⟩) (fun v32 w33 =>
  asSl (v32) (fun p34 k35 k36 w37 =>
  ld (⟨k12, 2, none⟩) (fun v38 w39 =>
  asSl (v38) (fun p40 k41 k42 w43 =>
  gocall Tryd.prog (40) [(Value.slice p34 (k35) (k36)), (Value.slice p40 (k41) (k42))] (fun v44 w45 =>
  asBoo (v44) (fun b46 w47 =>
  K (Value.bool (b46)) (w47)) (w45)) (w43)) (w39)) (w37)) (w33)) (w31)) (fun w48 =>
  K (Value.bool (false)) (w48)) (w30)) (w28)) (w26)) (w24)) (w22)) (fun w49 =>
  K (Value.bool (false)) (w49)) (w21)) (w19)) (w17)) (w15)) (w13)) (w11)) (w)
theorem F32_eq (s0 : ByteArray) (x1 : Int) (a2 : Option Addr) (n2 : Nat) (c2 : Nat) (s3 : ByteArray) (x4 : Int) (a5 : Option Addr) (n5 : Nat) (c5 : Nat) : sBody Tryd.prog [] Tryd.f32 [(Value.agg #[(Value.string s0), (Value.int IntKind.i64 x1), (Value.slice a2 n2 c2)]), (Value.agg #[(Value.string s3), (Value.int IntKind.i64 x4), (Value.slice a5 n5 c5)])] = F32 s0 x1 a2 n2 c2 s3 x4 a5 n5 c5 := by kernel_rfl
theorem F32_go (s0 : ByteArray) (x1 : Int) (a2 : Option Addr) (n2 : Nat) (c2 : Nat) (s3 : ByteArray) (x4 : Int) (a5 : Option Addr) (n5 : Nat) (c5 : Nat) {K : KV} {w : World} (h : F32 s0 x1 a2 n2 c2 s3 x4 a5 n5 c5 K w) : gocall Tryd.prog 32 [(Value.agg #[(Value.string s0), (Value.int IntKind.i64 x1), (Value.slice a2 n2 c2)]), (Value.agg #[(Value.string s3), (Value.int IntKind.i64 x4), (Value.slice a5 n5 c5)])] K w :=
  ⟨by kernel_rfl, calls_of_sBody (T := []) mixed Tryd.func32 (by kernel_rfl) (by rw [F32_eq]; exact h)⟩
def F40 (a0 : Option Addr) (n0 : Nat) (c0 : Nat) (a1 : Option Addr) (n1 : Nat) (c1 : Nat) (K : KV) (w : World) : Prop :=
  br ((↑n0 : Int) != (↑n1 : Int)) (fun w6 =>
  K (Value.bool (false)) (w6)) (fun w7 =>
  loop (X := (Int) × (Bool) × Unit) (0, (false, ())) (fun x8 rec9 w10 =>
  br (decide (x8.fst < (↑n0 : Int))) (fun w11 =>
  slAt (a0) (n0) (x8.fst) (1) (fun a12 w13 =>
  ld (a12) (fun v14 w15 =>
  asI (IntKind.i64) (v14) (fun n16 w17 =>
  slAt (a1) (n1) (x8.fst) (1) (fun a18 w19 =>
  ld (a18) (fun v20 w21 =>
  asI (IntKind.i64) (v20) (fun n22 w23 =>
  br (n16 != n22) (fun w24 =>
  K (Value.bool (false)) (w24)) (fun w25 =>
  rec9 (IntKind.i64.wrap (x8.fst + 1), (x8.snd.fst, ())) (w25)) (w23)) (w21)) (w19)) (w17)) (w15)) (w13)) (w11.drew)) (fun w26 =>
  K (Value.bool (true)) (w26)) (w10)) (w7)) (w)
theorem F40_eq (a0 : Option Addr) (n0 : Nat) (c0 : Nat) (a1 : Option Addr) (n1 : Nat) (c1 : Nat) : sBody Tryd.prog [] Tryd.f40 [(Value.slice a0 n0 c0), (Value.slice a1 n1 c1)] = F40 a0 n0 c0 a1 n1 c1 := by kernel_rfl
theorem F40_go (a0 : Option Addr) (n0 : Nat) (c0 : Nat) (a1 : Option Addr) (n1 : Nat) (c1 : Nat) {K : KV} {w : World} (h : F40 a0 n0 c0 a1 n1 c1 K w) : gocall Tryd.prog 40 [(Value.slice a0 n0 c0), (Value.slice a1 n1 c1)] K w :=
  ⟨by kernel_rfl, calls_of_sBody (T := []) mixed Tryd.func40 (by kernel_rfl) (by rw [F40_eq]; exact h)⟩
end Go.Proofs.YteppbgalecjlfaaDoor
