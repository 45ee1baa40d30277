/- The shallow readings of some functions of the program (printed by a program of ours out of the model's own evaluation) and, for each, the proof that it is one. Conditions: none. -/
import Derived.Test.YtkhmhgleglhcjaaDoorC16
set_option maxRecDepth 100000
set_option linter.unusedVariables false
namespace Go.Proofs.YtkhmhgleglhcjaaDoor
open Go Go.Sh
def F13 (s0 : ByteArray) (x1 : Int) (a2 : Option Addr) (n2 : Nat) (c2 : Nat) (K : KV) (w : World) : Prop :=
  nw (Obj.cells #[(Value.string (s0)), (Value.int IntKind.i64 (x1)), (Value.slice a2 (n2) (c2))] 24 (0, 0)) (fun k5 w6 =>
  ld (⟨k5, 0, none⟩) (fun v7 w8 =>
  asStr (v7) (fun s9 w10 =>
  br (decide ((↑s9.size : Int) ≤ 50)) (fun w11 =>
  ld (⟨k5, 2, none⟩) (fun v12 w13 =>
  asSl (v12) (fun p14 k15 k16 w17 =>
  K (Value.bool (decide ((↑k15 : Int) ≤ 20))) (w17)) (w13)) (w11)) (fun w18 =>
  K (Value.bool (false)) (w18)) (w10)) (w8)) (w6)) (w)
theorem F13_eq (s0 : ByteArray) (x1 : Int) (a2 : Option Addr) (n2 : Nat) (c2 : Nat) : sBody Tryd.prog [] Tryd.f13 [(Value.agg #[(Value.string s0), (Value.int IntKind.i64 x1), (Value.slice a2 n2 c2)])] = F13 s0 x1 a2 n2 c2 := by kernel_rfl
theorem F13_go (s0 : ByteArray) (x1 : Int) (a2 : Option Addr) (n2 : Nat) (c2 : Nat) {K : KV} {w : World} (h : F13 s0 x1 a2 n2 c2 K w) : gocall Tryd.prog 13 [(Value.agg #[(Value.string s0), (Value.int IntKind.i64 x1), (Value.slice a2 n2 c2)])] K w :=
  ⟨by kernel_rfl, calls_of_sBody (T := []) mixed Tryd.func13 (by kernel_rfl) (by rw [F13_eq]; exact h)⟩
def F14  (K : KV) (w : World) : Prop :=
  nw (Obj.cells #[(Value.int IntKind.i64 (2))] 3 (0, 0)) (fun k0 w1 =>
  gocall Tryd.prog (16) [(Value.agg #[(Value.string ({ data := #[100, 105, 100] })), (Value.int IntKind.i64 (7)), (Value.slice (some ⟨k0, 0, none⟩) (1) (1))])] (fun v2 w3 =>
  asT (2) (v2) (fun f4 w5 =>
  asStr (f4 0) (fun s6 w7 =>
  asI (IntKind.i64) (f4 1) (fun n8 w9 =>
  gocall Tryd.prog (17) [(Value.string (s6))] (fun v10 w11 =>
  asT (2) (v10) (fun f12 w13 =>
  asN (3) (f12 0) (fun f14 w15 =>
  asStr (f14 0) (fun s16 w17 =>
  asI (IntKind.i64) (f14 1) (fun n18 w19 =>
  asSl (f14 2) (fun p20 k21 k22 w23 =>
  asI (IntKind.i64) (f12 1) (fun n24 w25 =>
  nw (Obj.cells #[(Value.string ({ data := #[] })), (Value.int IntKind.i64 (0)), (Value.slice none (0) (0))] 24 (0, 0)) (fun k26 w27 =>
  st (⟨k26, 0, none⟩) (Value.string (s16)) (fun w28 =>
  st (⟨k26, 1, none⟩) (Value.int IntKind.i64 (n18)) (fun w29 =>
  st (⟨k26, 2, none⟩) (Value.slice p20 (k21) (k22)) (fun w30 =>
  br (n8 == 0) (fun w31 =>
  gocall Tryd.prog (15) [(Value.string ({ data := #[100, 105, 100, 32, 55, 32, 50] }))] (fun v32 w33 =>
  asStr (v32) (fun s34 w35 =>
  br (strEq s6 s34) (fun w36 =>
  br (n24 == 0) (fun w37 =>
  ld (⟨k26, 1, none⟩) (fun v38 w39 =>
  asI (IntKind.i64) (v38) (fun n40 w41 =>
  br (n40 == 7) (fun w42 =>
  ld (⟨k26, 2, none⟩) (fun v43 w44 =>
  asSl (v43) (fun p45 k46 k47 w48 =>
  K (Value.bool ((↑k46 : Int) == 1)) (w48)) (w44)) (w42)) (fun w49 =>
  K (Value.bool (false)) (w49)) (w41)) (w39)) (w37)) (fun w50 =>
  K (Value.bool (false)) (w50)) (w36)) (fun w51 =>
  K (Value.bool (false)) (w51)) (w35)) (w33)) (w31)) (fun w52 =>
  K (Value.bool (false)) (w52)) (w30)) (w29)) (w28)) (w27)) (w25)) (w23)) (w19)) (w17)) (w15)) (w13)) (w11)) (w9)) (w7)) (w5)) (w3)) (w1)) (w)
theorem F14_eq  : sBody Tryd.prog [] Tryd.f14 [] = F14  := by kernel_rfl
theorem F14_go  {K : KV} {w : World} (h : F14  K w) : gocall Tryd.prog 14 [] K w :=
  ⟨by kernel_rfl, calls_of_sBody (T := []) mixed Tryd.func14 (by kernel_rfl) (by rw [F14_eq]; exact h)⟩
def F19 (s0 : ByteArray) (x1 : Int) (a2 : Option Addr) (n2 : Nat) (c2 : Nat) (s3 : ByteArray) (x4 : Int) (a5 : Option Addr) (n5 : Nat) (c5 : Nat) (K : KV) (w : World) : Prop :=
  nw (Obj.cells #[(Value.string (s0)), (Value.int IntKind.i64 (x1)), (Value.slice a2 (n2) (c2))] 24 (0, 0)) (fun k10 w11 =>
  nw (Obj.cells #[(Value.string (s3)), (Value.int IntKind.i64 (x4)), (Value.slice a5 (n5) (c5))] 24 (0, 0)) (fun k12 w13 =>
  ld (⟨k10, 0, none⟩) (fun v14 w15 =>
  asStr (v14) (fun s16 w17 =>
  ld (⟨k12, 0, none⟩) (fun v18 w19 =>
  asStr (v18) (fun s20 w21 =>
  br (strEq s16 s20) (fun w22 =>
  ld (⟨k10, 1, none⟩) (fun v23 w24 =>
  asI (IntKind.i64) (v23) (fun n25 w26 =>
  ld (⟨k12, 1, none⟩) (fun v27 w28 =>
  asI (IntKind.i64) (v27) (fun n29 w30 =>
  br (n25 == n29) (fun w31 =>
  ld (⟨k10, 2, none⟩) (fun v32 w33 =>
  asSl (v32) (fun p34 k35 k36 w37 =>
  ld (⟨k12, 2, none⟩) (fun v38 w39 =>
  asSl (v38) (fun p40 k41 k42 w43 =>
  gocall Tryd.prog (21) [(Value.slice p34 (k35) (k36)), (Value.slice p40 (k41) (k42))] (fun v44 w45 =>
  asBoo (v44) (fun b46 w47 =>
  K (Value.bool (b46)) (w47)) (w45)) (w43)) (w39)) (w37)) (w33)) (w31)) (fun w48 =>
  K (Value.bool (false)) (w48)) (w30)) (w28)) (w26)) (w24)) (w22)) (fun w49 =>
  K (Value.bool (false)) (w49)) (w21)) (w19)) (w17)) (w15)) (w13)) (w11)) (w)
theorem F19_eq (s0 : ByteArray) (x1 : Int) (a2 : Option Addr) (n2 : Nat) (c2 : Nat) (s3 : ByteArray) (x4 : Int) (a5 : Option Addr) (n5 : Nat) (c5 : Nat) : sBody Tryd.prog [] Tryd.f19 [(Value.agg #[(Value.string s0), (Value.int IntKind.i64 x1), (Value.slice a2 n2 c2)]), (Value.agg #[(Value.string s3), (Value.int IntKind.i64 x4), (Value.slice a5 n5 c5)])] = F19 s0 x1 a2 n2 c2 s3 x4 a5 n5 c5 := by kernel_rfl
theorem F19_go (s0 : ByteArray) (x1 : Int) (a2 : Option Addr) (n2 : Nat) (c2 : Nat) (s3 : ByteArray) (x4 : Int) (a5 : Option Addr) (n5 : Nat) (c5 : Nat) {K : KV} {w : World} (h : F19 s0 x1 a2 n2 c2 s3 x4 a5 n5 c5 K w) : gocall Tryd.prog 19 [(Value.agg #[(Value.string s0), (Value.int IntKind.i64 x1), (Value.slice a2 n2 c2)]), (Value.agg #[(Value.string s3), (Value.int IntKind.i64 x4), (Value.slice a5 n5 c5)])] K w :=
  ⟨by kernel_rfl, calls_of_sBody (T := []) mixed Tryd.func19 (by kernel_rfl) (by rw [F19_eq]; exact h)⟩
def F21 (a0 : Option Addr) (n0 : Nat) (c0 : Nat) (a1 : Option Addr) (n1 : Nat) (c1 : Nat) (K : KV) (w : World) : Prop :=
  br ((↑n0 : Int) != (↑n1 : Int)) (fun w6 =>
  K (Value.bool (false)) (w6)) (fun w7 =>
  loop (X := (Int) × (Bool) × Unit) (0, (false, ())) (fun x8 rec9 w10 =>
  br (decide (x8.fst < (↑n0 : Int))) (fun w11 =>
  slAt (a0) (n0) (x8.fst) (1) (fun a12 w13 =>
  ld (a12) (fun v14 w15 =>
  asI (IntKind.i64) (v14) (fun n16 w17 =>
  slAt (a1) (n1) (x8.fst) (1) (fun a18 w19 =>
  ld (a18) (fun v20 w21 =>
  asI (IntKind.i64) (v20) (fun n22 w23 =>
  br (n16 != n22) (fun w24 =>
  K (Value.bool (false)) (w24)) (fun w25 =>
  rec9 (IntKind.i64.wrap (x8.fst + 1), (x8.snd.fst, ())) (w25)) (w23)) (w21)) (w19)) (w17)) (w15)) (w13)) (w11.drew)) (fun w26 =>
  K (Value.bool (true)) (w26)) (w10)) (w7)) (w)
theorem F21_eq (a0 : Option Addr) (n0 : Nat) (c0 : Nat) (a1 : Option Addr) (n1 : Nat) (c1 : Nat) : sBody Tryd.prog [] Tryd.f21 [(Value.slice a0 n0 c0), (Value.slice a1 n1 c1)] = F21 a0 n0 c0 a1 n1 c1 := by kernel_rfl
theorem F21_go (a0 : Option Addr) (n0 : Nat) (c0 : Nat) (a1 : Option Addr) (n1 : Nat) (c1 : Nat) {K : KV} {w : World} (h : F21 a0 n0 c0 a1 n1 c1 K w) : gocall Tryd.prog 21 [(Value.slice a0 n0 c0), (Value.slice a1 n1 c1)] K w :=
  ⟨by kernel_rfl, calls_of_sBody (T := []) mixed Tryd.func21 (by kernel_rfl) (by rw [F21_eq]; exact h)⟩
def F26 (s0 : ByteArray) (x1 : Int) (a2 : Option Addr) (n2 : Nat) (c2 : Nat) (s3 : ByteArray) (x4 : Int) (a5 : Option Addr) (n5 : Nat) (c5 : Nat) (K : KV) (w : World) : Prop :=
  nw (Obj.cells #[(Value.string (s0)), (Value.int IntKind.i64 (x1)), (Value.slice a2 (n2) (c2))] 24 (0, 0)) (fun k10 w11 =>
  nw (Obj.cells #[(Value.string (s3)), (Value.int IntKind.i64 (x4)), (Value.slice a5 (n5) (c5))] 24 (0, 0)) (fun k12 w13 =>
  ld (⟨k10, 0, none⟩) (fun v14 w15 =>
  asStr (v14) (fun s16 w17 =>
  ld (⟨k12, 0, none⟩) (fun v18 w19 =>
  asStr (v18) (fun s20 w21 =>
  br (strEq s16 s20) (fun w22 =>
  ld (⟨k10, 1, none⟩) (fun v23 w24 =>
  asI (IntKind.i64) (v23) (fun n25 w26 =>
  ld (⟨k12, 1, none⟩) (fun v27 w28 =>
  asI (IntKind.i64) (v27) (fun n29 w30 =>
  br (n25 == n29) (fun w31 =>
  ld (⟨k10, 2, none⟩) (fun v32 w33 =>
  asSl (v32) (fun p34 k35 k36 w37 =>
  ld (⟨k12, 2, none⟩) (fun v38 w39 =>
  asSl (v38) (fun p40 k41 k42 w43 =>
  gocall Tryd.prog (54) [(Value.slice p34 (k35) (k36)), (Value.slice p40 (k41) (k42))] (fun v44 w45 =>
  asBoo (v44) (fun b46 w47 =>
  K (Value.bool (b46)) (w47)) (w45)) (w43)) (w39)) (w37)) (w33)) (w31)) (fun w48 =>
  K (Value.bool (false)) (w48)) (w30)) (w28)) (w26)) (w24)) (w22)) (fun w49 =>
  K (Value.bool (false)) (w49)) (w21)) (w19)) (w17)) (w15)) (w13)) (w11)) (w)
theorem F26_eq (s0 : ByteArray) (x1 : Int) (a2 : Option Addr) (n2 : Nat) (c2 : Nat) (s3 : ByteArray) (x4 : Int) (a5 : Option Addr) (n5 : Nat) (c5 : Nat) : sBody Tryd.prog [] Tryd.f26 [(Value.agg #[(Value.string s0), (Value.int IntKind.i64 x1), (Value.slice a2 n2 c2)]), (Value.agg #[(Value.string s3), (Value.int IntKind.i64 x4), (Value.slice a5 n5 c5)])] = F26 s0 x1 a2 n2 c2 s3 x4 a5 n5 c5 := by kernel_rfl
theorem F26_go (s0 : ByteArray) (x1 : Int) (a2 : Option Addr) (n2 : Nat) (c2 : Nat) (s3 : ByteArray) (x4 : Int) (a5 : Option Addr) (n5 : Nat) (c5 : Nat) {K : KV} {w : World} (h : F26 s0 x1 a2 n2 c2 s3 x4 a5 n5 c5 K w) : gocall Tryd.prog 26 [(Value.agg #[(Value.string s0), (Value.int IntKind.i64 x1), (Value.slice a2 n2 c2)]), (Value.agg #[(Value.string s3), (Value.int IntKind.i64 x4), (Value.slice a5 n5 c5)])] K w :=
  ⟨by kernel_rfl, calls_of_sBody (T := []) mixed Tryd.func26 (by kernel_rfl) (by rw [F26_eq]; exact h)⟩
def F54 (a0 : Option Addr) (n0 : Nat) (c0 : Nat) (a1 : Option Addr) (n1 : Nat) (c1 : Nat) (K : KV) (w : World) : Prop :=
  br ((↑n0 : Int) != (↑n1 : Int)) (fun w6 =>
  K (Value.bool (false)) (w6)) (fun w7 =>
  loop (X := (Int) × (Bool) × Unit) (0, (false, ())) (fun x8 rec9 w10 =>
  br (decide (x8.fst < (↑n0 : Int))) (fun w11 =>
  slAt (a0) (n0) (x8.fst) (1) (fun a12 w13 =>
  ld (a12) (fun v14 w15 =>
  asI (IntKind.i64) (v14) (fun n16 w17 =>
  slAt (a1) (n1) (x8.fst) (1) (fun a18 w19 =>
  ld (a18) (fun v20 w21 =>
  asI (IntKind.i64) (v20) (fun n22 w23 =>
  br (n16 != n22) (fun w24 =>
  K (Value.bool (false)) (w24)) (fun w25 =>
  rec9 (IntKind.i64.wrap (x8.fst + 1), (x8.snd.fst, ())) (w25)) (w23)) (w21)) (w19)) (w17)) (w15)) (w13)) (w11.drew)) (fun w26 =>
  K (Value.bool (true)) (w26)) (w10)) (w7)) (w)
theorem F54_eq (a0 : Option Addr) (n0 : Nat) (c0 : Nat) (a1 : Option Addr) (n1 : Nat) (c1 : Nat) : sBody Tryd.prog [] Tryd.f54 [(Value.slice a0 n0 c0), (Value.slice a1 n1 c1)] = F54 a0 n0 c0 a1 n1 c1 := by kernel_rfl
theorem F54_go (a0 : Option Addr) (n0 : Nat) (c0 : Nat) (a1 : Option Addr) (n1 : Nat) (c1 : Nat) {K : KV} {w : World} (h : F54 a0 n0 c0 a1 n1 c1 K w) : gocall Tryd.prog 54 [(Value.slice a0 n0 c0), (Value.slice a1 n1 c1)] K w :=
  ⟨by kernel_rfl, calls_of_sBody (T := []) mixed Tryd.func54 (by kernel_rfl) (by rw [F54_eq]; exact h)⟩
end Go.Proofs.YtkhmhgleglhcjaaDoor
