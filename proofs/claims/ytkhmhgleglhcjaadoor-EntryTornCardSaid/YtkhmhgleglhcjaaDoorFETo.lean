/- The shallow readings of some functions of the program (printed by a program of ours out of the model's own evaluation) and, for each, the proof that it is one. Conditions: none. -/
import Derived.Test.YtkhmhgleglhcjaaDoorC17
set_option maxRecDepth 100000
set_option linter.unusedVariables false
namespace Go.Proofs.YtkhmhgleglhcjaaDoor
open Go Go.Sh
def F4 (s0 : ByteArray) (x1 : Int) (a2 : Option Addr) (n2 : Nat) (c2 : Nat) (x3 : Int) (x4 : Int) (x5 : Int) (K : KV) (w : World) : Prop :=
  nw (Obj.cells #[(Value.string (s0)), (Value.int IntKind.i64 (x1)), (Value.slice a2 (n2) (c2))] 24 (0, 0)) (fun k8 w9 =>
  ld (⟨k8, 0, none⟩) (fun v10 w11 =>
  asStr (v10) (fun s12 w13 =>
  ld (⟨k8, 1, none⟩) (fun v14 w15 =>
  asI (IntKind.i64) (v14) (fun n16 w17 =>
  ld (⟨k8, 2, none⟩) (fun v18 w19 =>
  asSl (v18) (fun p20 k21 k22 w23 =>
  gocall Tryd.prog (16) [(Value.agg #[(Value.string (s12)), (Value.int IntKind.i64 (n16)), (Value.slice p20 (k21) (k22))])] (fun v24 w25 =>
  asT (2) (v24) (fun f26 w27 =>
  asStr (f26 0) (fun s28 w29 =>
  asI (IntKind.i64) (f26 1) (fun n30 w31 =>
  br (n30 != 0) (fun w32 =>
  gocall Tryd.prog (14) [] (fun v33 w34 =>
  asBoo (v33) (fun b35 w36 =>
  K (Value.bool (b35)) (w36)) (w34)) (w32)) (fun w37 =>
  ld (⟨k8, 0, none⟩) (fun v38 w39 =>
  asStr (v38) (fun s40 w41 =>
  ld (⟨k8, 1, none⟩) (fun v42 w43 =>
  asI (IntKind.i64) (v42) (fun n44 w45 =>
  ld (⟨k8, 2, none⟩) (fun v46 w47 =>
  asSl (v46) (fun p48 k49 k50 w51 =>
  gocall Tryd.prog (13) [(Value.agg #[(Value.string (s40)), (Value.int IntKind.i64 (n44)), (Value.slice p48 (k49) (k50))])] (fun v52 w53 =>
  asBoo (v52) (fun b54 w55 =>
  br (!b54) (fun w56 =>
  gocall Tryd.prog (14) [] (fun v57 w58 =>
  asBoo (v57) (fun b59 w60 =>
  K (Value.bool (b59)) (w60)) (w58)) (w56)) (fun w61 =>
  br (decide ((↑s28.size : Int) < 6)) (fun w62 =>
  K (Value.bool (false)) (w62)) (fun w63 =>
  divW (IntKind.u64.wrap (↑s28.size : Int)) (fun w64 =>
  strSl (s28) (0) (IntKind.i64.wrap ((IntKind.u64.wrap x3).tmod (IntKind.u64.wrap (↑s28.size : Int)))) (fun s65 w66 =>
  gocall Tryd.prog (17) [(Value.string (s65))] (fun v67 w68 =>
  asT (2) (v67) (fun f69 w70 =>
  asN (3) (f69 0) (fun f71 w72 =>
  asStr (f71 0) (fun s73 w74 =>
  asI (IntKind.i64) (f71 1) (fun n75 w76 =>
  asSl (f71 2) (fun p77 k78 k79 w80 =>
  asI (IntKind.i64) (f69 1) (fun n81 w82 =>
  nw (Obj.cells #[(Value.string ({ data := #[] })), (Value.int IntKind.i64 (0)), (Value.slice none (0) (0))] 24 (0, 0)) (fun k83 w84 =>
  st (⟨k83, 0, none⟩) (Value.string (s73)) (fun w85 =>
  st (⟨k83, 1, none⟩) (Value.int IntKind.i64 (n75)) (fun w86 =>
  st (⟨k83, 2, none⟩) (Value.slice p77 (k78) (k79)) (fun w87 =>
  cnv (Md.full) Tryd.prog (9) (36) (Value.string (s28)) (fun v88 w89 =>
  asSl (v88) (fun p90 k91 k92 w93 =>
  divW (IntKind.u64.wrap (↑s28.size : Int)) (fun w94 =>
  slAt (p90) (k91) (IntKind.i64.wrap ((IntKind.u64.wrap x4).tmod (IntKind.u64.wrap (↑s28.size : Int)))) (1) (fun a95 w96 =>
  ld (a95) (fun v97 w98 =>
  asI (IntKind.u8) (v97) (fun n99 w100 =>
  slAt (p90) (k91) (IntKind.i64.wrap ((IntKind.u64.wrap x4).tmod (IntKind.u64.wrap (↑s28.size : Int)))) (1) (fun a101 w102 =>
  st (a101) (Value.int IntKind.u8 (IntKind.u8.wrap (↑(BitVec.ofInt IntKind.u8.bits n99 ^^^ BitVec.ofInt IntKind.u8.bits x5).toNat : Int))) (fun w103 =>
  cnv (Md.full) Tryd.prog (36) (9) (Value.slice p90 (k91) (k92)) (fun v104 w105 =>
  asStr (v104) (fun s106 w107 =>
  gocall Tryd.prog (17) [(Value.string (s106))] (fun v108 w109 =>
  asT (2) (v108) (fun f110 w111 =>
  asN (3) (f110 0) (fun f112 w113 =>
  asStr (f112 0) (fun s114 w115 =>
  asI (IntKind.i64) (f112 1) (fun n116 w117 =>
  asSl (f112 2) (fun p118 k119 k120 w121 =>
  asI (IntKind.i64) (f110 1) (fun n122 w123 =>
  nw (Obj.cells #[(Value.string ({ data := #[] })), (Value.int IntKind.i64 (0)), (Value.slice none (0) (0))] 24 (0, 0)) (fun k124 w125 =>
  st (⟨k124, 0, none⟩) (Value.string (s114)) (fun w126 =>
  st (⟨k124, 1, none⟩) (Value.int IntKind.i64 (n116)) (fun w127 =>
  st (⟨k124, 2, none⟩) (Value.slice p118 (k119) (k120)) (fun w128 =>
  br (n81 != 0) (fun w129 =>
  br ((n122 == 0) == (x5 == 0)) (fun w130 =>
  gocall Tryd.prog (14) [] (fun v131 w132 =>
  asBoo (v131) (fun b133 w134 =>
  K (Value.bool (b133)) (w134)) (w132)) (w130)) (fun w135 =>
  K (Value.bool (false)) (w135)) (w129)) (fun w136 =>
  K (Value.bool (false)) (w136)) (w128)) (w127)) (w126)) (w125)) (w123)) (w121)) (w117)) (w115)) (w113)) (w111)) (w109)) (w107)) (w105)) (w103)) (w102)) (w100)) (w98)) (w96)) (w94)) (w93)) (w89)) (w87)) (w86)) (w85)) (w84)) (w82)) (w80)) (w76)) (w74)) (w72)) (w70)) (w68)) (w66)) (w64)) (w63)) (w61)) (w55)) (w53)) (w51)) (w47)) (w45)) (w43)) (w41)) (w39)) (w37)) (w31)) (w29)) (w27)) (w25)) (w23)) (w19)) (w17)) (w15)) (w13)) (w11)) (w9)) (w)
theorem F4_eq (s0 : ByteArray) (x1 : Int) (a2 : Option Addr) (n2 : Nat) (c2 : Nat) (x3 : Int) (x4 : Int) (x5 : Int) : sBody Tryd.prog [] Tryd.f4 [(Value.agg #[(Value.string s0), (Value.int IntKind.i64 x1), (Value.slice a2 n2 c2)]), (Value.int IntKind.i64 x3), (Value.int IntKind.i64 x4), (Value.int IntKind.u8 x5)] = F4 s0 x1 a2 n2 c2 x3 x4 x5 := by kernel_rfl
theorem F4_go (s0 : ByteArray) (x1 : Int) (a2 : Option Addr) (n2 : Nat) (c2 : Nat) (x3 : Int) (x4 : Int) (x5 : Int) {K : KV} {w : World} (h : F4 s0 x1 a2 n2 c2 x3 x4 x5 K w) : gocall Tryd.prog 4 [(Value.agg #[(Value.string s0), (Value.int IntKind.i64 x1), (Value.slice a2 n2 c2)]), (Value.int IntKind.i64 x3), (Value.int IntKind.i64 x4), (Value.int IntKind.u8 x5)] K w :=
  ⟨by kernel_rfl, calls_of_sBody (T := []) mixed Tryd.func4 (by kernel_rfl) (by rw [F4_eq]; exact h)⟩
end Go.Proofs.YtkhmhgleglhcjaaDoor
