/- The shallow readings of some functions of the program (printed by a program of ours out of the model's own evaluation) and, for each, the proof that it is one. Conditions: none. -/
import Derived.Test.YtkhmhgleglhcjaaDoorC17
set_option maxRecDepth 100000
set_option linter.unusedVariables false
namespace Go.Proofs.YtkhmhgleglhcjaaDoor
open Go Go.Sh
def F7 (s0 : ByteArray) (x1 : Int) (a2 : Option Addr) (n2 : Nat) (c2 : Nat) (s3 : ByteArray) (x4 : Int) (a5 : Option Addr) (n5 : Nat) (c5 : Nat) (K : KV) (w : World) : Prop :=
  nw (Obj.cells #[(Value.string (s0)), (Value.int IntKind.i64 (x1)), (Value.slice a2 (n2) (c2))] 24 (0, 0)) (fun k10 w11 =>
  nw (Obj.cells #[(Value.string (s3)), (Value.int IntKind.i64 (x4)), (Value.slice a5 (n5) (c5))] 24 (0, 0)) (fun k12 w13 =>
  ld (⟨k10, 0, none⟩) (fun v14 w15 =>
  asStr (v14) (fun s16 w17 =>
  ld (⟨k10, 1, none⟩) (fun v18 w19 =>
  asI (IntKind.i64) (v18) (fun n20 w21 =>
  ld (⟨k10, 2, none⟩) (fun v22 w23 =>
  asSl (v22) (fun p24 k25 k26 w27 =>
  gocall Tryd.prog (13) [(Value.agg #[(Value.string (s16)), (Value.int IntKind.i64 (n20)), (Value.slice p24 (k25) (k26))])] (fun v28 w29 =>
  asBoo (v28) (fun b30 w31 =>
  br (!b30) (fun w32 =>
  gocall Tryd.prog (14) [] (fun v33 w34 =>
  asBoo (v33) (fun b35 w36 =>
  K (Value.bool (b35)) (w36)) (w34)) (w32)) (fun w37 =>
  ld (⟨k12, 0, none⟩) (fun v38 w39 =>
  asStr (v38) (fun s40 w41 =>
  ld (⟨k12, 1, none⟩) (fun v42 w43 =>
  asI (IntKind.i64) (v42) (fun n44 w45 =>
  ld (⟨k12, 2, none⟩) (fun v46 w47 =>
  asSl (v46) (fun p48 k49 k50 w51 =>
  gocall Tryd.prog (13) [(Value.agg #[(Value.string (s40)), (Value.int IntKind.i64 (n44)), (Value.slice p48 (k49) (k50))])] (fun v52 w53 =>
  asBoo (v52) (fun b54 w55 =>
  br (!b54) (fun w56 =>
  gocall Tryd.prog (14) [] (fun v57 w58 =>
  asBoo (v57) (fun b59 w60 =>
  K (Value.bool (b59)) (w60)) (w58)) (w56)) (fun w61 =>
  ld (⟨k10, 0, none⟩) (fun v62 w63 =>
  asStr (v62) (fun s64 w65 =>
  ld (⟨k10, 1, none⟩) (fun v66 w67 =>
  asI (IntKind.i64) (v66) (fun n68 w69 =>
  ld (⟨k10, 2, none⟩) (fun v70 w71 =>
  asSl (v70) (fun p72 k73 k74 w75 =>
  gocall Tryd.prog (16) [(Value.agg #[(Value.string (s64)), (Value.int IntKind.i64 (n68)), (Value.slice p72 (k73) (k74))])] (fun v76 w77 =>
  asT (2) (v76) (fun f78 w79 =>
  asStr (f78 0) (fun s80 w81 =>
  asI (IntKind.i64) (f78 1) (fun n82 w83 =>
  ld (⟨k12, 0, none⟩) (fun v84 w85 =>
  asStr (v84) (fun s86 w87 =>
  ld (⟨k12, 1, none⟩) (fun v88 w89 =>
  asI (IntKind.i64) (v88) (fun n90 w91 =>
  ld (⟨k12, 2, none⟩) (fun v92 w93 =>
  asSl (v92) (fun p94 k95 k96 w97 =>
  gocall Tryd.prog (16) [(Value.agg #[(Value.string (s86)), (Value.int IntKind.i64 (n90)), (Value.slice p94 (k95) (k96))])] (fun v98 w99 =>
  asT (2) (v98) (fun f100 w101 =>
  asStr (f100 0) (fun s102 w103 =>
  asI (IntKind.i64) (f100 1) (fun n104 w105 =>
  br (n82 != 0) (fun w106 =>
  gocall Tryd.prog (14) [] (fun v107 w108 =>
  asBoo (v107) (fun b109 w110 =>
  K (Value.bool (b109)) (w110)) (w108)) (w106)) (fun w111 =>
  br (n104 != 0) (fun w112 =>
  gocall Tryd.prog (14) [] (fun v113 w114 =>
  asBoo (v113) (fun b115 w116 =>
  K (Value.bool (b115)) (w116)) (w114)) (w112)) (fun w117 =>
  ld (⟨k10, 0, none⟩) (fun v118 w119 =>
  asStr (v118) (fun s120 w121 =>
  ld (⟨k10, 1, none⟩) (fun v122 w123 =>
  asI (IntKind.i64) (v122) (fun n124 w125 =>
  ld (⟨k10, 2, none⟩) (fun v126 w127 =>
  asSl (v126) (fun p128 k129 k130 w131 =>
  ld (⟨k12, 0, none⟩) (fun v132 w133 =>
  asStr (v132) (fun s134 w135 =>
  ld (⟨k12, 1, none⟩) (fun v136 w137 =>
  asI (IntKind.i64) (v136) (fun n138 w139 =>
  ld (⟨k12, 2, none⟩) (fun v140 w141 =>
  asSl (v140) (fun p142 k143 k144 w145 =>
  gocall Tryd.prog (26) [(Value.agg #[(Value.string (s120)), (Value.int IntKind.i64 (n124)), (Value.slice p128 (k129) (k130))]), (Value.agg #[(Value.string (s134)), (Value.int IntKind.i64 (n138)), (Value.slice p142 (k143) (k144))])] (fun v146 w147 =>
  asBoo (v146) (fun b148 w149 =>
  br ((if false = true then !strEq s80 s102 else strEq s80 s102) == b148) (fun w150 =>
  ld (⟨k10, 0, none⟩) (fun v151 w152 =>
  asStr (v151) (fun s153 w154 =>
  ld (⟨k10, 1, none⟩) (fun v155 w156 =>
  asI (IntKind.i64) (v155) (fun n157 w158 =>
  ld (⟨k10, 2, none⟩) (fun v159 w160 =>
  asSl (v159) (fun p161 k162 k163 w164 =>
  ld (⟨k10, 0, none⟩) (fun v165 w166 =>
  asStr (v165) (fun s167 w168 =>
  ld (⟨k10, 1, none⟩) (fun v169 w170 =>
  asI (IntKind.i64) (v169) (fun n171 w172 =>
  ld (⟨k10, 2, none⟩) (fun v173 w174 =>
  asSl (v173) (fun p175 k176 k177 w178 =>
  gocall Tryd.prog (26) [(Value.agg #[(Value.string (s153)), (Value.int IntKind.i64 (n157)), (Value.slice p161 (k162) (k163))]), (Value.agg #[(Value.string (s167)), (Value.int IntKind.i64 (n171)), (Value.slice p175 (k176) (k177))])] (fun v179 w180 =>
  asBoo (v179) (fun b181 w182 =>
  br (b181) (fun w183 =>
  gocall Tryd.prog (14) [] (fun v184 w185 =>
  asBoo (v184) (fun b186 w187 =>
  K (Value.bool (b186)) (w187)) (w185)) (w183)) (fun w188 =>
  K (Value.bool (false)) (w188)) (w182)) (w180)) (w178)) (w174)) (w172)) (w170)) (w168)) (w166)) (w164)) (w160)) (w158)) (w156)) (w154)) (w152)) (w150)) (fun w189 =>
  K (Value.bool (false)) (w189)) (w149)) (w147)) (w145)) (w141)) (w139)) (w137)) (w135)) (w133)) (w131)) (w127)) (w125)) (w123)) (w121)) (w119)) (w117)) (w111)) (w105)) (w103)) (w101)) (w99)) (w97)) (w93)) (w91)) (w89)) (w87)) (w85)) (w83)) (w81)) (w79)) (w77)) (w75)) (w71)) (w69)) (w67)) (w65)) (w63)) (w61)) (w55)) (w53)) (w51)) (w47)) (w45)) (w43)) (w41)) (w39)) (w37)) (w31)) (w29)) (w27)) (w23)) (w21)) (w19)) (w17)) (w15)) (w13)) (w11)) (w)
theorem F7_eq (s0 : ByteArray) (x1 : Int) (a2 : Option Addr) (n2 : Nat) (c2 : Nat) (s3 : ByteArray) (x4 : Int) (a5 : Option Addr) (n5 : Nat) (c5 : Nat) : sBody Tryd.prog [] Tryd.f7 [(Value.agg #[(Value.string s0), (Value.int IntKind.i64 x1), (Value.slice a2 n2 c2)]), (Value.agg #[(Value.string s3), (Value.int IntKind.i64 x4), (Value.slice a5 n5 c5)])] = F7 s0 x1 a2 n2 c2 s3 x4 a5 n5 c5 := by kernel_rfl
theorem F7_go (s0 : ByteArray) (x1 : Int) (a2 : Option Addr) (n2 : Nat) (c2 : Nat) (s3 : ByteArray) (x4 : Int) (a5 : Option Addr) (n5 : Nat) (c5 : Nat) {K : KV} {w : World} (h : F7 s0 x1 a2 n2 c2 s3 x4 a5 n5 c5 K w) : gocall Tryd.prog 7 [(Value.agg #[(Value.string s0), (Value.int IntKind.i64 x1), (Value.slice a2 n2 c2)]), (Value.agg #[(Value.string s3), (Value.int IntKind.i64 x4), (Value.slice a5 n5 c5)])] K w :=
  ⟨by kernel_rfl, calls_of_sBody (T := []) mixed Tryd.func7 (by kernel_rfl) (by rw [F7_eq]; exact h)⟩
end Go.Proofs.YtkhmhgleglhcjaaDoor
