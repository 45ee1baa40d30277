/- The shallow readings of some functions of the program (printed by a program of ours out of the model's own evaluation) and, for each, the proof that it is one. Conditions: none. -/
import Derived.Test.YtjckakeolmbidaaGreatDoorFH
set_option maxRecDepth 100000
set_option linter.unusedVariables false
namespace Go.Proofs.YtjckakeolmbidaaGreatDoor
open Go Go.Sh
def F40 (x0 : Int) (a1 : Option Addr) (n1 : Nat) (c1 : Nat) (x2 : Int) (K : KV) (w : World) : Prop :=
  br (x0 != 1) (fun w5 =>
  br (x0 != 2) (fun w6 =>
  K (Value.pointer none) (w6)) (fun w7 =>
  gocall Tryz.prog (90) [(Value.slice a1 (n1) (c1))] (fun v8 w9 =>
  asSl (v8) (fun p10 k11 k12 w13 =>
  gocall Tryz.prog (65) [(Value.int IntKind.i64 (x2))] (fun v14 w15 =>
  asPtr (v14) (fun p16 w17 =>
  nw (Obj.cells #[(Value.int IntKind.i64 (x0)), (Value.slice p10 (k11) (k12)), (Value.pointer p16), (Value.nilIface), (Value.map none)] 135 (0, 0)) (fun k18 w19 =>
  gocall Tryz.prog (91) [(Value.pointer (some ⟨k18, 0, none⟩))] (fun v20 w21 =>
  asT (0) (v20) (fun f22 w23 =>
  K (Value.pointer (some ⟨k18, 0, none⟩)) (w23)) (w21)) (w19)) (w17)) (w15)) (w13)) (w9)) (w7)) (w5)) (fun w24 =>
  gocall Tryz.prog (90) [(Value.slice a1 (n1) (c1))] (fun v25 w26 =>
  asSl (v25) (fun p27 k28 k29 w30 =>
  gocall Tryz.prog (65) [(Value.int IntKind.i64 (x2))] (fun v31 w32 =>
  asPtr (v31) (fun p33 w34 =>
  nw (Obj.cells #[(Value.int IntKind.i64 (x0)), (Value.slice p27 (k28) (k29)), (Value.pointer p33), (Value.nilIface), (Value.map none)] 135 (0, 0)) (fun k35 w36 =>
  gocall Tryz.prog (91) [(Value.pointer (some ⟨k35, 0, none⟩))] (fun v37 w38 =>
  asT (0) (v37) (fun f39 w40 =>
  K (Value.pointer (some ⟨k35, 0, none⟩)) (w40)) (w38)) (w36)) (w34)) (w32)) (w30)) (w26)) (w24)) (w)
theorem F40_eq (x0 : Int) (a1 : Option Addr) (n1 : Nat) (c1 : Nat) (x2 : Int) : sBody Tryz.prog [] Tryz.f40 [(Value.int IntKind.i64 x0), (Value.slice a1 n1 c1), (Value.int IntKind.i64 x2)] = F40 x0 a1 n1 c1 x2 := by kernel_rfl
theorem F40_go (x0 : Int) (a1 : Option Addr) (n1 : Nat) (c1 : Nat) (x2 : Int) {K : KV} {w : World} (h : F40 x0 a1 n1 c1 x2 K w) : gocall Tryz.prog 40 [(Value.int IntKind.i64 x0), (Value.slice a1 n1 c1), (Value.int IntKind.i64 x2)] K w :=
  ⟨by kernel_rfl, calls_of_sBody (T := []) mixed Tryz.func40 (by kernel_rfl) (by rw [F40_eq]; exact h)⟩
def F48 (p0 : Option Addr) (x1 : Int) (K : KV) (w : World) : Prop :=
  br (p0.isNone) (fun w2 =>
  K (Value.slice none (0) (0)) (w2)) (fun w3 =>
  gocall Tryz.prog (55) [(Value.pointer p0)] (fun v4 w5 =>
  asBoo (v4) (fun b6 w7 =>
  br (b6) (fun w8 =>
  K (Value.slice none (0) (0)) (w8)) (fun w9 =>
  gocall Tryz.prog (46) [(Value.pointer p0), (Value.int IntKind.i64 (x1))] (fun v10 w11 =>
  asI (IntKind.i64) (v10) (fun n12 w13 =>
  br (n12 != 1) (fun w14 =>
  K (Value.slice none (0) (0)) (w14)) (fun w15 =>
  nn (p0) (fun a16 w17 =>
  ld (a16) (fun v18 w19 =>
  asI (IntKind.i64) (v18) (fun n20 w21 =>
  nw (Obj.cells #[(Value.int IntKind.i64 (0)), (Value.int IntKind.i64 (0)), (Value.int IntKind.i64 (0)), (Value.int IntKind.i64 (0)), (Value.int IntKind.i64 (0)), (Value.int IntKind.i64 (0)), (Value.int IntKind.i64 (0))] 28 (0, 0)) (fun k22 w23 =>
  st (⟨k22, 0, none⟩) (Value.int IntKind.i64 (12)) (fun w24 =>
  st (⟨k22, 1, none⟩) (Value.int IntKind.i64 (n20)) (fun w25 =>
  st (⟨k22, 2, none⟩) (Value.int IntKind.i64 (0)) (fun w26 =>
  st (⟨k22, 3, none⟩) (Value.int IntKind.i64 (x1)) (fun w27 =>
  st (⟨k22, 4, none⟩) (Value.int IntKind.i64 (0)) (fun w28 =>
  st (⟨k22, 5, none⟩) (Value.int IntKind.i64 (0)) (fun w29 =>
  st (⟨k22, 6, none⟩) (Value.int IntKind.i64 (0)) (fun w30 =>
  ld (⟨k22, 0, none⟩) (fun v31 w32 =>
  asI (IntKind.i64) (v31) (fun n33 w34 =>
  ld (⟨k22, 1, none⟩) (fun v35 w36 =>
  asI (IntKind.i64) (v35) (fun n37 w38 =>
  ld (⟨k22, 2, none⟩) (fun v39 w40 =>
  asI (IntKind.i64) (v39) (fun n41 w42 =>
  ld (⟨k22, 3, none⟩) (fun v43 w44 =>
  asI (IntKind.i64) (v43) (fun n45 w46 =>
  ld (⟨k22, 4, none⟩) (fun v47 w48 =>
  asI (IntKind.i64) (v47) (fun n49 w50 =>
  ld (⟨k22, 5, none⟩) (fun v51 w52 =>
  asI (IntKind.i64) (v51) (fun n53 w54 =>
  ld (⟨k22, 6, none⟩) (fun v55 w56 =>
  asI (IntKind.i64) (v55) (fun n57 w58 =>
  nw (Obj.cells #[(Value.int IntKind.i64 (0)), (Value.int IntKind.i64 (0)), (Value.int IntKind.i64 (0)), (Value.int IntKind.i64 (0)), (Value.int IntKind.i64 (0)), (Value.int IntKind.i64 (0)), (Value.int IntKind.i64 (0))] 28 (0, 0)) (fun k59 w60 =>
  st (⟨k59, 0, none⟩) (Value.int IntKind.i64 (n33)) (fun w61 =>
  st (⟨k59, 1, none⟩) (Value.int IntKind.i64 (n37)) (fun w62 =>
  st (⟨k59, 2, none⟩) (Value.int IntKind.i64 (n41)) (fun w63 =>
  st (⟨k59, 3, none⟩) (Value.int IntKind.i64 (n45)) (fun w64 =>
  st (⟨k59, 4, none⟩) (Value.int IntKind.i64 (n49)) (fun w65 =>
  st (⟨k59, 5, none⟩) (Value.int IntKind.i64 (n53)) (fun w66 =>
  st (⟨k59, 6, none⟩) (Value.int IntKind.i64 (n57)) (fun w67 =>
  gocall Tryz.prog (93) [(Value.pointer p0)] (fun v68 w69 =>
  asI (IntKind.i64) (v68) (fun n70 w71 =>
  st (⟨k59, 2, none⟩) (Value.int IntKind.i64 (n70)) (fun w72 =>
  ld (⟨k22, 0, none⟩) (fun v73 w74 =>
  asI (IntKind.i64) (v73) (fun n75 w76 =>
  ld (⟨k22, 1, none⟩) (fun v77 w78 =>
  asI (IntKind.i64) (v77) (fun n79 w80 =>
  ld (⟨k22, 2, none⟩) (fun v81 w82 =>
  asI (IntKind.i64) (v81) (fun n83 w84 =>
  ld (⟨k22, 3, none⟩) (fun v85 w86 =>
  asI (IntKind.i64) (v85) (fun n87 w88 =>
  ld (⟨k22, 4, none⟩) (fun v89 w90 =>
  asI (IntKind.i64) (v89) (fun n91 w92 =>
  ld (⟨k22, 5, none⟩) (fun v93 w94 =>
  asI (IntKind.i64) (v93) (fun n95 w96 =>
  ld (⟨k22, 6, none⟩) (fun v97 w98 =>
  asI (IntKind.i64) (v97) (fun n99 w100 =>
  ld (⟨k59, 0, none⟩) (fun v101 w102 =>
  asI (IntKind.i64) (v101) (fun n103 w104 =>
  ld (⟨k59, 1, none⟩) (fun v105 w106 =>
  asI (IntKind.i64) (v105) (fun n107 w108 =>
  ld (⟨k59, 2, none⟩) (fun v109 w110 =>
  asI (IntKind.i64) (v109) (fun n111 w112 =>
  ld (⟨k59, 3, none⟩) (fun v113 w114 =>
  asI (IntKind.i64) (v113) (fun n115 w116 =>
  ld (⟨k59, 4, none⟩) (fun v117 w118 =>
  asI (IntKind.i64) (v117) (fun n119 w120 =>
  ld (⟨k59, 5, none⟩) (fun v121 w122 =>
  asI (IntKind.i64) (v121) (fun n123 w124 =>
  ld (⟨k59, 6, none⟩) (fun v125 w126 =>
  asI (IntKind.i64) (v125) (fun n127 w128 =>
  nw (Obj.cells #[(Value.int IntKind.i64 (n75)), (Value.int IntKind.i64 (n79)), (Value.int IntKind.i64 (n83)), (Value.int IntKind.i64 (n87)), (Value.int IntKind.i64 (n91)), (Value.int IntKind.i64 (n95)), (Value.int IntKind.i64 (n99)), (Value.int IntKind.i64 (n103)), (Value.int IntKind.i64 (n107)), (Value.int IntKind.i64 (n111)), (Value.int IntKind.i64 (n115)), (Value.int IntKind.i64 (n119)), (Value.int IntKind.i64 (n123)), (Value.int IntKind.i64 (n127))] 28 (0, 0)) (fun k129 w130 =>
  K (Value.slice (some ⟨k129, 0, none⟩) (2) (2)) (w130)) (w128)) (w126)) (w124)) (w122)) (w120)) (w118)) (w116)) (w114)) (w112)) (w110)) (w108)) (w106)) (w104)) (w102)) (w100)) (w98)) (w96)) (w94)) (w92)) (w90)) (w88)) (w86)) (w84)) (w82)) (w80)) (w78)) (w76)) (w74)) (w72)) (w71)) (w69)) (w67)) (w66)) (w65)) (w64)) (w63)) (w62)) (w61)) (w60)) (w58)) (w56)) (w54)) (w52)) (w50)) (w48)) (w46)) (w44)) (w42)) (w40)) (w38)) (w36)) (w34)) (w32)) (w30)) (w29)) (w28)) (w27)) (w26)) (w25)) (w24)) (w23)) (w21)) (w19)) (w17)) (w15)) (w13)) (w11)) (w9)) (w7)) (w5)) (w3)) (w)
theorem F48_eq (p0 : Option Addr) (x1 : Int) : sBody Tryz.prog [] Tryz.f48 [(Value.pointer p0), (Value.int IntKind.i64 x1)] = F48 p0 x1 := by kernel_rfl
theorem F48_go (p0 : Option Addr) (x1 : Int) {K : KV} {w : World} (h : F48 p0 x1 K w) : gocall Tryz.prog 48 [(Value.pointer p0), (Value.int IntKind.i64 x1)] K w :=
  ⟨by kernel_rfl, calls_of_sBody (T := []) mixed Tryz.func48 (by kernel_rfl) (by rw [F48_eq]; exact h)⟩
def F41 (p0 : Option Addr) (x1 : Int) (x2 : Int) (x3 : Int) (x4 : Int) (x5 : Int) (x6 : Int) (x7 : Int) (K : KV) (w : World) : Prop :=
  nw (Obj.cells #[(Value.int IntKind.i64 (x1)), (Value.int IntKind.i64 (x2)), (Value.int IntKind.i64 (x3)), (Value.int IntKind.i64 (x4)), (Value.int IntKind.i64 (x5)), (Value.int IntKind.i64 (x6)), (Value.int IntKind.i64 (x7))] 28 (0, 0)) (fun k8 w9 =>
  join (X := Unit) (fun J10 w11 =>
  keeps (fun S12 w13 =>
  br (p0.isNone) (fun w14 =>
  K (Value.slice none (0) (0)) (w14)) (fun w15 =>
  gocall Tryz.prog (55) [(Value.pointer p0)] (fun v16 w17 =>
  asBoo (v16) (fun b18 w19 =>
  kp (S12) (fun w20 =>
  br (b18) (fun w21 =>
  K (Value.slice none (0) (0)) (w21)) (fun w22 =>
  ldS (S12) (⟨k8, 2, none⟩) (fun v23 w24 =>
  asI (IntKind.i64) (v23) (fun n25 w26 =>
  nn (p0) (fun a27 w28 =>
  ldS (S12) (a27) (fun v29 w30 =>
  asI (IntKind.i64) (v29) (fun n31 w32 =>
  br (n25 != n31) (fun w33 =>
  K (Value.slice none (0) (0)) (w33)) (fun w34 =>
  ldS (S12) (⟨k8, 3, none⟩) (fun v35 w36 =>
  asI (IntKind.i64) (v35) (fun n37 w38 =>
  gocall Tryz.prog (92) [(Value.int IntKind.i64 (n37))] (fun v39 w40 =>
  asBoo (v39) (fun b41 w42 =>
  kp (S12) (fun w43 =>
  br (!b41) (fun w44 =>
  K (Value.slice none (0) (0)) (w44)) (fun w45 =>
  ldS (S12) (⟨k8, 1, none⟩) (fun v46 w47 =>
  asI (IntKind.i64) (v46) (fun n48 w49 =>
  br (n48 != 0) (fun w50 =>
  ldS (S12) (⟨k8, 1, none⟩) (fun v51 w52 =>
  asI (IntKind.i64) (v51) (fun n53 w54 =>
  gocall Tryz.prog (93) [(Value.pointer p0)] (fun v55 w56 =>
  asI (IntKind.i64) (v55) (fun n57 w58 =>
  kp (S12) (fun w59 =>
  br (n53 != n57) (fun w60 =>
  K (Value.slice none (0) (0)) (w60)) (fun w61 =>
  J10 () (w61)) (w59)) (w58)) (w56)) (w54)) (w52)) (w50)) (fun w62 =>
  J10 () (w62)) (w49)) (w47)) (w45)) (w43)) (w42)) (w40)) (w38)) (w36)) (w34)) (w32)) (w30)) (w28)) (w26)) (w24)) (w22)) (w20)) (w19)) (w17)) (w15)) (w13)) (w11.drew)) (fun x63 w64 =>
  ld (⟨k8, 3, none⟩) (fun v65 w66 =>
  asI (IntKind.i64) (v65) (fun n67 w68 =>
  gocall Tryz.prog (46) [(Value.pointer p0), (Value.int IntKind.i64 (n67))] (fun v69 w70 =>
  asI (IntKind.i64) (v69) (fun n71 w72 =>
  keeps (fun S73 w74 =>
  ldS (S73) (⟨k8, 0, none⟩) (fun v75 w76 =>
  asI (IntKind.i64) (v75) (fun n77 w78 =>
  ldS (S73) (⟨k8, 0, none⟩) (fun v79 w80 =>
  asI (IntKind.i64) (v79) (fun n81 w82 =>
  ldS (S73) (⟨k8, 1, none⟩) (fun v83 w84 =>
  asI (IntKind.i64) (v83) (fun n85 w86 =>
  ldS (S73) (⟨k8, 2, none⟩) (fun v87 w88 =>
  asI (IntKind.i64) (v87) (fun n89 w90 =>
  ldS (S73) (⟨k8, 3, none⟩) (fun v91 w92 =>
  asI (IntKind.i64) (v91) (fun n93 w94 =>
  ldS (S73) (⟨k8, 4, none⟩) (fun v95 w96 =>
  asI (IntKind.i64) (v95) (fun n97 w98 =>
  ldS (S73) (⟨k8, 5, none⟩) (fun v99 w100 =>
  asI (IntKind.i64) (v99) (fun n101 w102 =>
  ldS (S73) (⟨k8, 6, none⟩) (fun v103 w104 =>
  asI (IntKind.i64) (v103) (fun n105 w106 =>
  gocall Tryz.prog (95) [(Value.pointer p0), (Value.agg #[(Value.int IntKind.i64 (n81)), (Value.int IntKind.i64 (n85)), (Value.int IntKind.i64 (n89)), (Value.int IntKind.i64 (n93)), (Value.int IntKind.i64 (n97)), (Value.int IntKind.i64 (n101)), (Value.int IntKind.i64 (n105))])] (fun v107 w108 =>
  asBoo (v107) (fun b109 w110 =>
  kp (S73) (fun w111 =>
  gocall Tryz.prog (94) [(Value.int IntKind.i64 (n71)), (Value.int IntKind.i64 (n77)), (Value.bool (b109))] (fun v112 w113 =>
  asT (2) (v112) (fun f114 w115 =>
  asI (IntKind.i64) (f114 0) (fun n116 w117 =>
  asI (IntKind.i64) (f114 1) (fun n118 w119 =>
  kp (S73) (fun w120 =>
  join (X := Unit) (fun J121 w122 =>
  br (n116 != n71) (fun w123 =>
  join (X := ((Option Addr) × (Nat) × Nat) × Unit) (fun J124 w125 =>
  br (n116 == 1) (fun w126 =>
  ld (⟨k8, 5, none⟩) (fun v127 w128 =>
  asI (IntKind.i64) (v127) (fun n129 w130 =>
  ld (⟨k8, 6, none⟩) (fun v131 w132 =>
  asI (IntKind.i64) (v131) (fun n133 w134 =>
  nw (Obj.cells #[(Value.int IntKind.i64 (n129)), (Value.int IntKind.i64 (n133))] 3 (0, 0)) (fun k135 w136 =>
  J124 (((some ⟨k135, 0, none⟩), 2, 2), ()) (w136)) (w134)) (w132)) (w130)) (w128)) (w126)) (fun w137 =>
  J124 ((none, 0, 0), ()) (w137)) (w125)) (fun x138 w139 =>
  ld (⟨k8, 3, none⟩) (fun v140 w141 =>
  asI (IntKind.i64) (v140) (fun n142 w143 =>
  gocall Tryz.prog (96) [(Value.pointer p0), (Value.int IntKind.i64 (n142)), (Value.int IntKind.i64 (n116)), (Value.slice x138.fst.1 (x138.fst.snd.fst) (x138.fst.snd.snd))] (fun v144 w145 =>
  asBoo (v144) (fun b146 w147 =>
  br (!b146) (fun w148 =>
  K (Value.slice none (0) (0)) (w148)) (fun w149 =>
  J121 () (w149)) (w147)) (w145)) (w143)) (w141)) (w139)) (w123)) (fun w150 =>
  J121 () (w150)) (w122)) (fun x151 w152 =>
  ld (⟨k8, 1, none⟩) (fun v153 w154 =>
  asI (IntKind.i64) (v153) (fun n155 w156 =>
  join (X := (Int) × Unit) (fun J157 w158 =>
  br (n118 == 0) (fun w159 =>
  K (Value.slice none (0) (0)) (w159)) (fun w160 =>
  br (n118 == 11) (fun w161 =>
  J157 (0, ()) (w161)) (fun w162 =>
  br (n118 == 17) (fun w163 =>
  J157 (0, ()) (w163)) (fun w164 =>
  J157 (n155, ()) (w164)) (w162)) (w160)) (w158)) (fun x165 w166 =>
  nn (p0) (fun a167 w168 =>
  ld (a167) (fun v169 w170 =>
  asI (IntKind.i64) (v169) (fun n171 w172 =>
  ld (⟨k8, 3, none⟩) (fun v173 w174 =>
  asI (IntKind.i64) (v173) (fun n175 w176 =>
  nw (Obj.cells #[(Value.int IntKind.i64 (n118)), (Value.int IntKind.i64 (n171)), (Value.int IntKind.i64 (x165.fst)), (Value.int IntKind.i64 (n175)), (Value.int IntKind.i64 (0)), (Value.int IntKind.i64 (0)), (Value.int IntKind.i64 (0))] 28 (0, 0)) (fun k177 w178 =>
  K (Value.slice (some ⟨k177, 0, none⟩) (1) (1)) (w178)) (w176)) (w174)) (w172)) (w170)) (w168)) (w166.drew)) (w156)) (w154)) (w152)) (w120)) (w119)) (w117)) (w115)) (w113)) (w111)) (w110)) (w108)) (w106)) (w104)) (w102)) (w100)) (w98)) (w96)) (w94)) (w92)) (w90)) (w88)) (w86)) (w84)) (w82)) (w80)) (w78)) (w76)) (w74)) (w72.drew)) (w70)) (w68)) (w66)) (w64)) (w9)) (w)
theorem F41_eq (p0 : Option Addr) (x1 : Int) (x2 : Int) (x3 : Int) (x4 : Int) (x5 : Int) (x6 : Int) (x7 : Int) : sBody Tryz.prog [(1, [0, 1, 2, 3, 4, 5, 6, 7, 8, 9, 10, 11, 12, 13, 14, 15, 16, 17, 18, 19, 20, 21, 22, 23, 24, 25, 26, 27, 28, 29, 30, 31, 32]), (4, [0, 1, 2, 3, 4, 5, 6, 7, 8, 9, 10, 11]), (4000003, []), (4000011, []), (4000009, [8, 3]), (4000018, [9, 0])] Tryz.f41 [(Value.pointer p0), (Value.agg #[(Value.int IntKind.i64 x1), (Value.int IntKind.i64 x2), (Value.int IntKind.i64 x3), (Value.int IntKind.i64 x4), (Value.int IntKind.i64 x5), (Value.int IntKind.i64 x6), (Value.int IntKind.i64 x7)])] = F41 p0 x1 x2 x3 x4 x5 x6 x7 := by kernel_rfl
theorem F41_go (p0 : Option Addr) (x1 : Int) (x2 : Int) (x3 : Int) (x4 : Int) (x5 : Int) (x6 : Int) (x7 : Int) {K : KV} {w : World} (h : F41 p0 x1 x2 x3 x4 x5 x6 x7 K w) : gocall Tryz.prog 41 [(Value.pointer p0), (Value.agg #[(Value.int IntKind.i64 x1), (Value.int IntKind.i64 x2), (Value.int IntKind.i64 x3), (Value.int IntKind.i64 x4), (Value.int IntKind.i64 x5), (Value.int IntKind.i64 x6), (Value.int IntKind.i64 x7)])] K w :=
  ⟨by kernel_rfl, calls_of_sBody (T := [(1, [0, 1, 2, 3, 4, 5, 6, 7, 8, 9, 10, 11, 12, 13, 14, 15, 16, 17, 18, 19, 20, 21, 22, 23, 24, 25, 26, 27, 28, 29, 30, 31, 32]), (4, [0, 1, 2, 3, 4, 5, 6, 7, 8, 9, 10, 11]), (4000003, []), (4000011, []), (4000009, [8, 3]), (4000018, [9, 0])]) mixed Tryz.func41 (by kernel_rfl) (by rw [F41_eq]; exact h)⟩
def F46 (p0 : Option Addr) (x1 : Int) (K : KV) (w : World) : Prop :=
  br (p0.isNone) (fun w2 =>
  K (Value.int IntKind.i64 (0)) (w2)) (fun w3 =>
  nn (p0) (fun a4 w5 =>
  ld (⟨a4.block, a4.off + 4, none⟩) (fun v6 w7 =>
  asMap (v6) (fun p8 w9 =>
  mget (Md.full) Tryz.prog (124) (Value.map p8) (Value.int IntKind.i64 (x1)) (false) (fun v10 w11 =>
  asI (IntKind.i64) (v10) (fun n12 w13 =>
  K (Value.int IntKind.i64 (n12)) (w13)) (w11)) (w9)) (w7)) (w5)) (w3)) (w)
theorem F46_eq (p0 : Option Addr) (x1 : Int) : sBody Tryz.prog [] Tryz.f46 [(Value.pointer p0), (Value.int IntKind.i64 x1)] = F46 p0 x1 := by kernel_rfl
theorem F46_go (p0 : Option Addr) (x1 : Int) {K : KV} {w : World} (h : F46 p0 x1 K w) : gocall Tryz.prog 46 [(Value.pointer p0), (Value.int IntKind.i64 x1)] K w :=
  ⟨by kernel_rfl, calls_of_sBody (T := []) mixed Tryz.func46 (by kernel_rfl) (by rw [F46_eq]; exact h)⟩
def F47  (K : KV) (w : World) : Prop :=
  nw (Obj.cells #[(Value.int IntKind.i64 (5))] 3 (0, 0)) (fun k0 w1 =>
  gocall Tryz.prog (40) [(Value.int IntKind.i64 (1)), (Value.slice (some ⟨k0, 0, none⟩) (1) (1)), (Value.int IntKind.i64 (20))] (fun v2 w3 =>
  asPtr (v2) (fun p4 w5 =>
  br (p4.isNone) (fun w6 =>
  K (Value.bool (false)) (w6)) (fun w7 =>
  nw (Obj.cells #[(Value.int IntKind.i64 (0)), (Value.int IntKind.i64 (0)), (Value.int IntKind.i64 (0)), (Value.int IntKind.i64 (0)), (Value.int IntKind.i64 (0)), (Value.int IntKind.i64 (0)), (Value.int IntKind.i64 (0))] 28 (0, 0)) (fun k8 w9 =>
  st (⟨k8, 0, none⟩) (Value.int IntKind.i64 (6)) (fun w10 =>
  st (⟨k8, 1, none⟩) (Value.int IntKind.i64 (0)) (fun w11 =>
  st (⟨k8, 2, none⟩) (Value.int IntKind.i64 (1)) (fun w12 =>
  st (⟨k8, 3, none⟩) (Value.int IntKind.i64 (7)) (fun w13 =>
  st (⟨k8, 4, none⟩) (Value.int IntKind.i64 (0)) (fun w14 =>
  st (⟨k8, 5, none⟩) (Value.int IntKind.i64 (0)) (fun w15 =>
  st (⟨k8, 6, none⟩) (Value.int IntKind.i64 (2)) (fun w16 =>
  ld (⟨k8, 0, none⟩) (fun v17 w18 =>
  asI (IntKind.i64) (v17) (fun n19 w20 =>
  ld (⟨k8, 1, none⟩) (fun v21 w22 =>
  asI (IntKind.i64) (v21) (fun n23 w24 =>
  ld (⟨k8, 2, none⟩) (fun v25 w26 =>
  asI (IntKind.i64) (v25) (fun n27 w28 =>
  ld (⟨k8, 3, none⟩) (fun v29 w30 =>
  asI (IntKind.i64) (v29) (fun n31 w32 =>
  ld (⟨k8, 4, none⟩) (fun v33 w34 =>
  asI (IntKind.i64) (v33) (fun n35 w36 =>
  ld (⟨k8, 5, none⟩) (fun v37 w38 =>
  asI (IntKind.i64) (v37) (fun n39 w40 =>
  ld (⟨k8, 6, none⟩) (fun v41 w42 =>
  asI (IntKind.i64) (v41) (fun n43 w44 =>
  gocall Tryz.prog (41) [(Value.pointer p4), (Value.agg #[(Value.int IntKind.i64 (n19)), (Value.int IntKind.i64 (n23)), (Value.int IntKind.i64 (n27)), (Value.int IntKind.i64 (n31)), (Value.int IntKind.i64 (n35)), (Value.int IntKind.i64 (n39)), (Value.int IntKind.i64 (n43))])] (fun v45 w46 =>
  asSl (v45) (fun p47 k48 k49 w50 =>
  gocall Tryz.prog (41) [(Value.pointer p4), (Value.agg #[(Value.int IntKind.i64 (10)), (Value.int IntKind.i64 (0)), (Value.int IntKind.i64 (1)), (Value.int IntKind.i64 (7)), (Value.int IntKind.i64 (0)), (Value.int IntKind.i64 (0)), (Value.int IntKind.i64 (0))])] (fun v51 w52 =>
  asSl (v51) (fun p53 k54 k55 w56 =>
  ld (⟨k8, 0, none⟩) (fun v57 w58 =>
  asI (IntKind.i64) (v57) (fun n59 w60 =>
  ld (⟨k8, 1, none⟩) (fun v61 w62 =>
  asI (IntKind.i64) (v61) (fun n63 w64 =>
  ld (⟨k8, 2, none⟩) (fun v65 w66 =>
  asI (IntKind.i64) (v65) (fun n67 w68 =>
  ld (⟨k8, 3, none⟩) (fun v69 w70 =>
  asI (IntKind.i64) (v69) (fun n71 w72 =>
  ld (⟨k8, 4, none⟩) (fun v73 w74 =>
  asI (IntKind.i64) (v73) (fun n75 w76 =>
  ld (⟨k8, 5, none⟩) (fun v77 w78 =>
  asI (IntKind.i64) (v77) (fun n79 w80 =>
  ld (⟨k8, 6, none⟩) (fun v81 w82 =>
  asI (IntKind.i64) (v81) (fun n83 w84 =>
  gocall Tryz.prog (41) [(Value.pointer p4), (Value.agg #[(Value.int IntKind.i64 (n59)), (Value.int IntKind.i64 (n63)), (Value.int IntKind.i64 (n67)), (Value.int IntKind.i64 (n71)), (Value.int IntKind.i64 (n75)), (Value.int IntKind.i64 (n79)), (Value.int IntKind.i64 (n83))])] (fun v85 w86 =>
  asSl (v85) (fun p87 k88 k89 w90 =>
  br ((↑k48 : Int) == 1) (fun w91 =>
  slAt (p47) (k48) (0) (7) (fun a92 w93 =>
  ld (a92) (fun v94 w95 =>
  asI (IntKind.i64) (v94) (fun n96 w97 =>
  br (n96 == 7) (fun w98 =>
  br ((↑k54 : Int) == 1) (fun w99 =>
  slAt (p53) (k54) (0) (7) (fun a100 w101 =>
  ld (a100) (fun v102 w103 =>
  asI (IntKind.i64) (v102) (fun n104 w105 =>
  br (n104 == 11) (fun w106 =>
  br ((↑k88 : Int) == 1) (fun w107 =>
  slAt (p87) (k88) (0) (7) (fun a108 w109 =>
  ld (a108) (fun v110 w111 =>
  asI (IntKind.i64) (v110) (fun n112 w113 =>
  br (n112 == 8) (fun w114 =>
  gocall Tryz.prog (44) [(Value.pointer p4)] (fun v115 w116 =>
  asPtr (v115) (fun p117 w118 =>
  gocall Tryz.prog (45) [(Value.pointer p117), (Value.int IntKind.i64 (0))] (fun v119 w120 =>
  asI (IntKind.i64) (v119) (fun n121 w122 =>
  K (Value.bool (n121 == 5)) (w122)) (w120)) (w118)) (w116)) (w114)) (fun w123 =>
  K (Value.bool (false)) (w123)) (w113)) (w111)) (w109)) (w107)) (fun w124 =>
  K (Value.bool (false)) (w124)) (w106)) (fun w125 =>
  K (Value.bool (false)) (w125)) (w105)) (w103)) (w101)) (w99)) (fun w126 =>
  K (Value.bool (false)) (w126)) (w98)) (fun w127 =>
  K (Value.bool (false)) (w127)) (w97)) (w95)) (w93)) (w91)) (fun w128 =>
  K (Value.bool (false)) (w128)) (w90)) (w86)) (w84)) (w82)) (w80)) (w78)) (w76)) (w74)) (w72)) (w70)) (w68)) (w66)) (w64)) (w62)) (w60)) (w58)) (w56)) (w52)) (w50)) (w46)) (w44)) (w42)) (w40)) (w38)) (w36)) (w34)) (w32)) (w30)) (w28)) (w26)) (w24)) (w22)) (w20)) (w18)) (w16)) (w15)) (w14)) (w13)) (w12)) (w11)) (w10)) (w9)) (w7)) (w5)) (w3)) (w1)) (w)
theorem F47_eq  : sBody Tryz.prog [] Tryz.f47 [] = F47  := by kernel_rfl
theorem F47_go  {K : KV} {w : World} (h : F47  K w) : gocall Tryz.prog 47 [] K w :=
  ⟨by kernel_rfl, calls_of_sBody (T := []) mixed Tryz.func47 (by kernel_rfl) (by rw [F47_eq]; exact h)⟩
def F44 (p0 : Option Addr) (K : KV) (w : World) : Prop :=
  br (p0.isNone) (fun w1 =>
  K (Value.pointer none) (w1)) (fun w2 =>
  nn (p0) (fun a3 w4 =>
  ld (⟨a3.block, a3.off + 3, none⟩) (fun v5 w6 =>
  tyas (Md.full) Tryz.prog (v5) (133) (140) (true) (fun v7 w8 =>
  asT (2) (v7) (fun f9 w10 =>
  asN (1) (f9 0) (fun f11 w12 =>
  asPtr (f11 0) (fun p13 w14 =>
  asBoo (f9 1) (fun b15 w16 =>
  nw (Obj.cells #[(Value.pointer none)] 140 (0, 0)) (fun k17 w18 =>
  st (⟨k17, 0, none⟩) (Value.pointer p13) (fun w19 =>
  ld (⟨k17, 0, none⟩) (fun v20 w21 =>
  asPtr (v20) (fun p22 w23 =>
  K (Value.pointer p22) (w23)) (w21)) (w19)) (w18)) (w16)) (w14)) (w12)) (w10)) (w8)) (w6)) (w4)) (w2)) (w)
theorem F44_eq (p0 : Option Addr) : sBody Tryz.prog [] Tryz.f44 [(Value.pointer p0)] = F44 p0 := by kernel_rfl
theorem F44_go (p0 : Option Addr) {K : KV} {w : World} (h : F44 p0 K w) : gocall Tryz.prog 44 [(Value.pointer p0)] K w :=
  ⟨by kernel_rfl, calls_of_sBody (T := []) mixed Tryz.func44 (by kernel_rfl) (by rw [F44_eq]; exact h)⟩
def F45 (p0 : Option Addr) (x1 : Int) (K : KV) (w : World) : Prop :=
  br (p0.isNone) (fun w2 =>
  K (Value.int IntKind.i64 (0)) (w2)) (fun w3 =>
  gocall Tryz.prog (98) [(Value.int IntKind.i64 (x1))] (fun v4 w5 =>
  asBoo (v4) (fun b6 w7 =>
  br (!b6) (fun w8 =>
  K (Value.int IntKind.i64 (0)) (w8)) (fun w9 =>
  nn (p0) (fun a10 w11 =>
  arAt (⟨a10.block, a10.off + 8, none⟩) (8) (x1) (1) (fun a12 w13 =>
  ld (a12) (fun v14 w15 =>
  asI (IntKind.i64) (v14) (fun n16 w17 =>
  K (Value.int IntKind.i64 (n16)) (w17)) (w15)) (w13)) (w11)) (w9)) (w7)) (w5)) (w3)) (w)
theorem F45_eq (p0 : Option Addr) (x1 : Int) : sBody Tryz.prog [] Tryz.f45 [(Value.pointer p0), (Value.int IntKind.i64 x1)] = F45 p0 x1 := by kernel_rfl
theorem F45_go (p0 : Option Addr) (x1 : Int) {K : KV} {w : World} (h : F45 p0 x1 K w) : gocall Tryz.prog 45 [(Value.pointer p0), (Value.int IntKind.i64 x1)] K w :=
  ⟨by kernel_rfl, calls_of_sBody (T := []) mixed Tryz.func45 (by kernel_rfl) (by rw [F45_eq]; exact h)⟩
def F50 (p0 : Option Addr) (x1 : Int) (K : KV) (w : World) : Prop :=
  br (p0.isNone) (fun w2 =>
  K (Value.int IntKind.i64 (0)) (w2)) (fun w3 =>
  gocall Tryz.prog (98) [(Value.int IntKind.i64 (x1))] (fun v4 w5 =>
  asBoo (v4) (fun b6 w7 =>
  br (!b6) (fun w8 =>
  K (Value.int IntKind.i64 (0)) (w8)) (fun w9 =>
  nn (p0) (fun a10 w11 =>
  arAt (a10) (8) (x1) (1) (fun a12 w13 =>
  ld (a12) (fun v14 w15 =>
  asI (IntKind.i64) (v14) (fun n16 w17 =>
  K (Value.int IntKind.i64 (n16)) (w17)) (w15)) (w13)) (w11)) (w9)) (w7)) (w5)) (w3)) (w)
theorem F50_eq (p0 : Option Addr) (x1 : Int) : sBody Tryz.prog [] Tryz.f50 [(Value.pointer p0), (Value.int IntKind.i64 x1)] = F50 p0 x1 := by kernel_rfl
theorem F50_go (p0 : Option Addr) (x1 : Int) {K : KV} {w : World} (h : F50 p0 x1 K w) : gocall Tryz.prog 50 [(Value.pointer p0), (Value.int IntKind.i64 x1)] K w :=
  ⟨by kernel_rfl, calls_of_sBody (T := []) mixed Tryz.func50 (by kernel_rfl) (by rw [F50_eq]; exact h)⟩
def F49 (p0 : Option Addr) (x1 : Int) (b2 : Bool) (K : KV) (w : World) : Prop :=
  br (p0.isNone) (fun w3 =>
  K (Value.int IntKind.i64 (1)) (w3)) (fun w4 =>
  gocall Tryz.prog (55) [(Value.pointer p0)] (fun v5 w6 =>
  asBoo (v5) (fun b7 w8 =>
  br (b7) (fun w9 =>
  K (Value.int IntKind.i64 (10)) (w9)) (fun w10 =>
  gocall Tryz.prog (92) [(Value.int IntKind.i64 (x1))] (fun v11 w12 =>
  asBoo (v11) (fun b13 w14 =>
  br (!b13) (fun w15 =>
  K (Value.int IntKind.i64 (1)) (w15)) (fun w16 =>
  gocall Tryz.prog (46) [(Value.pointer p0), (Value.int IntKind.i64 (x1))] (fun v17 w18 =>
  asI (IntKind.i64) (v17) (fun n19 w20 =>
  gocall Tryz.prog (99) [(Value.int IntKind.i64 (n19)), (Value.bool (b2))] (fun v21 w22 =>
  asT (2) (v21) (fun f23 w24 =>
  asI (IntKind.i64) (f23 0) (fun n25 w26 =>
  asI (IntKind.i64) (f23 1) (fun n27 w28 =>
  br (n27 == 0) (fun w29 =>
  gocall Tryz.prog (96) [(Value.pointer p0), (Value.int IntKind.i64 (x1)), (Value.int IntKind.i64 (n25)), (Value.slice none (0) (0))] (fun v30 w31 =>
  asBoo (v30) (fun b32 w33 =>
  br (!b32) (fun w34 =>
  K (Value.int IntKind.i64 (5)) (w34)) (fun w35 =>
  K (Value.int IntKind.i64 (n27)) (w35)) (w33)) (w31)) (w29)) (fun w36 =>
  K (Value.int IntKind.i64 (n27)) (w36)) (w28)) (w26)) (w24)) (w22)) (w20)) (w18)) (w16)) (w14)) (w12)) (w10)) (w8)) (w6)) (w4)) (w)
theorem F49_eq (p0 : Option Addr) (x1 : Int) (b2 : Bool) : sBody Tryz.prog [] Tryz.f49 [(Value.pointer p0), (Value.int IntKind.i64 x1), (Value.bool b2)] = F49 p0 x1 b2 := by kernel_rfl
theorem F49_go (p0 : Option Addr) (x1 : Int) (b2 : Bool) {K : KV} {w : World} (h : F49 p0 x1 b2 K w) : gocall Tryz.prog 49 [(Value.pointer p0), (Value.int IntKind.i64 x1), (Value.bool b2)] K w :=
  ⟨by kernel_rfl, calls_of_sBody (T := []) mixed Tryz.func49 (by kernel_rfl) (by rw [F49_eq]; exact h)⟩
def F90 (a0 : Option Addr) (n0 : Nat) (c0 : Nat) (K : KV) (w : World) : Prop :=
  br (a0.isNone) (fun w3 =>
  K (Value.slice none (0) (0)) (w3)) (fun w4 =>
  nw (Obj.cells #[] 3 (0, 0)) (fun k5 w6 =>
  bapp (Md.full) Tryz.prog (#[38, 38]) (38) (Value.slice (some ⟨k5, 0, none⟩) (0) (0)) (Value.slice a0 (n0) (c0)) (fun v7 w8 =>
  asSl (v7) (fun p9 k10 k11 w12 =>
  K (Value.slice p9 (k10) (k11)) (w12)) (w8)) (w6)) (w4)) (w)
theorem F90_eq (a0 : Option Addr) (n0 : Nat) (c0 : Nat) : sBody Tryz.prog [] Tryz.f90 [(Value.slice a0 n0 c0)] = F90 a0 n0 c0 := by kernel_rfl
theorem F90_go (a0 : Option Addr) (n0 : Nat) (c0 : Nat) {K : KV} {w : World} (h : F90 a0 n0 c0 K w) : gocall Tryz.prog 90 [(Value.slice a0 n0 c0)] K w :=
  ⟨by kernel_rfl, calls_of_sBody (T := []) mixed Tryz.func90 (by kernel_rfl) (by rw [F90_eq]; exact h)⟩
def F91 (p0 : Option Addr) (K : KV) (w : World) : Prop :=
  nw (Obj.map #[] 0) (fun k1 w2 =>
  nn (p0) (fun a3 w4 =>
  st (⟨a3.block, a3.off + 4, none⟩) (Value.map (some k1)) (fun w5 =>
  nn (p0) (fun a6 w7 =>
  ld (a6) (fun v8 w9 =>
  asI (IntKind.i64) (v8) (fun n10 w11 =>
  br (n10 == 1) (fun w12 =>
  nn (p0) (fun a13 w14 =>
  ld (⟨a13.block, a13.off + 1, none⟩) (fun v15 w16 =>
  asSl (v15) (fun p17 k18 k19 w20 =>
  gocall Tryz.prog (129) [(Value.slice p17 (k18) (k19))] (fun v21 w22 =>
  asPtr (v21) (fun p23 w24 =>
  nn (p0) (fun a25 w26 =>
  st (⟨a25.block, a25.off + 3, none⟩) (Value.iface 140 (Value.agg #[(Value.pointer p23)])) (fun w27 =>
  K (Value.tuple #[]) (w27)) (w26)) (w24)) (w22)) (w20)) (w16)) (w14)) (w12)) (fun w28 =>
  nn (p0) (fun a29 w30 =>
  ld (⟨a29.block, a29.off + 1, none⟩) (fun v31 w32 =>
  asSl (v31) (fun p33 k34 k35 w36 =>
  gocall Tryz.prog (130) [(Value.slice p33 (k34) (k35))] (fun v37 w38 =>
  asPtr (v37) (fun p39 w40 =>
  nn (p0) (fun a41 w42 =>
  st (⟨a41.block, a41.off + 3, none⟩) (Value.iface 149 (Value.agg #[(Value.pointer p39)])) (fun w43 =>
  K (Value.tuple #[]) (w43)) (w42)) (w40)) (w38)) (w36)) (w32)) (w30)) (w28)) (w11)) (w9)) (w7)) (w5)) (w4)) (w2)) (w)
theorem F91_eq (p0 : Option Addr) : sBody Tryz.prog [] Tryz.f91 [(Value.pointer p0)] = F91 p0 := by kernel_rfl
theorem F91_go (p0 : Option Addr) {K : KV} {w : World} (h : F91 p0 K w) : gocall Tryz.prog 91 [(Value.pointer p0)] K w :=
  ⟨by kernel_rfl, calls_of_sBody (T := []) mixed Tryz.func91 (by kernel_rfl) (by rw [F91_eq]; exact h)⟩
def F55 (p0 : Option Addr) (K : KV) (w : World) : Prop :=
  br (p0.isSome) (fun w1 =>
  nn (p0) (fun a2 w3 =>
  ld (⟨a2.block, a2.off + 2, none⟩) (fun v4 w5 =>
  asPtr (v4) (fun p6 w7 =>
  gocall Tryz.prog (81) [(Value.pointer p6)] (fun v8 w9 =>
  asBoo (v8) (fun b10 w11 =>
  K (Value.bool (b10)) (w11)) (w9)) (w7)) (w5)) (w3)) (w1)) (fun w12 =>
  K (Value.bool (false)) (w12)) (w)
theorem F55_eq (p0 : Option Addr) : sBody Tryz.prog [] Tryz.f55 [(Value.pointer p0)] = F55 p0 := by kernel_rfl
theorem F55_go (p0 : Option Addr) {K : KV} {w : World} (h : F55 p0 K w) : gocall Tryz.prog 55 [(Value.pointer p0)] K w :=
  ⟨by kernel_rfl, calls_of_sBody (T := []) mixed Tryz.func55 (by kernel_rfl) (by rw [F55_eq]; exact h)⟩
def F93 (p0 : Option Addr) (K : KV) (w : World) : Prop :=
  nn (p0) (fun a1 w2 =>
  ld (a1) (fun v3 w4 =>
  asI (IntKind.i64) (v3) (fun n5 w6 =>
  K (Value.int IntKind.i64 (IntKind.i64.wrap (3 - n5))) (w6)) (w4)) (w2)) (w)
theorem F93_eq (p0 : Option Addr) : sBody Tryz.prog [] Tryz.f93 [(Value.pointer p0)] = F93 p0 := by kernel_rfl
theorem F93_go (p0 : Option Addr) {K : KV} {w : World} (h : F93 p0 K w) : gocall Tryz.prog 93 [(Value.pointer p0)] K w :=
  ⟨by kernel_rfl, calls_of_sBody (T := []) mixed Tryz.func93 (by kernel_rfl) (by rw [F93_eq]; exact h)⟩
def F92 (x0 : Int) (K : KV) (w : World) : Prop :=
  br (decide (x0 ≥ 1)) (fun w1 =>
  K (Value.bool (decide (x0 ≤ 999))) (w1)) (fun w2 =>
  K (Value.bool (false)) (w2)) (w)
theorem F92_eq (x0 : Int) : sBody Tryz.prog [] Tryz.f92 [(Value.int IntKind.i64 x0)] = F92 x0 := by kernel_rfl
theorem F92_go (x0 : Int) {K : KV} {w : World} (h : F92 x0 K w) : gocall Tryz.prog 92 [(Value.int IntKind.i64 x0)] K w :=
  ⟨by kernel_rfl, calls_of_sBody (T := []) mixed Tryz.func92 (by kernel_rfl) (by rw [F92_eq]; exact h)⟩
def F94 (x0 : Int) (x1 : Int) (b2 : Bool) (K : KV) (w : World) : Prop :=
  gocall Tryz.prog (131) [(Value.int IntKind.i64 (x0))] (fun v3 w4 =>
  asBoo (v3) (fun b5 w6 =>
  br (!b5) (fun w7 =>
  K (Value.tuple #[(Value.int IntKind.i64 (x0)), (Value.int IntKind.i64 (0))]) (w7)) (fun w8 =>
  br (x1 == 6) (fun w9 =>
  gocall Tryz.prog (132) [(Value.int IntKind.i64 (x0)), (Value.bool (b2))] (fun v10 w11 =>
  asT (2) (v10) (fun f12 w13 =>
  asI (IntKind.i64) (f12 0) (fun n14 w15 =>
  asI (IntKind.i64) (f12 1) (fun n16 w17 =>
  K (Value.tuple #[(Value.int IntKind.i64 (n14)), (Value.int IntKind.i64 (n16))]) (w17)) (w15)) (w13)) (w11)) (w9)) (fun w18 =>
  br (x1 == 9) (fun w19 =>
  gocall Tryz.prog (133) [(Value.int IntKind.i64 (x0))] (fun v20 w21 =>
  asT (2) (v20) (fun f22 w23 =>
  asI (IntKind.i64) (f22 0) (fun n24 w25 =>
  asI (IntKind.i64) (f22 1) (fun n26 w27 =>
  K (Value.tuple #[(Value.int IntKind.i64 (n24)), (Value.int IntKind.i64 (n26))]) (w27)) (w25)) (w23)) (w21)) (w19)) (fun w28 =>
  br (x1 == 13) (fun w29 =>
  gocall Tryz.prog (133) [(Value.int IntKind.i64 (x0))] (fun v30 w31 =>
  asT (2) (v30) (fun f32 w33 =>
  asI (IntKind.i64) (f32 0) (fun n34 w35 =>
  asI (IntKind.i64) (f32 1) (fun n36 w37 =>
  K (Value.tuple #[(Value.int IntKind.i64 (n34)), (Value.int IntKind.i64 (n36))]) (w37)) (w35)) (w33)) (w31)) (w29)) (fun w38 =>
  br (x1 == 10) (fun w39 =>
  gocall Tryz.prog (134) [(Value.int IntKind.i64 (x0))] (fun v40 w41 =>
  asT (2) (v40) (fun f42 w43 =>
  asI (IntKind.i64) (f42 0) (fun n44 w45 =>
  asI (IntKind.i64) (f42 1) (fun n46 w47 =>
  K (Value.tuple #[(Value.int IntKind.i64 (n44)), (Value.int IntKind.i64 (n46))]) (w47)) (w45)) (w43)) (w41)) (w39)) (fun w48 =>
  br (x1 == 14) (fun w49 =>
  gocall Tryz.prog (134) [(Value.int IntKind.i64 (x0))] (fun v50 w51 =>
  asT (2) (v50) (fun f52 w53 =>
  asI (IntKind.i64) (f52 0) (fun n54 w55 =>
  asI (IntKind.i64) (f52 1) (fun n56 w57 =>
  K (Value.tuple #[(Value.int IntKind.i64 (n54)), (Value.int IntKind.i64 (n56))]) (w57)) (w55)) (w53)) (w51)) (w49)) (fun w58 =>
  br (x1 == 12) (fun w59 =>
  gocall Tryz.prog (135) [(Value.int IntKind.i64 (x0))] (fun v60 w61 =>
  asT (2) (v60) (fun f62 w63 =>
  asI (IntKind.i64) (f62 0) (fun n64 w65 =>
  asI (IntKind.i64) (f62 1) (fun n66 w67 =>
  K (Value.tuple #[(Value.int IntKind.i64 (n64)), (Value.int IntKind.i64 (n66))]) (w67)) (w65)) (w63)) (w61)) (w59)) (fun w68 =>
  K (Value.tuple #[(Value.int IntKind.i64 (x0)), (Value.int IntKind.i64 (0))]) (w68)) (w58)) (w48)) (w38)) (w28)) (w18)) (w8)) (w6)) (w4)) (w)
theorem F94_eq (x0 : Int) (x1 : Int) (b2 : Bool) : sBody Tryz.prog [] Tryz.f94 [(Value.int IntKind.i64 x0), (Value.int IntKind.i64 x1), (Value.bool b2)] = F94 x0 x1 b2 := by kernel_rfl
theorem F94_go (x0 : Int) (x1 : Int) (b2 : Bool) {K : KV} {w : World} (h : F94 x0 x1 b2 K w) : gocall Tryz.prog 94 [(Value.int IntKind.i64 x0), (Value.int IntKind.i64 x1), (Value.bool b2)] K w :=
  ⟨by kernel_rfl, calls_of_sBody (T := []) mixed Tryz.func94 (by kernel_rfl) (by rw [F94_eq]; exact h)⟩
def F95 (p0 : Option Addr) (x1 : Int) (x2 : Int) (x3 : Int) (x4 : Int) (x5 : Int) (x6 : Int) (x7 : Int) (K : KV) (w : World) : Prop :=
  nw (Obj.cells #[(Value.int IntKind.i64 (x1)), (Value.int IntKind.i64 (x2)), (Value.int IntKind.i64 (x3)), (Value.int IntKind.i64 (x4)), (Value.int IntKind.i64 (x5)), (Value.int IntKind.i64 (x6)), (Value.int IntKind.i64 (x7))] 28 (0, 0)) (fun k8 w9 =>
  ld (⟨k8, 0, none⟩) (fun v10 w11 =>
  asI (IntKind.i64) (v10) (fun n12 w13 =>
  br (n12 == 6) (fun w14 =>
  nn (p0) (fun a15 w16 =>
  ld (⟨a15.block, a15.off + 4, none⟩) (fun v17 w18 =>
  asMap (v17) (fun p19 w20 =>
  ld (⟨k8, 3, none⟩) (fun v21 w22 =>
  asI (IntKind.i64) (v21) (fun n23 w24 =>
  mget (Md.see) Tryz.prog (124) (Value.map p19) (Value.int IntKind.i64 (n23)) (false) (fun v25 w26 =>
  asI (IntKind.i64) (v25) (fun n27 w28 =>
  br (n27 == 0) (fun w29 =>
  nn (p0) (fun a30 w31 =>
  ld (⟨a30.block, a30.off + 3, none⟩) (fun v32 w33 =>
  ld (⟨k8, 3, none⟩) (fun v34 w35 =>
  asI (IntKind.i64) (v34) (fun n36 w37 =>
  ld (⟨k8, 5, none⟩) (fun v38 w39 =>
  asI (IntKind.i64) (v38) (fun n40 w41 =>
  ld (⟨k8, 6, none⟩) (fun v42 w43 =>
  asI (IntKind.i64) (v42) (fun n44 w45 =>
  ivk Tryz.prog (v32) ("wharfinger/keeper.take") [(Value.int IntKind.i64 (n36)), (Value.int IntKind.i64 (n40)), (Value.int IntKind.i64 (n44))] (fun v46 w47 =>
  asBoo (v46) (fun b48 w49 =>
  br (b48) (fun w50 =>
  nn (p0) (fun a51 w52 =>
  ld (⟨a51.block, a51.off + 3, none⟩) (fun v53 w54 =>
  ld (⟨k8, 3, none⟩) (fun v55 w56 =>
  asI (IntKind.i64) (v55) (fun n57 w58 =>
  ivk Tryz.prog (v53) ("wharfinger/keeper.lets") [(Value.int IntKind.i64 (n57))] (fun v59 w60 =>
  asT (0) (v59) (fun f61 w62 =>
  K (Value.bool (b48)) (w62)) (w60)) (w58)) (w56)) (w54)) (w52)) (w50.drew)) (fun w63 =>
  K (Value.bool (b48)) (w63)) (w49)) (w47)) (w45)) (w43)) (w41)) (w39)) (w37)) (w35)) (w33)) (w31)) (w29)) (fun w64 =>
  K (Value.bool (false)) (w64)) (w28)) (w26)) (w24)) (w22)) (w20)) (w18)) (w16)) (w14)) (fun w65 =>
  K (Value.bool (false)) (w65)) (w13)) (w11)) (w9.drew)) (w)
theorem F95_eq (p0 : Option Addr) (x1 : Int) (x2 : Int) (x3 : Int) (x4 : Int) (x5 : Int) (x6 : Int) (x7 : Int) : sBody Tryz.prog [] Tryz.f95 [(Value.pointer p0), (Value.agg #[(Value.int IntKind.i64 x1), (Value.int IntKind.i64 x2), (Value.int IntKind.i64 x3), (Value.int IntKind.i64 x4), (Value.int IntKind.i64 x5), (Value.int IntKind.i64 x6), (Value.int IntKind.i64 x7)])] = F95 p0 x1 x2 x3 x4 x5 x6 x7 := by kernel_rfl
theorem F95_go (p0 : Option Addr) (x1 : Int) (x2 : Int) (x3 : Int) (x4 : Int) (x5 : Int) (x6 : Int) (x7 : Int) {K : KV} {w : World} (h : F95 p0 x1 x2 x3 x4 x5 x6 x7 K w) : gocall Tryz.prog 95 [(Value.pointer p0), (Value.agg #[(Value.int IntKind.i64 x1), (Value.int IntKind.i64 x2), (Value.int IntKind.i64 x3), (Value.int IntKind.i64 x4), (Value.int IntKind.i64 x5), (Value.int IntKind.i64 x6), (Value.int IntKind.i64 x7)])] K w :=
  ⟨by kernel_rfl, calls_of_sBody (T := []) mixed Tryz.func95 (by kernel_rfl) (by rw [F95_eq]; exact h)⟩
def F96 (p0 : Option Addr) (x1 : Int) (x2 : Int) (a3 : Option Addr) (n3 : Nat) (c3 : Nat) (K : KV) (w : World) : Prop :=
  gocall Tryz.prog (136) [] (fun v6 w7 =>
  asMap (v6) (fun p8 w9 =>
  mget (Md.full) Tryz.prog (183) (Value.map p8) (Value.int IntKind.i64 (x2)) (false) (fun v10 w11 =>
  asStr (v10) (fun s12 w13 =>
  nw (Obj.cells #[(Value.string ({ data := #[] })), (Value.int IntKind.i64 (0)), (Value.slice none (0) (0))] 105 (0, 0)) (fun k14 w15 =>
  st (⟨k14, 0, none⟩) (Value.string (s12)) (fun w16 =>
  st (⟨k14, 1, none⟩) (Value.int IntKind.i64 (x1)) (fun w17 =>
  st (⟨k14, 2, none⟩) (Value.slice a3 (n3) (c3)) (fun w18 =>
  nn (p0) (fun a19 w20 =>
  ld (⟨a19.block, a19.off + 2, none⟩) (fun v21 w22 =>
  asPtr (v21) (fun p23 w24 =>
  ld (⟨k14, 0, none⟩) (fun v25 w26 =>
  asStr (v25) (fun s27 w28 =>
  ld (⟨k14, 1, none⟩) (fun v29 w30 =>
  asI (IntKind.i64) (v29) (fun n31 w32 =>
  ld (⟨k14, 2, none⟩) (fun v33 w34 =>
  asSl (v33) (fun p35 k36 k37 w38 =>
  gocall Tryz.prog (120) [(Value.pointer p23), (Value.agg #[(Value.string (s27)), (Value.int IntKind.i64 (n31)), (Value.slice p35 (k36) (k37))])] (fun v39 w40 =>
  asI (IntKind.i64) (v39) (fun n41 w42 =>
  br (n41 != 0) (fun w43 =>
  K (Value.bool (false)) (w43)) (fun w44 =>
  nn (p0) (fun a45 w46 =>
  ld (⟨a45.block, a45.off + 2, none⟩) (fun v47 w48 =>
  asPtr (v47) (fun p49 w50 =>
  gocall Tryz.prog (121) [(Value.pointer p49)] (fun v51 w52 =>
  asI (IntKind.i64) (v51) (fun n53 w54 =>
  ld (⟨k14, 0, none⟩) (fun v55 w56 =>
  asStr (v55) (fun s57 w58 =>
  ld (⟨k14, 1, none⟩) (fun v59 w60 =>
  asI (IntKind.i64) (v59) (fun n61 w62 =>
  ld (⟨k14, 2, none⟩) (fun v63 w64 =>
  asSl (v63) (fun p65 k66 k67 w68 =>
  gocall Tryz.prog (97) [(Value.pointer p0), (Value.agg #[(Value.string (s57)), (Value.int IntKind.i64 (n61)), (Value.slice p65 (k66) (k67))])] (fun v69 w70 =>
  asT (0) (v69) (fun f71 w72 =>
  K (Value.bool (true)) (w72)) (w70)) (w68)) (w64)) (w62)) (w60)) (w58)) (w56)) (w54)) (w52)) (w50)) (w48)) (w46)) (w44)) (w42)) (w40)) (w38)) (w34)) (w32)) (w30)) (w28)) (w26)) (w24)) (w22)) (w20)) (w18.drew)) (w17)) (w16)) (w15)) (w13)) (w11)) (w9)) (w7)) (w)
theorem F96_eq (p0 : Option Addr) (x1 : Int) (x2 : Int) (a3 : Option Addr) (n3 : Nat) (c3 : Nat) : sBody Tryz.prog [] Tryz.f96 [(Value.pointer p0), (Value.int IntKind.i64 x1), (Value.int IntKind.i64 x2), (Value.slice a3 n3 c3)] = F96 p0 x1 x2 a3 n3 c3 := by kernel_rfl
theorem F96_go (p0 : Option Addr) (x1 : Int) (x2 : Int) (a3 : Option Addr) (n3 : Nat) (c3 : Nat) {K : KV} {w : World} (h : F96 p0 x1 x2 a3 n3 c3 K w) : gocall Tryz.prog 96 [(Value.pointer p0), (Value.int IntKind.i64 x1), (Value.int IntKind.i64 x2), (Value.slice a3 n3 c3)] K w :=
  ⟨by kernel_rfl, calls_of_sBody (T := []) mixed Tryz.func96 (by kernel_rfl) (by rw [F96_eq]; exact h)⟩
def F98 (x0 : Int) (K : KV) (w : World) : Prop :=
  br (decide (x0 ≥ 0)) (fun w1 =>
  K (Value.bool (decide (x0 < 8))) (w1)) (fun w2 =>
  K (Value.bool (false)) (w2)) (w)
theorem F98_eq (x0 : Int) : sBody Tryz.prog [] Tryz.f98 [(Value.int IntKind.i64 x0)] = F98 x0 := by kernel_rfl
theorem F98_go (x0 : Int) {K : KV} {w : World} (h : F98 x0 K w) : gocall Tryz.prog 98 [(Value.int IntKind.i64 x0)] K w :=
  ⟨by kernel_rfl, calls_of_sBody (T := []) mixed Tryz.func98 (by kernel_rfl) (by rw [F98_eq]; exact h)⟩
def F99 (x0 : Int) (b1 : Bool) (K : KV) (w : World) : Prop :=
  gocall Tryz.prog (131) [(Value.int IntKind.i64 (x0))] (fun v2 w3 =>
  asBoo (v2) (fun b4 w5 =>
  br (!b4) (fun w6 =>
  K (Value.tuple #[(Value.int IntKind.i64 (0)), (Value.int IntKind.i64 (1))]) (w6)) (fun w7 =>
  br (x0 != 1) (fun w8 =>
  K (Value.tuple #[(Value.int IntKind.i64 (0)), (Value.int IntKind.i64 (7))]) (w8)) (fun w9 =>
  br (b1) (fun w10 =>
  K (Value.tuple #[(Value.int IntKind.i64 (4)), (Value.int IntKind.i64 (0))]) (w10)) (fun w11 =>
  K (Value.tuple #[(Value.int IntKind.i64 (5)), (Value.int IntKind.i64 (0))]) (w11)) (w9)) (w7)) (w5)) (w3)) (w)
theorem F99_eq (x0 : Int) (b1 : Bool) : sBody Tryz.prog [] Tryz.f99 [(Value.int IntKind.i64 x0), (Value.bool b1)] = F99 x0 b1 := by kernel_rfl
theorem F99_go (x0 : Int) (b1 : Bool) {K : KV} {w : World} (h : F99 x0 b1 K w) : gocall Tryz.prog 99 [(Value.int IntKind.i64 x0), (Value.bool b1)] K w :=
  ⟨by kernel_rfl, calls_of_sBody (T := []) mixed Tryz.func99 (by kernel_rfl) (by rw [F99_eq]; exact h)⟩
def F129 (a0 : Option Addr) (n0 : Nat) (c0 : Nat) (K : KV) (w : World) : Prop :=
  nw (Obj.map #[] 0) (fun k3 w4 =>
  nw (Obj.cells #[(Value.int IntKind.i64 (0)), (Value.int IntKind.i64 (0)), (Value.int IntKind.i64 (0)), (Value.int IntKind.i64 (0)), (Value.int IntKind.i64 (0)), (Value.int IntKind.i64 (0)), (Value.int IntKind.i64 (0)), (Value.int IntKind.i64 (0)), (Value.int IntKind.i64 (0)), (Value.int IntKind.i64 (0)), (Value.int IntKind.i64 (0)), (Value.int IntKind.i64 (0)), (Value.int IntKind.i64 (0)), (Value.int IntKind.i64 (0)), (Value.int IntKind.i64 (0)), (Value.int IntKind.i64 (0)), (Value.map (some k3))] 145 (0, 0)) (fun k5 w6 =>
  loop (X := (Int) × Unit) (0, ()) (fun x7 rec8 w9 =>
  br (decide (x7.fst < if 8 < (↑n0 : Int) then 8 else (↑n0 : Int))) (fun w10 =>
  slAt (a0) (n0) (x7.fst) (1) (fun a11 w12 =>
  ld (a11) (fun v13 w14 =>
  asI (IntKind.i64) (v13) (fun n15 w16 =>
  nn ((some ⟨k5, 0, none⟩)) (fun a17 w18 =>
  arAt (a17) (8) (x7.fst) (1) (fun a19 w20 =>
  st (a19) (Value.int IntKind.i64 (if (if 1000000000 < n15 then 1000000000 else n15) > 0 then if 1000000000 < n15 then 1000000000 else n15 else 0)) (fun w21 =>
  rec8 (IntKind.i64.wrap (x7.fst + 1), ()) (w21)) (w20)) (w18)) (w16)) (w14)) (w12)) (w10.drew)) (fun w22 =>
  nn ((some ⟨k5, 0, none⟩)) (fun a23 w24 =>
  ld (a23) (fun v25 w26 =>
  asI (IntKind.i64) (v25) (fun n27 w28 =>
  ld (⟨(a23.add 0).block, (a23.add 0).off + 1, none⟩) (fun v29 w30 =>
  asI (IntKind.i64) (v29) (fun n31 w32 =>
  ld (⟨(a23.add 0).block, (a23.add 0).off + 2, none⟩) (fun v33 w34 =>
  asI (IntKind.i64) (v33) (fun n35 w36 =>
  ld (⟨(a23.add 0).block, (a23.add 0).off + 3, none⟩) (fun v37 w38 =>
  asI (IntKind.i64) (v37) (fun n39 w40 =>
  ld (⟨(a23.add 0).block, (a23.add 0).off + 4, none⟩) (fun v41 w42 =>
  asI (IntKind.i64) (v41) (fun n43 w44 =>
  ld (⟨(a23.add 0).block, (a23.add 0).off + 5, none⟩) (fun v45 w46 =>
  asI (IntKind.i64) (v45) (fun n47 w48 =>
  ld (⟨(a23.add 0).block, (a23.add 0).off + 6, none⟩) (fun v49 w50 =>
  asI (IntKind.i64) (v49) (fun n51 w52 =>
  ld (⟨(a23.add 0).block, (a23.add 0).off + 7, none⟩) (fun v53 w54 =>
  asI (IntKind.i64) (v53) (fun n55 w56 =>
  nn ((some ⟨k5, 0, none⟩)) (fun a57 w58 =>
  st (⟨a57.block, a57.off + 8, none⟩) (Value.int IntKind.i64 (n27)) (fun w59 =>
  st (⟨a57.block, a57.off + 8 + 1, none⟩) (Value.int IntKind.i64 (n31)) (fun w60 =>
  st (⟨a57.block, a57.off + 8 + 2, none⟩) (Value.int IntKind.i64 (n35)) (fun w61 =>
  st (⟨a57.block, a57.off + 8 + 3, none⟩) (Value.int IntKind.i64 (n39)) (fun w62 =>
  st (⟨a57.block, a57.off + 8 + 4, none⟩) (Value.int IntKind.i64 (n43)) (fun w63 =>
  st (⟨a57.block, a57.off + 8 + 5, none⟩) (Value.int IntKind.i64 (n47)) (fun w64 =>
  st (⟨a57.block, a57.off + 8 + 6, none⟩) (Value.int IntKind.i64 (n51)) (fun w65 =>
  st (⟨a57.block, a57.off + 8 + 7, none⟩) (Value.int IntKind.i64 (n55)) (fun w66 =>
  K (Value.pointer (some ⟨k5, 0, none⟩)) (w66)) (w65)) (w64)) (w63)) (w62)) (w61)) (w60)) (w59)) (w58)) (w56)) (w54)) (w52)) (w50)) (w48)) (w46)) (w44)) (w42)) (w40)) (w38)) (w36)) (w34)) (w32)) (w30)) (w28)) (w26)) (w24)) (w22)) (w9)) (w6)) (w4)) (w)
theorem F129_eq (a0 : Option Addr) (n0 : Nat) (c0 : Nat) : sBody Tryz.prog [] Tryz.f129 [(Value.slice a0 n0 c0)] = F129 a0 n0 c0 := by kernel_rfl
theorem F129_go (a0 : Option Addr) (n0 : Nat) (c0 : Nat) {K : KV} {w : World} (h : F129 a0 n0 c0 K w) : gocall Tryz.prog 129 [(Value.slice a0 n0 c0)] K w :=
  ⟨by kernel_rfl, calls_of_sBody (T := []) mixed Tryz.func129 (by kernel_rfl) (by rw [F129_eq]; exact h)⟩
def F131 (x0 : Int) (K : KV) (w : World) : Prop :=
  br (decide (x0 ≥ 0)) (fun w1 =>
  K (Value.bool (decide (x0 ≤ 5))) (w1)) (fun w2 =>
  K (Value.bool (false)) (w2)) (w)
theorem F131_eq (x0 : Int) : sBody Tryz.prog [] Tryz.f131 [(Value.int IntKind.i64 x0)] = F131 x0 := by kernel_rfl
theorem F131_go (x0 : Int) {K : KV} {w : World} (h : F131 x0 K w) : gocall Tryz.prog 131 [(Value.int IntKind.i64 x0)] K w :=
  ⟨by kernel_rfl, calls_of_sBody (T := []) mixed Tryz.func131 (by kernel_rfl) (by rw [F131_eq]; exact h)⟩
def F132 (x0 : Int) (b1 : Bool) (K : KV) (w : World) : Prop :=
  br (x0 == 0) (fun w2 =>
  br (b1) (fun w3 =>
  K (Value.tuple #[(Value.int IntKind.i64 (1)), (Value.int IntKind.i64 (7))]) (w3)) (fun w4 =>
  K (Value.tuple #[(Value.int IntKind.i64 (3)), (Value.int IntKind.i64 (8))]) (w4)) (w2)) (fun w5 =>
  br (x0 == 1) (fun w6 =>
  K (Value.tuple #[(Value.int IntKind.i64 (x0)), (Value.int IntKind.i64 (7))]) (w6)) (fun w7 =>
  br (x0 == 4) (fun w8 =>
  K (Value.tuple #[(Value.int IntKind.i64 (x0)), (Value.int IntKind.i64 (7))]) (w8)) (fun w9 =>
  br (x0 == 3) (fun w10 =>
  K (Value.tuple #[(Value.int IntKind.i64 (x0)), (Value.int IntKind.i64 (8))]) (w10)) (fun w11 =>
  br (x0 == 5) (fun w12 =>
  K (Value.tuple #[(Value.int IntKind.i64 (x0)), (Value.int IntKind.i64 (8))]) (w12)) (fun w13 =>
  K (Value.tuple #[(Value.int IntKind.i64 (x0)), (Value.int IntKind.i64 (0))]) (w13)) (w11)) (w9)) (w7)) (w5)) (w)
theorem F132_eq (x0 : Int) (b1 : Bool) : sBody Tryz.prog [] Tryz.f132 [(Value.int IntKind.i64 x0), (Value.bool b1)] = F132 x0 b1 := by kernel_rfl
theorem F132_go (x0 : Int) (b1 : Bool) {K : KV} {w : World} (h : F132 x0 b1 K w) : gocall Tryz.prog 132 [(Value.int IntKind.i64 x0), (Value.bool b1)] K w :=
  ⟨by kernel_rfl, calls_of_sBody (T := []) mixed Tryz.func132 (by kernel_rfl) (by rw [F132_eq]; exact h)⟩
def F133 (x0 : Int) (K : KV) (w : World) : Prop :=
  br (x0 == 1) (fun w1 =>
  K (Value.tuple #[(Value.int IntKind.i64 (2)), (Value.int IntKind.i64 (11))]) (w1)) (fun w2 =>
  br (x0 == 2) (fun w3 =>
  K (Value.tuple #[(Value.int IntKind.i64 (2)), (Value.int IntKind.i64 (11))]) (w3)) (fun w4 =>
  br (x0 == 4) (fun w5 =>
  K (Value.tuple #[(Value.int IntKind.i64 (x0)), (Value.int IntKind.i64 (11))]) (w5)) (fun w6 =>
  br (x0 == 5) (fun w7 =>
  K (Value.tuple #[(Value.int IntKind.i64 (x0)), (Value.int IntKind.i64 (17))]) (w7)) (fun w8 =>
  K (Value.tuple #[(Value.int IntKind.i64 (x0)), (Value.int IntKind.i64 (0))]) (w8)) (w6)) (w4)) (w2)) (w)
theorem F133_eq (x0 : Int) : sBody Tryz.prog [] Tryz.f133 [(Value.int IntKind.i64 x0)] = F133 x0 := by kernel_rfl
theorem F133_go (x0 : Int) {K : KV} {w : World} (h : F133 x0 K w) : gocall Tryz.prog 133 [(Value.int IntKind.i64 x0)] K w :=
  ⟨by kernel_rfl, calls_of_sBody (T := []) mixed Tryz.func133 (by kernel_rfl) (by rw [F133_eq]; exact h)⟩
def F134 (x0 : Int) (K : KV) (w : World) : Prop :=
  br (x0 == 0) (fun w1 =>
  K (Value.tuple #[(Value.int IntKind.i64 (3)), (Value.int IntKind.i64 (11))]) (w1)) (fun w2 =>
  br (x0 == 1) (fun w3 =>
  K (Value.tuple #[(Value.int IntKind.i64 (3)), (Value.int IntKind.i64 (11))]) (w3)) (fun w4 =>
  br (x0 == 3) (fun w5 =>
  K (Value.tuple #[(Value.int IntKind.i64 (3)), (Value.int IntKind.i64 (11))]) (w5)) (fun w6 =>
  br (x0 == 5) (fun w7 =>
  K (Value.tuple #[(Value.int IntKind.i64 (x0)), (Value.int IntKind.i64 (11))]) (w7)) (fun w8 =>
  br (x0 == 4) (fun w9 =>
  K (Value.tuple #[(Value.int IntKind.i64 (x0)), (Value.int IntKind.i64 (17))]) (w9)) (fun w10 =>
  K (Value.tuple #[(Value.int IntKind.i64 (x0)), (Value.int IntKind.i64 (0))]) (w10)) (w8)) (w6)) (w4)) (w2)) (w)
theorem F134_eq (x0 : Int) : sBody Tryz.prog [] Tryz.f134 [(Value.int IntKind.i64 x0)] = F134 x0 := by kernel_rfl
theorem F134_go (x0 : Int) {K : KV} {w : World} (h : F134 x0 K w) : gocall Tryz.prog 134 [(Value.int IntKind.i64 x0)] K w :=
  ⟨by kernel_rfl, calls_of_sBody (T := []) mixed Tryz.func134 (by kernel_rfl) (by rw [F134_eq]; exact h)⟩
def F135 (x0 : Int) (K : KV) (w : World) : Prop :=
  br (x0 == 0) (fun w1 =>
  K (Value.tuple #[(Value.int IntKind.i64 (3)), (Value.int IntKind.i64 (14))]) (w1)) (fun w2 =>
  br (x0 == 3) (fun w3 =>
  K (Value.tuple #[(Value.int IntKind.i64 (3)), (Value.int IntKind.i64 (14))]) (w3)) (fun w4 =>
  br (x0 == 2) (fun w5 =>
  K (Value.tuple #[(Value.int IntKind.i64 (x0)), (Value.int IntKind.i64 (13))]) (w5)) (fun w6 =>
  K (Value.tuple #[(Value.int IntKind.i64 (x0)), (Value.int IntKind.i64 (0))]) (w6)) (w4)) (w2)) (w)
theorem F135_eq (x0 : Int) : sBody Tryz.prog [] Tryz.f135 [(Value.int IntKind.i64 x0)] = F135 x0 := by kernel_rfl
theorem F135_go (x0 : Int) {K : KV} {w : World} (h : F135 x0 K w) : gocall Tryz.prog 135 [(Value.int IntKind.i64 x0)] K w :=
  ⟨by kernel_rfl, calls_of_sBody (T := []) mixed Tryz.func135 (by kernel_rfl) (by rw [F135_eq]; exact h)⟩
def F136  (K : KV) (w : World) : Prop :=
  nw (Obj.map #[] 0) (fun k0 w1 =>
  mset (Md.full) Tryz.prog (183) (Value.map (some k0)) (Value.int IntKind.i64 (1)) (Value.string ({ data := #[114, 101, 97, 100, 121] })) (fun w2 =>
  mset (Md.full) Tryz.prog (183) (Value.map (some k0)) (Value.int IntKind.i64 (2)) (Value.string ({ data := #[121, 101, 115] })) (fun w3 =>
  mset (Md.full) Tryz.prog (183) (Value.map (some k0)) (Value.int IntKind.i64 (3)) (Value.string ({ data := #[110, 111] })) (fun w4 =>
  mset (Md.full) Tryz.prog (183) (Value.map (some k0)) (Value.int IntKind.i64 (4)) (Value.string ({ data := #[102, 121, 101, 115] })) (fun w5 =>
  mset (Md.full) Tryz.prog (183) (Value.map (some k0)) (Value.int IntKind.i64 (5)) (Value.string ({ data := #[102, 110, 111] })) (fun w6 =>
  K (Value.map (some k0)) (w6)) (w5)) (w4)) (w3)) (w2)) (w1)) (w)
theorem F136_eq  : sBody Tryz.prog [] Tryz.f136 [] = F136  := by kernel_rfl
theorem F136_go  {K : KV} {w : World} (h : F136  K w) : gocall Tryz.prog 136 [] K w :=
  ⟨by kernel_rfl, calls_of_sBody (T := []) mixed Tryz.func136 (by kernel_rfl) (by rw [F136_eq]; exact h)⟩
def F97 (p0 : Option Addr) (s1 : ByteArray) (x2 : Int) (a3 : Option Addr) (n3 : Nat) (c3 : Nat) (K : KV) (w : World) : Prop :=
  nw (Obj.cells #[(Value.string (s1)), (Value.int IntKind.i64 (x2)), (Value.slice a3 (n3) (c3))] 105 (0, 0)) (fun k6 w7 =>
  gocall Tryz.prog (136) [] (fun v8 w9 =>
  asMap (v8) (fun p10 w11 =>
  mrng (Md.full) Tryz.prog (183) (Value.map p10) (fun v12 w13 =>
  loop (X := Unit) () (fun x14 rec15 w16 =>
  mnxt (Md.full) Tryz.prog (v12) (false) (0) (fun v17 w18 =>
  asB1 (v17) (fun b19 l20 w21 =>
  br (b19) (fun w22 =>
  mtry (Md.full) Tryz.prog (v12) (fun v23 w24 =>
  asT (2) (v23) (fun f25 w26 =>
  asI (IntKind.i64) (f25 0) (fun n27 w28 =>
  asStr (f25 1) (fun s29 w30 =>
  ld (⟨k6, 0, none⟩) (fun v31 w32 =>
  asStr (v31) (fun s33 w34 =>
  br (!strEq s29 s33) (fun w35 =>
  rec15 () (w35)) (fun w36 =>
  br (n27 == 1) (fun w37 =>
  ld (⟨k6, 2, none⟩) (fun v38 w39 =>
  asSl (v38) (fun p40 k41 k42 w43 =>
  br ((↑k41 : Int) == 2) (fun w44 =>
  nn (p0) (fun a45 w46 =>
  ld (⟨a45.block, a45.off + 3, none⟩) (fun v47 w48 =>
  ld (⟨k6, 1, none⟩) (fun v49 w50 =>
  asI (IntKind.i64) (v49) (fun n51 w52 =>
  ld (⟨k6, 2, none⟩) (fun v53 w54 =>
  asSl (v53) (fun p55 k56 k57 w58 =>
  slAt (p55) (k56) (0) (1) (fun a59 w60 =>
  ld (a59) (fun v61 w62 =>
  asI (IntKind.i64) (v61) (fun n63 w64 =>
  ld (⟨k6, 2, none⟩) (fun v65 w66 =>
  asSl (v65) (fun p67 k68 k69 w70 =>
  slAt (p67) (k68) (1) (1) (fun a71 w72 =>
  ld (a71) (fun v73 w74 =>
  asI (IntKind.i64) (v73) (fun n75 w76 =>
  nif (v47) (fun w77 =>
  ivk Tryz.prog (v47) ("wharfinger/keeper.take") [(Value.int IntKind.i64 (n51)), (Value.int IntKind.i64 (n63)), (Value.int IntKind.i64 (n75))] (fun v78 w79 =>
  asBoo (v78) (fun b80 w81 =>
  gocall Tryz.prog (137) [(Value.int IntKind.i64 (n27))] (fun v82 w83 =>
  asT (2) (v82) (fun f84 w85 =>
  asBoo (f84 0) (fun b86 w87 =>
  asBoo (f84 1) (fun b88 w89 =>
  br (b88) (fun w90 =>
  br (b86) (fun w91 =>
  nn (p0) (fun a92 w93 =>
  ld (⟨a92.block, a92.off + 3, none⟩) (fun v94 w95 =>
  ld (⟨k6, 1, none⟩) (fun v96 w97 =>
  asI (IntKind.i64) (v96) (fun n98 w99 =>
  ivk Tryz.prog (v94) ("wharfinger/keeper.gives") [(Value.int IntKind.i64 (n98))] (fun v100 w101 =>
  asT (0) (v100) (fun f102 w103 =>
  nn (p0) (fun a104 w105 =>
  ld (⟨a104.block, a104.off + 4, none⟩) (fun v106 w107 =>
  asMap (v106) (fun p108 w109 =>
  ld (⟨k6, 1, none⟩) (fun v110 w111 =>
  asI (IntKind.i64) (v110) (fun n112 w113 =>
  mset (Md.full) Tryz.prog (124) (Value.map p108) (Value.int IntKind.i64 (n112)) (Value.int IntKind.i64 (n27)) (fun w114 =>
  K (Value.tuple #[]) (w114)) (w113)) (w111)) (w109)) (w107)) (w105)) (w103.drew)) (w101)) (w99)) (w97)) (w95)) (w93)) (w91.drew)) (fun w115 =>
  br (b88) (fun w116 =>
  nn (p0) (fun a117 w118 =>
  ld (⟨a117.block, a117.off + 3, none⟩) (fun v119 w120 =>
  ld (⟨k6, 1, none⟩) (fun v121 w122 =>
  asI (IntKind.i64) (v121) (fun n123 w124 =>
  ivk Tryz.prog (v119) ("wharfinger/keeper.lets") [(Value.int IntKind.i64 (n123))] (fun v125 w126 =>
  asT (0) (v125) (fun f127 w128 =>
  nn (p0) (fun a129 w130 =>
  ld (⟨a129.block, a129.off + 4, none⟩) (fun v131 w132 =>
  asMap (v131) (fun p133 w134 =>
  ld (⟨k6, 1, none⟩) (fun v135 w136 =>
  asI (IntKind.i64) (v135) (fun n137 w138 =>
  mset (Md.full) Tryz.prog (124) (Value.map p133) (Value.int IntKind.i64 (n137)) (Value.int IntKind.i64 (n27)) (fun w139 =>
  K (Value.tuple #[]) (w139)) (w138)) (w136)) (w134)) (w132)) (w130)) (w128.drew)) (w126)) (w124)) (w122)) (w120)) (w118)) (w116.drew)) (fun w140 =>
  nn (p0) (fun a141 w142 =>
  ld (⟨a141.block, a141.off + 4, none⟩) (fun v143 w144 =>
  asMap (v143) (fun p145 w146 =>
  ld (⟨k6, 1, none⟩) (fun v147 w148 =>
  asI (IntKind.i64) (v147) (fun n149 w150 =>
  mset (Md.full) Tryz.prog (124) (Value.map p145) (Value.int IntKind.i64 (n149)) (Value.int IntKind.i64 (n27)) (fun w151 =>
  K (Value.tuple #[]) (w151)) (w150)) (w148)) (w146)) (w144)) (w142)) (w140.drew)) (w115)) (w90)) (fun w152 =>
  br (b88) (fun w153 =>
  nn (p0) (fun a154 w155 =>
  ld (⟨a154.block, a154.off + 3, none⟩) (fun v156 w157 =>
  ld (⟨k6, 1, none⟩) (fun v158 w159 =>
  asI (IntKind.i64) (v158) (fun n160 w161 =>
  ivk Tryz.prog (v156) ("wharfinger/keeper.lets") [(Value.int IntKind.i64 (n160))] (fun v162 w163 =>
  asT (0) (v162) (fun f164 w165 =>
  nn (p0) (fun a166 w167 =>
  ld (⟨a166.block, a166.off + 4, none⟩) (fun v168 w169 =>
  asMap (v168) (fun p170 w171 =>
  ld (⟨k6, 1, none⟩) (fun v172 w173 =>
  asI (IntKind.i64) (v172) (fun n174 w175 =>
  mset (Md.full) Tryz.prog (124) (Value.map p170) (Value.int IntKind.i64 (n174)) (Value.int IntKind.i64 (n27)) (fun w176 =>
  K (Value.tuple #[]) (w176)) (w175)) (w173)) (w171)) (w169)) (w167)) (w165.drew)) (w163)) (w161)) (w159)) (w157)) (w155)) (w153.drew)) (fun w177 =>
  nn (p0) (fun a178 w179 =>
  ld (⟨a178.block, a178.off + 4, none⟩) (fun v180 w181 =>
  asMap (v180) (fun p182 w183 =>
  ld (⟨k6, 1, none⟩) (fun v184 w185 =>
  asI (IntKind.i64) (v184) (fun n186 w187 =>
  mset (Md.full) Tryz.prog (124) (Value.map p182) (Value.int IntKind.i64 (n186)) (Value.int IntKind.i64 (n27)) (fun w188 =>
  K (Value.tuple #[]) (w188)) (w187)) (w185)) (w183)) (w181)) (w179)) (w177.drew)) (w152)) (w89)) (w87)) (w85)) (w83)) (w81)) (w79)) (w77)) (w76)) (w74)) (w72)) (w70)) (w66)) (w64)) (w62)) (w60)) (w58)) (w54)) (w52)) (w50)) (w48)) (w46)) (w44.drew)) (fun w189 =>
  gocall Tryz.prog (137) [(Value.int IntKind.i64 (n27))] (fun v190 w191 =>
  asT (2) (v190) (fun f192 w193 =>
  asBoo (f192 0) (fun b194 w195 =>
  asBoo (f192 1) (fun b196 w197 =>
  br (b196) (fun w198 =>
  br (b194) (fun w199 =>
  nn (p0) (fun a200 w201 =>
  ld (⟨a200.block, a200.off + 3, none⟩) (fun v202 w203 =>
  ld (⟨k6, 1, none⟩) (fun v204 w205 =>
  asI (IntKind.i64) (v204) (fun n206 w207 =>
  ivk Tryz.prog (v202) ("wharfinger/keeper.gives") [(Value.int IntKind.i64 (n206))] (fun v208 w209 =>
  asT (0) (v208) (fun f210 w211 =>
  nn (p0) (fun a212 w213 =>
  ld (⟨a212.block, a212.off + 4, none⟩) (fun v214 w215 =>
  asMap (v214) (fun p216 w217 =>
  ld (⟨k6, 1, none⟩) (fun v218 w219 =>
  asI (IntKind.i64) (v218) (fun n220 w221 =>
  mset (Md.full) Tryz.prog (124) (Value.map p216) (Value.int IntKind.i64 (n220)) (Value.int IntKind.i64 (n27)) (fun w222 =>
  K (Value.tuple #[]) (w222)) (w221)) (w219)) (w217)) (w215)) (w213)) (w211.drew)) (w209)) (w207)) (w205)) (w203)) (w201)) (w199.drew)) (fun w223 =>
  br (b196) (fun w224 =>
  nn (p0) (fun a225 w226 =>
  ld (⟨a225.block, a225.off + 3, none⟩) (fun v227 w228 =>
  ld (⟨k6, 1, none⟩) (fun v229 w230 =>
  asI (IntKind.i64) (v229) (fun n231 w232 =>
  ivk Tryz.prog (v227) ("wharfinger/keeper.lets") [(Value.int IntKind.i64 (n231))] (fun v233 w234 =>
  asT (0) (v233) (fun f235 w236 =>
  nn (p0) (fun a237 w238 =>
  ld (⟨a237.block, a237.off + 4, none⟩) (fun v239 w240 =>
  asMap (v239) (fun p241 w242 =>
  ld (⟨k6, 1, none⟩) (fun v243 w244 =>
  asI (IntKind.i64) (v243) (fun n245 w246 =>
  mset (Md.full) Tryz.prog (124) (Value.map p241) (Value.int IntKind.i64 (n245)) (Value.int IntKind.i64 (n27)) (fun w247 =>
  K (Value.tuple #[]) (w247)) (w246)) (w244)) (w242)) (w240)) (w238)) (w236.drew)) (w234)) (w232)) (w230)) (w228)) (w226)) (w224.drew)) (fun w248 =>
  nn (p0) (fun a249 w250 =>
  ld (⟨a249.block, a249.off + 4, none⟩) (fun v251 w252 =>
  asMap (v251) (fun p253 w254 =>
  ld (⟨k6, 1, none⟩) (fun v255 w256 =>
  asI (IntKind.i64) (v255) (fun n257 w258 =>
  mset (Md.full) Tryz.prog (124) (Value.map p253) (Value.int IntKind.i64 (n257)) (Value.int IntKind.i64 (n27)) (fun w259 =>
  K (Value.tuple #[]) (w259)) (w258)) (w256)) (w254)) (w252)) (w250)) (w248.drew)) (w223)) (w198)) (fun w260 =>
  br (b196) (fun w261 =>
  nn (p0) (fun a262 w263 =>
  ld (⟨a262.block, a262.off + 3, none⟩) (fun v264 w265 =>
  ld (⟨k6, 1, none⟩) (fun v266 w267 =>
  asI (IntKind.i64) (v266) (fun n268 w269 =>
  ivk Tryz.prog (v264) ("wharfinger/keeper.lets") [(Value.int IntKind.i64 (n268))] (fun v270 w271 =>
  asT (0) (v270) (fun f272 w273 =>
  nn (p0) (fun a274 w275 =>
  ld (⟨a274.block, a274.off + 4, none⟩) (fun v276 w277 =>
  asMap (v276) (fun p278 w279 =>
  ld (⟨k6, 1, none⟩) (fun v280 w281 =>
  asI (IntKind.i64) (v280) (fun n282 w283 =>
  mset (Md.full) Tryz.prog (124) (Value.map p278) (Value.int IntKind.i64 (n282)) (Value.int IntKind.i64 (n27)) (fun w284 =>
  K (Value.tuple #[]) (w284)) (w283)) (w281)) (w279)) (w277)) (w275)) (w273.drew)) (w271)) (w269)) (w267)) (w265)) (w263)) (w261.drew)) (fun w285 =>
  nn (p0) (fun a286 w287 =>
  ld (⟨a286.block, a286.off + 4, none⟩) (fun v288 w289 =>
  asMap (v288) (fun p290 w291 =>
  ld (⟨k6, 1, none⟩) (fun v292 w293 =>
  asI (IntKind.i64) (v292) (fun n294 w295 =>
  mset (Md.full) Tryz.prog (124) (Value.map p290) (Value.int IntKind.i64 (n294)) (Value.int IntKind.i64 (n27)) (fun w296 =>
  K (Value.tuple #[]) (w296)) (w295)) (w293)) (w291)) (w289)) (w287)) (w285.drew)) (w260)) (w197)) (w195)) (w193)) (w191)) (w189)) (w43)) (w39)) (w37)) (fun w297 =>
  gocall Tryz.prog (137) [(Value.int IntKind.i64 (n27))] (fun v298 w299 =>
  asT (2) (v298) (fun f300 w301 =>
  asBoo (f300 0) (fun b302 w303 =>
  asBoo (f300 1) (fun b304 w305 =>
  br (b304) (fun w306 =>
  br (b302) (fun w307 =>
  nn (p0) (fun a308 w309 =>
  ld (⟨a308.block, a308.off + 3, none⟩) (fun v310 w311 =>
  ld (⟨k6, 1, none⟩) (fun v312 w313 =>
  asI (IntKind.i64) (v312) (fun n314 w315 =>
  ivk Tryz.prog (v310) ("wharfinger/keeper.gives") [(Value.int IntKind.i64 (n314))] (fun v316 w317 =>
  asT (0) (v316) (fun f318 w319 =>
  nn (p0) (fun a320 w321 =>
  ld (⟨a320.block, a320.off + 4, none⟩) (fun v322 w323 =>
  asMap (v322) (fun p324 w325 =>
  ld (⟨k6, 1, none⟩) (fun v326 w327 =>
  asI (IntKind.i64) (v326) (fun n328 w329 =>
  mset (Md.full) Tryz.prog (124) (Value.map p324) (Value.int IntKind.i64 (n328)) (Value.int IntKind.i64 (n27)) (fun w330 =>
  K (Value.tuple #[]) (w330)) (w329)) (w327)) (w325)) (w323)) (w321)) (w319.drew)) (w317)) (w315)) (w313)) (w311)) (w309)) (w307.drew)) (fun w331 =>
  br (b304) (fun w332 =>
  nn (p0) (fun a333 w334 =>
  ld (⟨a333.block, a333.off + 3, none⟩) (fun v335 w336 =>
  ld (⟨k6, 1, none⟩) (fun v337 w338 =>
  asI (IntKind.i64) (v337) (fun n339 w340 =>
  ivk Tryz.prog (v335) ("wharfinger/keeper.lets") [(Value.int IntKind.i64 (n339))] (fun v341 w342 =>
  asT (0) (v341) (fun f343 w344 =>
  nn (p0) (fun a345 w346 =>
  ld (⟨a345.block, a345.off + 4, none⟩) (fun v347 w348 =>
  asMap (v347) (fun p349 w350 =>
  ld (⟨k6, 1, none⟩) (fun v351 w352 =>
  asI (IntKind.i64) (v351) (fun n353 w354 =>
  mset (Md.full) Tryz.prog (124) (Value.map p349) (Value.int IntKind.i64 (n353)) (Value.int IntKind.i64 (n27)) (fun w355 =>
  K (Value.tuple #[]) (w355)) (w354)) (w352)) (w350)) (w348)) (w346)) (w344.drew)) (w342)) (w340)) (w338)) (w336)) (w334)) (w332.drew)) (fun w356 =>
  nn (p0) (fun a357 w358 =>
  ld (⟨a357.block, a357.off + 4, none⟩) (fun v359 w360 =>
  asMap (v359) (fun p361 w362 =>
  ld (⟨k6, 1, none⟩) (fun v363 w364 =>
  asI (IntKind.i64) (v363) (fun n365 w366 =>
  mset (Md.full) Tryz.prog (124) (Value.map p361) (Value.int IntKind.i64 (n365)) (Value.int IntKind.i64 (n27)) (fun w367 =>
  K (Value.tuple #[]) (w367)) (w366)) (w364)) (w362)) (w360)) (w358)) (w356.drew)) (w331)) (w306)) (fun w368 =>
  br (b304) (fun w369 =>
  nn (p0) (fun a370 w371 =>
  ld (⟨a370.block, a370.off + 3, none⟩) (fun v372 w373 =>
  ld (⟨k6, 1, none⟩) (fun v374 w375 =>
  asI (IntKind.i64) (v374) (fun n376 w377 =>
  ivk Tryz.prog (v372) ("wharfinger/keeper.lets") [(Value.int IntKind.i64 (n376))] (fun v378 w379 =>
  asT (0) (v378) (fun f380 w381 =>
  nn (p0) (fun a382 w383 =>
  ld (⟨a382.block, a382.off + 4, none⟩) (fun v384 w385 =>
  asMap (v384) (fun p386 w387 =>
  ld (⟨k6, 1, none⟩) (fun v388 w389 =>
  asI (IntKind.i64) (v388) (fun n390 w391 =>
  mset (Md.full) Tryz.prog (124) (Value.map p386) (Value.int IntKind.i64 (n390)) (Value.int IntKind.i64 (n27)) (fun w392 =>
  K (Value.tuple #[]) (w392)) (w391)) (w389)) (w387)) (w385)) (w383)) (w381.drew)) (w379)) (w377)) (w375)) (w373)) (w371)) (w369.drew)) (fun w393 =>
  nn (p0) (fun a394 w395 =>
  ld (⟨a394.block, a394.off + 4, none⟩) (fun v396 w397 =>
  asMap (v396) (fun p398 w399 =>
  ld (⟨k6, 1, none⟩) (fun v400 w401 =>
  asI (IntKind.i64) (v400) (fun n402 w403 =>
  mset (Md.full) Tryz.prog (124) (Value.map p398) (Value.int IntKind.i64 (n402)) (Value.int IntKind.i64 (n27)) (fun w404 =>
  K (Value.tuple #[]) (w404)) (w403)) (w401)) (w399)) (w397)) (w395)) (w393.drew)) (w368)) (w305)) (w303)) (w301)) (w299)) (w297)) (w36)) (w34)) (w32)) (w30)) (w28)) (w26)) (w24)) (w22)) (fun w405 =>
  K (Value.tuple #[]) (w405)) (w21)) (w18)) (w16)) (w13)) (w11)) (w9)) (w7)) (w)
theorem F97_eq (p0 : Option Addr) (s1 : ByteArray) (x2 : Int) (a3 : Option Addr) (n3 : Nat) (c3 : Nat) : sBody Tryz.prog [] Tryz.f97 [(Value.pointer p0), (Value.agg #[(Value.string s1), (Value.int IntKind.i64 x2), (Value.slice a3 n3 c3)])] = F97 p0 s1 x2 a3 n3 c3 := by kernel_rfl
theorem F97_go (p0 : Option Addr) (s1 : ByteArray) (x2 : Int) (a3 : Option Addr) (n3 : Nat) (c3 : Nat) {K : KV} {w : World} (h : F97 p0 s1 x2 a3 n3 c3 K w) : gocall Tryz.prog 97 [(Value.pointer p0), (Value.agg #[(Value.string s1), (Value.int IntKind.i64 x2), (Value.slice a3 n3 c3)])] K w :=
  ⟨by kernel_rfl, calls_of_sBody (T := []) mixed Tryz.func97 (by kernel_rfl) (by rw [F97_eq]; exact h)⟩
def F137 (x0 : Int) (K : KV) (w : World) : Prop :=
  br (x0 == 2) (fun w1 =>
  K (Value.tuple #[(Value.bool (true)), (Value.bool (true))]) (w1)) (fun w2 =>
  br (x0 == 4) (fun w3 =>
  K (Value.tuple #[(Value.bool (true)), (Value.bool (true))]) (w3)) (fun w4 =>
  br (x0 == 3) (fun w5 =>
  K (Value.tuple #[(Value.bool (false)), (Value.bool (true))]) (w5)) (fun w6 =>
  br (x0 == 5) (fun w7 =>
  K (Value.tuple #[(Value.bool (false)), (Value.bool (true))]) (w7)) (fun w8 =>
  K (Value.tuple #[(Value.bool (false)), (Value.bool (false))]) (w8)) (w6)) (w4)) (w2)) (w)
theorem F137_eq (x0 : Int) : sBody Tryz.prog [] Tryz.f137 [(Value.int IntKind.i64 x0)] = F137 x0 := by kernel_rfl
theorem F137_go (x0 : Int) {K : KV} {w : World} (h : F137 x0 K w) : gocall Tryz.prog 137 [(Value.int IntKind.i64 x0)] K w :=
  ⟨by kernel_rfl, calls_of_sBody (T := []) mixed Tryz.func137 (by kernel_rfl) (by rw [F137_eq]; exact h)⟩
def F256 (p0 : Option Addr) (x1 : Int) (K : KV) (w : World) : Prop :=
  nw (Obj.cells #[(Value.pointer p0)] 140 (0, 0)) (fun k2 w3 =>
  ld (⟨k2, 0, none⟩) (fun v4 w5 =>
  asPtr (v4) (fun p6 w7 =>
  gocall Tryz.prog (259) [(Value.pointer p6), (Value.int IntKind.i64 (x1))] (fun v8 w9 =>
  asI (IntKind.i64) (v8) (fun n10 w11 =>
  K (Value.tuple #[]) (w11)) (w9)) (w7)) (w5)) (w3)) (w)
theorem F256_eq (p0 : Option Addr) (x1 : Int) : sBody Tryz.prog [] Tryz.f256 [(Value.agg #[(Value.pointer p0)]), (Value.int IntKind.i64 x1)] = F256 p0 x1 := by kernel_rfl
theorem F256_go (p0 : Option Addr) (x1 : Int) {K : KV} {w : World} (h : F256 p0 x1 K w) : gocall Tryz.prog 256 [(Value.agg #[(Value.pointer p0)]), (Value.int IntKind.i64 x1)] K w :=
  ⟨by kernel_rfl, calls_of_sBody (T := []) mixed Tryz.func256 (by kernel_rfl) (by rw [F256_eq]; exact h)⟩
def F257 (p0 : Option Addr) (x1 : Int) (K : KV) (w : World) : Prop :=
  nw (Obj.cells #[(Value.pointer p0)] 140 (0, 0)) (fun k2 w3 =>
  ld (⟨k2, 0, none⟩) (fun v4 w5 =>
  asPtr (v4) (fun p6 w7 =>
  gocall Tryz.prog (260) [(Value.pointer p6), (Value.int IntKind.i64 (x1))] (fun v8 w9 =>
  asI (IntKind.i64) (v8) (fun n10 w11 =>
  K (Value.tuple #[]) (w11)) (w9)) (w7)) (w5)) (w3)) (w)
theorem F257_eq (p0 : Option Addr) (x1 : Int) : sBody Tryz.prog [] Tryz.f257 [(Value.agg #[(Value.pointer p0)]), (Value.int IntKind.i64 x1)] = F257 p0 x1 := by kernel_rfl
theorem F257_go (p0 : Option Addr) (x1 : Int) {K : KV} {w : World} (h : F257 p0 x1 K w) : gocall Tryz.prog 257 [(Value.agg #[(Value.pointer p0)]), (Value.int IntKind.i64 x1)] K w :=
  ⟨by kernel_rfl, calls_of_sBody (T := []) mixed Tryz.func257 (by kernel_rfl) (by rw [F257_eq]; exact h)⟩
def F258 (p0 : Option Addr) (x1 : Int) (x2 : Int) (x3 : Int) (K : KV) (w : World) : Prop :=
  nw (Obj.cells #[(Value.pointer p0)] 140 (0, 0)) (fun k4 w5 =>
  ld (⟨k4, 0, none⟩) (fun v6 w7 =>
  asPtr (v6) (fun p8 w9 =>
  gocall Tryz.prog (261) [(Value.pointer p8), (Value.int IntKind.i64 (x1)), (Value.int IntKind.i64 (x2)), (Value.int IntKind.i64 (x3))] (fun v10 w11 =>
  asI (IntKind.i64) (v10) (fun n12 w13 =>
  K (Value.bool (n12 == 0)) (w13)) (w11)) (w9)) (w7)) (w5)) (w)
theorem F258_eq (p0 : Option Addr) (x1 : Int) (x2 : Int) (x3 : Int) : sBody Tryz.prog [] Tryz.f258 [(Value.agg #[(Value.pointer p0)]), (Value.int IntKind.i64 x1), (Value.int IntKind.i64 x2), (Value.int IntKind.i64 x3)] = F258 p0 x1 x2 x3 := by kernel_rfl
theorem F258_go (p0 : Option Addr) (x1 : Int) (x2 : Int) (x3 : Int) {K : KV} {w : World} (h : F258 p0 x1 x2 x3 K w) : gocall Tryz.prog 258 [(Value.agg #[(Value.pointer p0)]), (Value.int IntKind.i64 x1), (Value.int IntKind.i64 x2), (Value.int IntKind.i64 x3)] K w :=
  ⟨by kernel_rfl, calls_of_sBody (T := []) mixed Tryz.func258 (by kernel_rfl) (by rw [F258_eq]; exact h)⟩
def F259 (p0 : Option Addr) (x1 : Int) (K : KV) (w : World) : Prop :=
  gocall Tryz.prog (262) [(Value.pointer p0), (Value.int IntKind.i64 (x1))] (fun v2 w3 =>
  asT (2) (v2) (fun f4 w5 =>
  asN (2) (f4 0) (fun f6 w7 =>
  asI (IntKind.i64) (f6 0) (fun n8 w9 =>
  asI (IntKind.i64) (f6 1) (fun n10 w11 =>
  asI (IntKind.i64) (f4 1) (fun n12 w13 =>
  nw (Obj.cells #[(Value.int IntKind.i64 (0)), (Value.int IntKind.i64 (0))] 299 (0, 0)) (fun k14 w15 =>
  st (⟨k14, 0, none⟩) (Value.int IntKind.i64 (n8)) (fun w16 =>
  st (⟨k14, 1, none⟩) (Value.int IntKind.i64 (n10)) (fun w17 =>
  br (n12 == 0) (fun w18 =>
  ld (⟨k14, 0, none⟩) (fun v19 w20 =>
  asI (IntKind.i64) (v19) (fun n21 w22 =>
  nn (p0) (fun a23 w24 =>
  arAt (a23) (8) (n21) (1) (fun a25 w26 =>
  ld (a25) (fun v27 w28 =>
  asI (IntKind.i64) (v27) (fun n29 w30 =>
  ld (⟨k14, 1, none⟩) (fun v31 w32 =>
  asI (IntKind.i64) (v31) (fun n33 w34 =>
  nn (p0) (fun a35 w36 =>
  arAt (a35) (8) (n21) (1) (fun a37 w38 =>
  st (a37) (Value.int IntKind.i64 (IntKind.i64.wrap (n29 - n33))) (fun w39 =>
  K (Value.int IntKind.i64 (n12)) (w39)) (w38)) (w36)) (w34)) (w32)) (w30)) (w28)) (w26)) (w24)) (w22)) (w20)) (w18.drew)) (fun w40 =>
  K (Value.int IntKind.i64 (n12)) (w40)) (w17)) (w16)) (w15)) (w13)) (w11)) (w9)) (w7)) (w5)) (w3)) (w)
theorem F259_eq (p0 : Option Addr) (x1 : Int) : sBody Tryz.prog [] Tryz.f259 [(Value.pointer p0), (Value.int IntKind.i64 x1)] = F259 p0 x1 := by kernel_rfl
theorem F259_go (p0 : Option Addr) (x1 : Int) {K : KV} {w : World} (h : F259 p0 x1 K w) : gocall Tryz.prog 259 [(Value.pointer p0), (Value.int IntKind.i64 x1)] K w :=
  ⟨by kernel_rfl, calls_of_sBody (T := []) mixed Tryz.func259 (by kernel_rfl) (by rw [F259_eq]; exact h)⟩
def F260 (p0 : Option Addr) (x1 : Int) (K : KV) (w : World) : Prop :=
  gocall Tryz.prog (262) [(Value.pointer p0), (Value.int IntKind.i64 (x1))] (fun v2 w3 =>
  asT (2) (v2) (fun f4 w5 =>
  asN (2) (f4 0) (fun f6 w7 =>
  asI (IntKind.i64) (f6 0) (fun n8 w9 =>
  asI (IntKind.i64) (f6 1) (fun n10 w11 =>
  asI (IntKind.i64) (f4 1) (fun n12 w13 =>
  nw (Obj.cells #[(Value.int IntKind.i64 (0)), (Value.int IntKind.i64 (0))] 299 (0, 0)) (fun k14 w15 =>
  st (⟨k14, 0, none⟩) (Value.int IntKind.i64 (n8)) (fun w16 =>
  st (⟨k14, 1, none⟩) (Value.int IntKind.i64 (n10)) (fun w17 =>
  br (n12 == 0) (fun w18 =>
  ld (⟨k14, 0, none⟩) (fun v19 w20 =>
  asI (IntKind.i64) (v19) (fun n21 w22 =>
  nn (p0) (fun a23 w24 =>
  arAt (⟨a23.block, a23.off + 8, none⟩) (8) (n21) (1) (fun a25 w26 =>
  ld (a25) (fun v27 w28 =>
  asI (IntKind.i64) (v27) (fun n29 w30 =>
  ld (⟨k14, 1, none⟩) (fun v31 w32 =>
  asI (IntKind.i64) (v31) (fun n33 w34 =>
  nn (p0) (fun a35 w36 =>
  arAt (⟨a35.block, a35.off + 8, none⟩) (8) (n21) (1) (fun a37 w38 =>
  st (a37) (Value.int IntKind.i64 (IntKind.i64.wrap (n29 + n33))) (fun w39 =>
  K (Value.int IntKind.i64 (n12)) (w39)) (w38)) (w36)) (w34)) (w32)) (w30)) (w28)) (w26)) (w24)) (w22)) (w20)) (w18.drew)) (fun w40 =>
  K (Value.int IntKind.i64 (n12)) (w40)) (w17)) (w16)) (w15)) (w13)) (w11)) (w9)) (w7)) (w5)) (w3)) (w)
theorem F260_eq (p0 : Option Addr) (x1 : Int) : sBody Tryz.prog [] Tryz.f260 [(Value.pointer p0), (Value.int IntKind.i64 x1)] = F260 p0 x1 := by kernel_rfl
theorem F260_go (p0 : Option Addr) (x1 : Int) {K : KV} {w : World} (h : F260 p0 x1 K w) : gocall Tryz.prog 260 [(Value.pointer p0), (Value.int IntKind.i64 x1)] K w :=
  ⟨by kernel_rfl, calls_of_sBody (T := []) mixed Tryz.func260 (by kernel_rfl) (by rw [F260_eq]; exact h)⟩
def F261 (p0 : Option Addr) (x1 : Int) (x2 : Int) (x3 : Int) (K : KV) (w : World) : Prop :=
  br (p0.isNone) (fun w4 =>
  K (Value.int IntKind.i64 (1)) (w4)) (fun w5 =>
  br (decide (x1 < 1)) (fun w6 =>
  K (Value.int IntKind.i64 (1)) (w6)) (fun w7 =>
  br (decide (x1 > 999)) (fun w8 =>
  K (Value.int IntKind.i64 (1)) (w8)) (fun w9 =>
  gocall Tryz.prog (98) [(Value.int IntKind.i64 (x2))] (fun v10 w11 =>
  asBoo (v10) (fun b12 w13 =>
  br (!b12) (fun w14 =>
  K (Value.int IntKind.i64 (1)) (w14)) (fun w15 =>
  br (x3 == 0) (fun w16 =>
  K (Value.int IntKind.i64 (1)) (w16)) (fun w17 =>
  gocall Tryz.prog (157) [(Value.int IntKind.i64 (x3))] (fun v18 w19 =>
  asBoo (v18) (fun b20 w21 =>
  br (!b20) (fun w22 =>
  K (Value.int IntKind.i64 (1)) (w22)) (fun w23 =>
  nn (p0) (fun a24 w25 =>
  ld (⟨a24.block, a24.off + 16, none⟩) (fun v26 w27 =>
  asMap (v26) (fun p28 w29 =>
  mget (Md.full) Tryz.prog (143) (Value.map p28) (Value.int IntKind.i64 (x1)) (true) (fun v30 w31 =>
  asT (2) (v30) (fun f32 w33 =>
  asN (2) (f32 0) (fun f34 w35 =>
  asI (IntKind.i64) (f34 0) (fun n36 w37 =>
  asI (IntKind.i64) (f34 1) (fun n38 w39 =>
  asBoo (f32 1) (fun b40 w41 =>
  nw (Obj.cells #[(Value.int IntKind.i64 (0)), (Value.int IntKind.i64 (0))] 299 (0, 0)) (fun k42 w43 =>
  st (⟨k42, 0, none⟩) (Value.int IntKind.i64 (n36)) (fun w44 =>
  st (⟨k42, 1, none⟩) (Value.int IntKind.i64 (n38)) (fun w45 =>
  br (b40) (fun w46 =>
  K (Value.int IntKind.i64 (8)) (w46)) (fun w47 =>
  nn (p0) (fun a48 w49 =>
  arAt (⟨a48.block, a48.off + 8, none⟩) (8) (x2) (1) (fun a50 w51 =>
  ld (a50) (fun v52 w53 =>
  asI (IntKind.i64) (v52) (fun n54 w55 =>
  gocall Tryz.prog (165) [(Value.int IntKind.i64 (n54)), (Value.int IntKind.i64 (x3))] (fun v56 w57 =>
  asT (2) (v56) (fun f58 w59 =>
  asI (IntKind.i64) (f58 0) (fun n60 w61 =>
  asI (IntKind.i64) (f58 1) (fun n62 w63 =>
  br (n62 == 0) (fun w64 =>
  keeps (fun S65 w66 =>
  nn (p0) (fun a67 w68 =>
  ldS (S65) (⟨a67.block, a67.off + 16, none⟩) (fun v69 w70 =>
  asMap (v69) (fun p71 w72 =>
  nn (p0) (fun a73 w74 =>
  arAt (⟨a73.block, a73.off + 8, none⟩) (8) (x2) (1) (fun a75 w76 =>
  st (a75) (Value.int IntKind.i64 (n60)) (fun w77 =>
  kp (S65) (fun w78 =>
  ment (Md.full) Tryz.prog (143) (Value.map p71) (Value.int IntKind.i64 (x1)) (fun v79 w80 =>
  asT (2) (v79) (fun f81 w82 =>
  asN (2) (f81 0) (fun f83 w84 =>
  asI (IntKind.i64) (f83 0) (fun n85 w86 =>
  asI (IntKind.i64) (f83 1) (fun n87 w88 =>
  asI (IntKind.i64) (f81 1) (fun n89 w90 =>
  kp (S65) (fun w91 =>
  mest (Md.full) Tryz.prog (143) (Value.map p71) (Value.int IntKind.i64 (n89)) (Value.agg #[(Value.int IntKind.i64 (x2)), (Value.int IntKind.i64 (x3))]) (fun w92 =>
  K (Value.int IntKind.i64 (n62)) (w92)) (w91)) (w90)) (w88)) (w86)) (w84)) (w82)) (w80)) (w78)) (w77)) (w76)) (w74)) (w72)) (w70)) (w68)) (w66)) (w64.drew)) (fun w93 =>
  K (Value.int IntKind.i64 (n62)) (w93)) (w63)) (w61)) (w59)) (w57)) (w55)) (w53)) (w51)) (w49)) (w47)) (w45)) (w44)) (w43)) (w41)) (w39)) (w37)) (w35)) (w33)) (w31)) (w29)) (w27)) (w25)) (w23)) (w21)) (w19)) (w17)) (w15)) (w13)) (w11)) (w9)) (w7)) (w5)) (w)
theorem F261_eq (p0 : Option Addr) (x1 : Int) (x2 : Int) (x3 : Int) : sBody Tryz.prog [(8, [0, 1, 2, 3, 4, 5, 6, 7, 8, 9, 10, 11, 12, 13, 14, 15, 16, 17])] Tryz.f261 [(Value.pointer p0), (Value.int IntKind.i64 x1), (Value.int IntKind.i64 x2), (Value.int IntKind.i64 x3)] = F261 p0 x1 x2 x3 := by kernel_rfl
theorem F261_go (p0 : Option Addr) (x1 : Int) (x2 : Int) (x3 : Int) {K : KV} {w : World} (h : F261 p0 x1 x2 x3 K w) : gocall Tryz.prog 261 [(Value.pointer p0), (Value.int IntKind.i64 x1), (Value.int IntKind.i64 x2), (Value.int IntKind.i64 x3)] K w :=
  ⟨by kernel_rfl, calls_of_sBody (T := [(8, [0, 1, 2, 3, 4, 5, 6, 7, 8, 9, 10, 11, 12, 13, 14, 15, 16, 17])]) mixed Tryz.func261 (by kernel_rfl) (by rw [F261_eq]; exact h)⟩
def F262 (p0 : Option Addr) (x1 : Int) (K : KV) (w : World) : Prop :=
  nw (Obj.cells #[(Value.int IntKind.i64 (0)), (Value.int IntKind.i64 (0))] 299 (0, 0)) (fun k2 w3 =>
  br (p0.isNone) (fun w4 =>
  st (⟨k2, 0, none⟩) (Value.int IntKind.i64 (0)) (fun w5 =>
  st (⟨k2, 1, none⟩) (Value.int IntKind.i64 (0)) (fun w6 =>
  ld (⟨k2, 0, none⟩) (fun v7 w8 =>
  asI (IntKind.i64) (v7) (fun n9 w10 =>
  ld (⟨k2, 1, none⟩) (fun v11 w12 =>
  asI (IntKind.i64) (v11) (fun n13 w14 =>
  K (Value.tuple #[(Value.agg #[(Value.int IntKind.i64 (n9)), (Value.int IntKind.i64 (n13))]), (Value.int IntKind.i64 (1))]) (w14)) (w12)) (w10)) (w8)) (w6)) (w5)) (w4)) (fun w15 =>
  nn (p0) (fun a16 w17 =>
  ld (⟨a16.block, a16.off + 16, none⟩) (fun v18 w19 =>
  asMap (v18) (fun p20 w21 =>
  mget (Md.full) Tryz.prog (143) (Value.map p20) (Value.int IntKind.i64 (x1)) (true) (fun v22 w23 =>
  asT (2) (v22) (fun f24 w25 =>
  asN (2) (f24 0) (fun f26 w27 =>
  asI (IntKind.i64) (f26 0) (fun n28 w29 =>
  asI (IntKind.i64) (f26 1) (fun n30 w31 =>
  asBoo (f24 1) (fun b32 w33 =>
  nw (Obj.cells #[(Value.int IntKind.i64 (0)), (Value.int IntKind.i64 (0))] 299 (0, 0)) (fun k34 w35 =>
  st (⟨k34, 0, none⟩) (Value.int IntKind.i64 (n28)) (fun w36 =>
  st (⟨k34, 1, none⟩) (Value.int IntKind.i64 (n30)) (fun w37 =>
  br (!b32) (fun w38 =>
  st (⟨k2, 0, none⟩) (Value.int IntKind.i64 (0)) (fun w39 =>
  st (⟨k2, 1, none⟩) (Value.int IntKind.i64 (0)) (fun w40 =>
  ld (⟨k2, 0, none⟩) (fun v41 w42 =>
  asI (IntKind.i64) (v41) (fun n43 w44 =>
  ld (⟨k2, 1, none⟩) (fun v45 w46 =>
  asI (IntKind.i64) (v45) (fun n47 w48 =>
  K (Value.tuple #[(Value.agg #[(Value.int IntKind.i64 (n43)), (Value.int IntKind.i64 (n47))]), (Value.int IntKind.i64 (6))]) (w48)) (w46)) (w44)) (w42)) (w40)) (w39)) (w38)) (fun w49 =>
  nn (p0) (fun a50 w51 =>
  ld (⟨a50.block, a50.off + 16, none⟩) (fun v52 w53 =>
  asMap (v52) (fun p54 w55 =>
  bdel (Md.full) Tryz.prog (#[143, 3]) (0) (Value.map p54) (Value.int IntKind.i64 (x1)) (fun v56 w57 =>
  ld (⟨k34, 0, none⟩) (fun v58 w59 =>
  asI (IntKind.i64) (v58) (fun n60 w61 =>
  ld (⟨k34, 1, none⟩) (fun v62 w63 =>
  asI (IntKind.i64) (v62) (fun n64 w65 =>
  st (⟨k2, 0, none⟩) (Value.int IntKind.i64 (n60)) (fun w66 =>
  st (⟨k2, 1, none⟩) (Value.int IntKind.i64 (n64)) (fun w67 =>
  ld (⟨k2, 0, none⟩) (fun v68 w69 =>
  asI (IntKind.i64) (v68) (fun n70 w71 =>
  ld (⟨k2, 1, none⟩) (fun v72 w73 =>
  asI (IntKind.i64) (v72) (fun n74 w75 =>
  K (Value.tuple #[(Value.agg #[(Value.int IntKind.i64 (n70)), (Value.int IntKind.i64 (n74))]), (Value.int IntKind.i64 (0))]) (w75)) (w73)) (w71)) (w69)) (w67)) (w66)) (w65)) (w63)) (w61)) (w59)) (w57)) (w55)) (w53)) (w51)) (w49)) (w37)) (w36)) (w35)) (w33)) (w31)) (w29)) (w27)) (w25)) (w23)) (w21)) (w19)) (w17)) (w15)) (w3)) (w)
theorem F262_eq (p0 : Option Addr) (x1 : Int) : sBody Tryz.prog [] Tryz.f262 [(Value.pointer p0), (Value.int IntKind.i64 x1)] = F262 p0 x1 := by kernel_rfl
theorem F262_go (p0 : Option Addr) (x1 : Int) {K : KV} {w : World} (h : F262 p0 x1 K w) : gocall Tryz.prog 262 [(Value.pointer p0), (Value.int IntKind.i64 x1)] K w :=
  ⟨by kernel_rfl, calls_of_sBody (T := []) mixed Tryz.func262 (by kernel_rfl) (by rw [F262_eq]; exact h)⟩
end Go.Proofs.YtjckakeolmbidaaGreatDoor
