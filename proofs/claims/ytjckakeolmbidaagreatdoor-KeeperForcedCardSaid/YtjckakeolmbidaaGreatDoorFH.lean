/- The shallow readings of some functions of the program (printed by a program of ours out of the model's own evaluation) and, for each, the proof that it is one. Conditions: none. -/
import Derived.Test.YtjckakeolmbidaaGreatDoorFS
set_option maxRecDepth 100000
set_option linter.unusedVariables false
namespace Go.Proofs.YtjckakeolmbidaaGreatDoor
open Go Go.Sh
def F27 (x0 : Int) (x1 : Int) (x2 : Int) (K : KV) (w : World) : Prop :=
  br (decide (x0 < 4)) (fun w3 =>
  K (Value.pointer none) (w3)) (fun w4 =>
  br (decide (x0 > 6)) (fun w5 =>
  K (Value.pointer none) (w5)) (fun w6 =>
  gocall Tryz.prog (65) [(Value.int IntKind.i64 (x2))] (fun v7 w8 =>
  asPtr (v7) (fun p9 w10 =>
  nw (Obj.cells #[(Value.int IntKind.i64 (x0)), (Value.int IntKind.i64 (x1)), (Value.pointer p9), (Value.pointer none), (Value.map none)] 126 (0, 0)) (fun k11 w12 =>
  gocall Tryz.prog (82) [(Value.pointer (some ⟨k11, 0, none⟩))] (fun v13 w14 =>
  asT (0) (v13) (fun f15 w16 =>
  K (Value.pointer (some ⟨k11, 0, none⟩)) (w16)) (w14)) (w12)) (w10)) (w8)) (w6)) (w4)) (w)
theorem F27_eq (x0 : Int) (x1 : Int) (x2 : Int) : sBody Tryz.prog [] Tryz.f27 [(Value.int IntKind.i64 x0), (Value.int IntKind.i64 x1), (Value.int IntKind.i64 x2)] = F27 x0 x1 x2 := by kernel_rfl
theorem F27_go (x0 : Int) (x1 : Int) (x2 : Int) {K : KV} {w : World} (h : F27 x0 x1 x2 K w) : gocall Tryz.prog 27 [(Value.int IntKind.i64 x0), (Value.int IntKind.i64 x1), (Value.int IntKind.i64 x2)] K w :=
  ⟨by kernel_rfl, calls_of_sBody (T := []) mixed Tryz.func27 (by kernel_rfl) (by rw [F27_eq]; exact h)⟩
def F39 (p0 : Option Addr) (K : KV) (w : World) : Prop :=
  br (p0.isSome) (fun w1 =>
  nn (p0) (fun a2 w3 =>
  ld (⟨a2.block, a2.off + 2, none⟩) (fun v4 w5 =>
  asPtr (v4) (fun p6 w7 =>
  gocall Tryz.prog (81) [(Value.pointer p6)] (fun v8 w9 =>
  asBoo (v8) (fun b10 w11 =>
  K (Value.bool (b10)) (w11)) (w9)) (w7)) (w5)) (w3)) (w1)) (fun w12 =>
  K (Value.bool (false)) (w12)) (w)
theorem F39_eq (p0 : Option Addr) : sBody Tryz.prog [] Tryz.f39 [(Value.pointer p0)] = F39 p0 := by kernel_rfl
theorem F39_go (p0 : Option Addr) {K : KV} {w : World} (h : F39 p0 K w) : gocall Tryz.prog 39 [(Value.pointer p0)] K w :=
  ⟨by kernel_rfl, calls_of_sBody (T := []) mixed Tryz.func39 (by kernel_rfl) (by rw [F39_eq]; exact h)⟩
def F34 (p0 : Option Addr) (x1 : Int) (x2 : Int) (x3 : Int) (x4 : Int) (x5 : Int) (x6 : Int) (x7 : Int) (K : KV) (w : World) : Prop :=
  nw (Obj.cells #[(Value.int IntKind.i64 (x1)), (Value.int IntKind.i64 (x2)), (Value.int IntKind.i64 (x3)), (Value.int IntKind.i64 (x4)), (Value.int IntKind.i64 (x5)), (Value.int IntKind.i64 (x6)), (Value.int IntKind.i64 (x7))] 28 (0, 0)) (fun k8 w9 =>
  keeps (fun S10 w11 =>
  br (p0.isNone) (fun w12 =>
  K (Value.slice none (0) (0)) (w12)) (fun w13 =>
  gocall Tryz.prog (39) [(Value.pointer p0)] (fun v14 w15 =>
  asBoo (v14) (fun b16 w17 =>
  kp (S10) (fun w18 =>
  br (b16) (fun w19 =>
  K (Value.slice none (0) (0)) (w19)) (fun w20 =>
  ldS (S10) (⟨k8, 2, none⟩) (fun v21 w22 =>
  asI (IntKind.i64) (v21) (fun n23 w24 =>
  nn (p0) (fun a25 w26 =>
  ldS (S10) (a25) (fun v27 w28 =>
  asI (IntKind.i64) (v27) (fun n29 w30 =>
  br (n23 != n29) (fun w31 =>
  K (Value.slice none (0) (0)) (w31)) (fun w32 =>
  ldS (S10) (⟨k8, 1, none⟩) (fun v33 w34 =>
  asI (IntKind.i64) (v33) (fun n35 w36 =>
  br (n35 != 0) (fun w37 =>
  K (Value.slice none (0) (0)) (w37)) (fun w38 =>
  ldS (S10) (⟨k8, 3, none⟩) (fun v39 w40 =>
  asI (IntKind.i64) (v39) (fun n41 w42 =>
  br (decide (n41 < 1)) (fun w43 =>
  K (Value.slice none (0) (0)) (w43)) (fun w44 =>
  ldS (S10) (⟨k8, 3, none⟩) (fun v45 w46 =>
  asI (IntKind.i64) (v45) (fun n47 w48 =>
  br (decide (n47 > 999)) (fun w49 =>
  K (Value.slice none (0) (0)) (w49)) (fun w50 =>
  ld (⟨k8, 0, none⟩) (fun v51 w52 =>
  asI (IntKind.i64) (v51) (fun n53 w54 =>
  br (n53 == 1) (fun w55 =>
  ld (⟨k8, 3, none⟩) (fun v56 w57 =>
  asI (IntKind.i64) (v56) (fun n58 w59 =>
  ld (⟨k8, 5, none⟩) (fun v60 w61 =>
  asI (IntKind.i64) (v60) (fun n62 w63 =>
  gocall Tryz.prog (87) [(Value.pointer p0), (Value.int IntKind.i64 (n58)), (Value.int IntKind.i64 (n62))] (fun v64 w65 =>
  asI (IntKind.i64) (v64) (fun n66 w67 =>
  br (n66 == 0) (fun w68 =>
  K (Value.slice none (0) (0)) (w68)) (fun w69 =>
  nn (p0) (fun a70 w71 =>
  ld (a70) (fun v72 w73 =>
  asI (IntKind.i64) (v72) (fun n74 w75 =>
  ld (⟨k8, 3, none⟩) (fun v76 w77 =>
  asI (IntKind.i64) (v76) (fun n78 w79 =>
  ld (⟨k8, 4, none⟩) (fun v80 w81 =>
  asI (IntKind.i64) (v80) (fun n82 w83 =>
  nw (Obj.cells #[(Value.int IntKind.i64 (n66)), (Value.int IntKind.i64 (n74)), (Value.int IntKind.i64 (0)), (Value.int IntKind.i64 (n78)), (Value.int IntKind.i64 (n82)), (Value.int IntKind.i64 (0)), (Value.int IntKind.i64 (0))] 28 (0, 0)) (fun k84 w85 =>
  K (Value.slice (some ⟨k84, 0, none⟩) (1) (1)) (w85)) (w83)) (w81)) (w79)) (w77)) (w75)) (w73)) (w71)) (w69.drew)) (w67)) (w65)) (w63)) (w61)) (w59)) (w57)) (w55)) (fun w86 =>
  br (n53 == 4) (fun w87 =>
  ld (⟨k8, 3, none⟩) (fun v88 w89 =>
  asI (IntKind.i64) (v88) (fun n90 w91 =>
  gocall Tryz.prog (88) [(Value.pointer p0), (Value.int IntKind.i64 (n90))] (fun v92 w93 =>
  asI (IntKind.i64) (v92) (fun n94 w95 =>
  br (n94 == 0) (fun w96 =>
  K (Value.slice none (0) (0)) (w96)) (fun w97 =>
  nn (p0) (fun a98 w99 =>
  ld (a98) (fun v100 w101 =>
  asI (IntKind.i64) (v100) (fun n102 w103 =>
  ld (⟨k8, 3, none⟩) (fun v104 w105 =>
  asI (IntKind.i64) (v104) (fun n106 w107 =>
  ld (⟨k8, 4, none⟩) (fun v108 w109 =>
  asI (IntKind.i64) (v108) (fun n110 w111 =>
  nw (Obj.cells #[(Value.int IntKind.i64 (n94)), (Value.int IntKind.i64 (n102)), (Value.int IntKind.i64 (0)), (Value.int IntKind.i64 (n106)), (Value.int IntKind.i64 (n110)), (Value.int IntKind.i64 (0)), (Value.int IntKind.i64 (0))] 28 (0, 0)) (fun k112 w113 =>
  K (Value.slice (some ⟨k112, 0, none⟩) (1) (1)) (w113)) (w111)) (w109)) (w107)) (w105)) (w103)) (w101)) (w99)) (w97.drew)) (w95)) (w93)) (w91)) (w89)) (w87)) (fun w114 =>
  K (Value.slice none (0) (0)) (w114)) (w86)) (w54)) (w52)) (w50)) (w48)) (w46)) (w44)) (w42)) (w40)) (w38)) (w36)) (w34)) (w32)) (w30)) (w28)) (w26)) (w24)) (w22)) (w20)) (w18)) (w17)) (w15)) (w13)) (w11)) (w9.drew)) (w)
theorem F34_eq (p0 : Option Addr) (x1 : Int) (x2 : Int) (x3 : Int) (x4 : Int) (x5 : Int) (x6 : Int) (x7 : Int) : sBody Tryz.prog [(1, [0, 1, 2, 3, 4, 5, 6, 7, 8, 9, 10, 11, 12, 13, 14, 15, 16, 17, 18, 19, 20, 21, 22, 23, 24, 25, 26, 27, 28, 29])] Tryz.f34 [(Value.pointer p0), (Value.agg #[(Value.int IntKind.i64 x1), (Value.int IntKind.i64 x2), (Value.int IntKind.i64 x3), (Value.int IntKind.i64 x4), (Value.int IntKind.i64 x5), (Value.int IntKind.i64 x6), (Value.int IntKind.i64 x7)])] = F34 p0 x1 x2 x3 x4 x5 x6 x7 := by kernel_rfl
theorem F34_go (p0 : Option Addr) (x1 : Int) (x2 : Int) (x3 : Int) (x4 : Int) (x5 : Int) (x6 : Int) (x7 : Int) {K : KV} {w : World} (h : F34 p0 x1 x2 x3 x4 x5 x6 x7 K w) : gocall Tryz.prog 34 [(Value.pointer p0), (Value.agg #[(Value.int IntKind.i64 x1), (Value.int IntKind.i64 x2), (Value.int IntKind.i64 x3), (Value.int IntKind.i64 x4), (Value.int IntKind.i64 x5), (Value.int IntKind.i64 x6), (Value.int IntKind.i64 x7)])] K w :=
  ⟨by kernel_rfl, calls_of_sBody (T := [(1, [0, 1, 2, 3, 4, 5, 6, 7, 8, 9, 10, 11, 12, 13, 14, 15, 16, 17, 18, 19, 20, 21, 22, 23, 24, 25, 26, 27, 28, 29])]) mixed Tryz.func34 (by kernel_rfl) (by rw [F34_eq]; exact h)⟩
def F36 (p0 : Option Addr) (x1 : Int) (K : KV) (w : World) : Prop :=
  br (p0.isNone) (fun w2 =>
  K (Value.int IntKind.i64 (0)) (w2)) (fun w3 =>
  nn (p0) (fun a4 w5 =>
  ld (⟨a4.block, a4.off + 4, none⟩) (fun v6 w7 =>
  asMap (v6) (fun p8 w9 =>
  mget (Md.full) Tryz.prog (124) (Value.map p8) (Value.int IntKind.i64 (x1)) (false) (fun v10 w11 =>
  asI (IntKind.i64) (v10) (fun n12 w13 =>
  K (Value.int IntKind.i64 (n12)) (w13)) (w11)) (w9)) (w7)) (w5)) (w3)) (w)
theorem F36_eq (p0 : Option Addr) (x1 : Int) : sBody Tryz.prog [] Tryz.f36 [(Value.pointer p0), (Value.int IntKind.i64 x1)] = F36 p0 x1 := by kernel_rfl
theorem F36_go (p0 : Option Addr) (x1 : Int) {K : KV} {w : World} (h : F36 p0 x1 K w) : gocall Tryz.prog 36 [(Value.pointer p0), (Value.int IntKind.i64 x1)] K w :=
  ⟨by kernel_rfl, calls_of_sBody (T := []) mixed Tryz.func36 (by kernel_rfl) (by rw [F36_eq]; exact h)⟩
def F38 (p0 : Option Addr) (K : KV) (w : World) : Prop :=
  br (p0.isNone) (fun w1 =>
  K (Value.int IntKind.i64 (0)) (w1)) (fun w2 =>
  nn (p0) (fun a3 w4 =>
  ld (⟨a3.block, a3.off + 3, none⟩) (fun v5 w6 =>
  asPtr (v5) (fun p7 w8 =>
  gocall Tryz.prog (89) [(Value.pointer p7)] (fun v9 w10 =>
  asI (IntKind.i64) (v9) (fun n11 w12 =>
  K (Value.int IntKind.i64 (n11)) (w12)) (w10)) (w8)) (w6)) (w4)) (w2)) (w)
theorem F38_eq (p0 : Option Addr) : sBody Tryz.prog [] Tryz.f38 [(Value.pointer p0)] = F38 p0 := by kernel_rfl
theorem F38_go (p0 : Option Addr) {K : KV} {w : World} (h : F38 p0 K w) : gocall Tryz.prog 38 [(Value.pointer p0)] K w :=
  ⟨by kernel_rfl, calls_of_sBody (T := []) mixed Tryz.func38 (by kernel_rfl) (by rw [F38_eq]; exact h)⟩
def F29  (K : KV) (w : World) : Prop :=
  gocall Tryz.prog (27) [(Value.int IntKind.i64 (4)), (Value.int IntKind.i64 (5)), (Value.int IntKind.i64 (20))] (fun v0 w1 =>
  asPtr (v0) (fun p2 w3 =>
  br (p2.isNone) (fun w4 =>
  K (Value.bool (false)) (w4)) (fun w5 =>
  gocall Tryz.prog (34) [(Value.pointer p2), (Value.agg #[(Value.int IntKind.i64 (4)), (Value.int IntKind.i64 (0)), (Value.int IntKind.i64 (4)), (Value.int IntKind.i64 (7)), (Value.int IntKind.i64 (0)), (Value.int IntKind.i64 (0)), (Value.int IntKind.i64 (0))])] (fun v6 w7 =>
  asSl (v6) (fun p8 k9 k10 w11 =>
  gocall Tryz.prog (34) [(Value.pointer p2), (Value.agg #[(Value.int IntKind.i64 (1)), (Value.int IntKind.i64 (0)), (Value.int IntKind.i64 (4)), (Value.int IntKind.i64 (7)), (Value.int IntKind.i64 (0)), (Value.int IntKind.i64 (1)), (Value.int IntKind.i64 (0))])] (fun v12 w13 =>
  asSl (v12) (fun p14 k15 k16 w17 =>
  br ((↑k9 : Int) == 1) (fun w18 =>
  slAt (p8) (k9) (0) (7) (fun a19 w20 =>
  ld (a19) (fun v21 w22 =>
  asI (IntKind.i64) (v21) (fun n23 w24 =>
  br (n23 == 5) (fun w25 =>
  br ((↑k15 : Int) == 1) (fun w26 =>
  slAt (p14) (k15) (0) (7) (fun a27 w28 =>
  ld (a27) (fun v29 w30 =>
  asI (IntKind.i64) (v29) (fun n31 w32 =>
  br (n31 == 3) (fun w33 =>
  gocall Tryz.prog (36) [(Value.pointer p2), (Value.int IntKind.i64 (7))] (fun v34 w35 =>
  asI (IntKind.i64) (v34) (fun n36 w37 =>
  K (Value.bool (n36 == 3)) (w37)) (w35)) (w33)) (fun w38 =>
  K (Value.bool (false)) (w38)) (w32)) (w30)) (w28)) (w26)) (fun w39 =>
  K (Value.bool (false)) (w39)) (w25)) (fun w40 =>
  K (Value.bool (false)) (w40)) (w24)) (w22)) (w20)) (w18)) (fun w41 =>
  K (Value.bool (false)) (w41)) (w17)) (w13)) (w11)) (w7)) (w5)) (w3)) (w1)) (w)
theorem F29_eq  : sBody Tryz.prog [] Tryz.f29 [] = F29  := by kernel_rfl
theorem F29_go  {K : KV} {w : World} (h : F29  K w) : gocall Tryz.prog 29 [] K w :=
  ⟨by kernel_rfl, calls_of_sBody (T := []) mixed Tryz.func29 (by kernel_rfl) (by rw [F29_eq]; exact h)⟩
def F82 (p0 : Option Addr) (K : KV) (w : World) : Prop :=
  nn (p0) (fun a1 w2 =>
  ld (⟨a1.block, a1.off + 1, none⟩) (fun v3 w4 =>
  asI (IntKind.i64) (v3) (fun n5 w6 =>
  gocall Tryz.prog (124) [(Value.int IntKind.i64 (n5))] (fun v7 w8 =>
  asPtr (v7) (fun p9 w10 =>
  nw (Obj.map #[] 0) (fun k11 w12 =>
  nn (p0) (fun a13 w14 =>
  st (⟨a13.block, a13.off + 3, none⟩) (Value.pointer p9) (fun w15 =>
  nn (p0) (fun a16 w17 =>
  st (⟨a16.block, a16.off + 4, none⟩) (Value.map (some k11)) (fun w18 =>
  K (Value.tuple #[]) (w18)) (w17)) (w15)) (w14)) (w12)) (w10)) (w8)) (w6)) (w4)) (w2)) (w)
theorem F82_eq (p0 : Option Addr) : sBody Tryz.prog [] Tryz.f82 [(Value.pointer p0)] = F82 p0 := by kernel_rfl
theorem F82_go (p0 : Option Addr) {K : KV} {w : World} (h : F82 p0 K w) : gocall Tryz.prog 82 [(Value.pointer p0)] K w :=
  ⟨by kernel_rfl, calls_of_sBody (T := []) mixed Tryz.func82 (by kernel_rfl) (by rw [F82_eq]; exact h)⟩
def F87 (p0 : Option Addr) (x1 : Int) (x2 : Int) (K : KV) (w : World) : Prop :=
  nn (p0) (fun a3 w4 =>
  ld (⟨a3.block, a3.off + 4, none⟩) (fun v5 w6 =>
  asMap (v5) (fun p7 w8 =>
  mget (Md.full) Tryz.prog (124) (Value.map p7) (Value.int IntKind.i64 (x1)) (false) (fun v9 w10 =>
  asI (IntKind.i64) (v9) (fun n11 w12 =>
  br (n11 == 1) (fun w13 =>
  K (Value.int IntKind.i64 (2)) (w13)) (fun w14 =>
  br (n11 == 0) (fun w15 =>
  nn (p0) (fun a16 w17 =>
  ld (⟨a16.block, a16.off + 3, none⟩) (fun v18 w19 =>
  asPtr (v18) (fun p20 w21 =>
  gocall Tryz.prog (126) [(Value.pointer p20), (Value.int IntKind.i64 (x1)), (Value.int IntKind.i64 (x2))] (fun v22 w23 =>
  asI (IntKind.i64) (v22) (fun n24 w25 =>
  br (n24 != 0) (fun w26 =>
  gocall Tryz.prog (128) [(Value.pointer p0), (Value.agg #[(Value.string ({ data := #[99, 97, 110, 116] })), (Value.int IntKind.i64 (x1)), (Value.slice none (0) (0))])] (fun v27 w28 =>
  asBoo (v27) (fun b29 w30 =>
  br (b29) (fun w31 =>
  K (Value.int IntKind.i64 (3)) (w31)) (fun w32 =>
  K (Value.int IntKind.i64 (0)) (w32)) (w30)) (w28)) (w26)) (fun w33 =>
  nn (p0) (fun a34 w35 =>
  ld (⟨a34.block, a34.off + 3, none⟩) (fun v36 w37 =>
  asPtr (v36) (fun p38 w39 =>
  gocall Tryz.prog (127) [(Value.pointer p38), (Value.int IntKind.i64 (x1))] (fun v40 w41 =>
  asI (IntKind.i64) (v40) (fun n42 w43 =>
  nw (Obj.cells #[(Value.int IntKind.i64 (x2))] 3 (0, 0)) (fun k44 w45 =>
  gocall Tryz.prog (128) [(Value.pointer p0), (Value.agg #[(Value.string ({ data := #[100, 105, 100] })), (Value.int IntKind.i64 (x1)), (Value.slice (some ⟨k44, 0, none⟩) (1) (1))])] (fun v46 w47 =>
  asBoo (v46) (fun b48 w49 =>
  br (b48) (fun w50 =>
  K (Value.int IntKind.i64 (2)) (w50)) (fun w51 =>
  K (Value.int IntKind.i64 (0)) (w51)) (w49)) (w47)) (w45)) (w43)) (w41)) (w39)) (w37)) (w35)) (w33)) (w25)) (w23)) (w21)) (w19)) (w17)) (w15)) (fun w52 =>
  K (Value.int IntKind.i64 (3)) (w52)) (w14)) (w12)) (w10)) (w8)) (w6)) (w4)) (w)
theorem F87_eq (p0 : Option Addr) (x1 : Int) (x2 : Int) : sBody Tryz.prog [] Tryz.f87 [(Value.pointer p0), (Value.int IntKind.i64 x1), (Value.int IntKind.i64 x2)] = F87 p0 x1 x2 := by kernel_rfl
theorem F87_go (p0 : Option Addr) (x1 : Int) (x2 : Int) {K : KV} {w : World} (h : F87 p0 x1 x2 K w) : gocall Tryz.prog 87 [(Value.pointer p0), (Value.int IntKind.i64 x1), (Value.int IntKind.i64 x2)] K w :=
  ⟨by kernel_rfl, calls_of_sBody (T := []) mixed Tryz.func87 (by kernel_rfl) (by rw [F87_eq]; exact h)⟩
def F88 (p0 : Option Addr) (x1 : Int) (K : KV) (w : World) : Prop :=
  nn (p0) (fun a2 w3 =>
  ld (⟨a2.block, a2.off + 4, none⟩) (fun v4 w5 =>
  asMap (v4) (fun p6 w7 =>
  mget (Md.full) Tryz.prog (124) (Value.map p6) (Value.int IntKind.i64 (x1)) (false) (fun v8 w9 =>
  asI (IntKind.i64) (v8) (fun n10 w11 =>
  br (n10 == 0) (fun w12 =>
  gocall Tryz.prog (128) [(Value.pointer p0), (Value.agg #[(Value.string ({ data := #[117, 110, 100, 105, 100] })), (Value.int IntKind.i64 (x1)), (Value.slice none (0) (0))])] (fun v13 w14 =>
  asBoo (v13) (fun b15 w16 =>
  br (!b15) (fun w17 =>
  K (Value.int IntKind.i64 (0)) (w17)) (fun w18 =>
  K (Value.int IntKind.i64 (5)) (w18)) (w16)) (w14)) (w12)) (fun w19 =>
  br (n10 == 1) (fun w20 =>
  gocall Tryz.prog (128) [(Value.pointer p0), (Value.agg #[(Value.string ({ data := #[117, 110, 100, 105, 100] })), (Value.int IntKind.i64 (x1)), (Value.slice none (0) (0))])] (fun v21 w22 =>
  asBoo (v21) (fun b23 w24 =>
  br (!b23) (fun w25 =>
  K (Value.int IntKind.i64 (0)) (w25)) (fun w26 =>
  K (Value.int IntKind.i64 (5)) (w26)) (w24)) (w22)) (w20)) (fun w27 =>
  K (Value.int IntKind.i64 (5)) (w27)) (w19)) (w11)) (w9)) (w7)) (w5)) (w3)) (w)
theorem F88_eq (p0 : Option Addr) (x1 : Int) : sBody Tryz.prog [] Tryz.f88 [(Value.pointer p0), (Value.int IntKind.i64 x1)] = F88 p0 x1 := by kernel_rfl
theorem F88_go (p0 : Option Addr) (x1 : Int) {K : KV} {w : World} (h : F88 p0 x1 K w) : gocall Tryz.prog 88 [(Value.pointer p0), (Value.int IntKind.i64 x1)] K w :=
  ⟨by kernel_rfl, calls_of_sBody (T := []) mixed Tryz.func88 (by kernel_rfl) (by rw [F88_eq]; exact h)⟩
def F84 (p0 : Option Addr) (s1 : ByteArray) (x2 : Int) (a3 : Option Addr) (n3 : Nat) (c3 : Nat) (K : KV) (w : World) : Prop :=
  nw (Obj.cells #[(Value.string (s1)), (Value.int IntKind.i64 (x2)), (Value.slice a3 (n3) (c3))] 105 (0, 0)) (fun k6 w7 =>
  ld (⟨k6, 0, none⟩) (fun v8 w9 =>
  asStr (v8) (fun s10 w11 =>
  br (strEq s10 { data := #[100, 105, 100] }) (fun w12 =>
  ld (⟨k6, 2, none⟩) (fun v13 w14 =>
  asSl (v13) (fun p15 k16 k17 w18 =>
  loop (X := (Int) × Unit) (0, ()) (fun x19 rec20 w21 =>
  br (decide (x19.fst < (↑k16 : Int))) (fun w22 =>
  slAt (p15) (k16) (x19.fst) (1) (fun a23 w24 =>
  ld (a23) (fun v25 w26 =>
  asI (IntKind.i64) (v25) (fun n27 w28 =>
  nn (p0) (fun a29 w30 =>
  ld (⟨a29.block, a29.off + 3, none⟩) (fun v31 w32 =>
  asPtr (v31) (fun p33 w34 =>
  ld (⟨k6, 1, none⟩) (fun v35 w36 =>
  asI (IntKind.i64) (v35) (fun n37 w38 =>
  gocall Tryz.prog (126) [(Value.pointer p33), (Value.int IntKind.i64 (n37)), (Value.int IntKind.i64 (n27))] (fun v39 w40 =>
  asI (IntKind.i64) (v39) (fun n41 w42 =>
  rec20 (IntKind.i64.wrap (x19.fst + 1), ()) (w42)) (w40)) (w38)) (w36)) (w34)) (w32)) (w30)) (w28.drew)) (w26)) (w24)) (w22)) (fun w43 =>
  nn (p0) (fun a44 w45 =>
  ld (⟨a44.block, a44.off + 4, none⟩) (fun v46 w47 =>
  asMap (v46) (fun p48 w49 =>
  ld (⟨k6, 1, none⟩) (fun v50 w51 =>
  asI (IntKind.i64) (v50) (fun n52 w53 =>
  mset (Md.full) Tryz.prog (124) (Value.map p48) (Value.int IntKind.i64 (n52)) (Value.int IntKind.i64 (1)) (fun w54 =>
  K (Value.tuple #[]) (w54)) (w53)) (w51)) (w49)) (w47)) (w45)) (w43.drew)) (w21)) (w18)) (w14)) (w12)) (fun w55 =>
  br (strEq s10 { data := #[99, 97, 110, 116] }) (fun w56 =>
  nn (p0) (fun a57 w58 =>
  ld (⟨a57.block, a57.off + 4, none⟩) (fun v59 w60 =>
  asMap (v59) (fun p61 w62 =>
  ld (⟨k6, 1, none⟩) (fun v63 w64 =>
  asI (IntKind.i64) (v63) (fun n65 w66 =>
  mset (Md.full) Tryz.prog (124) (Value.map p61) (Value.int IntKind.i64 (n65)) (Value.int IntKind.i64 (2)) (fun w67 =>
  K (Value.tuple #[]) (w67)) (w66)) (w64)) (w62)) (w60)) (w58)) (w56.drew)) (fun w68 =>
  br (strEq s10 { data := #[117, 110, 100, 105, 100] }) (fun w69 =>
  nn (p0) (fun a70 w71 =>
  ld (⟨a70.block, a70.off + 3, none⟩) (fun v72 w73 =>
  asPtr (v72) (fun p74 w75 =>
  ld (⟨k6, 1, none⟩) (fun v76 w77 =>
  asI (IntKind.i64) (v76) (fun n78 w79 =>
  gocall Tryz.prog (127) [(Value.pointer p74), (Value.int IntKind.i64 (n78))] (fun v80 w81 =>
  asI (IntKind.i64) (v80) (fun n82 w83 =>
  nn (p0) (fun a84 w85 =>
  ld (⟨a84.block, a84.off + 4, none⟩) (fun v86 w87 =>
  asMap (v86) (fun p88 w89 =>
  ld (⟨k6, 1, none⟩) (fun v90 w91 =>
  asI (IntKind.i64) (v90) (fun n92 w93 =>
  mset (Md.full) Tryz.prog (124) (Value.map p88) (Value.int IntKind.i64 (n92)) (Value.int IntKind.i64 (3)) (fun w94 =>
  K (Value.tuple #[]) (w94)) (w93)) (w91)) (w89)) (w87)) (w85)) (w83.drew)) (w81)) (w79)) (w77)) (w75)) (w73)) (w71)) (w69.drew)) (fun w95 =>
  K (Value.tuple #[]) (w95)) (w68)) (w55)) (w11)) (w9)) (w7)) (w)
theorem F84_eq (p0 : Option Addr) (s1 : ByteArray) (x2 : Int) (a3 : Option Addr) (n3 : Nat) (c3 : Nat) : sBody Tryz.prog [] Tryz.f84 [(Value.pointer p0), (Value.agg #[(Value.string s1), (Value.int IntKind.i64 x2), (Value.slice a3 n3 c3)])] = F84 p0 s1 x2 a3 n3 c3 := by kernel_rfl
theorem F84_go (p0 : Option Addr) (s1 : ByteArray) (x2 : Int) (a3 : Option Addr) (n3 : Nat) (c3 : Nat) {K : KV} {w : World} (h : F84 p0 s1 x2 a3 n3 c3 K w) : gocall Tryz.prog 84 [(Value.pointer p0), (Value.agg #[(Value.string s1), (Value.int IntKind.i64 x2), (Value.slice a3 n3 c3)])] K w :=
  ⟨by kernel_rfl, calls_of_sBody (T := []) mixed Tryz.func84 (by kernel_rfl) (by rw [F84_eq]; exact h)⟩
def F89 (p0 : Option Addr) (K : KV) (w : World) : Prop :=
  br (p0.isNone) (fun w1 =>
  K (Value.int IntKind.i64 (0)) (w1)) (fun w2 =>
  nn (p0) (fun a3 w4 =>
  ld (a3) (fun v5 w6 =>
  asI (IntKind.i64) (v5) (fun n7 w8 =>
  K (Value.int IntKind.i64 (n7)) (w8)) (w6)) (w4)) (w2)) (w)
theorem F89_eq (p0 : Option Addr) : sBody Tryz.prog [] Tryz.f89 [(Value.pointer p0)] = F89 p0 := by kernel_rfl
theorem F89_go (p0 : Option Addr) {K : KV} {w : World} (h : F89 p0 K w) : gocall Tryz.prog 89 [(Value.pointer p0)] K w :=
  ⟨by kernel_rfl, calls_of_sBody (T := []) mixed Tryz.func89 (by kernel_rfl) (by rw [F89_eq]; exact h)⟩
def F124 (x0 : Int) (K : KV) (w : World) : Prop :=
  nw (Obj.map #[] 0) (fun k1 w2 =>
  nw (Obj.cells #[(Value.int IntKind.i64 (if (if 1000000000 < x0 then 1000000000 else x0) > 0 then if 1000000000 < x0 then 1000000000 else x0 else 0)), (Value.map (some k1))] 177 (0, 0)) (fun k3 w4 =>
  K (Value.pointer (some ⟨k3, 0, none⟩)) (w4)) (w2)) (w)
theorem F124_eq (x0 : Int) : sBody Tryz.prog [] Tryz.f124 [(Value.int IntKind.i64 x0)] = F124 x0 := by kernel_rfl
theorem F124_go (x0 : Int) {K : KV} {w : World} (h : F124 x0 K w) : gocall Tryz.prog 124 [(Value.int IntKind.i64 x0)] K w :=
  ⟨by kernel_rfl, calls_of_sBody (T := []) mixed Tryz.func124 (by kernel_rfl) (by rw [F124_eq]; exact h)⟩
def F126 (p0 : Option Addr) (x1 : Int) (x2 : Int) (K : KV) (w : World) : Prop :=
  br (p0.isNone) (fun w3 =>
  K (Value.int IntKind.i64 (1)) (w3)) (fun w4 =>
  br (decide (x1 < 1)) (fun w5 =>
  K (Value.int IntKind.i64 (1)) (w5)) (fun w6 =>
  br (decide (x1 > 999)) (fun w7 =>
  K (Value.int IntKind.i64 (1)) (w7)) (fun w8 =>
  br (x2 == 0) (fun w9 =>
  K (Value.int IntKind.i64 (1)) (w9)) (fun w10 =>
  gocall Tryz.prog (157) [(Value.int IntKind.i64 (x2))] (fun v11 w12 =>
  asBoo (v11) (fun b13 w14 =>
  br (!b13) (fun w15 =>
  K (Value.int IntKind.i64 (1)) (w15)) (fun w16 =>
  nn (p0) (fun a17 w18 =>
  ld (⟨a17.block, a17.off + 1, none⟩) (fun v19 w20 =>
  asMap (v19) (fun p21 w22 =>
  mget (Md.full) Tryz.prog (124) (Value.map p21) (Value.int IntKind.i64 (x1)) (false) (fun v23 w24 =>
  asI (IntKind.i64) (v23) (fun n25 w26 =>
  br (decide (n25 > 0)) (fun w27 =>
  K (Value.int IntKind.i64 (8)) (w27)) (fun w28 =>
  nn (p0) (fun a29 w30 =>
  ld (a29) (fun v31 w32 =>
  asI (IntKind.i64) (v31) (fun n33 w34 =>
  gocall Tryz.prog (165) [(Value.int IntKind.i64 (n33)), (Value.int IntKind.i64 (x2))] (fun v35 w36 =>
  asT (2) (v35) (fun f37 w38 =>
  asI (IntKind.i64) (f37 0) (fun n39 w40 =>
  asI (IntKind.i64) (f37 1) (fun n41 w42 =>
  br (n41 == 0) (fun w43 =>
  nn (p0) (fun a44 w45 =>
  ld (⟨a44.block, a44.off + 1, none⟩) (fun v46 w47 =>
  asMap (v46) (fun p48 w49 =>
  nn (p0) (fun a50 w51 =>
  st (a50) (Value.int IntKind.i64 (n39)) (fun w52 =>
  ment (Md.full) Tryz.prog (124) (Value.map p48) (Value.int IntKind.i64 (x1)) (fun v53 w54 =>
  asT (2) (v53) (fun f55 w56 =>
  asI (IntKind.i64) (f55 0) (fun n57 w58 =>
  asI (IntKind.i64) (f55 1) (fun n59 w60 =>
  mest (Md.full) Tryz.prog (124) (Value.map p48) (Value.int IntKind.i64 (n59)) (Value.int IntKind.i64 (x2)) (fun w61 =>
  K (Value.int IntKind.i64 (n41)) (w61)) (w60)) (w58)) (w56)) (w54)) (w52)) (w51)) (w49)) (w47)) (w45)) (w43)) (fun w62 =>
  K (Value.int IntKind.i64 (n41)) (w62)) (w42)) (w40)) (w38)) (w36)) (w34)) (w32)) (w30)) (w28)) (w26)) (w24)) (w22)) (w20)) (w18)) (w16)) (w14)) (w12)) (w10)) (w8)) (w6)) (w4)) (w)
theorem F126_eq (p0 : Option Addr) (x1 : Int) (x2 : Int) : sBody Tryz.prog [] Tryz.f126 [(Value.pointer p0), (Value.int IntKind.i64 x1), (Value.int IntKind.i64 x2)] = F126 p0 x1 x2 := by kernel_rfl
theorem F126_go (p0 : Option Addr) (x1 : Int) (x2 : Int) {K : KV} {w : World} (h : F126 p0 x1 x2 K w) : gocall Tryz.prog 126 [(Value.pointer p0), (Value.int IntKind.i64 x1), (Value.int IntKind.i64 x2)] K w :=
  ⟨by kernel_rfl, calls_of_sBody (T := []) mixed Tryz.func126 (by kernel_rfl) (by rw [F126_eq]; exact h)⟩
def F128 (p0 : Option Addr) (s1 : ByteArray) (x2 : Int) (a3 : Option Addr) (n3 : Nat) (c3 : Nat) (K : KV) (w : World) : Prop :=
  nw (Obj.cells #[(Value.string (s1)), (Value.int IntKind.i64 (x2)), (Value.slice a3 (n3) (c3))] 105 (0, 0)) (fun k6 w7 =>
  nn (p0) (fun a8 w9 =>
  ld (⟨a8.block, a8.off + 2, none⟩) (fun v10 w11 =>
  asPtr (v10) (fun p12 w13 =>
  ld (⟨k6, 0, none⟩) (fun v14 w15 =>
  asStr (v14) (fun s16 w17 =>
  ld (⟨k6, 1, none⟩) (fun v18 w19 =>
  asI (IntKind.i64) (v18) (fun n20 w21 =>
  ld (⟨k6, 2, none⟩) (fun v22 w23 =>
  asSl (v22) (fun p24 k25 k26 w27 =>
  gocall Tryz.prog (120) [(Value.pointer p12), (Value.agg #[(Value.string (s16)), (Value.int IntKind.i64 (n20)), (Value.slice p24 (k25) (k26))])] (fun v28 w29 =>
  asI (IntKind.i64) (v28) (fun n30 w31 =>
  br (n30 != 0) (fun w32 =>
  K (Value.bool (false)) (w32)) (fun w33 =>
  nn (p0) (fun a34 w35 =>
  ld (⟨a34.block, a34.off + 2, none⟩) (fun v36 w37 =>
  asPtr (v36) (fun p38 w39 =>
  gocall Tryz.prog (121) [(Value.pointer p38)] (fun v40 w41 =>
  asI (IntKind.i64) (v40) (fun n42 w43 =>
  ld (⟨k6, 0, none⟩) (fun v44 w45 =>
  asStr (v44) (fun s46 w47 =>
  ld (⟨k6, 1, none⟩) (fun v48 w49 =>
  asI (IntKind.i64) (v48) (fun n50 w51 =>
  ld (⟨k6, 2, none⟩) (fun v52 w53 =>
  asSl (v52) (fun p54 k55 k56 w57 =>
  gocall Tryz.prog (84) [(Value.pointer p0), (Value.agg #[(Value.string (s46)), (Value.int IntKind.i64 (n50)), (Value.slice p54 (k55) (k56))])] (fun v58 w59 =>
  asT (0) (v58) (fun f60 w61 =>
  K (Value.bool (true)) (w61)) (w59)) (w57)) (w53)) (w51)) (w49)) (w47)) (w45)) (w43)) (w41)) (w39)) (w37)) (w35)) (w33)) (w31)) (w29)) (w27)) (w23)) (w21)) (w19)) (w17)) (w15)) (w13)) (w11)) (w9)) (w7.drew)) (w)
theorem F128_eq (p0 : Option Addr) (s1 : ByteArray) (x2 : Int) (a3 : Option Addr) (n3 : Nat) (c3 : Nat) : sBody Tryz.prog [] Tryz.f128 [(Value.pointer p0), (Value.agg #[(Value.string s1), (Value.int IntKind.i64 x2), (Value.slice a3 n3 c3)])] = F128 p0 s1 x2 a3 n3 c3 := by kernel_rfl
theorem F128_go (p0 : Option Addr) (s1 : ByteArray) (x2 : Int) (a3 : Option Addr) (n3 : Nat) (c3 : Nat) {K : KV} {w : World} (h : F128 p0 s1 x2 a3 n3 c3 K w) : gocall Tryz.prog 128 [(Value.pointer p0), (Value.agg #[(Value.string s1), (Value.int IntKind.i64 x2), (Value.slice a3 n3 c3)])] K w :=
  ⟨by kernel_rfl, calls_of_sBody (T := []) mixed Tryz.func128 (by kernel_rfl) (by rw [F128_eq]; exact h)⟩
def F127 (p0 : Option Addr) (x1 : Int) (K : KV) (w : World) : Prop :=
  br (p0.isNone) (fun w2 =>
  K (Value.int IntKind.i64 (1)) (w2)) (fun w3 =>
  nn (p0) (fun a4 w5 =>
  ld (⟨a4.block, a4.off + 1, none⟩) (fun v6 w7 =>
  asMap (v6) (fun p8 w9 =>
  mget (Md.full) Tryz.prog (124) (Value.map p8) (Value.int IntKind.i64 (x1)) (false) (fun v10 w11 =>
  asI (IntKind.i64) (v10) (fun n12 w13 =>
  br (n12 == 0) (fun w14 =>
  K (Value.int IntKind.i64 (6)) (w14)) (fun w15 =>
  nn (p0) (fun a16 w17 =>
  ld (a16) (fun v18 w19 =>
  asI (IntKind.i64) (v18) (fun n20 w21 =>
  nn (p0) (fun a22 w23 =>
  ld (⟨a22.block, a22.off + 1, none⟩) (fun v24 w25 =>
  asMap (v24) (fun p26 w27 =>
  mget (Md.see) Tryz.prog (124) (Value.map p26) (Value.int IntKind.i64 (x1)) (false) (fun v28 w29 =>
  asI (IntKind.i64) (v28) (fun n30 w31 =>
  nn (p0) (fun a32 w33 =>
  st (a32) (Value.int IntKind.i64 (IntKind.i64.wrap (n20 + n30))) (fun w34 =>
  nn (p0) (fun a35 w36 =>
  ld (⟨a35.block, a35.off + 1, none⟩) (fun v37 w38 =>
  asMap (v37) (fun p39 w40 =>
  bdel (Md.full) Tryz.prog (#[124, 3]) (0) (Value.map p39) (Value.int IntKind.i64 (x1)) (fun v41 w42 =>
  K (Value.int IntKind.i64 (0)) (w42)) (w40)) (w38)) (w36)) (w34)) (w33)) (w31)) (w29)) (w27)) (w25)) (w23)) (w21)) (w19)) (w17)) (w15.drew)) (w13)) (w11)) (w9)) (w7)) (w5)) (w3)) (w)
theorem F127_eq (p0 : Option Addr) (x1 : Int) : sBody Tryz.prog [] Tryz.f127 [(Value.pointer p0), (Value.int IntKind.i64 x1)] = F127 p0 x1 := by kernel_rfl
theorem F127_go (p0 : Option Addr) (x1 : Int) {K : KV} {w : World} (h : F127 p0 x1 K w) : gocall Tryz.prog 127 [(Value.pointer p0), (Value.int IntKind.i64 x1)] K w :=
  ⟨by kernel_rfl, calls_of_sBody (T := []) mixed Tryz.func127 (by kernel_rfl) (by rw [F127_eq]; exact h)⟩
end Go.Proofs.YtjckakeolmbidaaGreatDoor
