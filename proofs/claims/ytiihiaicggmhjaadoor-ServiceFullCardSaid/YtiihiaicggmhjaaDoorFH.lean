/- The shallow readings of some functions of the program (printed by a program of ours out of the model's own evaluation) and, for each, the proof that it is one. Conditions: none. -/
import Derived.Test.YtiihiaicggmhjaaDoorFS
set_option maxRecDepth 100000
set_option linter.unusedVariables false
namespace Go.Proofs.YtiihiaicggmhjaaDoor
open Go Go.Sh
def F17 (x0 : Int) (x1 : Int) (x2 : Int) (K : KV) (w : World) : Prop :=
  br (decide (x0 < 4)) (fun w0 =>
  K (Value.pointer none) (w0)) (fun w1 =>
  br (decide (x0 > 6)) (fun w2 =>
  K (Value.pointer none) (w2)) (fun w3 =>
  gocall Tryd.prog (30) [(Value.int IntKind.i64 (x2))] (fun v4 w5 =>
  asPtr (v4) (fun p6 w7 =>
  nw (Obj.cells #[(Value.int IntKind.i64 (x0)), (Value.int IntKind.i64 (x1)), (Value.pointer p6), (Value.pointer none), (Value.map none)] 69 (0, 0)) (fun k8 w9 =>
  gocall Tryd.prog (34) [(Value.pointer (some ⟨k8, 0, none⟩))] (fun v10 w11 =>
  asT (0) (v10) (fun f12 w13 =>
  K (Value.pointer (some ⟨k8, 0, none⟩)) (w13)) (w11)) (w9)) (w7)) (w5)) (w3)) (w1)) (w)
theorem F17_eq (x0 : Int) (x1 : Int) (x2 : Int) : sBody Tryd.prog [] Tryd.f17 [(Value.int IntKind.i64 x0), (Value.int IntKind.i64 x1), (Value.int IntKind.i64 x2)] = F17 x0 x1 x2 := by kernel_rfl
theorem F17_go (x0 : Int) (x1 : Int) (x2 : Int) {K : KV} {w : World} (h : F17 x0 x1 x2 K w) : gocall Tryd.prog 17 [(Value.int IntKind.i64 x0), (Value.int IntKind.i64 x1), (Value.int IntKind.i64 x2)] K w :=
  ⟨by kernel_rfl, calls_of_sBody (T := []) mixed Tryd.func17 (by kernel_rfl) (by rw [F17_eq]; exact h)⟩
def F18 (p0 : Option Addr) (x1 : Int) (x2 : Int) (x3 : Int) (x4 : Int) (x5 : Int) (x6 : Int) (x7 : Int) (K : KV) (w : World) : Prop :=
  nw (Obj.cells #[(Value.int IntKind.i64 (x1)), (Value.int IntKind.i64 (x2)), (Value.int IntKind.i64 (x3)), (Value.int IntKind.i64 (x4)), (Value.int IntKind.i64 (x5)), (Value.int IntKind.i64 (x6)), (Value.int IntKind.i64 (x7))] 23 (0, 0)) (fun k0 w1 =>
  keeps (fun S2 w3 =>
  br (p0.isNone) (fun w4 =>
  K (Value.slice none (0) (0)) (w4)) (fun w5 =>
  gocall Tryd.prog (35) [(Value.pointer p0)] (fun v6 w7 =>
  asBoo (v6) (fun b8 w9 =>
  kp (S2) (fun w10 =>
  br (b8) (fun w11 =>
  K (Value.slice none (0) (0)) (w11)) (fun w12 =>
  ldS (S2) (⟨k0, 2, none⟩) (fun v13 w14 =>
  asI (IntKind.i64) (v13) (fun n15 w16 =>
  nn (p0) (fun a17 w18 =>
  ldS (S2) (a17) (fun v19 w20 =>
  asI (IntKind.i64) (v19) (fun n21 w22 =>
  br (n15 != n21) (fun w23 =>
  K (Value.slice none (0) (0)) (w23)) (fun w24 =>
  ldS (S2) (⟨k0, 1, none⟩) (fun v25 w26 =>
  asI (IntKind.i64) (v25) (fun n27 w28 =>
  br (n27 != 0) (fun w29 =>
  K (Value.slice none (0) (0)) (w29)) (fun w30 =>
  ldS (S2) (⟨k0, 3, none⟩) (fun v31 w32 =>
  asI (IntKind.i64) (v31) (fun n33 w34 =>
  br (decide (n33 < 1)) (fun w35 =>
  K (Value.slice none (0) (0)) (w35)) (fun w36 =>
  ldS (S2) (⟨k0, 3, none⟩) (fun v37 w38 =>
  asI (IntKind.i64) (v37) (fun n39 w40 =>
  br (decide (n39 > 999)) (fun w41 =>
  K (Value.slice none (0) (0)) (w41)) (fun w42 =>
  ld (⟨k0, 0, none⟩) (fun v43 w44 =>
  asI (IntKind.i64) (v43) (fun n45 w46 =>
  br (n45 == 1) (fun w47 =>
  ld (⟨k0, 3, none⟩) (fun v48 w49 =>
  asI (IntKind.i64) (v48) (fun n50 w51 =>
  ld (⟨k0, 5, none⟩) (fun v52 w53 =>
  asI (IntKind.i64) (v52) (fun n54 w55 =>
  gocall Tryd.prog (36) [(Value.pointer p0), (Value.int IntKind.i64 (n50)), (Value.int IntKind.i64 (n54))] (fun v56 w57 =>
  asI (IntKind.i64) (v56) (fun n58 w59 =>
  br (n58 == 0) (fun w60 =>
  K (Value.slice none (0) (0)) (w60)) (fun w61 =>
  nn (p0) (fun a62 w63 =>
  ld (a62) (fun v64 w65 =>
  asI (IntKind.i64) (v64) (fun n66 w67 =>
  ld (⟨k0, 3, none⟩) (fun v68 w69 =>
  asI (IntKind.i64) (v68) (fun n70 w71 =>
  ld (⟨k0, 4, none⟩) (fun v72 w73 =>
  asI (IntKind.i64) (v72) (fun n74 w75 =>
  nw (Obj.cells #[(Value.int IntKind.i64 (n58)), (Value.int IntKind.i64 (n66)), (Value.int IntKind.i64 (0)), (Value.int IntKind.i64 (n70)), (Value.int IntKind.i64 (n74)), (Value.int IntKind.i64 (0)), (Value.int IntKind.i64 (0))] 23 (0, 0)) (fun k76 w77 =>
  K (Value.slice (some ⟨k76, 0, none⟩) (1) (1)) (w77)) (w75)) (w73)) (w71)) (w69)) (w67)) (w65)) (w63)) (w61.drew)) (w59)) (w57)) (w55)) (w53)) (w51)) (w49)) (w47)) (fun w78 =>
  br (n45 == 4) (fun w79 =>
  ld (⟨k0, 3, none⟩) (fun v80 w81 =>
  asI (IntKind.i64) (v80) (fun n82 w83 =>
  gocall Tryd.prog (37) [(Value.pointer p0), (Value.int IntKind.i64 (n82))] (fun v84 w85 =>
  asI (IntKind.i64) (v84) (fun n86 w87 =>
  br (n86 == 0) (fun w88 =>
  K (Value.slice none (0) (0)) (w88)) (fun w89 =>
  nn (p0) (fun a90 w91 =>
  ld (a90) (fun v92 w93 =>
  asI (IntKind.i64) (v92) (fun n94 w95 =>
  ld (⟨k0, 3, none⟩) (fun v96 w97 =>
  asI (IntKind.i64) (v96) (fun n98 w99 =>
  ld (⟨k0, 4, none⟩) (fun v100 w101 =>
  asI (IntKind.i64) (v100) (fun n102 w103 =>
  nw (Obj.cells #[(Value.int IntKind.i64 (n86)), (Value.int IntKind.i64 (n94)), (Value.int IntKind.i64 (0)), (Value.int IntKind.i64 (n98)), (Value.int IntKind.i64 (n102)), (Value.int IntKind.i64 (0)), (Value.int IntKind.i64 (0))] 23 (0, 0)) (fun k104 w105 =>
  K (Value.slice (some ⟨k104, 0, none⟩) (1) (1)) (w105)) (w103)) (w101)) (w99)) (w97)) (w95)) (w93)) (w91)) (w89.drew)) (w87)) (w85)) (w83)) (w81)) (w79)) (fun w106 =>
  K (Value.slice none (0) (0)) (w106)) (w78)) (w46)) (w44)) (w42)) (w40)) (w38)) (w36)) (w34)) (w32)) (w30)) (w28)) (w26)) (w24)) (w22)) (w20)) (w18)) (w16)) (w14)) (w12)) (w10)) (w9)) (w7)) (w5)) (w3)) (w1.drew)) (w)
theorem F18_eq (p0 : Option Addr) (x1 : Int) (x2 : Int) (x3 : Int) (x4 : Int) (x5 : Int) (x6 : Int) (x7 : Int) : sBody Tryd.prog [(1, [0, 1, 2, 3, 4, 5, 6, 7, 8, 9, 10, 11, 12, 13, 14, 15, 16, 17, 18, 19, 20, 21, 22, 23, 24, 25, 26, 27, 28, 29])] Tryd.f18 [(Value.pointer p0), (Value.agg #[(Value.int IntKind.i64 x1), (Value.int IntKind.i64 x2), (Value.int IntKind.i64 x3), (Value.int IntKind.i64 x4), (Value.int IntKind.i64 x5), (Value.int IntKind.i64 x6), (Value.int IntKind.i64 x7)])] = F18 p0 x1 x2 x3 x4 x5 x6 x7 := by kernel_rfl
theorem F18_go (p0 : Option Addr) (x1 : Int) (x2 : Int) (x3 : Int) (x4 : Int) (x5 : Int) (x6 : Int) (x7 : Int) {K : KV} {w : World} (h : F18 p0 x1 x2 x3 x4 x5 x6 x7 K w) : gocall Tryd.prog 18 [(Value.pointer p0), (Value.agg #[(Value.int IntKind.i64 x1), (Value.int IntKind.i64 x2), (Value.int IntKind.i64 x3), (Value.int IntKind.i64 x4), (Value.int IntKind.i64 x5), (Value.int IntKind.i64 x6), (Value.int IntKind.i64 x7)])] K w :=
  ⟨by kernel_rfl, calls_of_sBody (T := [(1, [0, 1, 2, 3, 4, 5, 6, 7, 8, 9, 10, 11, 12, 13, 14, 15, 16, 17, 18, 19, 20, 21, 22, 23, 24, 25, 26, 27, 28, 29])]) mixed Tryd.func18 (by kernel_rfl) (by rw [F18_eq]; exact h)⟩
def F19 (p0 : Option Addr) (K : KV) (w : World) : Prop :=
  br (p0.isNone) (fun w0 =>
  K (Value.int IntKind.i64 (0)) (w0)) (fun w1 =>
  nn (p0) (fun a2 w3 =>
  ld (⟨a2.block, a2.off + 3, none⟩) (fun v4 w5 =>
  asPtr (v4) (fun p6 w7 =>
  gocall Tryd.prog (38) [(Value.pointer p6)] (fun v8 w9 =>
  asI (IntKind.i64) (v8) (fun n10 w11 =>
  K (Value.int IntKind.i64 (n10)) (w11)) (w9)) (w7)) (w5)) (w3)) (w1)) (w)
theorem F19_eq (p0 : Option Addr) : sBody Tryd.prog [] Tryd.f19 [(Value.pointer p0)] = F19 p0 := by kernel_rfl
theorem F19_go (p0 : Option Addr) {K : KV} {w : World} (h : F19 p0 K w) : gocall Tryd.prog 19 [(Value.pointer p0)] K w :=
  ⟨by kernel_rfl, calls_of_sBody (T := []) mixed Tryd.func19 (by kernel_rfl) (by rw [F19_eq]; exact h)⟩
def F20 (p0 : Option Addr) (x1 : Int) (K : KV) (w : World) : Prop :=
  br (p0.isNone) (fun w0 =>
  K (Value.int IntKind.i64 (0)) (w0)) (fun w1 =>
  nn (p0) (fun a2 w3 =>
  ld (⟨a2.block, a2.off + 4, none⟩) (fun v4 w5 =>
  asMap (v4) (fun p6 w7 =>
  mget (Md.full) Tryd.prog (67) (Value.map p6) (Value.int IntKind.i64 (x1)) (false) (fun v8 w9 =>
  asI (IntKind.i64) (v8) (fun n10 w11 =>
  K (Value.int IntKind.i64 (n10)) (w11)) (w9)) (w7)) (w5)) (w3)) (w1)) (w)
theorem F20_eq (p0 : Option Addr) (x1 : Int) : sBody Tryd.prog [] Tryd.f20 [(Value.pointer p0), (Value.int IntKind.i64 x1)] = F20 p0 x1 := by kernel_rfl
theorem F20_go (p0 : Option Addr) (x1 : Int) {K : KV} {w : World} (h : F20 p0 x1 K w) : gocall Tryd.prog 20 [(Value.pointer p0), (Value.int IntKind.i64 x1)] K w :=
  ⟨by kernel_rfl, calls_of_sBody (T := []) mixed Tryd.func20 (by kernel_rfl) (by rw [F20_eq]; exact h)⟩
def F34 (p0 : Option Addr) (K : KV) (w : World) : Prop :=
  nn (p0) (fun a0 w1 =>
  ld (⟨a0.block, a0.off + 1, none⟩) (fun v2 w3 =>
  asI (IntKind.i64) (v2) (fun n4 w5 =>
  gocall Tryd.prog (52) [(Value.int IntKind.i64 (n4))] (fun v6 w7 =>
  asPtr (v6) (fun p8 w9 =>
  nw (Obj.map #[] 0) (fun k10 w11 =>
  nn (p0) (fun a12 w13 =>
  st (⟨a12.block, a12.off + 3, none⟩) (Value.pointer p8) (fun w14 =>
  nn (p0) (fun a15 w16 =>
  st (⟨a15.block, a15.off + 4, none⟩) (Value.map (some k10)) (fun w17 =>
  K (Value.tuple #[]) (w17)) (w16)) (w14)) (w13)) (w11)) (w9)) (w7)) (w5)) (w3)) (w1)) (w)
theorem F34_eq (p0 : Option Addr) : sBody Tryd.prog [] Tryd.f34 [(Value.pointer p0)] = F34 p0 := by kernel_rfl
theorem F34_go (p0 : Option Addr) {K : KV} {w : World} (h : F34 p0 K w) : gocall Tryd.prog 34 [(Value.pointer p0)] K w :=
  ⟨by kernel_rfl, calls_of_sBody (T := []) mixed Tryd.func34 (by kernel_rfl) (by rw [F34_eq]; exact h)⟩
def F35 (p0 : Option Addr) (K : KV) (w : World) : Prop :=
  br (p0.isSome) (fun w0 =>
  nn (p0) (fun a1 w2 =>
  ld (⟨a1.block, a1.off + 2, none⟩) (fun v3 w4 =>
  asPtr (v3) (fun p5 w6 =>
  gocall Tryd.prog (46) [(Value.pointer p5)] (fun v7 w8 =>
  asBoo (v7) (fun b9 w10 =>
  K (Value.bool (b9)) (w10)) (w8)) (w6)) (w4)) (w2)) (w0)) (fun w11 =>
  K (Value.bool (false)) (w11)) (w)
theorem F35_eq (p0 : Option Addr) : sBody Tryd.prog [] Tryd.f35 [(Value.pointer p0)] = F35 p0 := by kernel_rfl
theorem F35_go (p0 : Option Addr) {K : KV} {w : World} (h : F35 p0 K w) : gocall Tryd.prog 35 [(Value.pointer p0)] K w :=
  ⟨by kernel_rfl, calls_of_sBody (T := []) mixed Tryd.func35 (by kernel_rfl) (by rw [F35_eq]; exact h)⟩
def F36 (p0 : Option Addr) (x1 : Int) (x2 : Int) (K : KV) (w : World) : Prop :=
  nn (p0) (fun a0 w1 =>
  ld (⟨a0.block, a0.off + 4, none⟩) (fun v2 w3 =>
  asMap (v2) (fun p4 w5 =>
  mget (Md.full) Tryd.prog (67) (Value.map p4) (Value.int IntKind.i64 (x1)) (false) (fun v6 w7 =>
  asI (IntKind.i64) (v6) (fun n8 w9 =>
  br (n8 == 1) (fun w10 =>
  K (Value.int IntKind.i64 (2)) (w10)) (fun w11 =>
  br (n8 == 0) (fun w12 =>
  nn (p0) (fun a13 w14 =>
  ld (⟨a13.block, a13.off + 3, none⟩) (fun v15 w16 =>
  asPtr (v15) (fun p17 w18 =>
  gocall Tryd.prog (53) [(Value.pointer p17), (Value.int IntKind.i64 (x1)), (Value.int IntKind.i64 (x2))] (fun v19 w20 =>
  asI (IntKind.i64) (v19) (fun n21 w22 =>
  br (n21 != 0) (fun w23 =>
  gocall Tryd.prog (54) [(Value.pointer p0), (Value.agg #[(Value.string ({ data := #[99, 97, 110, 116] })), (Value.int IntKind.i64 (x1)), (Value.slice none (0) (0))])] (fun v24 w25 =>
  asBoo (v24) (fun b26 w27 =>
  br (b26) (fun w28 =>
  K (Value.int IntKind.i64 (3)) (w28)) (fun w29 =>
  K (Value.int IntKind.i64 (0)) (w29)) (w27)) (w25)) (w23)) (fun w30 =>
  nn (p0) (fun a31 w32 =>
  ld (⟨a31.block, a31.off + 3, none⟩) (fun v33 w34 =>
  asPtr (v33) (fun p35 w36 =>
  gocall Tryd.prog (55) [(Value.pointer p35), (Value.int IntKind.i64 (x1))] (fun v37 w38 =>
  asI (IntKind.i64) (v37) (fun n39 w40 =>
  nw (Obj.cells #[(Value.int IntKind.i64 (x2))] 3 (0, 0)) (fun k41 w42 =>
  gocall Tryd.prog (54) [(Value.pointer p0), (Value.agg #[(Value.string ({ data := #[100, 105, 100] })), (Value.int IntKind.i64 (x1)), (Value.slice (some ⟨k41, 0, none⟩) (1) (1))])] (fun v43 w44 =>
  asBoo (v43) (fun b45 w46 =>
  br (b45) (fun w47 =>
  K (Value.int IntKind.i64 (2)) (w47)) (fun w48 =>
  K (Value.int IntKind.i64 (0)) (w48)) (w46)) (w44)) (w42)) (w40)) (w38)) (w36)) (w34)) (w32)) (w30)) (w22)) (w20)) (w18)) (w16)) (w14)) (w12)) (fun w49 =>
  K (Value.int IntKind.i64 (3)) (w49)) (w11)) (w9)) (w7)) (w5)) (w3)) (w1)) (w)
theorem F36_eq (p0 : Option Addr) (x1 : Int) (x2 : Int) : sBody Tryd.prog [] Tryd.f36 [(Value.pointer p0), (Value.int IntKind.i64 x1), (Value.int IntKind.i64 x2)] = F36 p0 x1 x2 := by kernel_rfl
theorem F36_go (p0 : Option Addr) (x1 : Int) (x2 : Int) {K : KV} {w : World} (h : F36 p0 x1 x2 K w) : gocall Tryd.prog 36 [(Value.pointer p0), (Value.int IntKind.i64 x1), (Value.int IntKind.i64 x2)] K w :=
  ⟨by kernel_rfl, calls_of_sBody (T := []) mixed Tryd.func36 (by kernel_rfl) (by rw [F36_eq]; exact h)⟩
def F37 (p0 : Option Addr) (x1 : Int) (K : KV) (w : World) : Prop :=
  nn (p0) (fun a0 w1 =>
  ld (⟨a0.block, a0.off + 4, none⟩) (fun v2 w3 =>
  asMap (v2) (fun p4 w5 =>
  mget (Md.full) Tryd.prog (67) (Value.map p4) (Value.int IntKind.i64 (x1)) (false) (fun v6 w7 =>
  asI (IntKind.i64) (v6) (fun n8 w9 =>
  br (n8 == 0) (fun w10 =>
  gocall Tryd.prog (54) [(Value.pointer p0), (Value.agg #[(Value.string ({ data := #[117, 110, 100, 105, 100] })), (Value.int IntKind.i64 (x1)), (Value.slice none (0) (0))])] (fun v11 w12 =>
  asBoo (v11) (fun b13 w14 =>
  br (!b13) (fun w15 =>
  K (Value.int IntKind.i64 (0)) (w15)) (fun w16 =>
  K (Value.int IntKind.i64 (5)) (w16)) (w14)) (w12)) (w10)) (fun w17 =>
  br (n8 == 1) (fun w18 =>
  gocall Tryd.prog (54) [(Value.pointer p0), (Value.agg #[(Value.string ({ data := #[117, 110, 100, 105, 100] })), (Value.int IntKind.i64 (x1)), (Value.slice none (0) (0))])] (fun v19 w20 =>
  asBoo (v19) (fun b21 w22 =>
  br (!b21) (fun w23 =>
  K (Value.int IntKind.i64 (0)) (w23)) (fun w24 =>
  K (Value.int IntKind.i64 (5)) (w24)) (w22)) (w20)) (w18)) (fun w25 =>
  K (Value.int IntKind.i64 (5)) (w25)) (w17)) (w9)) (w7)) (w5)) (w3)) (w1)) (w)
theorem F37_eq (p0 : Option Addr) (x1 : Int) : sBody Tryd.prog [] Tryd.f37 [(Value.pointer p0), (Value.int IntKind.i64 x1)] = F37 p0 x1 := by kernel_rfl
theorem F37_go (p0 : Option Addr) (x1 : Int) {K : KV} {w : World} (h : F37 p0 x1 K w) : gocall Tryd.prog 37 [(Value.pointer p0), (Value.int IntKind.i64 x1)] K w :=
  ⟨by kernel_rfl, calls_of_sBody (T := []) mixed Tryd.func37 (by kernel_rfl) (by rw [F37_eq]; exact h)⟩
def F38 (p0 : Option Addr) (K : KV) (w : World) : Prop :=
  br (p0.isNone) (fun w0 =>
  K (Value.int IntKind.i64 (0)) (w0)) (fun w1 =>
  nn (p0) (fun a2 w3 =>
  ld (a2) (fun v4 w5 =>
  asI (IntKind.i64) (v4) (fun n6 w7 =>
  K (Value.int IntKind.i64 (n6)) (w7)) (w5)) (w3)) (w1)) (w)
theorem F38_eq (p0 : Option Addr) : sBody Tryd.prog [] Tryd.f38 [(Value.pointer p0)] = F38 p0 := by kernel_rfl
theorem F38_go (p0 : Option Addr) {K : KV} {w : World} (h : F38 p0 K w) : gocall Tryd.prog 38 [(Value.pointer p0)] K w :=
  ⟨by kernel_rfl, calls_of_sBody (T := []) mixed Tryd.func38 (by kernel_rfl) (by rw [F38_eq]; exact h)⟩
def F52 (x0 : Int) (K : KV) (w : World) : Prop :=
  nw (Obj.map #[] 0) (fun k0 w1 =>
  nw (Obj.cells #[(Value.int IntKind.i64 (if (if 1000000000 < x0 then 1000000000 else x0) > 0 then if 1000000000 < x0 then 1000000000 else x0 else 0)), (Value.map (some k0))] 96 (0, 0)) (fun k2 w3 =>
  K (Value.pointer (some ⟨k2, 0, none⟩)) (w3)) (w1)) (w)
theorem F52_eq (x0 : Int) : sBody Tryd.prog [] Tryd.f52 [(Value.int IntKind.i64 x0)] = F52 x0 := by kernel_rfl
theorem F52_go (x0 : Int) {K : KV} {w : World} (h : F52 x0 K w) : gocall Tryd.prog 52 [(Value.int IntKind.i64 x0)] K w :=
  ⟨by kernel_rfl, calls_of_sBody (T := []) mixed Tryd.func52 (by kernel_rfl) (by rw [F52_eq]; exact h)⟩
def F53 (p0 : Option Addr) (x1 : Int) (x2 : Int) (K : KV) (w : World) : Prop :=
  br (p0.isNone) (fun w0 =>
  K (Value.int IntKind.i64 (1)) (w0)) (fun w1 =>
  br (decide (x1 < 1)) (fun w2 =>
  K (Value.int IntKind.i64 (1)) (w2)) (fun w3 =>
  br (decide (x1 > 999)) (fun w4 =>
  K (Value.int IntKind.i64 (1)) (w4)) (fun w5 =>
  br (x2 == 0) (fun w6 =>
  K (Value.int IntKind.i64 (1)) (w6)) (fun w7 =>
  gocall Tryd.prog (59) [(Value.int IntKind.i64 (x2))] (fun v8 w9 =>
  asBoo (v8) (fun b10 w11 =>
  br (!b10) (fun w12 =>
  K (Value.int IntKind.i64 (1)) (w12)) (fun w13 =>
  nn (p0) (fun a14 w15 =>
  ld (⟨a14.block, a14.off + 1, none⟩) (fun v16 w17 =>
  asMap (v16) (fun p18 w19 =>
  mget (Md.full) Tryd.prog (67) (Value.map p18) (Value.int IntKind.i64 (x1)) (false) (fun v20 w21 =>
  asI (IntKind.i64) (v20) (fun n22 w23 =>
  br (decide (n22 > 0)) (fun w24 =>
  K (Value.int IntKind.i64 (8)) (w24)) (fun w25 =>
  nn (p0) (fun a26 w27 =>
  ld (a26) (fun v28 w29 =>
  asI (IntKind.i64) (v28) (fun n30 w31 =>
  gocall Tryd.prog (62) [(Value.int IntKind.i64 (n30)), (Value.int IntKind.i64 (x2))] (fun v32 w33 =>
  asT (2) (v32) (fun f34 w35 =>
  asI (IntKind.i64) (f34 0) (fun n36 w37 =>
  asI (IntKind.i64) (f34 1) (fun n38 w39 =>
  br (n38 == 0) (fun w40 =>
  nn (p0) (fun a41 w42 =>
  ld (⟨a41.block, a41.off + 1, none⟩) (fun v43 w44 =>
  asMap (v43) (fun p45 w46 =>
  nn (p0) (fun a47 w48 =>
  st (a47) (Value.int IntKind.i64 (n36)) (fun w49 =>
  ment (Md.full) Tryd.prog (67) (Value.map p45) (Value.int IntKind.i64 (x1)) (fun v50 w51 =>
  asT (2) (v50) (fun f52 w53 =>
  asI (IntKind.i64) (f52 0) (fun n54 w55 =>
  asI (IntKind.i64) (f52 1) (fun n56 w57 =>
  mest (Md.full) Tryd.prog (67) (Value.map p45) (Value.int IntKind.i64 (n56)) (Value.int IntKind.i64 (x2)) (fun w58 =>
  K (Value.int IntKind.i64 (n38)) (w58)) (w57)) (w55)) (w53)) (w51)) (w49)) (w48)) (w46)) (w44)) (w42)) (w40)) (fun w59 =>
  K (Value.int IntKind.i64 (n38)) (w59)) (w39)) (w37)) (w35)) (w33)) (w31)) (w29)) (w27)) (w25)) (w23)) (w21)) (w19)) (w17)) (w15)) (w13)) (w11)) (w9)) (w7)) (w5)) (w3)) (w1)) (w)
theorem F53_eq (p0 : Option Addr) (x1 : Int) (x2 : Int) : sBody Tryd.prog [] Tryd.f53 [(Value.pointer p0), (Value.int IntKind.i64 x1), (Value.int IntKind.i64 x2)] = F53 p0 x1 x2 := by kernel_rfl
theorem F53_go (p0 : Option Addr) (x1 : Int) (x2 : Int) {K : KV} {w : World} (h : F53 p0 x1 x2 K w) : gocall Tryd.prog 53 [(Value.pointer p0), (Value.int IntKind.i64 x1), (Value.int IntKind.i64 x2)] K w :=
  ⟨by kernel_rfl, calls_of_sBody (T := []) mixed Tryd.func53 (by kernel_rfl) (by rw [F53_eq]; exact h)⟩
def F54 (p0 : Option Addr) (s1 : ByteArray) (x2 : Int) (a3 : Option Addr) (n3 : Nat) (c3 : Nat) (K : KV) (w : World) : Prop :=
  nw (Obj.cells #[(Value.string (s1)), (Value.int IntKind.i64 (x2)), (Value.slice a3 (n3) (c3))] 87 (0, 0)) (fun k0 w1 =>
  nn (p0) (fun a2 w3 =>
  ld (⟨a2.block, a2.off + 2, none⟩) (fun v4 w5 =>
  asPtr (v4) (fun p6 w7 =>
  ld (⟨k0, 0, none⟩) (fun v8 w9 =>
  asStr (v8) (fun s10 w11 =>
  ld (⟨k0, 1, none⟩) (fun v12 w13 =>
  asI (IntKind.i64) (v12) (fun n14 w15 =>
  ld (⟨k0, 2, none⟩) (fun v16 w17 =>
  asSl (v16) (fun p18 k19 k20 w21 =>
  gocall Tryd.prog (49) [(Value.pointer p6), (Value.agg #[(Value.string (s10)), (Value.int IntKind.i64 (n14)), (Value.slice p18 (k19) (k20))])] (fun v22 w23 =>
  asI (IntKind.i64) (v22) (fun n24 w25 =>
  br (n24 != 0) (fun w26 =>
  K (Value.bool (false)) (w26)) (fun w27 =>
  nn (p0) (fun a28 w29 =>
  ld (⟨a28.block, a28.off + 2, none⟩) (fun v30 w31 =>
  asPtr (v30) (fun p32 w33 =>
  gocall Tryd.prog (50) [(Value.pointer p32)] (fun v34 w35 =>
  asI (IntKind.i64) (v34) (fun n36 w37 =>
  ld (⟨k0, 0, none⟩) (fun v38 w39 =>
  asStr (v38) (fun s40 w41 =>
  ld (⟨k0, 1, none⟩) (fun v42 w43 =>
  asI (IntKind.i64) (v42) (fun n44 w45 =>
  ld (⟨k0, 2, none⟩) (fun v46 w47 =>
  asSl (v46) (fun p48 k49 k50 w51 =>
  gocall Tryd.prog (63) [(Value.pointer p0), (Value.agg #[(Value.string (s40)), (Value.int IntKind.i64 (n44)), (Value.slice p48 (k49) (k50))])] (fun v52 w53 =>
  asT (0) (v52) (fun f54 w55 =>
  K (Value.bool (true)) (w55)) (w53)) (w51)) (w47)) (w45)) (w43)) (w41)) (w39)) (w37)) (w35)) (w33)) (w31)) (w29)) (w27)) (w25)) (w23)) (w21)) (w17)) (w15)) (w13)) (w11)) (w9)) (w7)) (w5)) (w3)) (w1.drew)) (w)
theorem F54_eq (p0 : Option Addr) (s1 : ByteArray) (x2 : Int) (a3 : Option Addr) (n3 : Nat) (c3 : Nat) : sBody Tryd.prog [] Tryd.f54 [(Value.pointer p0), (Value.agg #[(Value.string s1), (Value.int IntKind.i64 x2), (Value.slice a3 n3 c3)])] = F54 p0 s1 x2 a3 n3 c3 := by kernel_rfl
theorem F54_go (p0 : Option Addr) (s1 : ByteArray) (x2 : Int) (a3 : Option Addr) (n3 : Nat) (c3 : Nat) {K : KV} {w : World} (h : F54 p0 s1 x2 a3 n3 c3 K w) : gocall Tryd.prog 54 [(Value.pointer p0), (Value.agg #[(Value.string s1), (Value.int IntKind.i64 x2), (Value.slice a3 n3 c3)])] K w :=
  ⟨by kernel_rfl, calls_of_sBody (T := []) mixed Tryd.func54 (by kernel_rfl) (by rw [F54_eq]; exact h)⟩
def F55 (p0 : Option Addr) (x1 : Int) (K : KV) (w : World) : Prop :=
  br (p0.isNone) (fun w0 =>
  K (Value.int IntKind.i64 (1)) (w0)) (fun w1 =>
  nn (p0) (fun a2 w3 =>
  ld (⟨a2.block, a2.off + 1, none⟩) (fun v4 w5 =>
  asMap (v4) (fun p6 w7 =>
  mget (Md.full) Tryd.prog (67) (Value.map p6) (Value.int IntKind.i64 (x1)) (false) (fun v8 w9 =>
  asI (IntKind.i64) (v8) (fun n10 w11 =>
  br (n10 == 0) (fun w12 =>
  K (Value.int IntKind.i64 (6)) (w12)) (fun w13 =>
  nn (p0) (fun a14 w15 =>
  ld (a14) (fun v16 w17 =>
  asI (IntKind.i64) (v16) (fun n18 w19 =>
  nn (p0) (fun a20 w21 =>
  ld (⟨a20.block, a20.off + 1, none⟩) (fun v22 w23 =>
  asMap (v22) (fun p24 w25 =>
  mget (Md.see) Tryd.prog (67) (Value.map p24) (Value.int IntKind.i64 (x1)) (false) (fun v26 w27 =>
  asI (IntKind.i64) (v26) (fun n28 w29 =>
  nn (p0) (fun a30 w31 =>
  st (a30) (Value.int IntKind.i64 (IntKind.i64.wrap (n18 + n28))) (fun w32 =>
  nn (p0) (fun a33 w34 =>
  ld (⟨a33.block, a33.off + 1, none⟩) (fun v35 w36 =>
  asMap (v35) (fun p37 w38 =>
  bdel (Md.full) Tryd.prog (#[67, 3]) (0) (Value.map p37) (Value.int IntKind.i64 (x1)) (fun v39 w40 =>
  K (Value.int IntKind.i64 (0)) (w40)) (w38)) (w36)) (w34)) (w32)) (w31)) (w29)) (w27)) (w25)) (w23)) (w21)) (w19)) (w17)) (w15)) (w13.drew)) (w11)) (w9)) (w7)) (w5)) (w3)) (w1)) (w)
theorem F55_eq (p0 : Option Addr) (x1 : Int) : sBody Tryd.prog [] Tryd.f55 [(Value.pointer p0), (Value.int IntKind.i64 x1)] = F55 p0 x1 := by kernel_rfl
theorem F55_go (p0 : Option Addr) (x1 : Int) {K : KV} {w : World} (h : F55 p0 x1 K w) : gocall Tryd.prog 55 [(Value.pointer p0), (Value.int IntKind.i64 x1)] K w :=
  ⟨by kernel_rfl, calls_of_sBody (T := []) mixed Tryd.func55 (by kernel_rfl) (by rw [F55_eq]; exact h)⟩
def F62 (x0 : Int) (x1 : Int) (K : KV) (w : World) : Prop :=
  gocall Tryd.prog (72) [(Value.int IntKind.i64 (x0)), (Value.int IntKind.i64 (x1))] (fun v0 w1 =>
  asBoo (v0) (fun b2 w3 =>
  br (!b2) (fun w4 =>
  K (Value.tuple #[(Value.int IntKind.i64 (0)), (Value.int IntKind.i64 (1))]) (w4)) (fun w5 =>
  br (decide (x1 > x0)) (fun w6 =>
  K (Value.tuple #[(Value.int IntKind.i64 (0)), (Value.int IntKind.i64 (9))]) (w6)) (fun w7 =>
  K (Value.tuple #[(Value.int IntKind.i64 (IntKind.i64.wrap (x0 - x1))), (Value.int IntKind.i64 (0))]) (w7)) (w5)) (w3)) (w1)) (w)
theorem F62_eq (x0 : Int) (x1 : Int) : sBody Tryd.prog [] Tryd.f62 [(Value.int IntKind.i64 x0), (Value.int IntKind.i64 x1)] = F62 x0 x1 := by kernel_rfl
theorem F62_go (x0 : Int) (x1 : Int) {K : KV} {w : World} (h : F62 x0 x1 K w) : gocall Tryd.prog 62 [(Value.int IntKind.i64 x0), (Value.int IntKind.i64 x1)] K w :=
  ⟨by kernel_rfl, calls_of_sBody (T := []) mixed Tryd.func62 (by kernel_rfl) (by rw [F62_eq]; exact h)⟩
def F63 (p0 : Option Addr) (s1 : ByteArray) (x2 : Int) (a3 : Option Addr) (n3 : Nat) (c3 : Nat) (K : KV) (w : World) : Prop :=
  nw (Obj.cells #[(Value.string (s1)), (Value.int IntKind.i64 (x2)), (Value.slice a3 (n3) (c3))] 87 (0, 0)) (fun k0 w1 =>
  ld (⟨k0, 0, none⟩) (fun v2 w3 =>
  asStr (v2) (fun s4 w5 =>
  br (strEq s4 { data := #[100, 105, 100] }) (fun w6 =>
  ld (⟨k0, 2, none⟩) (fun v7 w8 =>
  asSl (v7) (fun p9 k10 k11 w12 =>
  loop (X := (Int) × Unit) (0, ()) (fun x13 rec14 w15 =>
  br (decide (x13.fst < (↑k10 : Int))) (fun w16 =>
  slAt (p9) (k10) (x13.fst) (1) (fun a17 w18 =>
  ld (a17) (fun v19 w20 =>
  asI (IntKind.i64) (v19) (fun n21 w22 =>
  nn (p0) (fun a23 w24 =>
  ld (⟨a23.block, a23.off + 3, none⟩) (fun v25 w26 =>
  asPtr (v25) (fun p27 w28 =>
  ld (⟨k0, 1, none⟩) (fun v29 w30 =>
  asI (IntKind.i64) (v29) (fun n31 w32 =>
  gocall Tryd.prog (53) [(Value.pointer p27), (Value.int IntKind.i64 (n31)), (Value.int IntKind.i64 (n21))] (fun v33 w34 =>
  asI (IntKind.i64) (v33) (fun n35 w36 =>
  rec14 (IntKind.i64.wrap (x13.fst + 1), ()) (w36)) (w34)) (w32)) (w30)) (w28)) (w26)) (w24)) (w22.drew)) (w20)) (w18)) (w16)) (fun w37 =>
  nn (p0) (fun a38 w39 =>
  ld (⟨a38.block, a38.off + 4, none⟩) (fun v40 w41 =>
  asMap (v40) (fun p42 w43 =>
  ld (⟨k0, 1, none⟩) (fun v44 w45 =>
  asI (IntKind.i64) (v44) (fun n46 w47 =>
  mset (Md.full) Tryd.prog (67) (Value.map p42) (Value.int IntKind.i64 (n46)) (Value.int IntKind.i64 (1)) (fun w48 =>
  K (Value.tuple #[]) (w48)) (w47)) (w45)) (w43)) (w41)) (w39)) (w37.drew)) (w15)) (w12)) (w8)) (w6)) (fun w49 =>
  br (strEq s4 { data := #[99, 97, 110, 116] }) (fun w50 =>
  nn (p0) (fun a51 w52 =>
  ld (⟨a51.block, a51.off + 4, none⟩) (fun v53 w54 =>
  asMap (v53) (fun p55 w56 =>
  ld (⟨k0, 1, none⟩) (fun v57 w58 =>
  asI (IntKind.i64) (v57) (fun n59 w60 =>
  mset (Md.full) Tryd.prog (67) (Value.map p55) (Value.int IntKind.i64 (n59)) (Value.int IntKind.i64 (2)) (fun w61 =>
  K (Value.tuple #[]) (w61)) (w60)) (w58)) (w56)) (w54)) (w52)) (w50.drew)) (fun w62 =>
  br (strEq s4 { data := #[117, 110, 100, 105, 100] }) (fun w63 =>
  nn (p0) (fun a64 w65 =>
  ld (⟨a64.block, a64.off + 3, none⟩) (fun v66 w67 =>
  asPtr (v66) (fun p68 w69 =>
  ld (⟨k0, 1, none⟩) (fun v70 w71 =>
  asI (IntKind.i64) (v70) (fun n72 w73 =>
  gocall Tryd.prog (55) [(Value.pointer p68), (Value.int IntKind.i64 (n72))] (fun v74 w75 =>
  asI (IntKind.i64) (v74) (fun n76 w77 =>
  nn (p0) (fun a78 w79 =>
  ld (⟨a78.block, a78.off + 4, none⟩) (fun v80 w81 =>
  asMap (v80) (fun p82 w83 =>
  ld (⟨k0, 1, none⟩) (fun v84 w85 =>
  asI (IntKind.i64) (v84) (fun n86 w87 =>
  mset (Md.full) Tryd.prog (67) (Value.map p82) (Value.int IntKind.i64 (n86)) (Value.int IntKind.i64 (3)) (fun w88 =>
  K (Value.tuple #[]) (w88)) (w87)) (w85)) (w83)) (w81)) (w79)) (w77.drew)) (w75)) (w73)) (w71)) (w69)) (w67)) (w65)) (w63.drew)) (fun w89 =>
  K (Value.tuple #[]) (w89)) (w62)) (w49)) (w5)) (w3)) (w1)) (w)
theorem F63_eq (p0 : Option Addr) (s1 : ByteArray) (x2 : Int) (a3 : Option Addr) (n3 : Nat) (c3 : Nat) : sBody Tryd.prog [] Tryd.f63 [(Value.pointer p0), (Value.agg #[(Value.string s1), (Value.int IntKind.i64 x2), (Value.slice a3 n3 c3)])] = F63 p0 s1 x2 a3 n3 c3 := by kernel_rfl
theorem F63_go (p0 : Option Addr) (s1 : ByteArray) (x2 : Int) (a3 : Option Addr) (n3 : Nat) (c3 : Nat) {K : KV} {w : World} (h : F63 p0 s1 x2 a3 n3 c3 K w) : gocall Tryd.prog 63 [(Value.pointer p0), (Value.agg #[(Value.string s1), (Value.int IntKind.i64 x2), (Value.slice a3 n3 c3)])] K w :=
  ⟨by kernel_rfl, calls_of_sBody (T := []) mixed Tryd.func63 (by kernel_rfl) (by rw [F63_eq]; exact h)⟩
def F72 (x0 : Int) (x1 : Int) (K : KV) (w : World) : Prop :=
  gocall Tryd.prog (59) [(Value.int IntKind.i64 (x0))] (fun v0 w1 =>
  asBoo (v0) (fun b2 w3 =>
  br (b2) (fun w4 =>
  gocall Tryd.prog (59) [(Value.int IntKind.i64 (x1))] (fun v5 w6 =>
  asBoo (v5) (fun b7 w8 =>
  K (Value.bool (b7)) (w8)) (w6)) (w4)) (fun w9 =>
  K (Value.bool (false)) (w9)) (w3)) (w1)) (w)
theorem F72_eq (x0 : Int) (x1 : Int) : sBody Tryd.prog [] Tryd.f72 [(Value.int IntKind.i64 x0), (Value.int IntKind.i64 x1)] = F72 x0 x1 := by kernel_rfl
theorem F72_go (x0 : Int) (x1 : Int) {K : KV} {w : World} (h : F72 x0 x1 K w) : gocall Tryd.prog 72 [(Value.int IntKind.i64 x0), (Value.int IntKind.i64 x1)] K w :=
  ⟨by kernel_rfl, calls_of_sBody (T := []) mixed Tryd.func72 (by kernel_rfl) (by rw [F72_eq]; exact h)⟩
def F21  (K : KV) (w : World) : Prop :=
  gocall Tryd.prog (17) [(Value.int IntKind.i64 (4)), (Value.int IntKind.i64 (5)), (Value.int IntKind.i64 (20))] (fun v0 w1 =>
  asPtr (v0) (fun p2 w3 =>
  br (p2.isNone) (fun w4 =>
  K (Value.bool (false)) (w4)) (fun w5 =>
  gocall Tryd.prog (18) [(Value.pointer p2), (Value.agg #[(Value.int IntKind.i64 (4)), (Value.int IntKind.i64 (0)), (Value.int IntKind.i64 (4)), (Value.int IntKind.i64 (7)), (Value.int IntKind.i64 (0)), (Value.int IntKind.i64 (0)), (Value.int IntKind.i64 (0))])] (fun v6 w7 =>
  asSl (v6) (fun p8 k9 k10 w11 =>
  gocall Tryd.prog (18) [(Value.pointer p2), (Value.agg #[(Value.int IntKind.i64 (1)), (Value.int IntKind.i64 (0)), (Value.int IntKind.i64 (4)), (Value.int IntKind.i64 (7)), (Value.int IntKind.i64 (0)), (Value.int IntKind.i64 (1)), (Value.int IntKind.i64 (0))])] (fun v12 w13 =>
  asSl (v12) (fun p14 k15 k16 w17 =>
  br ((↑k9 : Int) == 1) (fun w18 =>
  slAt (p8) (k9) (0) (7) (fun a19 w20 =>
  ld (a19) (fun v21 w22 =>
  asI (IntKind.i64) (v21) (fun n23 w24 =>
  br (n23 == 5) (fun w25 =>
  br ((↑k15 : Int) == 1) (fun w26 =>
  slAt (p14) (k15) (0) (7) (fun a27 w28 =>
  ld (a27) (fun v29 w30 =>
  asI (IntKind.i64) (v29) (fun n31 w32 =>
  br (n31 == 3) (fun w33 =>
  gocall Tryd.prog (20) [(Value.pointer p2), (Value.int IntKind.i64 (7))] (fun v34 w35 =>
  asI (IntKind.i64) (v34) (fun n36 w37 =>
  K (Value.bool (n36 == 3)) (w37)) (w35)) (w33)) (fun w38 =>
  K (Value.bool (false)) (w38)) (w32)) (w30)) (w28)) (w26)) (fun w39 =>
  K (Value.bool (false)) (w39)) (w25)) (fun w40 =>
  K (Value.bool (false)) (w40)) (w24)) (w22)) (w20)) (w18)) (fun w41 =>
  K (Value.bool (false)) (w41)) (w17)) (w13)) (w11)) (w7)) (w5)) (w3)) (w1)) (w)
theorem F21_eq  : sBody Tryd.prog [] Tryd.f21 [] = F21  := by kernel_rfl
theorem F21_go  {K : KV} {w : World} (h : F21  K w) : gocall Tryd.prog 21 [] K w :=
  ⟨by kernel_rfl, calls_of_sBody (T := []) mixed Tryd.func21 (by kernel_rfl) (by rw [F21_eq]; exact h)⟩
end Go.Proofs.YtiihiaicggmhjaaDoor
