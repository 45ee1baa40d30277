/- The shallow readings of some functions of the program (printed by a program of ours out of the model's own evaluation) and, for each, the proof that it is one. Conditions: none. -/
import Derived.Test.YtjckakeolmbidaaGreatDoorK6a
set_option maxRecDepth 100000
set_option linter.unusedVariables false
namespace Go.Proofs.YtjckakeolmbidaaGreatDoor
open Go Go.Sh
def F8 (x0 : Int) (x1 : Int) (x2 : Int) (b3 : Bool) (x4 : Int) (x5 : Int) (x6 : Int) (x7 : Int) (x8 : Int) (x9 : Int) (x10 : Int) (K : KV) (w : World) : Prop :=
  nw (Obj.cells #[(Value.int IntKind.i64 (x0)), (Value.int IntKind.i64 (x1)), (Value.int IntKind.i64 (x2)), (Value.bool (b3)), (Value.int IntKind.i64 (x4)), (Value.int IntKind.i64 (x5)), (Value.int IntKind.i64 (x6)), (Value.int IntKind.i64 (x7)), (Value.int IntKind.i64 (x8)), (Value.int IntKind.i64 (x9)), (Value.int IntKind.i64 (x10))] 74 (0, 0)) (fun k11 w12 =>
  ld (⟨k11, 1, none⟩) (fun v13 w14 =>
  asI (IntKind.i64) (v13) (fun n15 w16 =>
  ld (⟨k11, 2, none⟩) (fun v17 w18 =>
  asI (IntKind.i64) (v17) (fun n19 w20 =>
  gocall Tryz.prog (42) [(Value.pointer none), (Value.int IntKind.i64 (n15)), (Value.int IntKind.i64 (n19))] (fun v21 w22 =>
  asT (0) (v21) (fun f23 w24 =>
  gocall Tryz.prog (43) [(Value.pointer none)] (fun v25 w26 =>
  asT (0) (v25) (fun f27 w28 =>
  ld (⟨k11, 4, none⟩) (fun v29 w30 =>
  asI (IntKind.i64) (v29) (fun n31 w32 =>
  ld (⟨k11, 5, none⟩) (fun v33 w34 =>
  asI (IntKind.i64) (v33) (fun n35 w36 =>
  ld (⟨k11, 6, none⟩) (fun v37 w38 =>
  asI (IntKind.i64) (v37) (fun n39 w40 =>
  ld (⟨k11, 7, none⟩) (fun v41 w42 =>
  asI (IntKind.i64) (v41) (fun n43 w44 =>
  ld (⟨k11, 8, none⟩) (fun v45 w46 =>
  asI (IntKind.i64) (v45) (fun n47 w48 =>
  ld (⟨k11, 9, none⟩) (fun v49 w50 =>
  asI (IntKind.i64) (v49) (fun n51 w52 =>
  ld (⟨k11, 10, none⟩) (fun v53 w54 =>
  asI (IntKind.i64) (v53) (fun n55 w56 =>
  gocall Tryz.prog (41) [(Value.pointer none), (Value.agg #[(Value.int IntKind.i64 (n31)), (Value.int IntKind.i64 (n35)), (Value.int IntKind.i64 (n39)), (Value.int IntKind.i64 (n43)), (Value.int IntKind.i64 (n47)), (Value.int IntKind.i64 (n51)), (Value.int IntKind.i64 (n55))])] (fun v57 w58 =>
  asSl (v57) (fun p59 k60 k61 w62 =>
  br ((↑k60 : Int) == 0) (fun w63 =>
  ld (⟨k11, 7, none⟩) (fun v64 w65 =>
  asI (IntKind.i64) (v64) (fun n66 w67 =>
  gocall Tryz.prog (48) [(Value.pointer none), (Value.int IntKind.i64 (n66))] (fun v68 w69 =>
  asSl (v68) (fun p70 k71 k72 w73 =>
  br ((↑k71 : Int) == 0) (fun w74 =>
  ld (⟨k11, 7, none⟩) (fun v75 w76 =>
  asI (IntKind.i64) (v75) (fun n77 w78 =>
  ld (⟨k11, 3, none⟩) (fun v79 w80 =>
  asBoo (v79) (fun b81 w82 =>
  gocall Tryz.prog (49) [(Value.pointer none), (Value.int IntKind.i64 (n77)), (Value.bool (b81))] (fun v83 w84 =>
  asI (IntKind.i64) (v83) (fun n85 w86 =>
  br (n85 == 1) (fun w87 =>
  ld (⟨k11, 7, none⟩) (fun v88 w89 =>
  asI (IntKind.i64) (v88) (fun n90 w91 =>
  gocall Tryz.prog (46) [(Value.pointer none), (Value.int IntKind.i64 (n90))] (fun v92 w93 =>
  asI (IntKind.i64) (v92) (fun n94 w95 =>
  br (n94 == 0) (fun w96 =>
  gocall Tryz.prog (54) [(Value.pointer none), (Value.int IntKind.i64 (3))] (fun v97 w98 =>
  asSl (v97) (fun p99 k100 k101 w102 =>
  br ((↑k100 : Int) == 0) (fun w103 =>
  gocall Tryz.prog (44) [(Value.pointer none)] (fun v104 w105 =>
  asPtr (v104) (fun p106 w107 =>
  br (p106.isNone) (fun w108 =>
  gocall Tryz.prog (52) [(Value.pointer none)] (fun v109 w110 =>
  asPtr (v109) (fun p111 w112 =>
  br (p111.isNone) (fun w113 =>
  gocall Tryz.prog (55) [(Value.pointer none)] (fun v114 w115 =>
  asBoo (v114) (fun b116 w117 =>
  br (!b116) (fun w118 =>
  gocall Tryz.prog (47) [] (fun v119 w120 =>
  asBoo (v119) (fun b121 w122 =>
  K (Value.bool (b121)) (w122)) (w120)) (w118)) (fun w123 =>
  K (Value.bool (false)) (w123)) (w117)) (w115)) (w113)) (fun w124 =>
  K (Value.bool (false)) (w124)) (w112)) (w110)) (w108)) (fun w125 =>
  K (Value.bool (false)) (w125)) (w107)) (w105)) (w103)) (fun w126 =>
  K (Value.bool (false)) (w126)) (w102)) (w98)) (w96)) (fun w127 =>
  K (Value.bool (false)) (w127)) (w95)) (w93)) (w91)) (w89)) (w87)) (fun w128 =>
  K (Value.bool (false)) (w128)) (w86)) (w84)) (w82)) (w80)) (w78)) (w76)) (w74)) (fun w129 =>
  K (Value.bool (false)) (w129)) (w73)) (w69)) (w67)) (w65)) (w63)) (fun w130 =>
  K (Value.bool (false)) (w130)) (w62)) (w58)) (w56)) (w54)) (w52)) (w50)) (w48)) (w46)) (w44)) (w42)) (w40)) (w38)) (w36)) (w34)) (w32)) (w30)) (w28)) (w26)) (w24)) (w22)) (w20)) (w18)) (w16)) (w14)) (w12)) (w)
theorem F8_eq (x0 : Int) (x1 : Int) (x2 : Int) (b3 : Bool) (x4 : Int) (x5 : Int) (x6 : Int) (x7 : Int) (x8 : Int) (x9 : Int) (x10 : Int) : sBody Tryz.prog [] Tryz.f8 [(Value.agg #[(Value.int IntKind.i64 x0), (Value.int IntKind.i64 x1), (Value.int IntKind.i64 x2), (Value.bool b3), (Value.int IntKind.i64 x4), (Value.int IntKind.i64 x5), (Value.int IntKind.i64 x6), (Value.int IntKind.i64 x7), (Value.int IntKind.i64 x8), (Value.int IntKind.i64 x9), (Value.int IntKind.i64 x10)])] = F8 x0 x1 x2 b3 x4 x5 x6 x7 x8 x9 x10 := by kernel_rfl
theorem F8_go (x0 : Int) (x1 : Int) (x2 : Int) (b3 : Bool) (x4 : Int) (x5 : Int) (x6 : Int) (x7 : Int) (x8 : Int) (x9 : Int) (x10 : Int) {K : KV} {w : World} (h : F8 x0 x1 x2 b3 x4 x5 x6 x7 x8 x9 x10 K w) : gocall Tryz.prog 8 [(Value.agg #[(Value.int IntKind.i64 x0), (Value.int IntKind.i64 x1), (Value.int IntKind.i64 x2), (Value.bool b3), (Value.int IntKind.i64 x4), (Value.int IntKind.i64 x5), (Value.int IntKind.i64 x6), (Value.int IntKind.i64 x7), (Value.int IntKind.i64 x8), (Value.int IntKind.i64 x9), (Value.int IntKind.i64 x10)])] K w :=
  ⟨by kernel_rfl, calls_of_sBody (T := []) mixed Tryz.func8 (by kernel_rfl) (by rw [F8_eq]; exact h)⟩
def F54 (p0 : Option Addr) (x1 : Int) (K : KV) (w : World) : Prop :=
  nw (Obj.cells #[(Value.int IntKind.i64 (x1))] 3 (0, 0)) (fun k2 w3 =>
  nw (Obj.cells #[(Value.slice none (0) (0))] 38 (0, 0)) (fun k4 w5 =>
  gocall Tryz.prog (101) [(Value.pointer p0)] (fun v6 w7 =>
  isfn (v6) (fun b8 w9 =>
  br (b8) (fun w10 =>
  K (Value.slice none (0) (0)) (w10)) (fun w11 =>
  asFn (v6) (fun k12 x13 w14 =>
  rfn Tryz.prog (fun k15 k16 f17 w18 =>
  gocall Tryz.prog (k12) ((Value.func (Fn.yield k16) #[] #[]) :: x13.1) (fun v19 w20 =>
  rfe (k16) (f17) (fun p21 w22 =>
  rfj (fun w23 =>
  ld (⟨k4, 0, none⟩) (fun v24 w25 =>
  asSl (v24) (fun p26 k27 k28 w29 =>
  dfr (k15) (fun w30 =>
  K (Value.slice p26 (k27) (k28)) (w30)) (w29)) (w25)) (w23)) (fun w31 =>
  dfr (k15) (fun w32 =>
  K (Value.slice none (0) (0)) (w32)) (w31)) [(0, (fun w33 =>
  ld (⟨k4, 0, none⟩) (fun v34 w35 =>
  asSl (v34) (fun p36 k37 k38 w39 =>
  dfr (k15) (fun w40 =>
  K (Value.slice p36 (k37) (k38)) (w40)) (w39)) (w35)) (w33)))] (p21) (w22)) (w20)) (w18)) (fun k41 f42 l43 f44 w45 =>
  asT (1) (Value.tuple l43.toArray) (fun f46 w47 =>
  asI (IntKind.i64) (f46 0) (fun n48 w49 =>
  rfb (k41) (f42) (fun w50 =>
  ld (⟨k4, 0, none⟩) (fun v51 w52 =>
  asSl (v51) (fun p53 k54 k55 w56 =>
  ld (⟨k2, 0, none⟩) (fun v57 w58 =>
  asI (IntKind.i64) (v57) (fun n59 w60 =>
  br (decide ((↑k54 : Int) ≥ n59)) (fun w61 =>
  rfx (k41) (f42) (Code.exit 0) (fun v62 w63 =>
  f44 (v62) (w63)) (w61)) (fun w64 =>
  ld (⟨k4, 0, none⟩) (fun v65 w66 =>
  asSl (v65) (fun p67 k68 k69 w70 =>
  nw (Obj.cells #[(Value.int IntKind.i64 (n48))] 3 (0, 0)) (fun k71 w72 =>
  bapp (Md.full) Tryz.prog (#[38, 38]) (38) (Value.slice p67 (k68) (k69)) (Value.slice (some ⟨k71, 0, none⟩) (1) (1)) (fun v73 w74 =>
  asSl (v73) (fun p75 k76 k77 w78 =>
  st (⟨k4, 0, none⟩) (Value.slice p75 (k76) (k77)) (fun w79 =>
  rfy (k41) (f42) (fun v80 w81 =>
  f44 (v80) (w81)) (w79)) (w78)) (w74)) (w72)) (w70)) (w66)) (w64)) (w60)) (w58)) (w56)) (w52)) (w50)) (w49)) (w47)) (w45)) (w14)) (w11)) (w9)) (w7)) (w5)) (w3)) (w)
theorem F54_eq (p0 : Option Addr) (x1 : Int) : sBody Tryz.prog [(1000013, [3])] Tryz.f54 [(Value.pointer p0), (Value.int IntKind.i64 x1)] = F54 p0 x1 := by kernel_rfl
theorem F54_go (p0 : Option Addr) (x1 : Int) {K : KV} {w : World} (h : F54 p0 x1 K w) : gocall Tryz.prog 54 [(Value.pointer p0), (Value.int IntKind.i64 x1)] K w :=
  ⟨by kernel_rfl, calls_of_sBody (T := [(1000013, [3])]) mixed Tryz.func54 (by kernel_rfl) (by rw [F54_eq]; exact h)⟩
def F101 (p0 : Option Addr) (K : KV) (w : World) : Prop :=
  br (p0.isNone) (fun w1 =>
  gocall Tryz.prog (138) [(Value.slice none (0) (0))] (fun v2 w3 =>
  K (v2) (w3)) (w1)) (fun w4 =>
  nn (p0) (fun a5 w6 =>
  ld (⟨a5.block, a5.off + 4, none⟩) (fun v7 w8 =>
  asMap (v7) (fun p9 w10 =>
  gocall Tryz.prog (140) [(Value.map p9)] (fun v11 w12 =>
  gocall Tryz.prog (139) [(v11)] (fun v13 w14 =>
  asSl (v13) (fun p15 k16 k17 w18 =>
  gocall Tryz.prog (138) [(Value.slice p15 (k16) (k17))] (fun v19 w20 =>
  K (v19) (w20)) (w18)) (w14)) (w12)) (w10)) (w8)) (w6)) (w4)) (w)
theorem F101_eq (p0 : Option Addr) : sBody Tryz.prog [] Tryz.f101 [(Value.pointer p0)] = F101 p0 := by kernel_rfl
theorem F101_go (p0 : Option Addr) {K : KV} {w : World} (h : F101 p0 K w) : gocall Tryz.prog 101 [(Value.pointer p0)] K w :=
  ⟨by kernel_rfl, calls_of_sBody (T := []) mixed Tryz.func101 (by kernel_rfl) (by rw [F101_eq]; exact h)⟩
def F138 (a0 : Option Addr) (n0 : Nat) (c0 : Nat) (K : KV) (w : World) : Prop :=
  nw (Obj.cells #[(Value.slice a0 (n0) (c0))] 38 (0, 0)) (fun k3 w4 =>
  K (Value.func (Fn.func 166) #[] #[(Value.pointer (some ⟨k3, 0, none⟩))]) (w4)) (w)
theorem F138_eq (a0 : Option Addr) (n0 : Nat) (c0 : Nat) : sBody Tryz.prog [] Tryz.f138 [(Value.slice a0 n0 c0)] = F138 a0 n0 c0 := by kernel_rfl
theorem F138_go (a0 : Option Addr) (n0 : Nat) (c0 : Nat) {K : KV} {w : World} (h : F138 a0 n0 c0 K w) : gocall Tryz.prog 138 [(Value.slice a0 n0 c0)] K w :=
  ⟨by kernel_rfl, calls_of_sBody (T := []) mixed Tryz.func138 (by kernel_rfl) (by rw [F138_eq]; exact h)⟩
def F166 (y0 : Nat) (r1 : Addr) (K : KV) (w : World) : Prop :=
  ld (r1) (fun v2 w3 =>
  asSl (v2) (fun p4 k5 k6 w7 =>
  loop (X := (Int) × Unit) (0, ()) (fun x8 rec9 w10 =>
  br (decide (x8.fst < (↑k5 : Int))) (fun w11 =>
  slAt (p4) (k5) (x8.fst) (1) (fun a12 w13 =>
  ld (a12) (fun v14 w15 =>
  asI (IntKind.i64) (v14) (fun n16 w17 =>
  goyield Tryz.prog (y0) [(Value.int IntKind.i64 (n16))] (fun v18 w19 =>
  asBoo (v18) (fun b20 w21 =>
  br (!b20) (fun w22 =>
  K (Value.tuple #[]) (w22)) (fun w23 =>
  rec9 (IntKind.i64.wrap (x8.fst + 1), ()) (w23)) (w21)) (w19)) (w17)) (w15)) (w13)) (w11)) (fun w24 =>
  K (Value.tuple #[]) (w24)) (w10)) (w7)) (w3)) (w)
theorem F166_eq (y0 : Nat) (r1 : Addr) : sBody Tryz.prog [] Tryz.f166 [(yv y0), (Value.pointer (some r1))] = F166 y0 r1 := by kernel_rfl
theorem F166_go (y0 : Nat) (r1 : Addr) {K : KV} {w : World} (h : F166 y0 r1 K w) : gocall Tryz.prog 166 [(yv y0), (Value.pointer (some r1))] K w :=
  ⟨by kernel_rfl, calls_of_sBody (T := []) mixed Tryz.func166 (by kernel_rfl) (by rw [F166_eq]; exact h)⟩
def F52 (p0 : Option Addr) (K : KV) (w : World) : Prop :=
  br (p0.isNone) (fun w1 =>
  K (Value.pointer none) (w1)) (fun w2 =>
  nn (p0) (fun a3 w4 =>
  ld (⟨a3.block, a3.off + 3, none⟩) (fun v5 w6 =>
  tyas (Md.full) Tryz.prog (v5) (133) (149) (true) (fun v7 w8 =>
  asT (2) (v7) (fun f9 w10 =>
  asN (1) (f9 0) (fun f11 w12 =>
  asPtr (f11 0) (fun p13 w14 =>
  asBoo (f9 1) (fun b15 w16 =>
  nw (Obj.cells #[(Value.pointer none)] 149 (0, 0)) (fun k17 w18 =>
  st (⟨k17, 0, none⟩) (Value.pointer p13) (fun w19 =>
  ld (⟨k17, 0, none⟩) (fun v20 w21 =>
  asPtr (v20) (fun p22 w23 =>
  K (Value.pointer p22) (w23)) (w21)) (w19)) (w18)) (w16)) (w14)) (w12)) (w10)) (w8)) (w6)) (w4)) (w2)) (w)
theorem F52_eq (p0 : Option Addr) : sBody Tryz.prog [] Tryz.f52 [(Value.pointer p0)] = F52 p0 := by kernel_rfl
theorem F52_go (p0 : Option Addr) {K : KV} {w : World} (h : F52 p0 K w) : gocall Tryz.prog 52 [(Value.pointer p0)] K w :=
  ⟨by kernel_rfl, calls_of_sBody (T := []) mixed Tryz.func52 (by kernel_rfl) (by rw [F52_eq]; exact h)⟩
end Go.Proofs.YtjckakeolmbidaaGreatDoor
