/- The shallow readings of some functions of the program (printed by a program of ours out of the model's own evaluation) and, for each, the proof that it is one. Conditions: none. -/
import Derived.Test.YtjckakeolmbidaaGreatDoorFK
set_option maxRecDepth 100000
set_option linter.unusedVariables false
namespace Go.Proofs.YtjckakeolmbidaaGreatDoor
open Go Go.Sh
def F52 (p0 : Option Addr) (K : KV) (w : World) : Prop :=
  br (p0.isNone) (fun w1 =>
  K (Value.pointer none) (w1)) (fun w2 =>
  nn (p0) (fun a3 w4 =>
  ld (⟨a3.block, a3.off + 3, none⟩) (fun v5 w6 =>
  tyas (Md.full) Tryz.prog (v5) (133) (149) (true) (fun v7 w8 =>
  asT (2) (v7) (fun f9 w10 =>
  asN (1) (f9 0) (fun f11 w12 =>
  asPtr (f11 0) (fun p13 w14 =>
  asBoo (f9 1) (fun b15 w16 =>
  nw (Obj.cells #[(Value.pointer none)] 149 (0, 0)) (fun k17 w18 =>
  st (⟨k17, 0, none⟩) (Value.pointer p13) (fun w19 =>
  ld (⟨k17, 0, none⟩) (fun v20 w21 =>
  asPtr (v20) (fun p22 w23 =>
  K (Value.pointer p22) (w23)) (w21)) (w19)) (w18)) (w16)) (w14)) (w12)) (w10)) (w8)) (w6)) (w4)) (w2)) (w)
theorem F52_eq (p0 : Option Addr) : sBody Tryz.prog [] Tryz.f52 [(Value.pointer p0)] = F52 p0 := by kernel_rfl
theorem F52_go (p0 : Option Addr) {K : KV} {w : World} (h : F52 p0 K w) : gocall Tryz.prog 52 [(Value.pointer p0)] K w :=
  ⟨by kernel_rfl, calls_of_sBody (T := []) mixed Tryz.func52 (by kernel_rfl) (by rw [F52_eq]; exact h)⟩
def F53 (p0 : Option Addr) (K : KV) (w : World) : Prop :=
  br (p0.isNone) (fun w1 =>
  K (Value.int IntKind.i64 (0)) (w1)) (fun w2 =>
  nn (p0) (fun a3 w4 =>
  ld (⟨a3.block, a3.off + 8, none⟩) (fun v5 w6 =>
  asI (IntKind.i64) (v5) (fun n7 w8 =>
  K (Value.int IntKind.i64 (n7)) (w8)) (w6)) (w4)) (w2)) (w)
theorem F53_eq (p0 : Option Addr) : sBody Tryz.prog [] Tryz.f53 [(Value.pointer p0)] = F53 p0 := by kernel_rfl
theorem F53_go (p0 : Option Addr) {K : KV} {w : World} (h : F53 p0 K w) : gocall Tryz.prog 53 [(Value.pointer p0)] K w :=
  ⟨by kernel_rfl, calls_of_sBody (T := []) mixed Tryz.func53 (by kernel_rfl) (by rw [F53_eq]; exact h)⟩
def F130 (a0 : Option Addr) (n0 : Nat) (c0 : Nat) (K : KV) (w : World) : Prop :=
  nw (Obj.map #[] 0) (fun k3 w4 =>
  nw (Obj.map #[] 0) (fun k5 w6 =>
  nw (Obj.cells #[(Value.int IntKind.i64 (0)), (Value.int IntKind.i64 (0)), (Value.int IntKind.i64 (0)), (Value.int IntKind.i64 (0)), (Value.int IntKind.i64 (0)), (Value.int IntKind.i64 (0)), (Value.int IntKind.i64 (0)), (Value.int IntKind.i64 (0)), (Value.int IntKind.i64 (0)), (Value.map (some k3)), (Value.map (some k5))] 153 (0, 0)) (fun k7 w8 =>
  loop (X := (Int) × Unit) (0, ()) (fun x9 rec10 w11 =>
  br (decide (x9.fst < if 8 < (↑n0 : Int) then 8 else (↑n0 : Int))) (fun w12 =>
  slAt (a0) (n0) (x9.fst) (1) (fun a13 w14 =>
  ld (a13) (fun v15 w16 =>
  asI (IntKind.i64) (v15) (fun n17 w18 =>
  nn ((some ⟨k7, 0, none⟩)) (fun a19 w20 =>
  arAt (a19) (8) (x9.fst) (1) (fun a21 w22 =>
  st (a21) (Value.int IntKind.i64 (if (if 1000000000 < n17 then 1000000000 else n17) > 0 then if 1000000000 < n17 then 1000000000 else n17 else 0)) (fun w23 =>
  rec10 (IntKind.i64.wrap (x9.fst + 1), ()) (w23)) (w22)) (w20)) (w18)) (w16)) (w14)) (w12.drew)) (fun w24 =>
  K (Value.pointer (some ⟨k7, 0, none⟩)) (w24)) (w11)) (w8)) (w6)) (w4)) (w)
theorem F130_eq (a0 : Option Addr) (n0 : Nat) (c0 : Nat) : sBody Tryz.prog [] Tryz.f130 [(Value.slice a0 n0 c0)] = F130 a0 n0 c0 := by kernel_rfl
theorem F130_go (a0 : Option Addr) (n0 : Nat) (c0 : Nat) {K : KV} {w : World} (h : F130 a0 n0 c0 K w) : gocall Tryz.prog 130 [(Value.slice a0 n0 c0)] K w :=
  ⟨by kernel_rfl, calls_of_sBody (T := []) mixed Tryz.func130 (by kernel_rfl) (by rw [F130_eq]; exact h)⟩
def F263 (p0 : Option Addr) (x1 : Int) (K : KV) (w : World) : Prop :=
  nw (Obj.cells #[(Value.pointer p0)] 149 (0, 0)) (fun k2 w3 =>
  ld (⟨k2, 0, none⟩) (fun v4 w5 =>
  asPtr (v4) (fun p6 w7 =>
  gocall Tryz.prog (266) [(Value.pointer p6), (Value.int IntKind.i64 (x1))] (fun v8 w9 =>
  asI (IntKind.i64) (v8) (fun n10 w11 =>
  K (Value.tuple #[]) (w11)) (w9)) (w7)) (w5)) (w3)) (w)
theorem F263_eq (p0 : Option Addr) (x1 : Int) : sBody Tryz.prog [] Tryz.f263 [(Value.agg #[(Value.pointer p0)]), (Value.int IntKind.i64 x1)] = F263 p0 x1 := by kernel_rfl
theorem F263_go (p0 : Option Addr) (x1 : Int) {K : KV} {w : World} (h : F263 p0 x1 K w) : gocall Tryz.prog 263 [(Value.agg #[(Value.pointer p0)]), (Value.int IntKind.i64 x1)] K w :=
  ⟨by kernel_rfl, calls_of_sBody (T := []) mixed Tryz.func263 (by kernel_rfl) (by rw [F263_eq]; exact h)⟩
def F264 (p0 : Option Addr) (x1 : Int) (K : KV) (w : World) : Prop :=
  nw (Obj.cells #[(Value.pointer p0)] 149 (0, 0)) (fun k2 w3 =>
  ld (⟨k2, 0, none⟩) (fun v4 w5 =>
  asPtr (v4) (fun p6 w7 =>
  gocall Tryz.prog (267) [(Value.pointer p6), (Value.int IntKind.i64 (x1))] (fun v8 w9 =>
  asI (IntKind.i64) (v8) (fun n10 w11 =>
  K (Value.tuple #[]) (w11)) (w9)) (w7)) (w5)) (w3)) (w)
theorem F264_eq (p0 : Option Addr) (x1 : Int) : sBody Tryz.prog [] Tryz.f264 [(Value.agg #[(Value.pointer p0)]), (Value.int IntKind.i64 x1)] = F264 p0 x1 := by kernel_rfl
theorem F264_go (p0 : Option Addr) (x1 : Int) {K : KV} {w : World} (h : F264 p0 x1 K w) : gocall Tryz.prog 264 [(Value.agg #[(Value.pointer p0)]), (Value.int IntKind.i64 x1)] K w :=
  ⟨by kernel_rfl, calls_of_sBody (T := []) mixed Tryz.func264 (by kernel_rfl) (by rw [F264_eq]; exact h)⟩
def F265 (p0 : Option Addr) (x1 : Int) (x2 : Int) (x3 : Int) (K : KV) (w : World) : Prop :=
  nw (Obj.cells #[(Value.pointer p0)] 149 (0, 0)) (fun k4 w5 =>
  ld (⟨k4, 0, none⟩) (fun v6 w7 =>
  asPtr (v6) (fun p8 w9 =>
  gocall Tryz.prog (268) [(Value.pointer p8), (Value.int IntKind.i64 (x1)), (Value.int IntKind.i64 (x2)), (Value.int IntKind.i64 (x3))] (fun v10 w11 =>
  asI (IntKind.i64) (v10) (fun n12 w13 =>
  K (Value.bool (n12 == 0)) (w13)) (w11)) (w9)) (w7)) (w5)) (w)
theorem F265_eq (p0 : Option Addr) (x1 : Int) (x2 : Int) (x3 : Int) : sBody Tryz.prog [] Tryz.f265 [(Value.agg #[(Value.pointer p0)]), (Value.int IntKind.i64 x1), (Value.int IntKind.i64 x2), (Value.int IntKind.i64 x3)] = F265 p0 x1 x2 x3 := by kernel_rfl
theorem F265_go (p0 : Option Addr) (x1 : Int) (x2 : Int) (x3 : Int) {K : KV} {w : World} (h : F265 p0 x1 x2 x3 K w) : gocall Tryz.prog 265 [(Value.agg #[(Value.pointer p0)]), (Value.int IntKind.i64 x1), (Value.int IntKind.i64 x2), (Value.int IntKind.i64 x3)] K w :=
  ⟨by kernel_rfl, calls_of_sBody (T := []) mixed Tryz.func265 (by kernel_rfl) (by rw [F265_eq]; exact h)⟩
def F266 (p0 : Option Addr) (x1 : Int) (K : KV) (w : World) : Prop :=
  gocall Tryz.prog (269) [(Value.pointer p0), (Value.int IntKind.i64 (x1))] (fun v2 w3 =>
  asT (2) (v2) (fun f4 w5 =>
  asN (2) (f4 0) (fun f6 w7 =>
  asI (IntKind.i64) (f6 0) (fun n8 w9 =>
  asI (IntKind.i64) (f6 1) (fun n10 w11 =>
  asI (IntKind.i64) (f4 1) (fun n12 w13 =>
  nw (Obj.cells #[(Value.int IntKind.i64 (0)), (Value.int IntKind.i64 (0))] 195 (0, 0)) (fun k14 w15 =>
  st (⟨k14, 0, none⟩) (Value.int IntKind.i64 (n8)) (fun w16 =>
  st (⟨k14, 1, none⟩) (Value.int IntKind.i64 (n10)) (fun w17 =>
  br (n12 == 0) (fun w18 =>
  ld (⟨k14, 0, none⟩) (fun v19 w20 =>
  asI (IntKind.i64) (v19) (fun n21 w22 =>
  nn (p0) (fun a23 w24 =>
  arAt (a23) (8) (n21) (1) (fun a25 w26 =>
  ld (a25) (fun v27 w28 =>
  asI (IntKind.i64) (v27) (fun n29 w30 =>
  ld (⟨k14, 1, none⟩) (fun v31 w32 =>
  asI (IntKind.i64) (v31) (fun n33 w34 =>
  nn (p0) (fun a35 w36 =>
  arAt (a35) (8) (n21) (1) (fun a37 w38 =>
  st (a37) (Value.int IntKind.i64 (IntKind.i64.wrap (n29 - n33))) (fun w39 =>
  nn (p0) (fun a40 w41 =>
  ld (⟨a40.block, a40.off + 8, none⟩) (fun v42 w43 =>
  asI (IntKind.i64) (v42) (fun n44 w45 =>
  ld (⟨k14, 1, none⟩) (fun v46 w47 =>
  asI (IntKind.i64) (v46) (fun n48 w49 =>
  nn (p0) (fun a50 w51 =>
  st (⟨a50.block, a50.off + 8, none⟩) (Value.int IntKind.i64 (IntKind.i64.wrap (n44 + n48))) (fun w52 =>
  nn (p0) (fun a53 w54 =>
  ld (⟨a53.block, a53.off + 10, none⟩) (fun v55 w56 =>
  asMap (v55) (fun p57 w58 =>
  ld (⟨k14, 1, none⟩) (fun v59 w60 =>
  asI (IntKind.i64) (v59) (fun n61 w62 =>
  mset (Md.full) Tryz.prog (124) (Value.map p57) (Value.int IntKind.i64 (x1)) (Value.int IntKind.i64 (n61)) (fun w63 =>
  K (Value.int IntKind.i64 (n12)) (w63)) (w62)) (w60)) (w58)) (w56)) (w54)) (w52.drew)) (w51)) (w49)) (w47)) (w45)) (w43)) (w41)) (w39.drew)) (w38)) (w36)) (w34)) (w32)) (w30)) (w28)) (w26)) (w24)) (w22)) (w20)) (w18.drew)) (fun w64 =>
  K (Value.int IntKind.i64 (n12)) (w64)) (w17)) (w16)) (w15)) (w13)) (w11)) (w9)) (w7)) (w5)) (w3)) (w)
theorem F266_eq (p0 : Option Addr) (x1 : Int) : sBody Tryz.prog [] Tryz.f266 [(Value.pointer p0), (Value.int IntKind.i64 x1)] = F266 p0 x1 := by kernel_rfl
theorem F266_go (p0 : Option Addr) (x1 : Int) {K : KV} {w : World} (h : F266 p0 x1 K w) : gocall Tryz.prog 266 [(Value.pointer p0), (Value.int IntKind.i64 x1)] K w :=
  ⟨by kernel_rfl, calls_of_sBody (T := []) mixed Tryz.func266 (by kernel_rfl) (by rw [F266_eq]; exact h)⟩
def F267 (p0 : Option Addr) (x1 : Int) (K : KV) (w : World) : Prop :=
  gocall Tryz.prog (269) [(Value.pointer p0), (Value.int IntKind.i64 (x1))] (fun v2 w3 =>
  asT (2) (v2) (fun f4 w5 =>
  asN (2) (f4 0) (fun f6 w7 =>
  asI (IntKind.i64) (f6 0) (fun n8 w9 =>
  asI (IntKind.i64) (f6 1) (fun n10 w11 =>
  asI (IntKind.i64) (f4 1) (fun n12 w13 =>
  nw (Obj.cells #[(Value.int IntKind.i64 (0)), (Value.int IntKind.i64 (0))] 195 (0, 0)) (fun k14 w15 =>
  st (⟨k14, 0, none⟩) (Value.int IntKind.i64 (n8)) (fun w16 =>
  st (⟨k14, 1, none⟩) (Value.int IntKind.i64 (n10)) (fun w17 =>
  K (Value.int IntKind.i64 (n12)) (w17)) (w16)) (w15)) (w13)) (w11)) (w9)) (w7)) (w5)) (w3)) (w)
theorem F267_eq (p0 : Option Addr) (x1 : Int) : sBody Tryz.prog [] Tryz.f267 [(Value.pointer p0), (Value.int IntKind.i64 x1)] = F267 p0 x1 := by kernel_rfl
theorem F267_go (p0 : Option Addr) (x1 : Int) {K : KV} {w : World} (h : F267 p0 x1 K w) : gocall Tryz.prog 267 [(Value.pointer p0), (Value.int IntKind.i64 x1)] K w :=
  ⟨by kernel_rfl, calls_of_sBody (T := []) mixed Tryz.func267 (by kernel_rfl) (by rw [F267_eq]; exact h)⟩
def F268 (p0 : Option Addr) (x1 : Int) (x2 : Int) (x3 : Int) (K : KV) (w : World) : Prop :=
  br (p0.isNone) (fun w4 =>
  K (Value.int IntKind.i64 (1)) (w4)) (fun w5 =>
  br (decide (x1 < 1)) (fun w6 =>
  K (Value.int IntKind.i64 (1)) (w6)) (fun w7 =>
  br (decide (x1 > 999)) (fun w8 =>
  K (Value.int IntKind.i64 (1)) (w8)) (fun w9 =>
  gocall Tryz.prog (150) [(Value.int IntKind.i64 (x2))] (fun v10 w11 =>
  asBoo (v10) (fun b12 w13 =>
  br (!b12) (fun w14 =>
  K (Value.int IntKind.i64 (1)) (w14)) (fun w15 =>
  br (x3 == 0) (fun w16 =>
  K (Value.int IntKind.i64 (1)) (w16)) (fun w17 =>
  gocall Tryz.prog (157) [(Value.int IntKind.i64 (x3))] (fun v18 w19 =>
  asBoo (v18) (fun b20 w21 =>
  br (!b20) (fun w22 =>
  K (Value.int IntKind.i64 (1)) (w22)) (fun w23 =>
  nn (p0) (fun a24 w25 =>
  ld (⟨a24.block, a24.off + 9, none⟩) (fun v26 w27 =>
  asMap (v26) (fun p28 w29 =>
  mget (Md.full) Tryz.prog (151) (Value.map p28) (Value.int IntKind.i64 (x1)) (true) (fun v30 w31 =>
  asT (2) (v30) (fun f32 w33 =>
  asN (2) (f32 0) (fun f34 w35 =>
  asI (IntKind.i64) (f34 0) (fun n36 w37 =>
  asI (IntKind.i64) (f34 1) (fun n38 w39 =>
  asBoo (f32 1) (fun b40 w41 =>
  nw (Obj.cells #[(Value.int IntKind.i64 (0)), (Value.int IntKind.i64 (0))] 195 (0, 0)) (fun k42 w43 =>
  st (⟨k42, 0, none⟩) (Value.int IntKind.i64 (n36)) (fun w44 =>
  st (⟨k42, 1, none⟩) (Value.int IntKind.i64 (n38)) (fun w45 =>
  nn (p0) (fun a46 w47 =>
  ld (⟨a46.block, a46.off + 10, none⟩) (fun v48 w49 =>
  asMap (v48) (fun p50 w51 =>
  mget (Md.full) Tryz.prog (124) (Value.map p50) (Value.int IntKind.i64 (x1)) (true) (fun v52 w53 =>
  asT (2) (v52) (fun f54 w55 =>
  asI (IntKind.i64) (f54 0) (fun n56 w57 =>
  asBoo (f54 1) (fun b58 w59 =>
  br (b40) (fun w60 =>
  K (Value.int IntKind.i64 (8)) (w60)) (fun w61 =>
  br (b58) (fun w62 =>
  K (Value.int IntKind.i64 (8)) (w62)) (fun w63 =>
  keeps (fun S64 w65 =>
  nn (p0) (fun a66 w67 =>
  arAt (a66) (8) (x2) (1) (fun a68 w69 =>
  ldS (S64) (a68) (fun v70 w71 =>
  asI (IntKind.i64) (v70) (fun n72 w73 =>
  gocall Tryz.prog (109) [(Value.pointer p0), (Value.int IntKind.i64 (x2))] (fun v74 w75 =>
  asI (IntKind.i64) (v74) (fun n76 w77 =>
  kp (S64) (fun w78 =>
  br (decide (x3 > IntKind.i64.wrap (n72 - n76))) (fun w79 =>
  K (Value.int IntKind.i64 (9)) (w79)) (fun w80 =>
  keeps (fun S81 w82 =>
  nn (p0) (fun a83 w84 =>
  ldS (S81) (⟨a83.block, a83.off + 8, none⟩) (fun v85 w86 =>
  asI (IntKind.i64) (v85) (fun n87 w88 =>
  gocall Tryz.prog (270) [(Value.pointer p0)] (fun v89 w90 =>
  asI (IntKind.i64) (v89) (fun n91 w92 =>
  kp (S81) (fun w93 =>
  br (decide (x3 > IntKind.i64.wrap (IntKind.i64.wrap (1000000000 - n87) - n91))) (fun w94 =>
  K (Value.int IntKind.i64 (4)) (w94)) (fun w95 =>
  nn (p0) (fun a96 w97 =>
  ld (⟨a96.block, a96.off + 9, none⟩) (fun v98 w99 =>
  asMap (v98) (fun p100 w101 =>
  mset (Md.full) Tryz.prog (151) (Value.map p100) (Value.int IntKind.i64 (x1)) (Value.agg #[(Value.int IntKind.i64 (x2)), (Value.int IntKind.i64 (x3))]) (fun w102 =>
  K (Value.int IntKind.i64 (0)) (w102)) (w101)) (w99)) (w97)) (w95)) (w93)) (w92)) (w90)) (w88)) (w86)) (w84)) (w82)) (w80.drew)) (w78)) (w77)) (w75)) (w73)) (w71)) (w69)) (w67)) (w65)) (w63.drew)) (w61)) (w59)) (w57)) (w55)) (w53)) (w51)) (w49)) (w47)) (w45)) (w44)) (w43)) (w41)) (w39)) (w37)) (w35)) (w33)) (w31)) (w29)) (w27)) (w25)) (w23)) (w21)) (w19)) (w17)) (w15)) (w13)) (w11)) (w9)) (w7)) (w5)) (w)
theorem F268_eq (p0 : Option Addr) (x1 : Int) (x2 : Int) (x3 : Int) : sBody Tryz.prog [(7, [0, 1, 2, 3, 4, 5, 6, 7, 8, 9, 10, 11, 12]), (9, [0, 1, 2, 3, 4, 5, 6, 7, 8, 9, 10])] Tryz.f268 [(Value.pointer p0), (Value.int IntKind.i64 x1), (Value.int IntKind.i64 x2), (Value.int IntKind.i64 x3)] = F268 p0 x1 x2 x3 := by kernel_rfl
theorem F268_go (p0 : Option Addr) (x1 : Int) (x2 : Int) (x3 : Int) {K : KV} {w : World} (h : F268 p0 x1 x2 x3 K w) : gocall Tryz.prog 268 [(Value.pointer p0), (Value.int IntKind.i64 x1), (Value.int IntKind.i64 x2), (Value.int IntKind.i64 x3)] K w :=
  ⟨by kernel_rfl, calls_of_sBody (T := [(7, [0, 1, 2, 3, 4, 5, 6, 7, 8, 9, 10, 11, 12]), (9, [0, 1, 2, 3, 4, 5, 6, 7, 8, 9, 10])]) mixed Tryz.func268 (by kernel_rfl) (by rw [F268_eq]; exact h)⟩
def F269 (p0 : Option Addr) (x1 : Int) (K : KV) (w : World) : Prop :=
  nw (Obj.cells #[(Value.int IntKind.i64 (0)), (Value.int IntKind.i64 (0))] 195 (0, 0)) (fun k2 w3 =>
  br (p0.isNone) (fun w4 =>
  st (⟨k2, 0, none⟩) (Value.int IntKind.i64 (0)) (fun w5 =>
  st (⟨k2, 1, none⟩) (Value.int IntKind.i64 (0)) (fun w6 =>
  ld (⟨k2, 0, none⟩) (fun v7 w8 =>
  asI (IntKind.i64) (v7) (fun n9 w10 =>
  ld (⟨k2, 1, none⟩) (fun v11 w12 =>
  asI (IntKind.i64) (v11) (fun n13 w14 =>
  K (Value.tuple #[(Value.agg #[(Value.int IntKind.i64 (n9)), (Value.int IntKind.i64 (n13))]), (Value.int IntKind.i64 (1))]) (w14)) (w12)) (w10)) (w8)) (w6)) (w5)) (w4)) (fun w15 =>
  nn (p0) (fun a16 w17 =>
  ld (⟨a16.block, a16.off + 9, none⟩) (fun v18 w19 =>
  asMap (v18) (fun p20 w21 =>
  mget (Md.full) Tryz.prog (151) (Value.map p20) (Value.int IntKind.i64 (x1)) (true) (fun v22 w23 =>
  asT (2) (v22) (fun f24 w25 =>
  asN (2) (f24 0) (fun f26 w27 =>
  asI (IntKind.i64) (f26 0) (fun n28 w29 =>
  asI (IntKind.i64) (f26 1) (fun n30 w31 =>
  asBoo (f24 1) (fun b32 w33 =>
  nw (Obj.cells #[(Value.int IntKind.i64 (0)), (Value.int IntKind.i64 (0))] 195 (0, 0)) (fun k34 w35 =>
  st (⟨k34, 0, none⟩) (Value.int IntKind.i64 (n28)) (fun w36 =>
  st (⟨k34, 1, none⟩) (Value.int IntKind.i64 (n30)) (fun w37 =>
  br (!b32) (fun w38 =>
  st (⟨k2, 0, none⟩) (Value.int IntKind.i64 (0)) (fun w39 =>
  st (⟨k2, 1, none⟩) (Value.int IntKind.i64 (0)) (fun w40 =>
  ld (⟨k2, 0, none⟩) (fun v41 w42 =>
  asI (IntKind.i64) (v41) (fun n43 w44 =>
  ld (⟨k2, 1, none⟩) (fun v45 w46 =>
  asI (IntKind.i64) (v45) (fun n47 w48 =>
  K (Value.tuple #[(Value.agg #[(Value.int IntKind.i64 (n43)), (Value.int IntKind.i64 (n47))]), (Value.int IntKind.i64 (6))]) (w48)) (w46)) (w44)) (w42)) (w40)) (w39)) (w38)) (fun w49 =>
  nn (p0) (fun a50 w51 =>
  ld (⟨a50.block, a50.off + 9, none⟩) (fun v52 w53 =>
  asMap (v52) (fun p54 w55 =>
  bdel (Md.full) Tryz.prog (#[151, 3]) (0) (Value.map p54) (Value.int IntKind.i64 (x1)) (fun v56 w57 =>
  ld (⟨k34, 0, none⟩) (fun v58 w59 =>
  asI (IntKind.i64) (v58) (fun n60 w61 =>
  ld (⟨k34, 1, none⟩) (fun v62 w63 =>
  asI (IntKind.i64) (v62) (fun n64 w65 =>
  st (⟨k2, 0, none⟩) (Value.int IntKind.i64 (n60)) (fun w66 =>
  st (⟨k2, 1, none⟩) (Value.int IntKind.i64 (n64)) (fun w67 =>
  ld (⟨k2, 0, none⟩) (fun v68 w69 =>
  asI (IntKind.i64) (v68) (fun n70 w71 =>
  ld (⟨k2, 1, none⟩) (fun v72 w73 =>
  asI (IntKind.i64) (v72) (fun n74 w75 =>
  K (Value.tuple #[(Value.agg #[(Value.int IntKind.i64 (n70)), (Value.int IntKind.i64 (n74))]), (Value.int IntKind.i64 (0))]) (w75)) (w73)) (w71)) (w69)) (w67)) (w66)) (w65)) (w63)) (w61)) (w59)) (w57)) (w55)) (w53)) (w51)) (w49)) (w37)) (w36)) (w35)) (w33)) (w31)) (w29)) (w27)) (w25)) (w23)) (w21)) (w19)) (w17)) (w15)) (w3)) (w)
theorem F269_eq (p0 : Option Addr) (x1 : Int) : sBody Tryz.prog [] Tryz.f269 [(Value.pointer p0), (Value.int IntKind.i64 x1)] = F269 p0 x1 := by kernel_rfl
theorem F269_go (p0 : Option Addr) (x1 : Int) {K : KV} {w : World} (h : F269 p0 x1 K w) : gocall Tryz.prog 269 [(Value.pointer p0), (Value.int IntKind.i64 x1)] K w :=
  ⟨by kernel_rfl, calls_of_sBody (T := []) mixed Tryz.func269 (by kernel_rfl) (by rw [F269_eq]; exact h)⟩
def F150 (x0 : Int) (K : KV) (w : World) : Prop :=
  br (decide (x0 ≥ 0)) (fun w1 =>
  K (Value.bool (decide (x0 < 8))) (w1)) (fun w2 =>
  K (Value.bool (false)) (w2)) (w)
theorem F150_eq (x0 : Int) : sBody Tryz.prog [] Tryz.f150 [(Value.int IntKind.i64 x0)] = F150 x0 := by kernel_rfl
theorem F150_go (x0 : Int) {K : KV} {w : World} (h : F150 x0 K w) : gocall Tryz.prog 150 [(Value.int IntKind.i64 x0)] K w :=
  ⟨by kernel_rfl, calls_of_sBody (T := []) mixed Tryz.func150 (by kernel_rfl) (by rw [F150_eq]; exact h)⟩
def F109 (p0 : Option Addr) (x1 : Int) (K : KV) (w : World) : Prop :=
  br (p0.isNone) (fun w2 =>
  K (Value.int IntKind.i64 (0)) (w2)) (fun w3 =>
  nn (p0) (fun a4 w5 =>
  ld (⟨a4.block, a4.off + 9, none⟩) (fun v6 w7 =>
  asMap (v6) (fun p8 w9 =>
  mrng (Md.full) Tryz.prog (151) (Value.map p8) (fun v10 w11 =>
  loop (X := (Int) × Unit) (0, ()) (fun x12 rec13 w14 =>
  mnxt (Md.full) Tryz.prog (v10) (false) (0) (fun v15 w16 =>
  asB1 (v15) (fun b17 l18 w19 =>
  br (b17) (fun w20 =>
  mtry (Md.full) Tryz.prog (v10) (fun v21 w22 =>
  asT (2) (v21) (fun f23 w24 =>
  asN (2) (f23 1) (fun f25 w26 =>
  asI (IntKind.i64) (f25 0) (fun n27 w28 =>
  asI (IntKind.i64) (f25 1) (fun n29 w30 =>
  nw (Obj.cells #[(Value.int IntKind.i64 (0)), (Value.int IntKind.i64 (0))] 195 (0, 0)) (fun k31 w32 =>
  st (⟨k31, 0, none⟩) (Value.int IntKind.i64 (n27)) (fun w33 =>
  st (⟨k31, 1, none⟩) (Value.int IntKind.i64 (n29)) (fun w34 =>
  ld (⟨k31, 0, none⟩) (fun v35 w36 =>
  asI (IntKind.i64) (v35) (fun n37 w38 =>
  br (n37 == x1) (fun w39 =>
  ld (⟨k31, 1, none⟩) (fun v40 w41 =>
  asI (IntKind.i64) (v40) (fun n42 w43 =>
  rec13 (IntKind.i64.wrap (x12.fst + n42), ()) (w43)) (w41)) (w39)) (fun w44 =>
  rec13 (x12.fst, ()) (w44)) (w38)) (w36)) (w34)) (w33)) (w32)) (w30)) (w28)) (w26)) (w24)) (w22)) (w20)) (fun w45 =>
  K (Value.int IntKind.i64 (x12.fst)) (w45)) (w19)) (w16)) (w14)) (w11)) (w9)) (w7)) (w5)) (w3)) (w)
theorem F109_eq (p0 : Option Addr) (x1 : Int) : sBody Tryz.prog [] Tryz.f109 [(Value.pointer p0), (Value.int IntKind.i64 x1)] = F109 p0 x1 := by kernel_rfl
theorem F109_go (p0 : Option Addr) (x1 : Int) {K : KV} {w : World} (h : F109 p0 x1 K w) : gocall Tryz.prog 109 [(Value.pointer p0), (Value.int IntKind.i64 x1)] K w :=
  ⟨by kernel_rfl, calls_of_sBody (T := []) mixed Tryz.func109 (by kernel_rfl) (by rw [F109_eq]; exact h)⟩
def F270 (p0 : Option Addr) (K : KV) (w : World) : Prop :=
  loop (X := (Int) × (Int) × Unit) (0, (0, ())) (fun x1 rec2 w3 =>
  br (decide (x1.fst < 8)) (fun w4 =>
  gocall Tryz.prog (109) [(Value.pointer p0), (Value.int IntKind.i64 (x1.fst))] (fun v5 w6 =>
  asI (IntKind.i64) (v5) (fun n7 w8 =>
  rec2 (IntKind.i64.wrap (x1.fst + 1), (IntKind.i64.wrap (x1.snd.fst + n7), ())) (w8)) (w6)) (w4)) (fun w9 =>
  K (Value.int IntKind.i64 (x1.snd.fst)) (w9)) (w3)) (w)
theorem F270_eq (p0 : Option Addr) : sBody Tryz.prog [] Tryz.f270 [(Value.pointer p0)] = F270 p0 := by kernel_rfl
theorem F270_go (p0 : Option Addr) {K : KV} {w : World} (h : F270 p0 K w) : gocall Tryz.prog 270 [(Value.pointer p0)] K w :=
  ⟨by kernel_rfl, calls_of_sBody (T := []) mixed Tryz.func270 (by kernel_rfl) (by rw [F270_eq]; exact h)⟩
end Go.Proofs.YtjckakeolmbidaaGreatDoor
