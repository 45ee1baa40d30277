/- The shallow readings of some functions of the program (printed by a program of ours out of the model's own evaluation) and, for each, the proof that it is one. Conditions: none. -/
import Derived.Test.YtiihiaicggmhjaaDoorSh
import Derived.Test.YtiihiaicggmhjaaDoorProg
set_option maxRecDepth 100000
set_option linter.unusedVariables false
namespace Go.Proofs.YtiihiaicggmhjaaDoor
open Go Go.Sh
theorem mixed : Tryd.prog.follows .mixedOrders = true := by kernel_rfl
def F11 (x0 : Int) (K : KV) (w : World) : Prop :=
  gocall Tryd.prog (30) [(Value.int IntKind.i64 (x0))] (fun v0 w1 =>
  asPtr (v0) (fun p2 w3 =>
  gocall Tryd.prog (31) [] (fun v4 w5 =>
  asPtr (v4) (fun p6 w7 =>
  nw (Obj.cells #[(Value.pointer p2), (Value.pointer p6)] 60 (0, 0)) (fun k8 w9 =>
  K (Value.pointer (some ⟨k8, 0, none⟩)) (w9)) (w7)) (w5)) (w3)) (w1)) (w)
theorem F11_eq (x0 : Int) : sBody Tryd.prog [] Tryd.f11 [(Value.int IntKind.i64 x0)] = F11 x0 := by kernel_rfl
theorem F11_go (x0 : Int) {K : KV} {w : World} (h : F11 x0 K w) : gocall Tryd.prog 11 [(Value.int IntKind.i64 x0)] K w :=
  ⟨by kernel_rfl, calls_of_sBody (T := []) mixed Tryd.func11 (by kernel_rfl) (by rw [F11_eq]; exact h)⟩
def F12 (p0 : Option Addr) (x1 : Int) (x2 : Int) (x3 : Int) (x4 : Int) (x5 : Int) (x6 : Int) (x7 : Int) (K : KV) (w : World) : Prop :=
  nw (Obj.cells #[(Value.int IntKind.i64 (x1)), (Value.int IntKind.i64 (x2)), (Value.int IntKind.i64 (x3)), (Value.int IntKind.i64 (x4)), (Value.int IntKind.i64 (x5)), (Value.int IntKind.i64 (x6)), (Value.int IntKind.i64 (x7))] 23 (0, 0)) (fun k0 w1 =>
  br (p0.isNone) (fun w2 =>
  K (Value.slice none (0) (0)) (w2)) (fun w3 =>
  gocall Tryd.prog (32) [(Value.pointer p0)] (fun v4 w5 =>
  asBoo (v4) (fun b6 w7 =>
  br (b6) (fun w8 =>
  K (Value.slice none (0) (0)) (w8)) (fun w9 =>
  ld (⟨k0, 2, none⟩) (fun v10 w11 =>
  asI (IntKind.i64) (v10) (fun n12 w13 =>
  br (n12 != 3) (fun w14 =>
  K (Value.slice none (0) (0)) (w14)) (fun w15 =>
  ld (⟨k0, 1, none⟩) (fun v16 w17 =>
  asI (IntKind.i64) (v16) (fun n18 w19 =>
  br (n18 != 0) (fun w20 =>
  K (Value.slice none (0) (0)) (w20)) (fun w21 =>
  ld (⟨k0, 0, none⟩) (fun v22 w23 =>
  asI (IntKind.i64) (v22) (fun n24 w25 =>
  br (n24 != 15) (fun w26 =>
  K (Value.slice none (0) (0)) (w26)) (fun w27 =>
  ld (⟨k0, 0, none⟩) (fun v28 w29 =>
  asI (IntKind.i64) (v28) (fun n30 w31 =>
  ld (⟨k0, 1, none⟩) (fun v32 w33 =>
  asI (IntKind.i64) (v32) (fun n34 w35 =>
  ld (⟨k0, 2, none⟩) (fun v36 w37 =>
  asI (IntKind.i64) (v36) (fun n38 w39 =>
  ld (⟨k0, 3, none⟩) (fun v40 w41 =>
  asI (IntKind.i64) (v40) (fun n42 w43 =>
  ld (⟨k0, 4, none⟩) (fun v44 w45 =>
  asI (IntKind.i64) (v44) (fun n46 w47 =>
  ld (⟨k0, 5, none⟩) (fun v48 w49 =>
  asI (IntKind.i64) (v48) (fun n50 w51 =>
  ld (⟨k0, 6, none⟩) (fun v52 w53 =>
  asI (IntKind.i64) (v52) (fun n54 w55 =>
  gocall Tryd.prog (33) [(Value.pointer p0), (Value.agg #[(Value.int IntKind.i64 (n30)), (Value.int IntKind.i64 (n34)), (Value.int IntKind.i64 (n38)), (Value.int IntKind.i64 (n42)), (Value.int IntKind.i64 (n46)), (Value.int IntKind.i64 (n50)), (Value.int IntKind.i64 (n54))])] (fun v56 w57 =>
  asBoo (v56) (fun b58 w59 =>
  br (!b58) (fun w60 =>
  K (Value.slice none (0) (0)) (w60)) (fun w61 =>
  ld (⟨k0, 3, none⟩) (fun v62 w63 =>
  asI (IntKind.i64) (v62) (fun n64 w65 =>
  nw (Obj.cells #[(Value.int IntKind.i64 (16)), (Value.int IntKind.i64 (3)), (Value.int IntKind.i64 (0)), (Value.int IntKind.i64 (n64)), (Value.int IntKind.i64 (0)), (Value.int IntKind.i64 (0)), (Value.int IntKind.i64 (0))] 23 (0, 0)) (fun k66 w67 =>
  K (Value.slice (some ⟨k66, 0, none⟩) (1) (1)) (w67)) (w65)) (w63)) (w61)) (w59)) (w57)) (w55)) (w53)) (w51)) (w49)) (w47)) (w45)) (w43)) (w41)) (w39)) (w37)) (w35)) (w33)) (w31)) (w29)) (w27)) (w25)) (w23)) (w21)) (w19)) (w17)) (w15)) (w13)) (w11)) (w9)) (w7)) (w5)) (w3)) (w1)) (w)
theorem F12_eq (p0 : Option Addr) (x1 : Int) (x2 : Int) (x3 : Int) (x4 : Int) (x5 : Int) (x6 : Int) (x7 : Int) : sBody Tryd.prog [] Tryd.f12 [(Value.pointer p0), (Value.agg #[(Value.int IntKind.i64 x1), (Value.int IntKind.i64 x2), (Value.int IntKind.i64 x3), (Value.int IntKind.i64 x4), (Value.int IntKind.i64 x5), (Value.int IntKind.i64 x6), (Value.int IntKind.i64 x7)])] = F12 p0 x1 x2 x3 x4 x5 x6 x7 := by kernel_rfl
theorem F12_go (p0 : Option Addr) (x1 : Int) (x2 : Int) (x3 : Int) (x4 : Int) (x5 : Int) (x6 : Int) (x7 : Int) {K : KV} {w : World} (h : F12 p0 x1 x2 x3 x4 x5 x6 x7 K w) : gocall Tryd.prog 12 [(Value.pointer p0), (Value.agg #[(Value.int IntKind.i64 x1), (Value.int IntKind.i64 x2), (Value.int IntKind.i64 x3), (Value.int IntKind.i64 x4), (Value.int IntKind.i64 x5), (Value.int IntKind.i64 x6), (Value.int IntKind.i64 x7)])] K w :=
  ⟨by kernel_rfl, calls_of_sBody (T := []) mixed Tryd.func12 (by kernel_rfl) (by rw [F12_eq]; exact h)⟩
def F13 (p0 : Option Addr) (K : KV) (w : World) : Prop :=
  br (p0.isNone) (fun w0 =>
  K (Value.pointer none) (w0)) (fun w1 =>
  nn (p0) (fun a2 w3 =>
  ld (⟨a2.block, a2.off + 1, none⟩) (fun v4 w5 =>
  asPtr (v4) (fun p6 w7 =>
  K (Value.pointer p6) (w7)) (w5)) (w3)) (w1)) (w)
theorem F13_eq (p0 : Option Addr) : sBody Tryd.prog [] Tryd.f13 [(Value.pointer p0)] = F13 p0 := by kernel_rfl
theorem F13_go (p0 : Option Addr) {K : KV} {w : World} (h : F13 p0 K w) : gocall Tryd.prog 13 [(Value.pointer p0)] K w :=
  ⟨by kernel_rfl, calls_of_sBody (T := []) mixed Tryd.func13 (by kernel_rfl) (by rw [F13_eq]; exact h)⟩
def F14 (p0 : Option Addr) (x1 : Int) (K : KV) (w : World) : Prop :=
  br (p0.isNone) (fun w0 =>
  K (Value.int IntKind.i64 (0)) (w0)) (fun w1 =>
  nn (p0) (fun a2 w3 =>
  ld (a2) (fun v4 w5 =>
  asSl (v4) (fun p6 k7 k8 w9 =>
  loop (X := (Int) × (Int) × Unit) (0, (0, ())) (fun x10 rec11 w12 =>
  br (decide (x10.fst < (↑k7 : Int))) (fun w13 =>
  slAt (p6) (k7) (x10.fst) (3) (fun a14 w15 =>
  ld (a14) (fun v16 w17 =>
  asI (IntKind.i64) (v16) (fun n18 w19 =>
  ld (⟨a14.block, a14.off + 1, none⟩) (fun v20 w21 =>
  asI (IntKind.i64) (v20) (fun n22 w23 =>
  ld (⟨a14.block, a14.off + 2, none⟩) (fun v24 w25 =>
  asI (IntKind.i64) (v24) (fun n26 w27 =>
  nw (Obj.cells #[(Value.int IntKind.i64 (0)), (Value.int IntKind.i64 (0)), (Value.int IntKind.i64 (0))] 65 (0, 0)) (fun k28 w29 =>
  st (⟨k28, 0, none⟩) (Value.int IntKind.i64 (n18)) (fun w30 =>
  st (⟨k28, 1, none⟩) (Value.int IntKind.i64 (n22)) (fun w31 =>
  st (⟨k28, 2, none⟩) (Value.int IntKind.i64 (n26)) (fun w32 =>
  ld (⟨k28, 1, none⟩) (fun v33 w34 =>
  asI (IntKind.i64) (v33) (fun n35 w36 =>
  br (n35 == x1) (fun w37 =>
  ld (⟨k28, 2, none⟩) (fun v38 w39 =>
  asI (IntKind.i64) (v38) (fun n40 w41 =>
  rec11 (IntKind.i64.wrap (x10.fst + 1), (IntKind.i64.wrap (x10.snd.fst + n40), ())) (w41)) (w39)) (w37)) (fun w42 =>
  rec11 (IntKind.i64.wrap (x10.fst + 1), (x10.snd.fst, ())) (w42)) (w36)) (w34)) (w32)) (w31)) (w30)) (w29)) (w27)) (w25)) (w23)) (w21)) (w19)) (w17)) (w15)) (w13)) (fun w43 =>
  K (Value.int IntKind.i64 (x10.snd.fst)) (w43)) (w12)) (w9)) (w5)) (w3)) (w1)) (w)
theorem F14_eq (p0 : Option Addr) (x1 : Int) : sBody Tryd.prog [] Tryd.f14 [(Value.pointer p0), (Value.int IntKind.i64 x1)] = F14 p0 x1 := by kernel_rfl
theorem F14_go (p0 : Option Addr) (x1 : Int) {K : KV} {w : World} (h : F14 p0 x1 K w) : gocall Tryd.prog 14 [(Value.pointer p0), (Value.int IntKind.i64 x1)] K w :=
  ⟨by kernel_rfl, calls_of_sBody (T := []) mixed Tryd.func14 (by kernel_rfl) (by rw [F14_eq]; exact h)⟩
def F15  (K : KV) (w : World) : Prop :=
  gocall Tryd.prog (11) [(Value.int IntKind.i64 (20))] (fun v0 w1 =>
  asPtr (v0) (fun p2 w3 =>
  nw (Obj.cells #[(Value.int IntKind.i64 (0)), (Value.int IntKind.i64 (0)), (Value.int IntKind.i64 (0)), (Value.int IntKind.i64 (0)), (Value.int IntKind.i64 (0)), (Value.int IntKind.i64 (0)), (Value.int IntKind.i64 (0))] 23 (0, 0)) (fun k4 w5 =>
  st (⟨k4, 0, none⟩) (Value.int IntKind.i64 (15)) (fun w6 =>
  st (⟨k4, 1, none⟩) (Value.int IntKind.i64 (0)) (fun w7 =>
  st (⟨k4, 2, none⟩) (Value.int IntKind.i64 (3)) (fun w8 =>
  st (⟨k4, 3, none⟩) (Value.int IntKind.i64 (7)) (fun w9 =>
  st (⟨k4, 4, none⟩) (Value.int IntKind.i64 (0)) (fun w10 =>
  st (⟨k4, 5, none⟩) (Value.int IntKind.i64 (0)) (fun w11 =>
  st (⟨k4, 6, none⟩) (Value.int IntKind.i64 (2)) (fun w12 =>
  keeps (fun S13 w14 =>
  ldS (S13) (⟨k4, 0, none⟩) (fun v15 w16 =>
  asI (IntKind.i64) (v15) (fun n17 w18 =>
  ldS (S13) (⟨k4, 1, none⟩) (fun v19 w20 =>
  asI (IntKind.i64) (v19) (fun n21 w22 =>
  ldS (S13) (⟨k4, 2, none⟩) (fun v23 w24 =>
  asI (IntKind.i64) (v23) (fun n25 w26 =>
  ldS (S13) (⟨k4, 3, none⟩) (fun v27 w28 =>
  asI (IntKind.i64) (v27) (fun n29 w30 =>
  ldS (S13) (⟨k4, 4, none⟩) (fun v31 w32 =>
  asI (IntKind.i64) (v31) (fun n33 w34 =>
  ldS (S13) (⟨k4, 5, none⟩) (fun v35 w36 =>
  asI (IntKind.i64) (v35) (fun n37 w38 =>
  ldS (S13) (⟨k4, 6, none⟩) (fun v39 w40 =>
  asI (IntKind.i64) (v39) (fun n41 w42 =>
  ldS (S13) (⟨k4, 0, none⟩) (fun v43 w44 =>
  asI (IntKind.i64) (v43) (fun n45 w46 =>
  ldS (S13) (⟨k4, 1, none⟩) (fun v47 w48 =>
  asI (IntKind.i64) (v47) (fun n49 w50 =>
  ldS (S13) (⟨k4, 2, none⟩) (fun v51 w52 =>
  asI (IntKind.i64) (v51) (fun n53 w54 =>
  ldS (S13) (⟨k4, 3, none⟩) (fun v55 w56 =>
  asI (IntKind.i64) (v55) (fun n57 w58 =>
  ldS (S13) (⟨k4, 4, none⟩) (fun v59 w60 =>
  asI (IntKind.i64) (v59) (fun n61 w62 =>
  ldS (S13) (⟨k4, 5, none⟩) (fun v63 w64 =>
  asI (IntKind.i64) (v63) (fun n65 w66 =>
  ldS (S13) (⟨k4, 6, none⟩) (fun v67 w68 =>
  asI (IntKind.i64) (v67) (fun n69 w70 =>
  gocall Tryd.prog (12) [(Value.pointer p2), (Value.agg #[(Value.int IntKind.i64 (n17)), (Value.int IntKind.i64 (n21)), (Value.int IntKind.i64 (n25)), (Value.int IntKind.i64 (n29)), (Value.int IntKind.i64 (n33)), (Value.int IntKind.i64 (n37)), (Value.int IntKind.i64 (n41))])] (fun v71 w72 =>
  asSl (v71) (fun p73 k74 k75 w76 =>
  kp (S13) (fun w77 =>
  gocall Tryd.prog (12) [(Value.pointer p2), (Value.agg #[(Value.int IntKind.i64 (n45)), (Value.int IntKind.i64 (n49)), (Value.int IntKind.i64 (n53)), (Value.int IntKind.i64 (n57)), (Value.int IntKind.i64 (n61)), (Value.int IntKind.i64 (n65)), (Value.int IntKind.i64 (n69))])] (fun v78 w79 =>
  asSl (v78) (fun p80 k81 k82 w83 =>
  kp (S13) (fun w84 =>
  br ((↑k74 : Int) == 1) (fun w85 =>
  br ((↑k81 : Int) == 1) (fun w86 =>
  slAt (p80) (k81) (0) (7) (fun a87 w88 =>
  ld (a87) (fun v89 w90 =>
  asI (IntKind.i64) (v89) (fun n91 w92 =>
  br (n91 == 16) (fun w93 =>
  gocall Tryd.prog (13) [(Value.pointer p2)] (fun v94 w95 =>
  asPtr (v94) (fun p96 w97 =>
  gocall Tryd.prog (14) [(Value.pointer p96), (Value.int IntKind.i64 (0))] (fun v98 w99 =>
  asI (IntKind.i64) (v98) (fun n100 w101 =>
  K (Value.bool (n100 == 2)) (w101)) (w99)) (w97)) (w95)) (w93)) (fun w102 =>
  K (Value.bool (false)) (w102)) (w92)) (w90)) (w88)) (w86)) (fun w103 =>
  K (Value.bool (false)) (w103)) (w85)) (fun w104 =>
  K (Value.bool (false)) (w104)) (w84)) (w83)) (w79)) (w77)) (w76)) (w72)) (w70)) (w68)) (w66)) (w64)) (w62)) (w60)) (w58)) (w56)) (w54)) (w52)) (w50)) (w48)) (w46)) (w44)) (w42)) (w40)) (w38)) (w36)) (w34)) (w32)) (w30)) (w28)) (w26)) (w24)) (w22)) (w20)) (w18)) (w16)) (w14)) (w12.drew)) (w11)) (w10)) (w9)) (w8)) (w7)) (w6)) (w5)) (w3)) (w1)) (w)
theorem F15_eq  : sBody Tryd.prog [(3, [0, 1, 3, 4, 2, 5, 6, 7])] Tryd.f15 [] = F15  := by kernel_rfl
theorem F15_go  {K : KV} {w : World} (h : F15  K w) : gocall Tryd.prog 15 [] K w :=
  ⟨by kernel_rfl, calls_of_sBody (T := [(3, [0, 1, 3, 4, 2, 5, 6, 7])]) mixed Tryd.func15 (by kernel_rfl) (by rw [F15_eq]; exact h)⟩
def F16 (p0 : Option Addr) (K : KV) (w : World) : Prop :=
  br (p0.isNone) (fun w0 =>
  K (Value.slice none (0) (0)) (w0)) (fun w1 =>
  nn (p0) (fun a2 w3 =>
  ld (a2) (fun v4 w5 =>
  asSl (v4) (fun p6 k7 k8 w9 =>
  loop (X := (Int) × ((Option Addr) × (Nat) × Nat) × Unit) (0, ((none, 0, 0), ())) (fun x10 rec11 w12 =>
  br (decide (x10.fst < (↑k7 : Int))) (fun w13 =>
  slAt (p6) (k7) (x10.fst) (3) (fun a14 w15 =>
  ld (a14) (fun v16 w17 =>
  asI (IntKind.i64) (v16) (fun n18 w19 =>
  ld (⟨a14.block, a14.off + 1, none⟩) (fun v20 w21 =>
  asI (IntKind.i64) (v20) (fun n22 w23 =>
  ld (⟨a14.block, a14.off + 2, none⟩) (fun v24 w25 =>
  asI (IntKind.i64) (v24) (fun n26 w27 =>
  nw (Obj.cells #[(Value.int IntKind.i64 (0)), (Value.int IntKind.i64 (0)), (Value.int IntKind.i64 (0))] 65 (0, 0)) (fun k28 w29 =>
  st (⟨k28, 0, none⟩) (Value.int IntKind.i64 (n18)) (fun w30 =>
  st (⟨k28, 1, none⟩) (Value.int IntKind.i64 (n22)) (fun w31 =>
  st (⟨k28, 2, none⟩) (Value.int IntKind.i64 (n26)) (fun w32 =>
  ld (⟨k28, 0, none⟩) (fun v33 w34 =>
  asI (IntKind.i64) (v33) (fun n35 w36 =>
  nw (Obj.cells #[(Value.int IntKind.i64 (n35))] 3 (0, 0)) (fun k37 w38 =>
  bapp (Md.full) Tryd.prog (#[32, 32]) (32) (Value.slice x10.snd.fst.1 (x10.snd.fst.snd.fst) (x10.snd.fst.snd.snd)) (Value.slice (some ⟨k37, 0, none⟩) (1) (1)) (fun v39 w40 =>
  asSl (v39) (fun p41 k42 k43 w44 =>
  rec11 (IntKind.i64.wrap (x10.fst + 1), ((p41, k42, k43), ())) (w44)) (w40)) (w38)) (w36)) (w34)) (w32)) (w31)) (w30)) (w29)) (w27)) (w25)) (w23)) (w21)) (w19)) (w17)) (w15)) (w13)) (fun w45 =>
  K (Value.slice x10.snd.fst.1 (x10.snd.fst.snd.fst) (x10.snd.fst.snd.snd)) (w45)) (w12)) (w9)) (w5)) (w3)) (w1)) (w)
theorem F16_eq (p0 : Option Addr) : sBody Tryd.prog [] Tryd.f16 [(Value.pointer p0)] = F16 p0 := by kernel_rfl
theorem F16_go (p0 : Option Addr) {K : KV} {w : World} (h : F16 p0 K w) : gocall Tryd.prog 16 [(Value.pointer p0)] K w :=
  ⟨by kernel_rfl, calls_of_sBody (T := []) mixed Tryd.func16 (by kernel_rfl) (by rw [F16_eq]; exact h)⟩
def F30 (x0 : Int) (K : KV) (w : World) : Prop :=
  nw (Obj.cells #[(Value.int IntKind.i64 (if (if 4096 < x0 then 4096 else x0) > 1 then if 4096 < x0 then 4096 else x0 else 1)), (Value.slice none (0) (0)), (Value.int IntKind.i64 (0)), (Value.bool (false))] 82 (0, 0)) (fun k0 w1 =>
  K (Value.pointer (some ⟨k0, 0, none⟩)) (w1)) (w)
theorem F30_eq (x0 : Int) : sBody Tryd.prog [] Tryd.f30 [(Value.int IntKind.i64 x0)] = F30 x0 := by kernel_rfl
theorem F30_go (x0 : Int) {K : KV} {w : World} (h : F30 x0 K w) : gocall Tryd.prog 30 [(Value.int IntKind.i64 x0)] K w :=
  ⟨by kernel_rfl, calls_of_sBody (T := []) mixed Tryd.func30 (by kernel_rfl) (by rw [F30_eq]; exact h)⟩
def F31  (K : KV) (w : World) : Prop :=
  nw (Obj.cells #[(Value.slice none (0) (0))] 63 (0, 0)) (fun k0 w1 =>
  K (Value.pointer (some ⟨k0, 0, none⟩)) (w1)) (w)
theorem F31_eq  : sBody Tryd.prog [] Tryd.f31 [] = F31  := by kernel_rfl
theorem F31_go  {K : KV} {w : World} (h : F31  K w) : gocall Tryd.prog 31 [] K w :=
  ⟨by kernel_rfl, calls_of_sBody (T := []) mixed Tryd.func31 (by kernel_rfl) (by rw [F31_eq]; exact h)⟩
def F32 (p0 : Option Addr) (K : KV) (w : World) : Prop :=
  br (p0.isSome) (fun w0 =>
  nn (p0) (fun a1 w2 =>
  ld (a1) (fun v3 w4 =>
  asPtr (v3) (fun p5 w6 =>
  gocall Tryd.prog (46) [(Value.pointer p5)] (fun v7 w8 =>
  asBoo (v7) (fun b9 w10 =>
  K (Value.bool (b9)) (w10)) (w8)) (w6)) (w4)) (w2)) (w0)) (fun w11 =>
  K (Value.bool (false)) (w11)) (w)
theorem F32_eq (p0 : Option Addr) : sBody Tryd.prog [] Tryd.f32 [(Value.pointer p0)] = F32 p0 := by kernel_rfl
theorem F32_go (p0 : Option Addr) {K : KV} {w : World} (h : F32 p0 K w) : gocall Tryd.prog 32 [(Value.pointer p0)] K w :=
  ⟨by kernel_rfl, calls_of_sBody (T := []) mixed Tryd.func32 (by kernel_rfl) (by rw [F32_eq]; exact h)⟩
def F33 (p0 : Option Addr) (x1 : Int) (x2 : Int) (x3 : Int) (x4 : Int) (x5 : Int) (x6 : Int) (x7 : Int) (K : KV) (w : World) : Prop :=
  nw (Obj.cells #[(Value.int IntKind.i64 (x1)), (Value.int IntKind.i64 (x2)), (Value.int IntKind.i64 (x3)), (Value.int IntKind.i64 (x4)), (Value.int IntKind.i64 (x5)), (Value.int IntKind.i64 (x6)), (Value.int IntKind.i64 (x7))] 23 (0, 0)) (fun k0 w1 =>
  keeps (fun S2 w3 =>
  nn (p0) (fun a4 w5 =>
  ldS (S2) (⟨a4.block, a4.off + 1, none⟩) (fun v6 w7 =>
  asPtr (v6) (fun p8 w9 =>
  ldS (S2) (⟨k0, 3, none⟩) (fun v10 w11 =>
  asI (IntKind.i64) (v10) (fun n12 w13 =>
  gocall Tryd.prog (47) [(Value.pointer p8), (Value.int IntKind.i64 (n12))] (fun v14 w15 =>
  asT (3) (v14) (fun f16 w17 =>
  asI (IntKind.i64) (f16 0) (fun n18 w19 =>
  asI (IntKind.i64) (f16 1) (fun n20 w21 =>
  asBoo (f16 2) (fun b22 w23 =>
  kp (S2) (fun w24 =>
  br (b22) (fun w25 =>
  keeps (fun S26 w27 =>
  ldS (S26) (⟨k0, 3, none⟩) (fun v28 w29 =>
  asI (IntKind.i64) (v28) (fun n30 w31 =>
  ldS (S26) (⟨k0, 5, none⟩) (fun v32 w33 =>
  asI (IntKind.i64) (v32) (fun n34 w35 =>
  ldS (S26) (⟨k0, 6, none⟩) (fun v36 w37 =>
  asI (IntKind.i64) (v36) (fun n38 w39 =>
  gocall Tryd.prog (31) [] (fun v40 w41 =>
  asPtr (v40) (fun p42 w43 =>
  kp (S26) (fun w44 =>
  gocall Tryd.prog (48) [(Value.pointer p42), (Value.int IntKind.i64 (n30)), (Value.int IntKind.i64 (n34)), (Value.int IntKind.i64 (n38))] (fun v45 w46 =>
  asI (IntKind.i64) (v45) (fun n47 w48 =>
  kp (S26) (fun w49 =>
  K (Value.bool (n47 == 0)) (w49)) (w48)) (w46)) (w44)) (w43)) (w41)) (w39)) (w37)) (w35)) (w33)) (w31)) (w29)) (w27)) (w25.drew)) (fun w50 =>
  ld (⟨k0, 3, none⟩) (fun v51 w52 =>
  asI (IntKind.i64) (v51) (fun n53 w54 =>
  ld (⟨k0, 5, none⟩) (fun v55 w56 =>
  asI (IntKind.i64) (v55) (fun n57 w58 =>
  ld (⟨k0, 6, none⟩) (fun v59 w60 =>
  asI (IntKind.i64) (v59) (fun n61 w62 =>
  nw (Obj.cells #[(Value.int IntKind.i64 (n57)), (Value.int IntKind.i64 (n61))] 3 (0, 0)) (fun k63 w64 =>
  nw (Obj.cells #[(Value.string ({ data := #[] })), (Value.int IntKind.i64 (0)), (Value.slice none (0) (0))] 87 (0, 0)) (fun k65 w66 =>
  st (⟨k65, 0, none⟩) (Value.string ({ data := #[115, 101, 110, 116] })) (fun w67 =>
  st (⟨k65, 1, none⟩) (Value.int IntKind.i64 (n53)) (fun w68 =>
  st (⟨k65, 2, none⟩) (Value.slice (some ⟨k63, 0, none⟩) (2) (2)) (fun w69 =>
  keeps (fun S70 w71 =>
  ldS (S70) (⟨k0, 3, none⟩) (fun v72 w73 =>
  asI (IntKind.i64) (v72) (fun n74 w75 =>
  ldS (S70) (⟨k0, 5, none⟩) (fun v76 w77 =>
  asI (IntKind.i64) (v76) (fun n78 w79 =>
  ldS (S70) (⟨k0, 6, none⟩) (fun v80 w81 =>
  asI (IntKind.i64) (v80) (fun n82 w83 =>
  gocall Tryd.prog (31) [] (fun v84 w85 =>
  asPtr (v84) (fun p86 w87 =>
  kp (S70) (fun w88 =>
  gocall Tryd.prog (48) [(Value.pointer p86), (Value.int IntKind.i64 (n74)), (Value.int IntKind.i64 (n78)), (Value.int IntKind.i64 (n82))] (fun v89 w90 =>
  asI (IntKind.i64) (v89) (fun n91 w92 =>
  kp (S70) (fun w93 =>
  br (n91 != 0) (fun w94 =>
  K (Value.bool (false)) (w94)) (fun w95 =>
  nn (p0) (fun a96 w97 =>
  ldS (S70) (a96) (fun v98 w99 =>
  asPtr (v98) (fun p100 w101 =>
  ldS (S70) (⟨k65, 0, none⟩) (fun v102 w103 =>
  asStr (v102) (fun s104 w105 =>
  ldS (S70) (⟨k65, 1, none⟩) (fun v106 w107 =>
  asI (IntKind.i64) (v106) (fun n108 w109 =>
  ldS (S70) (⟨k65, 2, none⟩) (fun v110 w111 =>
  asSl (v110) (fun p112 k113 k114 w115 =>
  gocall Tryd.prog (49) [(Value.pointer p100), (Value.agg #[(Value.string (s104)), (Value.int IntKind.i64 (n108)), (Value.slice p112 (k113) (k114))])] (fun v116 w117 =>
  asI (IntKind.i64) (v116) (fun n118 w119 =>
  kp (S70) (fun w120 =>
  br (n118 != 0) (fun w121 =>
  K (Value.bool (false)) (w121)) (fun w122 =>
  nn (p0) (fun a123 w124 =>
  ld (a123) (fun v125 w126 =>
  asPtr (v125) (fun p127 w128 =>
  gocall Tryd.prog (50) [(Value.pointer p127)] (fun v129 w130 =>
  asI (IntKind.i64) (v129) (fun n131 w132 =>
  ld (⟨k65, 0, none⟩) (fun v133 w134 =>
  asStr (v133) (fun s135 w136 =>
  ld (⟨k65, 1, none⟩) (fun v137 w138 =>
  asI (IntKind.i64) (v137) (fun n139 w140 =>
  ld (⟨k65, 2, none⟩) (fun v141 w142 =>
  asSl (v141) (fun p143 k144 k145 w146 =>
  gocall Tryd.prog (51) [(Value.pointer p0), (Value.agg #[(Value.string (s135)), (Value.int IntKind.i64 (n139)), (Value.slice p143 (k144) (k145))])] (fun v147 w148 =>
  asT (0) (v147) (fun f149 w150 =>
  K (Value.bool (true)) (w150)) (w148)) (w146)) (w142)) (w140)) (w138)) (w136)) (w134)) (w132)) (w130)) (w128)) (w126)) (w124)) (w122)) (w120)) (w119)) (w117)) (w115)) (w111)) (w109)) (w107)) (w105)) (w103)) (w101)) (w99)) (w97)) (w95)) (w93)) (w92)) (w90)) (w88)) (w87)) (w85)) (w83)) (w81)) (w79)) (w77)) (w75)) (w73)) (w71)) (w69.drew)) (w68)) (w67)) (w66)) (w64)) (w62)) (w60)) (w58)) (w56)) (w54)) (w52)) (w50)) (w24)) (w23)) (w21)) (w19)) (w17)) (w15)) (w13)) (w11)) (w9)) (w7)) (w5)) (w3)) (w1.drew)) (w)
theorem F33_eq (p0 : Option Addr) (x1 : Int) (x2 : Int) (x3 : Int) (x4 : Int) (x5 : Int) (x6 : Int) (x7 : Int) : sBody Tryd.prog [(1, [0, 1, 2, 3, 4, 5, 6, 7, 8, 9, 10, 11, 12, 13]), (3, [1, 2, 3, 4, 5, 6, 0, 7, 8, 9]), (5, [1, 2, 3, 4, 5, 6, 0, 7, 8, 9, 10, 11, 12, 13, 14, 15, 16, 17])] Tryd.f33 [(Value.pointer p0), (Value.agg #[(Value.int IntKind.i64 x1), (Value.int IntKind.i64 x2), (Value.int IntKind.i64 x3), (Value.int IntKind.i64 x4), (Value.int IntKind.i64 x5), (Value.int IntKind.i64 x6), (Value.int IntKind.i64 x7)])] = F33 p0 x1 x2 x3 x4 x5 x6 x7 := by kernel_rfl
theorem F33_go (p0 : Option Addr) (x1 : Int) (x2 : Int) (x3 : Int) (x4 : Int) (x5 : Int) (x6 : Int) (x7 : Int) {K : KV} {w : World} (h : F33 p0 x1 x2 x3 x4 x5 x6 x7 K w) : gocall Tryd.prog 33 [(Value.pointer p0), (Value.agg #[(Value.int IntKind.i64 x1), (Value.int IntKind.i64 x2), (Value.int IntKind.i64 x3), (Value.int IntKind.i64 x4), (Value.int IntKind.i64 x5), (Value.int IntKind.i64 x6), (Value.int IntKind.i64 x7)])] K w :=
  ⟨by kernel_rfl, calls_of_sBody (T := [(1, [0, 1, 2, 3, 4, 5, 6, 7, 8, 9, 10, 11, 12, 13]), (3, [1, 2, 3, 4, 5, 6, 0, 7, 8, 9]), (5, [1, 2, 3, 4, 5, 6, 0, 7, 8, 9, 10, 11, 12, 13, 14, 15, 16, 17])]) mixed Tryd.func33 (by kernel_rfl) (by rw [F33_eq]; exact h)⟩
def F46 (p0 : Option Addr) (K : KV) (w : World) : Prop :=
  br (p0.isSome) (fun w0 =>
  nn (p0) (fun a1 w2 =>
  ld (⟨a1.block, a1.off + 3, none⟩) (fun v3 w4 =>
  asBoo (v3) (fun b5 w6 =>
  K (Value.bool (b5)) (w6)) (w4)) (w2)) (w0)) (fun w7 =>
  K (Value.bool (false)) (w7)) (w)
theorem F46_eq (p0 : Option Addr) : sBody Tryd.prog [] Tryd.f46 [(Value.pointer p0)] = F46 p0 := by kernel_rfl
theorem F46_go (p0 : Option Addr) {K : KV} {w : World} (h : F46 p0 K w) : gocall Tryd.prog 46 [(Value.pointer p0)] K w :=
  ⟨by kernel_rfl, calls_of_sBody (T := []) mixed Tryd.func46 (by kernel_rfl) (by rw [F46_eq]; exact h)⟩
def F47 (p0 : Option Addr) (x1 : Int) (K : KV) (w : World) : Prop :=
  br (p0.isNone) (fun w0 =>
  K (Value.tuple #[(Value.int IntKind.i64 (0)), (Value.int IntKind.i64 (0)), (Value.bool (false))]) (w0)) (fun w1 =>
  gocall Tryd.prog (60) [(Value.pointer p0), (Value.int IntKind.i64 (x1))] (fun v2 w3 =>
  asI (IntKind.i64) (v2) (fun n4 w5 =>
  br (decide (n4 < 0)) (fun w6 =>
  K (Value.tuple #[(Value.int IntKind.i64 (0)), (Value.int IntKind.i64 (0)), (Value.bool (false))]) (w6)) (fun w7 =>
  nn (p0) (fun a8 w9 =>
  ld (a8) (fun v10 w11 =>
  asSl (v10) (fun p12 k13 k14 w15 =>
  slAt (p12) (k13) (n4) (3) (fun a16 w17 =>
  ld (⟨a16.block, a16.off + 1, none⟩) (fun v18 w19 =>
  asI (IntKind.i64) (v18) (fun n20 w21 =>
  nn (p0) (fun a22 w23 =>
  ld (a22) (fun v24 w25 =>
  asSl (v24) (fun p26 k27 k28 w29 =>
  slAt (p26) (k27) (n4) (3) (fun a30 w31 =>
  ld (⟨a30.block, a30.off + 2, none⟩) (fun v32 w33 =>
  asI (IntKind.i64) (v32) (fun n34 w35 =>
  K (Value.tuple #[(Value.int IntKind.i64 (n20)), (Value.int IntKind.i64 (n34)), (Value.bool (true))]) (w35)) (w33)) (w31)) (w29)) (w25)) (w23)) (w21)) (w19)) (w17)) (w15)) (w11)) (w9)) (w7.drew)) (w5)) (w3)) (w1)) (w)
theorem F47_eq (p0 : Option Addr) (x1 : Int) : sBody Tryd.prog [] Tryd.f47 [(Value.pointer p0), (Value.int IntKind.i64 x1)] = F47 p0 x1 := by kernel_rfl
theorem F47_go (p0 : Option Addr) (x1 : Int) {K : KV} {w : World} (h : F47 p0 x1 K w) : gocall Tryd.prog 47 [(Value.pointer p0), (Value.int IntKind.i64 x1)] K w :=
  ⟨by kernel_rfl, calls_of_sBody (T := []) mixed Tryd.func47 (by kernel_rfl) (by rw [F47_eq]; exact h)⟩
def F48 (p0 : Option Addr) (x1 : Int) (x2 : Int) (x3 : Int) (K : KV) (w : World) : Prop :=
  br (p0.isNone) (fun w0 =>
  K (Value.int IntKind.i64 (1)) (w0)) (fun w1 =>
  br (decide (x1 < 1)) (fun w2 =>
  K (Value.int IntKind.i64 (1)) (w2)) (fun w3 =>
  br (decide (x1 > 999)) (fun w4 =>
  K (Value.int IntKind.i64 (1)) (w4)) (fun w5 =>
  br (decide (x2 < 0)) (fun w6 =>
  K (Value.int IntKind.i64 (1)) (w6)) (fun w7 =>
  br (decide (x2 ≥ 8)) (fun w8 =>
  K (Value.int IntKind.i64 (1)) (w8)) (fun w9 =>
  br (x3 == 0) (fun w10 =>
  K (Value.int IntKind.i64 (1)) (w10)) (fun w11 =>
  gocall Tryd.prog (59) [(Value.int IntKind.i64 (x3))] (fun v12 w13 =>
  asBoo (v12) (fun b14 w15 =>
  br (!b14) (fun w16 =>
  K (Value.int IntKind.i64 (1)) (w16)) (fun w17 =>
  gocall Tryd.prog (60) [(Value.pointer p0), (Value.int IntKind.i64 (x1))] (fun v18 w19 =>
  asI (IntKind.i64) (v18) (fun n20 w21 =>
  br (decide (n20 ≥ 0)) (fun w22 =>
  K (Value.int IntKind.i64 (8)) (w22)) (fun w23 =>
  nn (p0) (fun a24 w25 =>
  ld (a24) (fun v26 w27 =>
  asSl (v26) (fun p28 k29 k30 w31 =>
  nw (Obj.cells #[(Value.int IntKind.i64 (x1)), (Value.int IntKind.i64 (x2)), (Value.int IntKind.i64 (x3))] 65 (0, 0)) (fun k32 w33 =>
  bapp (Md.full) Tryd.prog (#[61, 61]) (61) (Value.slice p28 (k29) (k30)) (Value.slice (some ⟨k32, 0, none⟩) (1) (1)) (fun v34 w35 =>
  asSl (v34) (fun p36 k37 k38 w39 =>
  nn (p0) (fun a40 w41 =>
  st (a40) (Value.slice p36 (k37) (k38)) (fun w42 =>
  K (Value.int IntKind.i64 (0)) (w42)) (w41)) (w39)) (w35)) (w33)) (w31)) (w27)) (w25)) (w23)) (w21)) (w19)) (w17)) (w15)) (w13)) (w11)) (w9)) (w7)) (w5)) (w3)) (w1)) (w)
theorem F48_eq (p0 : Option Addr) (x1 : Int) (x2 : Int) (x3 : Int) : sBody Tryd.prog [] Tryd.f48 [(Value.pointer p0), (Value.int IntKind.i64 x1), (Value.int IntKind.i64 x2), (Value.int IntKind.i64 x3)] = F48 p0 x1 x2 x3 := by kernel_rfl
theorem F48_go (p0 : Option Addr) (x1 : Int) (x2 : Int) (x3 : Int) {K : KV} {w : World} (h : F48 p0 x1 x2 x3 K w) : gocall Tryd.prog 48 [(Value.pointer p0), (Value.int IntKind.i64 x1), (Value.int IntKind.i64 x2), (Value.int IntKind.i64 x3)] K w :=
  ⟨by kernel_rfl, calls_of_sBody (T := []) mixed Tryd.func48 (by kernel_rfl) (by rw [F48_eq]; exact h)⟩
def F49 (p0 : Option Addr) (s1 : ByteArray) (x2 : Int) (a3 : Option Addr) (n3 : Nat) (c3 : Nat) (K : KV) (w : World) : Prop :=
  nw (Obj.cells #[(Value.string (s1)), (Value.int IntKind.i64 (x2)), (Value.slice a3 (n3) (c3))] 87 (0, 0)) (fun k0 w1 =>
  br (p0.isNone) (fun w2 =>
  K (Value.int IntKind.i64 (1)) (w2)) (fun w3 =>
  nn (p0) (fun a4 w5 =>
  ld (⟨a4.block, a4.off + 3, none⟩) (fun v6 w7 =>
  asBoo (v6) (fun b8 w9 =>
  br (b8) (fun w10 =>
  K (Value.int IntKind.i64 (10)) (w10)) (fun w11 =>
  ld (⟨k0, 0, none⟩) (fun v12 w13 =>
  asStr (v12) (fun s14 w15 =>
  ld (⟨k0, 1, none⟩) (fun v16 w17 =>
  asI (IntKind.i64) (v16) (fun n18 w19 =>
  ld (⟨k0, 2, none⟩) (fun v20 w21 =>
  asSl (v20) (fun p22 k23 k24 w25 =>
  gocall Tryd.prog (61) [(Value.agg #[(Value.string (s14)), (Value.int IntKind.i64 (n18)), (Value.slice p22 (k23) (k24))])] (fun v26 w27 =>
  asT (2) (v26) (fun f28 w29 =>
  asStr (f28 0) (fun s30 w31 =>
  asI (IntKind.i64) (f28 1) (fun n32 w33 =>
  br (n32 != 0) (fun w34 =>
  K (Value.int IntKind.i64 (n32)) (w34)) (fun w35 =>
  nn (p0) (fun a36 w37 =>
  ld (⟨a36.block, a36.off + 1, none⟩) (fun v38 w39 =>
  asSl (v38) (fun p40 k41 k42 w43 =>
  nn (p0) (fun a44 w45 =>
  ld (a44) (fun v46 w47 =>
  asI (IntKind.i64) (v46) (fun n48 w49 =>
  br (decide ((↑k41 : Int) ≥ n48)) (fun w50 =>
  K (Value.int IntKind.i64 (5)) (w50)) (fun w51 =>
  nn (p0) (fun a52 w53 =>
  ld (⟨a52.block, a52.off + 1, none⟩) (fun v54 w55 =>
  asSl (v54) (fun p56 k57 k58 w59 =>
  nw (Obj.cells #[(Value.string (s30))] 9 (0, 0)) (fun k60 w61 =>
  bapp (Md.full) Tryd.prog (#[80, 80]) (80) (Value.slice p56 (k57) (k58)) (Value.slice (some ⟨k60, 0, none⟩) (1) (1)) (fun v62 w63 =>
  asSl (v62) (fun p64 k65 k66 w67 =>
  nn (p0) (fun a68 w69 =>
  st (⟨a68.block, a68.off + 1, none⟩) (Value.slice p64 (k65) (k66)) (fun w70 =>
  K (Value.int IntKind.i64 (0)) (w70)) (w69)) (w67)) (w63)) (w61)) (w59)) (w55)) (w53)) (w51)) (w49)) (w47)) (w45)) (w43)) (w39)) (w37)) (w35.drew)) (w33)) (w31)) (w29)) (w27)) (w25)) (w21)) (w19)) (w17)) (w15)) (w13)) (w11)) (w9)) (w7)) (w5)) (w3)) (w1)) (w)
theorem F49_eq (p0 : Option Addr) (s1 : ByteArray) (x2 : Int) (a3 : Option Addr) (n3 : Nat) (c3 : Nat) : sBody Tryd.prog [] Tryd.f49 [(Value.pointer p0), (Value.agg #[(Value.string s1), (Value.int IntKind.i64 x2), (Value.slice a3 n3 c3)])] = F49 p0 s1 x2 a3 n3 c3 := by kernel_rfl
theorem F49_go (p0 : Option Addr) (s1 : ByteArray) (x2 : Int) (a3 : Option Addr) (n3 : Nat) (c3 : Nat) {K : KV} {w : World} (h : F49 p0 s1 x2 a3 n3 c3 K w) : gocall Tryd.prog 49 [(Value.pointer p0), (Value.agg #[(Value.string s1), (Value.int IntKind.i64 x2), (Value.slice a3 n3 c3)])] K w :=
  ⟨by kernel_rfl, calls_of_sBody (T := []) mixed Tryd.func49 (by kernel_rfl) (by rw [F49_eq]; exact h)⟩
def F50 (p0 : Option Addr) (K : KV) (w : World) : Prop :=
  br (p0.isNone) (fun w0 =>
  K (Value.int IntKind.i64 (1)) (w0)) (fun w1 =>
  nn (p0) (fun a2 w3 =>
  ld (⟨a2.block, a2.off + 3, none⟩) (fun v4 w5 =>
  asBoo (v4) (fun b6 w7 =>
  br (b6) (fun w8 =>
  K (Value.int IntKind.i64 (10)) (w8)) (fun w9 =>
  nn (p0) (fun a10 w11 =>
  ld (⟨a10.block, a10.off + 1, none⟩) (fun v12 w13 =>
  asSl (v12) (fun p14 k15 k16 w17 =>
  nn (p0) (fun a18 w19 =>
  st (⟨a18.block, a18.off + 2, none⟩) (Value.int IntKind.i64 ((↑k15 : Int))) (fun w20 =>
  K (Value.int IntKind.i64 (0)) (w20)) (w19)) (w17)) (w13)) (w11)) (w9)) (w7)) (w5)) (w3)) (w1)) (w)
theorem F50_eq (p0 : Option Addr) : sBody Tryd.prog [] Tryd.f50 [(Value.pointer p0)] = F50 p0 := by kernel_rfl
theorem F50_go (p0 : Option Addr) {K : KV} {w : World} (h : F50 p0 K w) : gocall Tryd.prog 50 [(Value.pointer p0)] K w :=
  ⟨by kernel_rfl, calls_of_sBody (T := []) mixed Tryd.func50 (by kernel_rfl) (by rw [F50_eq]; exact h)⟩
def F51 (p0 : Option Addr) (s1 : ByteArray) (x2 : Int) (a3 : Option Addr) (n3 : Nat) (c3 : Nat) (K : KV) (w : World) : Prop :=
  nw (Obj.cells #[(Value.string (s1)), (Value.int IntKind.i64 (x2)), (Value.slice a3 (n3) (c3))] 87 (0, 0)) (fun k0 w1 =>
  ld (⟨k0, 0, none⟩) (fun v2 w3 =>
  asStr (v2) (fun s4 w5 =>
  br (strEq s4 { data := #[115, 101, 110, 116] }) (fun w6 =>
  ld (⟨k0, 2, none⟩) (fun v7 w8 =>
  asSl (v7) (fun p9 k10 k11 w12 =>
  br ((↑k10 : Int) == 2) (fun w13 =>
  nn (p0) (fun a14 w15 =>
  ld (⟨a14.block, a14.off + 1, none⟩) (fun v16 w17 =>
  asPtr (v16) (fun p18 w19 =>
  ld (⟨k0, 1, none⟩) (fun v20 w21 =>
  asI (IntKind.i64) (v20) (fun n22 w23 =>
  ld (⟨k0, 2, none⟩) (fun v24 w25 =>
  asSl (v24) (fun p26 k27 k28 w29 =>
  slAt (p26) (k27) (0) (1) (fun a30 w31 =>
  ld (a30) (fun v32 w33 =>
  asI (IntKind.i64) (v32) (fun n34 w35 =>
  ld (⟨k0, 2, none⟩) (fun v36 w37 =>
  asSl (v36) (fun p38 k39 k40 w41 =>
  slAt (p38) (k39) (1) (1) (fun a42 w43 =>
  ld (a42) (fun v44 w45 =>
  asI (IntKind.i64) (v44) (fun n46 w47 =>
  gocall Tryd.prog (48) [(Value.pointer p18), (Value.int IntKind.i64 (n22)), (Value.int IntKind.i64 (n34)), (Value.int IntKind.i64 (n46))] (fun v48 w49 =>
  asI (IntKind.i64) (v48) (fun n50 w51 =>
  K (Value.tuple #[]) (w51)) (w49)) (w47)) (w45)) (w43)) (w41)) (w37)) (w35)) (w33)) (w31)) (w29)) (w25)) (w23)) (w21)) (w19)) (w17)) (w15)) (w13.drew)) (fun w52 =>
  K (Value.tuple #[]) (w52)) (w12)) (w8)) (w6)) (fun w53 =>
  K (Value.tuple #[]) (w53)) (w5)) (w3)) (w1)) (w)
theorem F51_eq (p0 : Option Addr) (s1 : ByteArray) (x2 : Int) (a3 : Option Addr) (n3 : Nat) (c3 : Nat) : sBody Tryd.prog [] Tryd.f51 [(Value.pointer p0), (Value.agg #[(Value.string s1), (Value.int IntKind.i64 x2), (Value.slice a3 n3 c3)])] = F51 p0 s1 x2 a3 n3 c3 := by kernel_rfl
theorem F51_go (p0 : Option Addr) (s1 : ByteArray) (x2 : Int) (a3 : Option Addr) (n3 : Nat) (c3 : Nat) {K : KV} {w : World} (h : F51 p0 s1 x2 a3 n3 c3 K w) : gocall Tryd.prog 51 [(Value.pointer p0), (Value.agg #[(Value.string s1), (Value.int IntKind.i64 x2), (Value.slice a3 n3 c3)])] K w :=
  ⟨by kernel_rfl, calls_of_sBody (T := []) mixed Tryd.func51 (by kernel_rfl) (by rw [F51_eq]; exact h)⟩
def F59 (x0 : Int) (K : KV) (w : World) : Prop :=
  br (decide (x0 ≥ 0)) (fun w0 =>
  K (Value.bool (decide (x0 ≤ 1000000000))) (w0)) (fun w1 =>
  K (Value.bool (false)) (w1)) (w)
theorem F59_eq (x0 : Int) : sBody Tryd.prog [] Tryd.f59 [(Value.int IntKind.i64 x0)] = F59 x0 := by kernel_rfl
theorem F59_go (x0 : Int) {K : KV} {w : World} (h : F59 x0 K w) : gocall Tryd.prog 59 [(Value.int IntKind.i64 x0)] K w :=
  ⟨by kernel_rfl, calls_of_sBody (T := []) mixed Tryd.func59 (by kernel_rfl) (by rw [F59_eq]; exact h)⟩
def F60 (p0 : Option Addr) (x1 : Int) (K : KV) (w : World) : Prop :=
  nw (Obj.cells #[(Value.int IntKind.i64 (x1))] 3 (0, 0)) (fun k2 w3 =>
  nn (p0) (fun a4 w5 =>
  ld (a4) (fun v6 w7 =>
  asSl (v6) (fun p8 k9 k10 w11 =>
  gocall Tryd.prog (68) [(Value.slice p8 (k9) (k10)), (Value.func (Fn.func 69) #[] #[(Value.pointer (some ⟨k2, 0, none⟩))])] (fun v12 w13 =>
  asI (IntKind.i64) (v12) (fun n14 w15 =>
  K (Value.int IntKind.i64 (n14)) (w15)) (w13)) (w11)) (w7)) (w5)) (w3)) (w)
theorem F60_eq (p0 : Option Addr) (x1 : Int) : sBody Tryd.prog [] Tryd.f60 [(Value.pointer p0), (Value.int IntKind.i64 x1)] = F60 p0 x1 := by kernel_rfl
theorem F60_go (p0 : Option Addr) (x1 : Int) {K : KV} {w : World} (h : F60 p0 x1 K w) : gocall Tryd.prog 60 [(Value.pointer p0), (Value.int IntKind.i64 x1)] K w :=
  ⟨by kernel_rfl, calls_of_sBody (T := []) mixed Tryd.func60 (by kernel_rfl) (by rw [F60_eq]; exact h)⟩
def F61 (s0 : ByteArray) (x1 : Int) (a2 : Option Addr) (n2 : Nat) (c2 : Nat) (K : KV) (w : World) : Prop :=
  nw (Obj.cells #[(Value.string (s0)), (Value.int IntKind.i64 (x1)), (Value.slice a2 (n2) (c2))] 87 (0, 0)) (fun k0 w1 =>
  ld (⟨k0, 0, none⟩) (fun v2 w3 =>
  asStr (v2) (fun s4 w5 =>
  ld (⟨k0, 1, none⟩) (fun v6 w7 =>
  asI (IntKind.i64) (v6) (fun n8 w9 =>
  ld (⟨k0, 2, none⟩) (fun v10 w11 =>
  asSl (v10) (fun p12 k13 k14 w15 =>
  gocall Tryd.prog (70) [(Value.agg #[(Value.string (s4)), (Value.int IntKind.i64 (n8)), (Value.slice p12 (k13) (k14))])] (fun v16 w17 =>
  asBoo (v16) (fun b18 w19 =>
  br (!b18) (fun w20 =>
  K (Value.tuple #[(Value.string ({ data := #[] })), (Value.int IntKind.i64 (1))]) (w20)) (fun w21 =>
  ld (⟨k0, 0, none⟩) (fun v22 w23 =>
  asStr (v22) (fun s24 w25 =>
  ld (⟨k0, 1, none⟩) (fun v26 w27 =>
  asI (IntKind.i64) (v26) (fun n28 w29 =>
  nw (Obj.cells #[(Value.int IntKind.i64 (n28))] 3 (0, 0)) (fun k30 w31 =>
  ld (⟨k0, 2, none⟩) (fun v32 w33 =>
  asSl (v32) (fun p34 k35 k36 w37 =>
  bapp (Md.full) Tryd.prog (#[32, 32]) (32) (Value.slice (some ⟨k30, 0, none⟩) (1) (1)) (Value.slice p34 (k35) (k36)) (fun v38 w39 =>
  asSl (v38) (fun p40 k41 k42 w43 =>
  loop (X := (Int) × (ByteArray) × Unit) (0, (s24, ())) (fun x44 rec45 w46 =>
  br (decide (x44.fst < (↑k41 : Int))) (fun w47 =>
  slAt (p40) (k41) (x44.fst) (1) (fun a48 w49 =>
  ld (a48) (fun v50 w51 =>
  asI (IntKind.i64) (v50) (fun n52 w53 =>
  gocall Tryd.prog (39) [(Value.int IntKind.i64 (n52))] (fun v54 w55 =>
  asStr (v54) (fun s56 w57 =>
  strCat ({ data := #[32] }) (s56) (fun s58 w59 =>
  strCat (x44.snd.fst) (s58) (fun s60 w61 =>
  rec45 (IntKind.i64.wrap (x44.fst + 1), (s60, ())) (w61)) (w59)) (w57)) (w55)) (w53)) (w51)) (w49)) (w47)) (fun w62 =>
  gocall Tryd.prog (71) [(Value.string (x44.snd.fst))] (fun v63 w64 =>
  asStr (v63) (fun s65 w66 =>
  K (Value.tuple #[(Value.string (s65)), (Value.int IntKind.i64 (0))]) (w66)) (w64)) (w62)) (w46)) (w43)) (w39)) (w37)) (w33)) (w31)) (w29)) (w27)) (w25)) (w23)) (w21)) (w19)) (w17)) (w15)) (w11)) (w9)) (w7)) (w5)) (w3)) (w1)) (w)
theorem F61_eq (s0 : ByteArray) (x1 : Int) (a2 : Option Addr) (n2 : Nat) (c2 : Nat) : sBody Tryd.prog [] Tryd.f61 [(Value.agg #[(Value.string s0), (Value.int IntKind.i64 x1), (Value.slice a2 n2 c2)])] = F61 s0 x1 a2 n2 c2 := by kernel_rfl
theorem F61_go (s0 : ByteArray) (x1 : Int) (a2 : Option Addr) (n2 : Nat) (c2 : Nat) {K : KV} {w : World} (h : F61 s0 x1 a2 n2 c2 K w) : gocall Tryd.prog 61 [(Value.agg #[(Value.string s0), (Value.int IntKind.i64 x1), (Value.slice a2 n2 c2)])] K w :=
  ⟨by kernel_rfl, calls_of_sBody (T := []) mixed Tryd.func61 (by kernel_rfl) (by rw [F61_eq]; exact h)⟩
def F68 (a0 : Option Addr) (n0 : Nat) (c0 : Nat) (g1 : FuncId) (cap1 : Array Value) (K : KV) (w : World) : Prop :=
  loop (X := (Int) × (Int) × Unit) (0, (0, ())) (fun x0 rec1 w2 =>
  br (decide (x0.fst < (↑n0 : Int))) (fun w3 =>
  slAt (a0) (n0) (x0.fst) (3) (fun a4 w5 =>
  ld (a4) (fun v6 w7 =>
  asI (IntKind.i64) (v6) (fun n8 w9 =>
  ld (⟨a4.block, a4.off + 1, none⟩) (fun v10 w11 =>
  asI (IntKind.i64) (v10) (fun n12 w13 =>
  ld (⟨a4.block, a4.off + 2, none⟩) (fun v14 w15 =>
  asI (IntKind.i64) (v14) (fun n16 w17 =>
  gocall Tryd.prog (g1) ((Value.agg #[(Value.int IntKind.i64 (n8)), (Value.int IntKind.i64 (n12)), (Value.int IntKind.i64 (n16))]) :: cap1.1) (fun v18 w19 =>
  asBoo (v18) (fun b20 w21 =>
  br (b20) (fun w22 =>
  K (Value.int IntKind.i64 (x0.fst)) (w22)) (fun w23 =>
  rec1 (IntKind.i64.wrap (x0.fst + 1), (x0.snd.fst, ())) (w23)) (w21)) (w19)) (w17)) (w15)) (w13)) (w11)) (w9)) (w7)) (w5)) (w3)) (fun w24 =>
  K (Value.int IntKind.i64 (-1)) (w24)) (w2)) (w)
theorem F68_eq (a0 : Option Addr) (n0 : Nat) (c0 : Nat) (g1 : FuncId) (cap1 : Array Value) : sBody Tryd.prog [] Tryd.f68 [(Value.slice a0 n0 c0), (Value.func (.func g1) #[] cap1)] = F68 a0 n0 c0 g1 cap1 := by kernel_rfl
theorem F68_go (a0 : Option Addr) (n0 : Nat) (c0 : Nat) (g1 : FuncId) (cap1 : Array Value) {K : KV} {w : World} (h : F68 a0 n0 c0 g1 cap1 K w) : gocall Tryd.prog 68 [(Value.slice a0 n0 c0), (Value.func (.func g1) #[] cap1)] K w :=
  ⟨by kernel_rfl, calls_of_sBody (T := []) mixed Tryd.func68 (by kernel_rfl) (by rw [F68_eq]; exact h)⟩
def F69 (x0 : Int) (x1 : Int) (x2 : Int) (r3 : Addr) (K : KV) (w : World) : Prop :=
  nw (Obj.cells #[(Value.int IntKind.i64 (x0)), (Value.int IntKind.i64 (x1)), (Value.int IntKind.i64 (x2))] 65 (0, 0)) (fun k0 w1 =>
  ld (⟨k0, 0, none⟩) (fun v2 w3 =>
  asI (IntKind.i64) (v2) (fun n4 w5 =>
  ld (r3) (fun v6 w7 =>
  asI (IntKind.i64) (v6) (fun n8 w9 =>
  K (Value.bool (n4 == n8)) (w9)) (w7)) (w5)) (w3)) (w1)) (w)
theorem F69_eq (x0 : Int) (x1 : Int) (x2 : Int) (r3 : Addr) : sBody Tryd.prog [] Tryd.f69 [(Value.agg #[(Value.int IntKind.i64 x0), (Value.int IntKind.i64 x1), (Value.int IntKind.i64 x2)]), (Value.pointer (some r3))] = F69 x0 x1 x2 r3 := by kernel_rfl
theorem F69_go (x0 : Int) (x1 : Int) (x2 : Int) (r3 : Addr) {K : KV} {w : World} (h : F69 x0 x1 x2 r3 K w) : gocall Tryd.prog 69 [(Value.agg #[(Value.int IntKind.i64 x0), (Value.int IntKind.i64 x1), (Value.int IntKind.i64 x2)]), (Value.pointer (some r3))] K w :=
  ⟨by kernel_rfl, calls_of_sBody (T := []) mixed Tryd.func69 (by kernel_rfl) (by rw [F69_eq]; exact h)⟩
def F70 (s0 : ByteArray) (x1 : Int) (a2 : Option Addr) (n2 : Nat) (c2 : Nat) (K : KV) (w : World) : Prop :=
  nw (Obj.cells #[(Value.string (s0)), (Value.int IntKind.i64 (x1)), (Value.slice a2 (n2) (c2))] 87 (0, 0)) (fun k0 w1 =>
  ld (⟨k0, 0, none⟩) (fun v2 w3 =>
  asStr (v2) (fun s4 w5 =>
  gocall Tryd.prog (83) [(Value.string (s4))] (fun v6 w7 =>
  asBoo (v6) (fun b8 w9 =>
  br (b8) (fun w10 =>
  ld (⟨k0, 1, none⟩) (fun v11 w12 =>
  asI (IntKind.i64) (v11) (fun n13 w14 =>
  br (decide (n13 ≥ 0)) (fun w15 =>
  ld (⟨k0, 1, none⟩) (fun v16 w17 =>
  asI (IntKind.i64) (v16) (fun n18 w19 =>
  br (decide (n18 ≤ 999)) (fun w20 =>
  ld (⟨k0, 2, none⟩) (fun v21 w22 =>
  asSl (v21) (fun p23 k24 k25 w26 =>
  gocall Tryd.prog (84) [(Value.slice p23 (k24) (k25))] (fun v27 w28 =>
  asBoo (v27) (fun b29 w30 =>
  K (Value.bool (b29)) (w30)) (w28)) (w26)) (w22)) (w20)) (fun w31 =>
  K (Value.bool (false)) (w31)) (w19)) (w17)) (w15)) (fun w32 =>
  K (Value.bool (false)) (w32)) (w14)) (w12)) (w10)) (fun w33 =>
  K (Value.bool (false)) (w33)) (w9)) (w7)) (w5)) (w3)) (w1)) (w)
theorem F70_eq (s0 : ByteArray) (x1 : Int) (a2 : Option Addr) (n2 : Nat) (c2 : Nat) : sBody Tryd.prog [] Tryd.f70 [(Value.agg #[(Value.string s0), (Value.int IntKind.i64 x1), (Value.slice a2 n2 c2)])] = F70 s0 x1 a2 n2 c2 := by kernel_rfl
theorem F70_go (s0 : ByteArray) (x1 : Int) (a2 : Option Addr) (n2 : Nat) (c2 : Nat) {K : KV} {w : World} (h : F70 s0 x1 a2 n2 c2 K w) : gocall Tryd.prog 70 [(Value.agg #[(Value.string s0), (Value.int IntKind.i64 x1), (Value.slice a2 n2 c2)])] K w :=
  ⟨by kernel_rfl, calls_of_sBody (T := []) mixed Tryd.func70 (by kernel_rfl) (by rw [F70_eq]; exact h)⟩
def F71 (s0 : ByteArray) (K : KV) (w : World) : Prop :=
  strCat (s0) ({ data := #[124] }) (fun s1 w2 =>
  gocall Tryd.prog (85) [(Value.string (s0))] (fun v3 w4 =>
  asStr (v3) (fun s5 w6 =>
  strCat (s1) (s5) (fun s7 w8 =>
  K (Value.string (s7)) (w8)) (w6)) (w4)) (w2)) (w)
theorem F71_eq (s0 : ByteArray) : sBody Tryd.prog [] Tryd.f71 [(Value.string s0)] = F71 s0 := by kernel_rfl
theorem F71_go (s0 : ByteArray) {K : KV} {w : World} (h : F71 s0 K w) : gocall Tryd.prog 71 [(Value.string s0)] K w :=
  ⟨by kernel_rfl, calls_of_sBody (T := []) mixed Tryd.func71 (by kernel_rfl) (by rw [F71_eq]; exact h)⟩
def F83 (s0 : ByteArray) (K : KV) (w : World) : Prop :=
  loop (X := (Int) × (Bool) × Unit) (0, (false, ())) (fun x0 rec1 w2 =>
  br (decide (x0.fst < (↑s0.size : Int))) (fun w3 =>
  strAt (s0) (x0.fst) (fun x4 w5 =>
  br (decide ((↑x4.toNat : Int) < 97)) (fun w6 =>
  K (Value.bool (false)) (w6)) (fun w7 =>
  strAt (s0) (x0.fst) (fun x8 w9 =>
  br (decide ((↑x8.toNat : Int) > 122)) (fun w10 =>
  K (Value.bool (false)) (w10)) (fun w11 =>
  rec1 (IntKind.i64.wrap (x0.fst + 1), (x0.snd.fst, ())) (w11)) (w9)) (w7)) (w5)) (w3)) (fun w12 =>
  br (decide ((↑s0.size : Int) ≥ 1)) (fun w13 =>
  K (Value.bool (decide ((↑s0.size : Int) ≤ 8))) (w13)) (fun w14 =>
  K (Value.bool (false)) (w14)) (w12)) (w2)) (w)
theorem F83_eq (s0 : ByteArray) : sBody Tryd.prog [] Tryd.f83 [(Value.string s0)] = F83 s0 := by kernel_rfl
theorem F83_go (s0 : ByteArray) {K : KV} {w : World} (h : F83 s0 K w) : gocall Tryd.prog 83 [(Value.string s0)] K w :=
  ⟨by kernel_rfl, calls_of_sBody (T := []) mixed Tryd.func83 (by kernel_rfl) (by rw [F83_eq]; exact h)⟩
def F84 (a0 : Option Addr) (n0 : Nat) (c0 : Nat) (K : KV) (w : World) : Prop :=
  br (decide ((↑n0 : Int) ≤ 4)) (fun w3 =>
  gocall Tryd.prog (94) [(Value.slice a0 (n0) (c0)), (Value.func (Fn.func 95) #[] #[])] (fun v4 w5 =>
  asBoo (v4) (fun b6 w7 =>
  K (Value.bool (!b6)) (w7)) (w5)) (w3)) (fun w8 =>
  K (Value.bool (false)) (w8)) (w)
theorem F84_eq (a0 : Option Addr) (n0 : Nat) (c0 : Nat) : sBody Tryd.prog [] Tryd.f84 [(Value.slice a0 n0 c0)] = F84 a0 n0 c0 := by kernel_rfl
theorem F84_go (a0 : Option Addr) (n0 : Nat) (c0 : Nat) {K : KV} {w : World} (h : F84 a0 n0 c0 K w) : gocall Tryd.prog 84 [(Value.slice a0 n0 c0)] K w :=
  ⟨by kernel_rfl, calls_of_sBody (T := []) mixed Tryd.func84 (by kernel_rfl) (by rw [F84_eq]; exact h)⟩
def F85 (s0 : ByteArray) (K : KV) (w : World) : Prop :=
  loop (X := (Int) × (Int) × (Int) × Unit) (0, (1, (0, ()))) (fun x0 rec1 w2 =>
  br (decide (x0.fst < (↑s0.size : Int))) (fun w3 =>
  strAt (s0) (x0.fst) (fun x4 w5 =>
  divW (673) (fun w6 =>
  divW (673) (fun w7 =>
  rec1 (IntKind.i64.wrap (x0.fst + 1), ((IntKind.i64.wrap (x0.snd.fst * 3)).tmod 673, ((IntKind.i64.wrap (x0.snd.snd.fst + IntKind.i64.wrap (IntKind.i64.wrap (↑x4.toNat : Int) * x0.snd.fst))).tmod 673, ()))) (w7)) (w6)) (w5)) (w3)) (fun w8 =>
  divW (26) (fun w9 =>
  divW (26) (fun w10 =>
  nw (Obj.cells #[(Value.int IntKind.u8 (IntKind.u8.wrap (IntKind.i64.wrap (97 + IntKind.i64.wrap (Int.tdiv x0.snd.snd.fst 26))))), (Value.int IntKind.u8 (IntKind.u8.wrap (IntKind.i64.wrap (97 + Int.tmod x0.snd.snd.fst 26))))] 5 (0, 0)) (fun k11 w12 =>
  cnv (Md.full) Tryd.prog (55) (9) (Value.slice (some ⟨k11, 0, none⟩) (2) (2)) (fun v13 w14 =>
  asStr (v13) (fun s15 w16 =>
  K (Value.string (s15)) (w16)) (w14)) (w12)) (w10)) (w9)) (w8)) (w2)) (w)
theorem F85_eq (s0 : ByteArray) : sBody Tryd.prog [] Tryd.f85 [(Value.string s0)] = F85 s0 := by kernel_rfl
theorem F85_go (s0 : ByteArray) {K : KV} {w : World} (h : F85 s0 K w) : gocall Tryd.prog 85 [(Value.string s0)] K w :=
  ⟨by kernel_rfl, calls_of_sBody (T := []) mixed Tryd.func85 (by kernel_rfl) (by rw [F85_eq]; exact h)⟩
def F94 (a0 : Option Addr) (n0 : Nat) (c0 : Nat) (g1 : FuncId) (cap1 : Array Value) (K : KV) (w : World) : Prop :=
  gocall Tryd.prog (100) [(Value.slice a0 (n0) (c0)), (Value.func (Fn.func g1) #[] cap1)] (fun v5 w6 =>
  asI (IntKind.i64) (v5) (fun n7 w8 =>
  K (Value.bool (decide (n7 ≥ 0))) (w8)) (w6)) (w)
theorem F94_eq (a0 : Option Addr) (n0 : Nat) (c0 : Nat) (g1 : FuncId) (cap1 : Array Value) : sBody Tryd.prog [] Tryd.f94 [(Value.slice a0 n0 c0), (Value.func (.func g1) #[] cap1)] = F94 a0 n0 c0 g1 cap1 := by kernel_rfl
theorem F94_go (a0 : Option Addr) (n0 : Nat) (c0 : Nat) (g1 : FuncId) (cap1 : Array Value) {K : KV} {w : World} (h : F94 a0 n0 c0 g1 cap1 K w) : gocall Tryd.prog 94 [(Value.slice a0 n0 c0), (Value.func (.func g1) #[] cap1)] K w :=
  ⟨by kernel_rfl, calls_of_sBody (T := []) mixed Tryd.func94 (by kernel_rfl) (by rw [F94_eq]; exact h)⟩
def F95 (x0 : Int) (K : KV) (w : World) : Prop :=
  br (decide (x0 < -1000000000)) (fun w0 =>
  K (Value.bool (true)) (w0)) (fun w1 =>
  K (Value.bool (decide (x0 > 1000000000))) (w1)) (w)
theorem F95_eq (x0 : Int) : sBody Tryd.prog [] Tryd.f95 [(Value.int IntKind.i64 x0)] = F95 x0 := by kernel_rfl
theorem F95_go (x0 : Int) {K : KV} {w : World} (h : F95 x0 K w) : gocall Tryd.prog 95 [(Value.int IntKind.i64 x0)] K w :=
  ⟨by kernel_rfl, calls_of_sBody (T := []) mixed Tryd.func95 (by kernel_rfl) (by rw [F95_eq]; exact h)⟩
def F100 (a0 : Option Addr) (n0 : Nat) (c0 : Nat) (g1 : FuncId) (cap1 : Array Value) (K : KV) (w : World) : Prop :=
  loop (X := (Int) × (Int) × Unit) (0, (0, ())) (fun x0 rec1 w2 =>
  br (decide (x0.fst < (↑n0 : Int))) (fun w3 =>
  slAt (a0) (n0) (x0.fst) (1) (fun a4 w5 =>
  ld (a4) (fun v6 w7 =>
  asI (IntKind.i64) (v6) (fun n8 w9 =>
  gocall Tryd.prog (g1) ((Value.int IntKind.i64 (n8)) :: cap1.1) (fun v10 w11 =>
  asBoo (v10) (fun b12 w13 =>
  br (b12) (fun w14 =>
  K (Value.int IntKind.i64 (x0.fst)) (w14)) (fun w15 =>
  rec1 (IntKind.i64.wrap (x0.fst + 1), (x0.snd.fst, ())) (w15)) (w13)) (w11)) (w9)) (w7)) (w5)) (w3)) (fun w16 =>
  K (Value.int IntKind.i64 (-1)) (w16)) (w2)) (w)
theorem F100_eq (a0 : Option Addr) (n0 : Nat) (c0 : Nat) (g1 : FuncId) (cap1 : Array Value) : sBody Tryd.prog [] Tryd.f100 [(Value.slice a0 n0 c0), (Value.func (.func g1) #[] cap1)] = F100 a0 n0 c0 g1 cap1 := by kernel_rfl
theorem F100_go (a0 : Option Addr) (n0 : Nat) (c0 : Nat) (g1 : FuncId) (cap1 : Array Value) {K : KV} {w : World} (h : F100 a0 n0 c0 g1 cap1 K w) : gocall Tryd.prog 100 [(Value.slice a0 n0 c0), (Value.func (.func g1) #[] cap1)] K w :=
  ⟨by kernel_rfl, calls_of_sBody (T := []) mixed Tryd.func100 (by kernel_rfl) (by rw [F100_eq]; exact h)⟩
end Go.Proofs.YtiihiaicggmhjaaDoor
