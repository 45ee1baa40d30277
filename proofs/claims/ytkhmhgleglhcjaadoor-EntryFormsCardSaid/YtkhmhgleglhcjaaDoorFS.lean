/- The shallow readings of some functions of the program (printed by a program of ours out of the model's own evaluation) and, for each, the proof that it is one. Conditions: none. -/
import Derived.Test.YtkhmhgleglhcjaaDoorSh
import Derived.Test.YtkhmhgleglhcjaaDoorProg
set_option maxRecDepth 100000
set_option linter.unusedVariables false
namespace Go.Proofs.YtkhmhgleglhcjaaDoor
open Go Go.Sh
theorem mixed : Tryd.prog.follows .mixedOrders = true := by kernel_rfl
def F33 (x0 : Int) (K : KV) (w : World) : Prop :=
  gocall Tryd.prog (62) [(Value.int IntKind.i64 (x0))] (fun v1 w2 =>
  asPtr (v1) (fun p3 w4 =>
  gocall Tryd.prog (56) [] (fun v5 w6 =>
  asPtr (v5) (fun p7 w8 =>
  nw (Obj.cells #[(Value.pointer p3), (Value.pointer p7)] 85 (0, 0)) (fun k9 w10 =>
  K (Value.pointer (some ⟨k9, 0, none⟩)) (w10)) (w8)) (w6)) (w4)) (w2)) (w)
theorem F33_eq (x0 : Int) : sBody Tryd.prog [] Tryd.f33 [(Value.int IntKind.i64 x0)] = F33 x0 := by kernel_rfl
theorem F33_go (x0 : Int) {K : KV} {w : World} (h : F33 x0 K w) : gocall Tryd.prog 33 [(Value.int IntKind.i64 x0)] K w :=
  ⟨by kernel_rfl, calls_of_sBody (T := []) mixed Tryd.func33 (by kernel_rfl) (by rw [F33_eq]; exact h)⟩
def F29 (p0 : Option Addr) (x1 : Int) (x2 : Int) (x3 : Int) (x4 : Int) (x5 : Int) (x6 : Int) (x7 : Int) (K : KV) (w : World) : Prop :=
  nw (Obj.cells #[(Value.int IntKind.i64 (x1)), (Value.int IntKind.i64 (x2)), (Value.int IntKind.i64 (x3)), (Value.int IntKind.i64 (x4)), (Value.int IntKind.i64 (x5)), (Value.int IntKind.i64 (x6)), (Value.int IntKind.i64 (x7))] 43 (0, 0)) (fun k8 w9 =>
  br (p0.isNone) (fun w10 =>
  K (Value.slice none (0) (0)) (w10)) (fun w11 =>
  gocall Tryd.prog (31) [(Value.pointer p0)] (fun v12 w13 =>
  asBoo (v12) (fun b14 w15 =>
  br (b14) (fun w16 =>
  K (Value.slice none (0) (0)) (w16)) (fun w17 =>
  ld (⟨k8, 2, none⟩) (fun v18 w19 =>
  asI (IntKind.i64) (v18) (fun n20 w21 =>
  br (n20 != 3) (fun w22 =>
  K (Value.slice none (0) (0)) (w22)) (fun w23 =>
  ld (⟨k8, 1, none⟩) (fun v24 w25 =>
  asI (IntKind.i64) (v24) (fun n26 w27 =>
  br (n26 != 0) (fun w28 =>
  K (Value.slice none (0) (0)) (w28)) (fun w29 =>
  ld (⟨k8, 0, none⟩) (fun v30 w31 =>
  asI (IntKind.i64) (v30) (fun n32 w33 =>
  br (n32 != 15) (fun w34 =>
  K (Value.slice none (0) (0)) (w34)) (fun w35 =>
  ld (⟨k8, 0, none⟩) (fun v36 w37 =>
  asI (IntKind.i64) (v36) (fun n38 w39 =>
  ld (⟨k8, 1, none⟩) (fun v40 w41 =>
  asI (IntKind.i64) (v40) (fun n42 w43 =>
  ld (⟨k8, 2, none⟩) (fun v44 w45 =>
  asI (IntKind.i64) (v44) (fun n46 w47 =>
  ld (⟨k8, 3, none⟩) (fun v48 w49 =>
  asI (IntKind.i64) (v48) (fun n50 w51 =>
  ld (⟨k8, 4, none⟩) (fun v52 w53 =>
  asI (IntKind.i64) (v52) (fun n54 w55 =>
  ld (⟨k8, 5, none⟩) (fun v56 w57 =>
  asI (IntKind.i64) (v56) (fun n58 w59 =>
  ld (⟨k8, 6, none⟩) (fun v60 w61 =>
  asI (IntKind.i64) (v60) (fun n62 w63 =>
  gocall Tryd.prog (60) [(Value.pointer p0), (Value.agg #[(Value.int IntKind.i64 (n38)), (Value.int IntKind.i64 (n42)), (Value.int IntKind.i64 (n46)), (Value.int IntKind.i64 (n50)), (Value.int IntKind.i64 (n54)), (Value.int IntKind.i64 (n58)), (Value.int IntKind.i64 (n62))])] (fun v64 w65 =>
  asBoo (v64) (fun b66 w67 =>
  br (!b66) (fun w68 =>
  K (Value.slice none (0) (0)) (w68)) (fun w69 =>
  ld (⟨k8, 3, none⟩) (fun v70 w71 =>
  asI (IntKind.i64) (v70) (fun n72 w73 =>
  nw (Obj.cells #[(Value.int IntKind.i64 (16)), (Value.int IntKind.i64 (3)), (Value.int IntKind.i64 (0)), (Value.int IntKind.i64 (n72)), (Value.int IntKind.i64 (0)), (Value.int IntKind.i64 (0)), (Value.int IntKind.i64 (0))] 43 (0, 0)) (fun k74 w75 =>
  K (Value.slice (some ⟨k74, 0, none⟩) (1) (1)) (w75)) (w73)) (w71)) (w69)) (w67)) (w65)) (w63)) (w61)) (w59)) (w57)) (w55)) (w53)) (w51)) (w49)) (w47)) (w45)) (w43)) (w41)) (w39)) (w37)) (w35)) (w33)) (w31)) (w29)) (w27)) (w25)) (w23)) (w21)) (w19)) (w17)) (w15)) (w13)) (w11)) (w9)) (w)
theorem F29_eq (p0 : Option Addr) (x1 : Int) (x2 : Int) (x3 : Int) (x4 : Int) (x5 : Int) (x6 : Int) (x7 : Int) : sBody Tryd.prog [] Tryd.f29 [(Value.pointer p0), (Value.agg #[(Value.int IntKind.i64 x1), (Value.int IntKind.i64 x2), (Value.int IntKind.i64 x3), (Value.int IntKind.i64 x4), (Value.int IntKind.i64 x5), (Value.int IntKind.i64 x6), (Value.int IntKind.i64 x7)])] = F29 p0 x1 x2 x3 x4 x5 x6 x7 := by kernel_rfl
theorem F29_go (p0 : Option Addr) (x1 : Int) (x2 : Int) (x3 : Int) (x4 : Int) (x5 : Int) (x6 : Int) (x7 : Int) {K : KV} {w : World} (h : F29 p0 x1 x2 x3 x4 x5 x6 x7 K w) : gocall Tryd.prog 29 [(Value.pointer p0), (Value.agg #[(Value.int IntKind.i64 x1), (Value.int IntKind.i64 x2), (Value.int IntKind.i64 x3), (Value.int IntKind.i64 x4), (Value.int IntKind.i64 x5), (Value.int IntKind.i64 x6), (Value.int IntKind.i64 x7)])] K w :=
  ⟨by kernel_rfl, calls_of_sBody (T := []) mixed Tryd.func29 (by kernel_rfl) (by rw [F29_eq]; exact h)⟩
def F30 (p0 : Option Addr) (K : KV) (w : World) : Prop :=
  br (p0.isNone) (fun w1 =>
  K (Value.pointer none) (w1)) (fun w2 =>
  nn (p0) (fun a3 w4 =>
  ld (⟨a3.block, a3.off + 1, none⟩) (fun v5 w6 =>
  asPtr (v5) (fun p7 w8 =>
  K (Value.pointer p7) (w8)) (w6)) (w4)) (w2)) (w)
theorem F30_eq (p0 : Option Addr) : sBody Tryd.prog [] Tryd.f30 [(Value.pointer p0)] = F30 p0 := by kernel_rfl
theorem F30_go (p0 : Option Addr) {K : KV} {w : World} (h : F30 p0 K w) : gocall Tryd.prog 30 [(Value.pointer p0)] K w :=
  ⟨by kernel_rfl, calls_of_sBody (T := []) mixed Tryd.func30 (by kernel_rfl) (by rw [F30_eq]; exact h)⟩
def F34 (p0 : Option Addr) (x1 : Int) (K : KV) (w : World) : Prop :=
  br (p0.isNone) (fun w2 =>
  K (Value.int IntKind.i64 (0)) (w2)) (fun w3 =>
  nn (p0) (fun a4 w5 =>
  ld (a4) (fun v6 w7 =>
  asSl (v6) (fun p8 k9 k10 w11 =>
  loop (X := (Int) × (Int) × Unit) (0, (0, ())) (fun x12 rec13 w14 =>
  br (decide (x12.fst < (↑k9 : Int))) (fun w15 =>
  slAt (p8) (k9) (x12.fst) (3) (fun a16 w17 =>
  ld (a16) (fun v18 w19 =>
  asI (IntKind.i64) (v18) (fun n20 w21 =>
  ld (⟨a16.block, a16.off + 1, none⟩) (fun v22 w23 =>
  asI (IntKind.i64) (v22) (fun n24 w25 =>
  ld (⟨a16.block, a16.off + 2, none⟩) (fun v26 w27 =>
  asI (IntKind.i64) (v26) (fun n28 w29 =>
  nw (Obj.cells #[(Value.int IntKind.i64 (0)), (Value.int IntKind.i64 (0)), (Value.int IntKind.i64 (0))] 96 (0, 0)) (fun k30 w31 =>
  st (⟨k30, 0, none⟩) (Value.int IntKind.i64 (n20)) (fun w32 =>
  st (⟨k30, 1, none⟩) (Value.int IntKind.i64 (n24)) (fun w33 =>
  st (⟨k30, 2, none⟩) (Value.int IntKind.i64 (n28)) (fun w34 =>
  ld (⟨k30, 1, none⟩) (fun v35 w36 =>
  asI (IntKind.i64) (v35) (fun n37 w38 =>
  br (n37 == x1) (fun w39 =>
  ld (⟨k30, 2, none⟩) (fun v40 w41 =>
  asI (IntKind.i64) (v40) (fun n42 w43 =>
  rec13 (IntKind.i64.wrap (x12.fst + 1), (IntKind.i64.wrap (x12.snd.fst + n42), ())) (w43)) (w41)) (w39)) (fun w44 =>
  rec13 (IntKind.i64.wrap (x12.fst + 1), (x12.snd.fst, ())) (w44)) (w38)) (w36)) (w34)) (w33)) (w32)) (w31)) (w29)) (w27)) (w25)) (w23)) (w21)) (w19)) (w17)) (w15)) (fun w45 =>
  K (Value.int IntKind.i64 (x12.snd.fst)) (w45)) (w14)) (w11)) (w7)) (w5)) (w3)) (w)
theorem F34_eq (p0 : Option Addr) (x1 : Int) : sBody Tryd.prog [] Tryd.f34 [(Value.pointer p0), (Value.int IntKind.i64 x1)] = F34 p0 x1 := by kernel_rfl
theorem F34_go (p0 : Option Addr) (x1 : Int) {K : KV} {w : World} (h : F34 p0 x1 K w) : gocall Tryd.prog 34 [(Value.pointer p0), (Value.int IntKind.i64 x1)] K w :=
  ⟨by kernel_rfl, calls_of_sBody (T := []) mixed Tryd.func34 (by kernel_rfl) (by rw [F34_eq]; exact h)⟩
def F32  (K : KV) (w : World) : Prop :=
  gocall Tryd.prog (33) [(Value.int IntKind.i64 (20))] (fun v0 w1 =>
  asPtr (v0) (fun p2 w3 =>
  nw (Obj.cells #[(Value.int IntKind.i64 (0)), (Value.int IntKind.i64 (0)), (Value.int IntKind.i64 (0)), (Value.int IntKind.i64 (0)), (Value.int IntKind.i64 (0)), (Value.int IntKind.i64 (0)), (Value.int IntKind.i64 (0))] 43 (0, 0)) (fun k4 w5 =>
  st (⟨k4, 0, none⟩) (Value.int IntKind.i64 (15)) (fun w6 =>
  st (⟨k4, 1, none⟩) (Value.int IntKind.i64 (0)) (fun w7 =>
  st (⟨k4, 2, none⟩) (Value.int IntKind.i64 (3)) (fun w8 =>
  st (⟨k4, 3, none⟩) (Value.int IntKind.i64 (7)) (fun w9 =>
  st (⟨k4, 4, none⟩) (Value.int IntKind.i64 (0)) (fun w10 =>
  st (⟨k4, 5, none⟩) (Value.int IntKind.i64 (0)) (fun w11 =>
  st (⟨k4, 6, none⟩) (Value.int IntKind.i64 (2)) (fun w12 =>
  keeps (fun S13 w14 =>
  ldS (S13) (⟨k4, 0, none⟩) (fun v15 w16 =>
  asI (IntKind.i64) (v15) (fun n17 w18 =>
  ldS (S13) (⟨k4, 1, none⟩) (fun v19 w20 =>
  asI (IntKind.i64) (v19) (fun n21 w22 =>
  ldS (S13) (⟨k4, 2, none⟩) (fun v23 w24 =>
  asI (IntKind.i64) (v23) (fun n25 w26 =>
  ldS (S13) (⟨k4, 3, none⟩) (fun v27 w28 =>
  asI (IntKind.i64) (v27) (fun n29 w30 =>
  ldS (S13) (⟨k4, 4, none⟩) (fun v31 w32 =>
  asI (IntKind.i64) (v31) (fun n33 w34 =>
  ldS (S13) (⟨k4, 5, none⟩) (fun v35 w36 =>
  asI (IntKind.i64) (v35) (fun n37 w38 =>
  ldS (S13) (⟨k4, 6, none⟩) (fun v39 w40 =>
  asI (IntKind.i64) (v39) (fun n41 w42 =>
  ldS (S13) (⟨k4, 0, none⟩) (fun v43 w44 =>
  asI (IntKind.i64) (v43) (fun n45 w46 =>
  ldS (S13) (⟨k4, 1, none⟩) (fun v47 w48 =>
  asI (IntKind.i64) (v47) (fun n49 w50 =>
  ldS (S13) (⟨k4, 2, none⟩) (fun v51 w52 =>
  asI (IntKind.i64) (v51) (fun n53 w54 =>
  ldS (S13) (⟨k4, 3, none⟩) (fun v55 w56 =>
  asI (IntKind.i64) (v55) (fun n57 w58 =>
  ldS (S13) (⟨k4, 4, none⟩) (fun v59 w60 =>
  asI (IntKind.i64) (v59) (fun n61 w62 =>
  ldS (S13) (⟨k4, 5, none⟩) (fun v63 w64 =>
  asI (IntKind.i64) (v63) (fun n65 w66 =>
  ldS (S13) (⟨k4, 6, none⟩) (fun v67 w68 =>
  asI (IntKind.i64) (v67) (fun n69 w70 =>
  gocall Tryd.prog (29) [(Value.pointer p2), (Value.agg #[(Value.int IntKind.i64 (n17)), (Value.int IntKind.i64 (n21)), (Value.int IntKind.i64 (n25)), (Value.int IntKind.i64 (n29)), (Value.int IntKind.i64 (n33)), (Value.int IntKind.i64 (n37)), (Value.int IntKind.i64 (n41))])] (fun v71 w72 =>
  asSl (v71) (fun p73 k74 k75 w76 =>
  kp (S13) (fun w77 =>
  gocall Tryd.prog (29) [(Value.pointer p2), (Value.agg #[(Value.int IntKind.i64 (n45)), (Value.int IntKind.i64 (n49)), (Value.int IntKind.i64 (n53)), (Value.int IntKind.i64 (n57)), (Value.int IntKind.i64 (n61)), (Value.int IntKind.i64 (n65)), (Value.int IntKind.i64 (n69))])] (fun v78 w79 =>
  asSl (v78) (fun p80 k81 k82 w83 =>
  kp (S13) (fun w84 =>
  br ((↑k74 : Int) == 1) (fun w85 =>
  br ((↑k81 : Int) == 1) (fun w86 =>
  slAt (p80) (k81) (0) (7) (fun a87 w88 =>
  ld (a87) (fun v89 w90 =>
  asI (IntKind.i64) (v89) (fun n91 w92 =>
  br (n91 == 16) (fun w93 =>
  gocall Tryd.prog (30) [(Value.pointer p2)] (fun v94 w95 =>
  asPtr (v94) (fun p96 w97 =>
  gocall Tryd.prog (34) [(Value.pointer p96), (Value.int IntKind.i64 (0))] (fun v98 w99 =>
  asI (IntKind.i64) (v98) (fun n100 w101 =>
  K (Value.bool (n100 == 2)) (w101)) (w99)) (w97)) (w95)) (w93)) (fun w102 =>
  K (Value.bool (false)) (w102)) (w92)) (w90)) (w88)) (w86)) (fun w103 =>
  K (Value.bool (false)) (w103)) (w85)) (fun w104 =>
  K (Value.bool (false)) (w104)) (w84)) (w83)) (w79)) (w77)) (w76)) (w72)) (w70)) (w68)) (w66)) (w64)) (w62)) (w60)) (w58)) (w56)) (w54)) (w52)) (w50)) (w48)) (w46)) (w44)) (w42)) (w40)) (w38)) (w36)) (w34)) (w32)) (w30)) (w28)) (w26)) (w24)) (w22)) (w20)) (w18)) (w16)) (w14)) (w12.drew)) (w11)) (w10)) (w9)) (w8)) (w7)) (w6)) (w5)) (w3)) (w1)) (w)
theorem F32_eq  : sBody Tryd.prog [(3, [0, 1, 3, 4, 2, 5, 6, 7])] Tryd.f32 [] = F32  := by kernel_rfl
theorem F32_go  {K : KV} {w : World} (h : F32  K w) : gocall Tryd.prog 32 [] K w :=
  ⟨by kernel_rfl, calls_of_sBody (T := [(3, [0, 1, 3, 4, 2, 5, 6, 7])]) mixed Tryd.func32 (by kernel_rfl) (by rw [F32_eq]; exact h)⟩
def F35 (p0 : Option Addr) (K : KV) (w : World) : Prop :=
  br (p0.isNone) (fun w1 =>
  K (Value.slice none (0) (0)) (w1)) (fun w2 =>
  nn (p0) (fun a3 w4 =>
  ld (a3) (fun v5 w6 =>
  asSl (v5) (fun p7 k8 k9 w10 =>
  loop (X := (Int) × ((Option Addr) × (Nat) × Nat) × Unit) (0, ((none, 0, 0), ())) (fun x11 rec12 w13 =>
  br (decide (x11.fst < (↑k8 : Int))) (fun w14 =>
  slAt (p7) (k8) (x11.fst) (3) (fun a15 w16 =>
  ld (a15) (fun v17 w18 =>
  asI (IntKind.i64) (v17) (fun n19 w20 =>
  ld (⟨a15.block, a15.off + 1, none⟩) (fun v21 w22 =>
  asI (IntKind.i64) (v21) (fun n23 w24 =>
  ld (⟨a15.block, a15.off + 2, none⟩) (fun v25 w26 =>
  asI (IntKind.i64) (v25) (fun n27 w28 =>
  nw (Obj.cells #[(Value.int IntKind.i64 (0)), (Value.int IntKind.i64 (0)), (Value.int IntKind.i64 (0))] 96 (0, 0)) (fun k29 w30 =>
  st (⟨k29, 0, none⟩) (Value.int IntKind.i64 (n19)) (fun w31 =>
  st (⟨k29, 1, none⟩) (Value.int IntKind.i64 (n23)) (fun w32 =>
  st (⟨k29, 2, none⟩) (Value.int IntKind.i64 (n27)) (fun w33 =>
  ld (⟨k29, 0, none⟩) (fun v34 w35 =>
  asI (IntKind.i64) (v34) (fun n36 w37 =>
  nw (Obj.cells #[(Value.int IntKind.i64 (n36))] 3 (0, 0)) (fun k38 w39 =>
  bapp (Md.full) Tryd.prog (#[22, 22]) (22) (Value.slice x11.snd.fst.1 (x11.snd.fst.snd.fst) (x11.snd.fst.snd.snd)) (Value.slice (some ⟨k38, 0, none⟩) (1) (1)) (fun v40 w41 =>
  asSl (v40) (fun p42 k43 k44 w45 =>
  rec12 (IntKind.i64.wrap (x11.fst + 1), ((p42, k43, k44), ())) (w45)) (w41)) (w39)) (w37)) (w35)) (w33)) (w32)) (w31)) (w30)) (w28)) (w26)) (w24)) (w22)) (w20)) (w18)) (w16)) (w14)) (fun w46 =>
  K (Value.slice x11.snd.fst.1 (x11.snd.fst.snd.fst) (x11.snd.fst.snd.snd)) (w46)) (w13)) (w10)) (w6)) (w4)) (w2)) (w)
theorem F35_eq (p0 : Option Addr) : sBody Tryd.prog [] Tryd.f35 [(Value.pointer p0)] = F35 p0 := by kernel_rfl
theorem F35_go (p0 : Option Addr) {K : KV} {w : World} (h : F35 p0 K w) : gocall Tryd.prog 35 [(Value.pointer p0)] K w :=
  ⟨by kernel_rfl, calls_of_sBody (T := []) mixed Tryd.func35 (by kernel_rfl) (by rw [F35_eq]; exact h)⟩
def F62 (x0 : Int) (K : KV) (w : World) : Prop :=
  nw (Obj.cells #[(Value.int IntKind.i64 (if (if 4096 < x0 then 4096 else x0) > 1 then if 4096 < x0 then 4096 else x0 else 1)), (Value.slice none (0) (0)), (Value.int IntKind.i64 (0)), (Value.bool (false))] 107 (0, 0)) (fun k1 w2 =>
  K (Value.pointer (some ⟨k1, 0, none⟩)) (w2)) (w)
theorem F62_eq (x0 : Int) : sBody Tryd.prog [] Tryd.f62 [(Value.int IntKind.i64 x0)] = F62 x0 := by kernel_rfl
theorem F62_go (x0 : Int) {K : KV} {w : World} (h : F62 x0 K w) : gocall Tryd.prog 62 [(Value.int IntKind.i64 x0)] K w :=
  ⟨by kernel_rfl, calls_of_sBody (T := []) mixed Tryd.func62 (by kernel_rfl) (by rw [F62_eq]; exact h)⟩
def F56  (K : KV) (w : World) : Prop :=
  nw (Obj.cells #[(Value.slice none (0) (0))] 94 (0, 0)) (fun k0 w1 =>
  K (Value.pointer (some ⟨k0, 0, none⟩)) (w1)) (w)
theorem F56_eq  : sBody Tryd.prog [] Tryd.f56 [] = F56  := by kernel_rfl
theorem F56_go  {K : KV} {w : World} (h : F56  K w) : gocall Tryd.prog 56 [] K w :=
  ⟨by kernel_rfl, calls_of_sBody (T := []) mixed Tryd.func56 (by kernel_rfl) (by rw [F56_eq]; exact h)⟩
def F31 (p0 : Option Addr) (K : KV) (w : World) : Prop :=
  br (p0.isSome) (fun w1 =>
  nn (p0) (fun a2 w3 =>
  ld (a2) (fun v4 w5 =>
  asPtr (v4) (fun p6 w7 =>
  gocall Tryd.prog (61) [(Value.pointer p6)] (fun v8 w9 =>
  asBoo (v8) (fun b10 w11 =>
  K (Value.bool (b10)) (w11)) (w9)) (w7)) (w5)) (w3)) (w1)) (fun w12 =>
  K (Value.bool (false)) (w12)) (w)
theorem F31_eq (p0 : Option Addr) : sBody Tryd.prog [] Tryd.f31 [(Value.pointer p0)] = F31 p0 := by kernel_rfl
theorem F31_go (p0 : Option Addr) {K : KV} {w : World} (h : F31 p0 K w) : gocall Tryd.prog 31 [(Value.pointer p0)] K w :=
  ⟨by kernel_rfl, calls_of_sBody (T := []) mixed Tryd.func31 (by kernel_rfl) (by rw [F31_eq]; exact h)⟩
def F60 (p0 : Option Addr) (x1 : Int) (x2 : Int) (x3 : Int) (x4 : Int) (x5 : Int) (x6 : Int) (x7 : Int) (K : KV) (w : World) : Prop :=
  nw (Obj.cells #[(Value.int IntKind.i64 (x1)), (Value.int IntKind.i64 (x2)), (Value.int IntKind.i64 (x3)), (Value.int IntKind.i64 (x4)), (Value.int IntKind.i64 (x5)), (Value.int IntKind.i64 (x6)), (Value.int IntKind.i64 (x7))] 43 (0, 0)) (fun k8 w9 =>
  keeps (fun S10 w11 =>
  nn (p0) (fun a12 w13 =>
  ldS (S10) (⟨a12.block, a12.off + 1, none⟩) (fun v14 w15 =>
  asPtr (v14) (fun p16 w17 =>
  ldS (S10) (⟨k8, 3, none⟩) (fun v18 w19 =>
  asI (IntKind.i64) (v18) (fun n20 w21 =>
  gocall Tryd.prog (78) [(Value.pointer p16), (Value.int IntKind.i64 (n20))] (fun v22 w23 =>
  asT (3) (v22) (fun f24 w25 =>
  asI (IntKind.i64) (f24 0) (fun n26 w27 =>
  asI (IntKind.i64) (f24 1) (fun n28 w29 =>
  asBoo (f24 2) (fun b30 w31 =>
  kp (S10) (fun w32 =>
  br (b30) (fun w33 =>
  keeps (fun S34 w35 =>
  ldS (S34) (⟨k8, 3, none⟩) (fun v36 w37 =>
  asI (IntKind.i64) (v36) (fun n38 w39 =>
  ldS (S34) (⟨k8, 5, none⟩) (fun v40 w41 =>
  asI (IntKind.i64) (v40) (fun n42 w43 =>
  ldS (S34) (⟨k8, 6, none⟩) (fun v44 w45 =>
  asI (IntKind.i64) (v44) (fun n46 w47 =>
  gocall Tryd.prog (56) [] (fun v48 w49 =>
  asPtr (v48) (fun p50 w51 =>
  kp (S34) (fun w52 =>
  gocall Tryd.prog (77) [(Value.pointer p50), (Value.int IntKind.i64 (n38)), (Value.int IntKind.i64 (n42)), (Value.int IntKind.i64 (n46))] (fun v53 w54 =>
  asI (IntKind.i64) (v53) (fun n55 w56 =>
  kp (S34) (fun w57 =>
  K (Value.bool (n55 == 0)) (w57)) (w56)) (w54)) (w52)) (w51)) (w49)) (w47)) (w45)) (w43)) (w41)) (w39)) (w37)) (w35)) (w33.drew)) (fun w58 =>
  ld (⟨k8, 3, none⟩) (fun v59 w60 =>
  asI (IntKind.i64) (v59) (fun n61 w62 =>
  ld (⟨k8, 5, none⟩) (fun v63 w64 =>
  asI (IntKind.i64) (v63) (fun n65 w66 =>
  ld (⟨k8, 6, none⟩) (fun v67 w68 =>
  asI (IntKind.i64) (v67) (fun n69 w70 =>
  nw (Obj.cells #[(Value.int IntKind.i64 (n65)), (Value.int IntKind.i64 (n69))] 3 (0, 0)) (fun k71 w72 =>
  nw (Obj.cells #[(Value.string ({ data := #[] })), (Value.int IntKind.i64 (0)), (Value.slice none (0) (0))] 24 (0, 0)) (fun k73 w74 =>
  st (⟨k73, 0, none⟩) (Value.string ({ data := #[115, 101, 110, 116] })) (fun w75 =>
  st (⟨k73, 1, none⟩) (Value.int IntKind.i64 (n61)) (fun w76 =>
  st (⟨k73, 2, none⟩) (Value.slice (some ⟨k71, 0, none⟩) (2) (2)) (fun w77 =>
  keeps (fun S78 w79 =>
  ldS (S78) (⟨k8, 3, none⟩) (fun v80 w81 =>
  asI (IntKind.i64) (v80) (fun n82 w83 =>
  ldS (S78) (⟨k8, 5, none⟩) (fun v84 w85 =>
  asI (IntKind.i64) (v84) (fun n86 w87 =>
  ldS (S78) (⟨k8, 6, none⟩) (fun v88 w89 =>
  asI (IntKind.i64) (v88) (fun n90 w91 =>
  gocall Tryd.prog (56) [] (fun v92 w93 =>
  asPtr (v92) (fun p94 w95 =>
  kp (S78) (fun w96 =>
  gocall Tryd.prog (77) [(Value.pointer p94), (Value.int IntKind.i64 (n82)), (Value.int IntKind.i64 (n86)), (Value.int IntKind.i64 (n90))] (fun v97 w98 =>
  asI (IntKind.i64) (v97) (fun n99 w100 =>
  kp (S78) (fun w101 =>
  br (n99 != 0) (fun w102 =>
  K (Value.bool (false)) (w102)) (fun w103 =>
  nn (p0) (fun a104 w105 =>
  ldS (S78) (a104) (fun v106 w107 =>
  asPtr (v106) (fun p108 w109 =>
  ldS (S78) (⟨k73, 0, none⟩) (fun v110 w111 =>
  asStr (v110) (fun s112 w113 =>
  ldS (S78) (⟨k73, 1, none⟩) (fun v114 w115 =>
  asI (IntKind.i64) (v114) (fun n116 w117 =>
  ldS (S78) (⟨k73, 2, none⟩) (fun v118 w119 =>
  asSl (v118) (fun p120 k121 k122 w123 =>
  gocall Tryd.prog (79) [(Value.pointer p108), (Value.agg #[(Value.string (s112)), (Value.int IntKind.i64 (n116)), (Value.slice p120 (k121) (k122))])] (fun v124 w125 =>
  asI (IntKind.i64) (v124) (fun n126 w127 =>
  kp (S78) (fun w128 =>
  br (n126 != 0) (fun w129 =>
  K (Value.bool (false)) (w129)) (fun w130 =>
  nn (p0) (fun a131 w132 =>
  ld (a131) (fun v133 w134 =>
  asPtr (v133) (fun p135 w136 =>
  gocall Tryd.prog (80) [(Value.pointer p135)] (fun v137 w138 =>
  asI (IntKind.i64) (v137) (fun n139 w140 =>
  ld (⟨k73, 0, none⟩) (fun v141 w142 =>
  asStr (v141) (fun s143 w144 =>
  ld (⟨k73, 1, none⟩) (fun v145 w146 =>
  asI (IntKind.i64) (v145) (fun n147 w148 =>
  ld (⟨k73, 2, none⟩) (fun v149 w150 =>
  asSl (v149) (fun p151 k152 k153 w154 =>
  gocall Tryd.prog (59) [(Value.pointer p0), (Value.agg #[(Value.string (s143)), (Value.int IntKind.i64 (n147)), (Value.slice p151 (k152) (k153))])] (fun v155 w156 =>
  asT (0) (v155) (fun f157 w158 =>
  K (Value.bool (true)) (w158)) (w156)) (w154)) (w150)) (w148)) (w146)) (w144)) (w142)) (w140)) (w138)) (w136)) (w134)) (w132)) (w130)) (w128)) (w127)) (w125)) (w123)) (w119)) (w117)) (w115)) (w113)) (w111)) (w109)) (w107)) (w105)) (w103)) (w101)) (w100)) (w98)) (w96)) (w95)) (w93)) (w91)) (w89)) (w87)) (w85)) (w83)) (w81)) (w79)) (w77.drew)) (w76)) (w75)) (w74)) (w72)) (w70)) (w68)) (w66)) (w64)) (w62)) (w60)) (w58)) (w32)) (w31)) (w29)) (w27)) (w25)) (w23)) (w21)) (w19)) (w17)) (w15)) (w13)) (w11)) (w9.drew)) (w)
theorem F60_eq (p0 : Option Addr) (x1 : Int) (x2 : Int) (x3 : Int) (x4 : Int) (x5 : Int) (x6 : Int) (x7 : Int) : sBody Tryd.prog [(1, [0, 1, 2, 3, 4, 5, 6, 7, 8, 9, 10, 11, 12, 13]), (3, [1, 2, 3, 4, 5, 6, 0, 7, 8, 9]), (5, [1, 2, 3, 4, 5, 6, 0, 7, 8, 9, 10, 11, 12, 13, 14, 15, 16, 17])] Tryd.f60 [(Value.pointer p0), (Value.agg #[(Value.int IntKind.i64 x1), (Value.int IntKind.i64 x2), (Value.int IntKind.i64 x3), (Value.int IntKind.i64 x4), (Value.int IntKind.i64 x5), (Value.int IntKind.i64 x6), (Value.int IntKind.i64 x7)])] = F60 p0 x1 x2 x3 x4 x5 x6 x7 := by kernel_rfl
theorem F60_go (p0 : Option Addr) (x1 : Int) (x2 : Int) (x3 : Int) (x4 : Int) (x5 : Int) (x6 : Int) (x7 : Int) {K : KV} {w : World} (h : F60 p0 x1 x2 x3 x4 x5 x6 x7 K w) : gocall Tryd.prog 60 [(Value.pointer p0), (Value.agg #[(Value.int IntKind.i64 x1), (Value.int IntKind.i64 x2), (Value.int IntKind.i64 x3), (Value.int IntKind.i64 x4), (Value.int IntKind.i64 x5), (Value.int IntKind.i64 x6), (Value.int IntKind.i64 x7)])] K w :=
  ⟨by kernel_rfl, calls_of_sBody (T := [(1, [0, 1, 2, 3, 4, 5, 6, 7, 8, 9, 10, 11, 12, 13]), (3, [1, 2, 3, 4, 5, 6, 0, 7, 8, 9]), (5, [1, 2, 3, 4, 5, 6, 0, 7, 8, 9, 10, 11, 12, 13, 14, 15, 16, 17])]) mixed Tryd.func60 (by kernel_rfl) (by rw [F60_eq]; exact h)⟩
def F61 (p0 : Option Addr) (K : KV) (w : World) : Prop :=
  br (p0.isSome) (fun w1 =>
  nn (p0) (fun a2 w3 =>
  ld (⟨a2.block, a2.off + 3, none⟩) (fun v4 w5 =>
  asBoo (v4) (fun b6 w7 =>
  K (Value.bool (b6)) (w7)) (w5)) (w3)) (w1)) (fun w8 =>
  K (Value.bool (false)) (w8)) (w)
theorem F61_eq (p0 : Option Addr) : sBody Tryd.prog [] Tryd.f61 [(Value.pointer p0)] = F61 p0 := by kernel_rfl
theorem F61_go (p0 : Option Addr) {K : KV} {w : World} (h : F61 p0 K w) : gocall Tryd.prog 61 [(Value.pointer p0)] K w :=
  ⟨by kernel_rfl, calls_of_sBody (T := []) mixed Tryd.func61 (by kernel_rfl) (by rw [F61_eq]; exact h)⟩
def F78 (p0 : Option Addr) (x1 : Int) (K : KV) (w : World) : Prop :=
  br (p0.isNone) (fun w2 =>
  K (Value.tuple #[(Value.int IntKind.i64 (0)), (Value.int IntKind.i64 (0)), (Value.bool (false))]) (w2)) (fun w3 =>
  gocall Tryd.prog (97) [(Value.pointer p0), (Value.int IntKind.i64 (x1))] (fun v4 w5 =>
  asI (IntKind.i64) (v4) (fun n6 w7 =>
  br (decide (n6 < 0)) (fun w8 =>
  K (Value.tuple #[(Value.int IntKind.i64 (0)), (Value.int IntKind.i64 (0)), (Value.bool (false))]) (w8)) (fun w9 =>
  nn (p0) (fun a10 w11 =>
  ld (a10) (fun v12 w13 =>
  asSl (v12) (fun p14 k15 k16 w17 =>
  slAt (p14) (k15) (n6) (3) (fun a18 w19 =>
  ld (⟨a18.block, a18.off + 1, none⟩) (fun v20 w21 =>
  asI (IntKind.i64) (v20) (fun n22 w23 =>
  nn (p0) (fun a24 w25 =>
  ld (a24) (fun v26 w27 =>
  asSl (v26) (fun p28 k29 k30 w31 =>
  slAt (p28) (k29) (n6) (3) (fun a32 w33 =>
  ld (⟨a32.block, a32.off + 2, none⟩) (fun v34 w35 =>
  asI (IntKind.i64) (v34) (fun n36 w37 =>
  K (Value.tuple #[(Value.int IntKind.i64 (n22)), (Value.int IntKind.i64 (n36)), (Value.bool (true))]) (w37)) (w35)) (w33)) (w31)) (w27)) (w25)) (w23)) (w21)) (w19)) (w17)) (w13)) (w11)) (w9.drew)) (w7)) (w5)) (w3)) (w)
theorem F78_eq (p0 : Option Addr) (x1 : Int) : sBody Tryd.prog [] Tryd.f78 [(Value.pointer p0), (Value.int IntKind.i64 x1)] = F78 p0 x1 := by kernel_rfl
theorem F78_go (p0 : Option Addr) (x1 : Int) {K : KV} {w : World} (h : F78 p0 x1 K w) : gocall Tryd.prog 78 [(Value.pointer p0), (Value.int IntKind.i64 x1)] K w :=
  ⟨by kernel_rfl, calls_of_sBody (T := []) mixed Tryd.func78 (by kernel_rfl) (by rw [F78_eq]; exact h)⟩
def F77 (p0 : Option Addr) (x1 : Int) (x2 : Int) (x3 : Int) (K : KV) (w : World) : Prop :=
  br (p0.isNone) (fun w4 =>
  K (Value.int IntKind.i64 (1)) (w4)) (fun w5 =>
  br (decide (x1 < 1)) (fun w6 =>
  K (Value.int IntKind.i64 (1)) (w6)) (fun w7 =>
  br (decide (x1 > 999)) (fun w8 =>
  K (Value.int IntKind.i64 (1)) (w8)) (fun w9 =>
  br (decide (x2 < 0)) (fun w10 =>
  K (Value.int IntKind.i64 (1)) (w10)) (fun w11 =>
  br (decide (x2 ≥ 8)) (fun w12 =>
  K (Value.int IntKind.i64 (1)) (w12)) (fun w13 =>
  br (x3 == 0) (fun w14 =>
  K (Value.int IntKind.i64 (1)) (w14)) (fun w15 =>
  gocall Tryd.prog (96) [(Value.int IntKind.i64 (x3))] (fun v16 w17 =>
  asBoo (v16) (fun b18 w19 =>
  br (!b18) (fun w20 =>
  K (Value.int IntKind.i64 (1)) (w20)) (fun w21 =>
  gocall Tryd.prog (97) [(Value.pointer p0), (Value.int IntKind.i64 (x1))] (fun v22 w23 =>
  asI (IntKind.i64) (v22) (fun n24 w25 =>
  br (decide (n24 ≥ 0)) (fun w26 =>
  K (Value.int IntKind.i64 (8)) (w26)) (fun w27 =>
  nn (p0) (fun a28 w29 =>
  ld (a28) (fun v30 w31 =>
  asSl (v30) (fun p32 k33 k34 w35 =>
  nw (Obj.cells #[(Value.int IntKind.i64 (x1)), (Value.int IntKind.i64 (x2)), (Value.int IntKind.i64 (x3))] 96 (0, 0)) (fun k36 w37 =>
  bapp (Md.full) Tryd.prog (#[92, 92]) (92) (Value.slice p32 (k33) (k34)) (Value.slice (some ⟨k36, 0, none⟩) (1) (1)) (fun v38 w39 =>
  asSl (v38) (fun p40 k41 k42 w43 =>
  nn (p0) (fun a44 w45 =>
  st (a44) (Value.slice p40 (k41) (k42)) (fun w46 =>
  K (Value.int IntKind.i64 (0)) (w46)) (w45)) (w43)) (w39)) (w37)) (w35)) (w31)) (w29)) (w27)) (w25)) (w23)) (w21)) (w19)) (w17)) (w15)) (w13)) (w11)) (w9)) (w7)) (w5)) (w)
theorem F77_eq (p0 : Option Addr) (x1 : Int) (x2 : Int) (x3 : Int) : sBody Tryd.prog [] Tryd.f77 [(Value.pointer p0), (Value.int IntKind.i64 x1), (Value.int IntKind.i64 x2), (Value.int IntKind.i64 x3)] = F77 p0 x1 x2 x3 := by kernel_rfl
theorem F77_go (p0 : Option Addr) (x1 : Int) (x2 : Int) (x3 : Int) {K : KV} {w : World} (h : F77 p0 x1 x2 x3 K w) : gocall Tryd.prog 77 [(Value.pointer p0), (Value.int IntKind.i64 x1), (Value.int IntKind.i64 x2), (Value.int IntKind.i64 x3)] K w :=
  ⟨by kernel_rfl, calls_of_sBody (T := []) mixed Tryd.func77 (by kernel_rfl) (by rw [F77_eq]; exact h)⟩
def F79 (p0 : Option Addr) (s1 : ByteArray) (x2 : Int) (a3 : Option Addr) (n3 : Nat) (c3 : Nat) (K : KV) (w : World) : Prop :=
  nw (Obj.cells #[(Value.string (s1)), (Value.int IntKind.i64 (x2)), (Value.slice a3 (n3) (c3))] 24 (0, 0)) (fun k6 w7 =>
  br (p0.isNone) (fun w8 =>
  K (Value.int IntKind.i64 (1)) (w8)) (fun w9 =>
  nn (p0) (fun a10 w11 =>
  ld (⟨a10.block, a10.off + 3, none⟩) (fun v12 w13 =>
  asBoo (v12) (fun b14 w15 =>
  br (b14) (fun w16 =>
  K (Value.int IntKind.i64 (10)) (w16)) (fun w17 =>
  ld (⟨k6, 0, none⟩) (fun v18 w19 =>
  asStr (v18) (fun s20 w21 =>
  ld (⟨k6, 1, none⟩) (fun v22 w23 =>
  asI (IntKind.i64) (v22) (fun n24 w25 =>
  ld (⟨k6, 2, none⟩) (fun v26 w27 =>
  asSl (v26) (fun p28 k29 k30 w31 =>
  gocall Tryd.prog (16) [(Value.agg #[(Value.string (s20)), (Value.int IntKind.i64 (n24)), (Value.slice p28 (k29) (k30))])] (fun v32 w33 =>
  asT (2) (v32) (fun f34 w35 =>
  asStr (f34 0) (fun s36 w37 =>
  asI (IntKind.i64) (f34 1) (fun n38 w39 =>
  br (n38 != 0) (fun w40 =>
  K (Value.int IntKind.i64 (n38)) (w40)) (fun w41 =>
  nn (p0) (fun a42 w43 =>
  ld (⟨a42.block, a42.off + 1, none⟩) (fun v44 w45 =>
  asSl (v44) (fun p46 k47 k48 w49 =>
  nn (p0) (fun a50 w51 =>
  ld (a50) (fun v52 w53 =>
  asI (IntKind.i64) (v52) (fun n54 w55 =>
  br (decide ((↑k47 : Int) ≥ n54)) (fun w56 =>
  K (Value.int IntKind.i64 (5)) (w56)) (fun w57 =>
  nn (p0) (fun a58 w59 =>
  ld (⟨a58.block, a58.off + 1, none⟩) (fun v60 w61 =>
  asSl (v60) (fun p62 k63 k64 w65 =>
  nw (Obj.cells #[(Value.string (s36))] 9 (0, 0)) (fun k66 w67 =>
  bapp (Md.full) Tryd.prog (#[79, 79]) (79) (Value.slice p62 (k63) (k64)) (Value.slice (some ⟨k66, 0, none⟩) (1) (1)) (fun v68 w69 =>
  asSl (v68) (fun p70 k71 k72 w73 =>
  nn (p0) (fun a74 w75 =>
  st (⟨a74.block, a74.off + 1, none⟩) (Value.slice p70 (k71) (k72)) (fun w76 =>
  K (Value.int IntKind.i64 (0)) (w76)) (w75)) (w73)) (w69)) (w67)) (w65)) (w61)) (w59)) (w57)) (w55)) (w53)) (w51)) (w49)) (w45)) (w43)) (w41.drew)) (w39)) (w37)) (w35)) (w33)) (w31)) (w27)) (w25)) (w23)) (w21)) (w19)) (w17)) (w15)) (w13)) (w11)) (w9)) (w7)) (w)
theorem F79_eq (p0 : Option Addr) (s1 : ByteArray) (x2 : Int) (a3 : Option Addr) (n3 : Nat) (c3 : Nat) : sBody Tryd.prog [] Tryd.f79 [(Value.pointer p0), (Value.agg #[(Value.string s1), (Value.int IntKind.i64 x2), (Value.slice a3 n3 c3)])] = F79 p0 s1 x2 a3 n3 c3 := by kernel_rfl
theorem F79_go (p0 : Option Addr) (s1 : ByteArray) (x2 : Int) (a3 : Option Addr) (n3 : Nat) (c3 : Nat) {K : KV} {w : World} (h : F79 p0 s1 x2 a3 n3 c3 K w) : gocall Tryd.prog 79 [(Value.pointer p0), (Value.agg #[(Value.string s1), (Value.int IntKind.i64 x2), (Value.slice a3 n3 c3)])] K w :=
  ⟨by kernel_rfl, calls_of_sBody (T := []) mixed Tryd.func79 (by kernel_rfl) (by rw [F79_eq]; exact h)⟩
def F80 (p0 : Option Addr) (K : KV) (w : World) : Prop :=
  br (p0.isNone) (fun w1 =>
  K (Value.int IntKind.i64 (1)) (w1)) (fun w2 =>
  nn (p0) (fun a3 w4 =>
  ld (⟨a3.block, a3.off + 3, none⟩) (fun v5 w6 =>
  asBoo (v5) (fun b7 w8 =>
  br (b7) (fun w9 =>
  K (Value.int IntKind.i64 (10)) (w9)) (fun w10 =>
  nn (p0) (fun a11 w12 =>
  ld (⟨a11.block, a11.off + 1, none⟩) (fun v13 w14 =>
  asSl (v13) (fun p15 k16 k17 w18 =>
  nn (p0) (fun a19 w20 =>
  st (⟨a19.block, a19.off + 2, none⟩) (Value.int IntKind.i64 ((↑k16 : Int))) (fun w21 =>
  K (Value.int IntKind.i64 (0)) (w21)) (w20)) (w18)) (w14)) (w12)) (w10)) (w8)) (w6)) (w4)) (w2)) (w)
theorem F80_eq (p0 : Option Addr) : sBody Tryd.prog [] Tryd.f80 [(Value.pointer p0)] = F80 p0 := by kernel_rfl
theorem F80_go (p0 : Option Addr) {K : KV} {w : World} (h : F80 p0 K w) : gocall Tryd.prog 80 [(Value.pointer p0)] K w :=
  ⟨by kernel_rfl, calls_of_sBody (T := []) mixed Tryd.func80 (by kernel_rfl) (by rw [F80_eq]; exact h)⟩
def F59 (p0 : Option Addr) (s1 : ByteArray) (x2 : Int) (a3 : Option Addr) (n3 : Nat) (c3 : Nat) (K : KV) (w : World) : Prop :=
  nw (Obj.cells #[(Value.string (s1)), (Value.int IntKind.i64 (x2)), (Value.slice a3 (n3) (c3))] 24 (0, 0)) (fun k6 w7 =>
  ld (⟨k6, 0, none⟩) (fun v8 w9 =>
  asStr (v8) (fun s10 w11 =>
  br (strEq s10 { data := #[115, 101, 110, 116] }) (fun w12 =>
  ld (⟨k6, 2, none⟩) (fun v13 w14 =>
  asSl (v13) (fun p15 k16 k17 w18 =>
  br ((↑k16 : Int) == 2) (fun w19 =>
  nn (p0) (fun a20 w21 =>
  ld (⟨a20.block, a20.off + 1, none⟩) (fun v22 w23 =>
  asPtr (v22) (fun p24 w25 =>
  ld (⟨k6, 1, none⟩) (fun v26 w27 =>
  asI (IntKind.i64) (v26) (fun n28 w29 =>
  ld (⟨k6, 2, none⟩) (fun v30 w31 =>
  asSl (v30) (fun p32 k33 k34 w35 =>
  slAt (p32) (k33) (0) (1) (fun a36 w37 =>
  ld (a36) (fun v38 w39 =>
  asI (IntKind.i64) (v38) (fun n40 w41 =>
  ld (⟨k6, 2, none⟩) (fun v42 w43 =>
  asSl (v42) (fun p44 k45 k46 w47 =>
  slAt (p44) (k45) (1) (1) (fun a48 w49 =>
  ld (a48) (fun v50 w51 =>
  asI (IntKind.i64) (v50) (fun n52 w53 =>
  gocall Tryd.prog (77) [(Value.pointer p24), (Value.int IntKind.i64 (n28)), (Value.int IntKind.i64 (n40)), (Value.int IntKind.i64 (n52))] (fun v54 w55 =>
  asI (IntKind.i64) (v54) (fun n56 w57 =>
  K (Value.tuple #[]) (w57)) (w55)) (w53)) (w51)) (w49)) (w47)) (w43)) (w41)) (w39)) (w37)) (w35)) (w31)) (w29)) (w27)) (w25)) (w23)) (w21)) (w19.drew)) (fun w58 =>
  K (Value.tuple #[]) (w58)) (w18)) (w14)) (w12)) (fun w59 =>
  K (Value.tuple #[]) (w59)) (w11)) (w9)) (w7)) (w)
theorem F59_eq (p0 : Option Addr) (s1 : ByteArray) (x2 : Int) (a3 : Option Addr) (n3 : Nat) (c3 : Nat) : sBody Tryd.prog [] Tryd.f59 [(Value.pointer p0), (Value.agg #[(Value.string s1), (Value.int IntKind.i64 x2), (Value.slice a3 n3 c3)])] = F59 p0 s1 x2 a3 n3 c3 := by kernel_rfl
theorem F59_go (p0 : Option Addr) (s1 : ByteArray) (x2 : Int) (a3 : Option Addr) (n3 : Nat) (c3 : Nat) {K : KV} {w : World} (h : F59 p0 s1 x2 a3 n3 c3 K w) : gocall Tryd.prog 59 [(Value.pointer p0), (Value.agg #[(Value.string s1), (Value.int IntKind.i64 x2), (Value.slice a3 n3 c3)])] K w :=
  ⟨by kernel_rfl, calls_of_sBody (T := []) mixed Tryd.func59 (by kernel_rfl) (by rw [F59_eq]; exact h)⟩
def F96 (x0 : Int) (K : KV) (w : World) : Prop :=
  br (decide (x0 ≥ 0)) (fun w1 =>
  K (Value.bool (decide (x0 ≤ 1000000000))) (w1)) (fun w2 =>
  K (Value.bool (false)) (w2)) (w)
theorem F96_eq (x0 : Int) : sBody Tryd.prog [] Tryd.f96 [(Value.int IntKind.i64 x0)] = F96 x0 := by kernel_rfl
theorem F96_go (x0 : Int) {K : KV} {w : World} (h : F96 x0 K w) : gocall Tryd.prog 96 [(Value.int IntKind.i64 x0)] K w :=
  ⟨by kernel_rfl, calls_of_sBody (T := []) mixed Tryd.func96 (by kernel_rfl) (by rw [F96_eq]; exact h)⟩
def F97 (p0 : Option Addr) (x1 : Int) (K : KV) (w : World) : Prop :=
  nw (Obj.cells #[(Value.int IntKind.i64 (x1))] 3 (0, 0)) (fun k2 w3 =>
  nn (p0) (fun a4 w5 =>
  ld (a4) (fun v6 w7 =>
  asSl (v6) (fun p8 k9 k10 w11 =>
  gocall Tryd.prog (108) [(Value.slice p8 (k9) (k10)), (Value.func (Fn.func 109) #[] #[(Value.pointer (some ⟨k2, 0, none⟩))])] (fun v12 w13 =>
  asI (IntKind.i64) (v12) (fun n14 w15 =>
  K (Value.int IntKind.i64 (n14)) (w15)) (w13)) (w11)) (w7)) (w5)) (w3)) (w)
theorem F97_eq (p0 : Option Addr) (x1 : Int) : sBody Tryd.prog [] Tryd.f97 [(Value.pointer p0), (Value.int IntKind.i64 x1)] = F97 p0 x1 := by kernel_rfl
theorem F97_go (p0 : Option Addr) (x1 : Int) {K : KV} {w : World} (h : F97 p0 x1 K w) : gocall Tryd.prog 97 [(Value.pointer p0), (Value.int IntKind.i64 x1)] K w :=
  ⟨by kernel_rfl, calls_of_sBody (T := []) mixed Tryd.func97 (by kernel_rfl) (by rw [F97_eq]; exact h)⟩
def F16 (s0 : ByteArray) (x1 : Int) (a2 : Option Addr) (n2 : Nat) (c2 : Nat) (K : KV) (w : World) : Prop :=
  nw (Obj.cells #[(Value.string (s0)), (Value.int IntKind.i64 (x1)), (Value.slice a2 (n2) (c2))] 24 (0, 0)) (fun k5 w6 =>
  ld (⟨k5, 0, none⟩) (fun v7 w8 =>
  asStr (v7) (fun s9 w10 =>
  ld (⟨k5, 1, none⟩) (fun v11 w12 =>
  asI (IntKind.i64) (v11) (fun n13 w14 =>
  ld (⟨k5, 2, none⟩) (fun v15 w16 =>
  asSl (v15) (fun p17 k18 k19 w20 =>
  gocall Tryd.prog (18) [(Value.agg #[(Value.string (s9)), (Value.int IntKind.i64 (n13)), (Value.slice p17 (k18) (k19))])] (fun v21 w22 =>
  asBoo (v21) (fun b23 w24 =>
  br (!b23) (fun w25 =>
  K (Value.tuple #[(Value.string ({ data := #[] })), (Value.int IntKind.i64 (1))]) (w25)) (fun w26 =>
  ld (⟨k5, 0, none⟩) (fun v27 w28 =>
  asStr (v27) (fun s29 w30 =>
  ld (⟨k5, 1, none⟩) (fun v31 w32 =>
  asI (IntKind.i64) (v31) (fun n33 w34 =>
  nw (Obj.cells #[(Value.int IntKind.i64 (n33))] 3 (0, 0)) (fun k35 w36 =>
  ld (⟨k5, 2, none⟩) (fun v37 w38 =>
  asSl (v37) (fun p39 k40 k41 w42 =>
  bapp (Md.full) Tryd.prog (#[22, 22]) (22) (Value.slice (some ⟨k35, 0, none⟩) (1) (1)) (Value.slice p39 (k40) (k41)) (fun v43 w44 =>
  asSl (v43) (fun p45 k46 k47 w48 =>
  loop (X := (Int) × (ByteArray) × Unit) (0, (s29, ())) (fun x49 rec50 w51 =>
  br (decide (x49.fst < (↑k46 : Int))) (fun w52 =>
  slAt (p45) (k46) (x49.fst) (1) (fun a53 w54 =>
  ld (a53) (fun v55 w56 =>
  asI (IntKind.i64) (v55) (fun n57 w58 =>
  gocall Tryd.prog (45) [(Value.int IntKind.i64 (n57))] (fun v59 w60 =>
  asStr (v59) (fun s61 w62 =>
  strCat ({ data := #[32] }) (s61) (fun s63 w64 =>
  strCat (x49.snd.fst) (s63) (fun s65 w66 =>
  rec50 (IntKind.i64.wrap (x49.fst + 1), (s65, ())) (w66)) (w64)) (w62)) (w60)) (w58)) (w56)) (w54)) (w52)) (fun w67 =>
  gocall Tryd.prog (15) [(Value.string (x49.snd.fst))] (fun v68 w69 =>
  asStr (v68) (fun s70 w71 =>
  K (Value.tuple #[(Value.string (s70)), (Value.int IntKind.i64 (0))]) (w71)) (w69)) (w67)) (w51)) (w48)) (w44)) (w42)) (w38)) (w36)) (w34)) (w32)) (w30)) (w28)) (w26)) (w24)) (w22)) (w20)) (w16)) (w14)) (w12)) (w10)) (w8)) (w6)) (w)
theorem F16_eq (s0 : ByteArray) (x1 : Int) (a2 : Option Addr) (n2 : Nat) (c2 : Nat) : sBody Tryd.prog [] Tryd.f16 [(Value.agg #[(Value.string s0), (Value.int IntKind.i64 x1), (Value.slice a2 n2 c2)])] = F16 s0 x1 a2 n2 c2 := by kernel_rfl
theorem F16_go (s0 : ByteArray) (x1 : Int) (a2 : Option Addr) (n2 : Nat) (c2 : Nat) {K : KV} {w : World} (h : F16 s0 x1 a2 n2 c2 K w) : gocall Tryd.prog 16 [(Value.agg #[(Value.string s0), (Value.int IntKind.i64 x1), (Value.slice a2 n2 c2)])] K w :=
  ⟨by kernel_rfl, calls_of_sBody (T := []) mixed Tryd.func16 (by kernel_rfl) (by rw [F16_eq]; exact h)⟩
def F108 (a0 : Option Addr) (n0 : Nat) (c0 : Nat) (g1 : FuncId) (cap1 : Array Value) (K : KV) (w : World) : Prop :=
  loop (X := (Int) × (Int) × Unit) (0, (0, ())) (fun x5 rec6 w7 =>
  br (decide (x5.fst < (↑n0 : Int))) (fun w8 =>
  slAt (a0) (n0) (x5.fst) (3) (fun a9 w10 =>
  ld (a9) (fun v11 w12 =>
  asI (IntKind.i64) (v11) (fun n13 w14 =>
  ld (⟨a9.block, a9.off + 1, none⟩) (fun v15 w16 =>
  asI (IntKind.i64) (v15) (fun n17 w18 =>
  ld (⟨a9.block, a9.off + 2, none⟩) (fun v19 w20 =>
  asI (IntKind.i64) (v19) (fun n21 w22 =>
  gocall Tryd.prog (g1) ((Value.agg #[(Value.int IntKind.i64 (n13)), (Value.int IntKind.i64 (n17)), (Value.int IntKind.i64 (n21))]) :: cap1.1) (fun v23 w24 =>
  asBoo (v23) (fun b25 w26 =>
  br (b25) (fun w27 =>
  K (Value.int IntKind.i64 (x5.fst)) (w27)) (fun w28 =>
  rec6 (IntKind.i64.wrap (x5.fst + 1), (x5.snd.fst, ())) (w28)) (w26)) (w24)) (w22)) (w20)) (w18)) (w16)) (w14)) (w12)) (w10)) (w8)) (fun w29 =>
  K (Value.int IntKind.i64 (-1)) (w29)) (w7)) (w)
theorem F108_eq (a0 : Option Addr) (n0 : Nat) (c0 : Nat) (g1 : FuncId) (cap1 : Array Value) : sBody Tryd.prog [] Tryd.f108 [(Value.slice a0 n0 c0), (Value.func (.func g1) #[] cap1)] = F108 a0 n0 c0 g1 cap1 := by kernel_rfl
theorem F108_go (a0 : Option Addr) (n0 : Nat) (c0 : Nat) (g1 : FuncId) (cap1 : Array Value) {K : KV} {w : World} (h : F108 a0 n0 c0 g1 cap1 K w) : gocall Tryd.prog 108 [(Value.slice a0 n0 c0), (Value.func (.func g1) #[] cap1)] K w :=
  ⟨by kernel_rfl, calls_of_sBody (T := []) mixed Tryd.func108 (by kernel_rfl) (by rw [F108_eq]; exact h)⟩
def F109 (x0 : Int) (x1 : Int) (x2 : Int) (r3 : Addr) (K : KV) (w : World) : Prop :=
  nw (Obj.cells #[(Value.int IntKind.i64 (x0)), (Value.int IntKind.i64 (x1)), (Value.int IntKind.i64 (x2))] 96 (0, 0)) (fun k4 w5 =>
  ld (⟨k4, 0, none⟩) (fun v6 w7 =>
  asI (IntKind.i64) (v6) (fun n8 w9 =>
  ld (r3) (fun v10 w11 =>
  asI (IntKind.i64) (v10) (fun n12 w13 =>
  K (Value.bool (n8 == n12)) (w13)) (w11)) (w9)) (w7)) (w5)) (w)
theorem F109_eq (x0 : Int) (x1 : Int) (x2 : Int) (r3 : Addr) : sBody Tryd.prog [] Tryd.f109 [(Value.agg #[(Value.int IntKind.i64 x0), (Value.int IntKind.i64 x1), (Value.int IntKind.i64 x2)]), (Value.pointer (some r3))] = F109 x0 x1 x2 r3 := by kernel_rfl
theorem F109_go (x0 : Int) (x1 : Int) (x2 : Int) (r3 : Addr) {K : KV} {w : World} (h : F109 x0 x1 x2 r3 K w) : gocall Tryd.prog 109 [(Value.agg #[(Value.int IntKind.i64 x0), (Value.int IntKind.i64 x1), (Value.int IntKind.i64 x2)]), (Value.pointer (some r3))] K w :=
  ⟨by kernel_rfl, calls_of_sBody (T := []) mixed Tryd.func109 (by kernel_rfl) (by rw [F109_eq]; exact h)⟩
def F18 (s0 : ByteArray) (x1 : Int) (a2 : Option Addr) (n2 : Nat) (c2 : Nat) (K : KV) (w : World) : Prop :=
  nw (Obj.cells #[(Value.string (s0)), (Value.int IntKind.i64 (x1)), (Value.slice a2 (n2) (c2))] 24 (0, 0)) (fun k5 w6 =>
  ld (⟨k5, 0, none⟩) (fun v7 w8 =>
  asStr (v7) (fun s9 w10 =>
  gocall Tryd.prog (48) [(Value.string (s9))] (fun v11 w12 =>
  asBoo (v11) (fun b13 w14 =>
  br (b13) (fun w15 =>
  ld (⟨k5, 1, none⟩) (fun v16 w17 =>
  asI (IntKind.i64) (v16) (fun n18 w19 =>
  br (decide (n18 ≥ 0)) (fun w20 =>
  ld (⟨k5, 1, none⟩) (fun v21 w22 =>
  asI (IntKind.i64) (v21) (fun n23 w24 =>
  br (decide (n23 ≤ 999)) (fun w25 =>
  ld (⟨k5, 2, none⟩) (fun v26 w27 =>
  asSl (v26) (fun p28 k29 k30 w31 =>
  gocall Tryd.prog (49) [(Value.slice p28 (k29) (k30))] (fun v32 w33 =>
  asBoo (v32) (fun b34 w35 =>
  K (Value.bool (b34)) (w35)) (w33)) (w31)) (w27)) (w25)) (fun w36 =>
  K (Value.bool (false)) (w36)) (w24)) (w22)) (w20)) (fun w37 =>
  K (Value.bool (false)) (w37)) (w19)) (w17)) (w15)) (fun w38 =>
  K (Value.bool (false)) (w38)) (w14)) (w12)) (w10)) (w8)) (w6)) (w)
theorem F18_eq (s0 : ByteArray) (x1 : Int) (a2 : Option Addr) (n2 : Nat) (c2 : Nat) : sBody Tryd.prog [] Tryd.f18 [(Value.agg #[(Value.string s0), (Value.int IntKind.i64 x1), (Value.slice a2 n2 c2)])] = F18 s0 x1 a2 n2 c2 := by kernel_rfl
theorem F18_go (s0 : ByteArray) (x1 : Int) (a2 : Option Addr) (n2 : Nat) (c2 : Nat) {K : KV} {w : World} (h : F18 s0 x1 a2 n2 c2 K w) : gocall Tryd.prog 18 [(Value.agg #[(Value.string s0), (Value.int IntKind.i64 x1), (Value.slice a2 n2 c2)])] K w :=
  ⟨by kernel_rfl, calls_of_sBody (T := []) mixed Tryd.func18 (by kernel_rfl) (by rw [F18_eq]; exact h)⟩
def F15 (s0 : ByteArray) (K : KV) (w : World) : Prop :=
  strCat (s0) ({ data := #[124] }) (fun s1 w2 =>
  gocall Tryd.prog (44) [(Value.string (s0))] (fun v3 w4 =>
  asStr (v3) (fun s5 w6 =>
  strCat (s1) (s5) (fun s7 w8 =>
  K (Value.string (s7)) (w8)) (w6)) (w4)) (w2)) (w)
theorem F15_eq (s0 : ByteArray) : sBody Tryd.prog [] Tryd.f15 [(Value.string s0)] = F15 s0 := by kernel_rfl
theorem F15_go (s0 : ByteArray) {K : KV} {w : World} (h : F15 s0 K w) : gocall Tryd.prog 15 [(Value.string s0)] K w :=
  ⟨by kernel_rfl, calls_of_sBody (T := []) mixed Tryd.func15 (by kernel_rfl) (by rw [F15_eq]; exact h)⟩
def F48 (s0 : ByteArray) (K : KV) (w : World) : Prop :=
  loop (X := (Int) × (Bool) × Unit) (0, (false, ())) (fun x1 rec2 w3 =>
  br (decide (x1.fst < (↑s0.size : Int))) (fun w4 =>
  strAt (s0) (x1.fst) (fun x5 w6 =>
  br (decide ((↑x5.toNat : Int) < 97)) (fun w7 =>
  K (Value.bool (false)) (w7)) (fun w8 =>
  strAt (s0) (x1.fst) (fun x9 w10 =>
  br (decide ((↑x9.toNat : Int) > 122)) (fun w11 =>
  K (Value.bool (false)) (w11)) (fun w12 =>
  rec2 (IntKind.i64.wrap (x1.fst + 1), (x1.snd.fst, ())) (w12)) (w10)) (w8)) (w6)) (w4)) (fun w13 =>
  br (decide ((↑s0.size : Int) ≥ 1)) (fun w14 =>
  K (Value.bool (decide ((↑s0.size : Int) ≤ 8))) (w14)) (fun w15 =>
  K (Value.bool (false)) (w15)) (w13)) (w3)) (w)
theorem F48_eq (s0 : ByteArray) : sBody Tryd.prog [] Tryd.f48 [(Value.string s0)] = F48 s0 := by kernel_rfl
theorem F48_go (s0 : ByteArray) {K : KV} {w : World} (h : F48 s0 K w) : gocall Tryd.prog 48 [(Value.string s0)] K w :=
  ⟨by kernel_rfl, calls_of_sBody (T := []) mixed Tryd.func48 (by kernel_rfl) (by rw [F48_eq]; exact h)⟩
def F49 (a0 : Option Addr) (n0 : Nat) (c0 : Nat) (K : KV) (w : World) : Prop :=
  br (decide ((↑n0 : Int) ≤ 4)) (fun w3 =>
  gocall Tryd.prog (72) [(Value.slice a0 (n0) (c0)), (Value.func (Fn.func 73) #[] #[])] (fun v4 w5 =>
  asBoo (v4) (fun b6 w7 =>
  K (Value.bool (!b6)) (w7)) (w5)) (w3)) (fun w8 =>
  K (Value.bool (false)) (w8)) (w)
theorem F49_eq (a0 : Option Addr) (n0 : Nat) (c0 : Nat) : sBody Tryd.prog [] Tryd.f49 [(Value.slice a0 n0 c0)] = F49 a0 n0 c0 := by kernel_rfl
theorem F49_go (a0 : Option Addr) (n0 : Nat) (c0 : Nat) {K : KV} {w : World} (h : F49 a0 n0 c0 K w) : gocall Tryd.prog 49 [(Value.slice a0 n0 c0)] K w :=
  ⟨by kernel_rfl, calls_of_sBody (T := []) mixed Tryd.func49 (by kernel_rfl) (by rw [F49_eq]; exact h)⟩
def F44 (s0 : ByteArray) (K : KV) (w : World) : Prop :=
  loop (X := (Int) × (Int) × (Int) × Unit) (0, (1, (0, ()))) (fun x1 rec2 w3 =>
  br (decide (x1.fst < (↑s0.size : Int))) (fun w4 =>
  strAt (s0) (x1.fst) (fun x5 w6 =>
  divW (673) (fun w7 =>
  divW (673) (fun w8 =>
  rec2 (IntKind.i64.wrap (x1.fst + 1), ((IntKind.i64.wrap (x1.snd.fst * 3)).tmod 673, ((IntKind.i64.wrap (x1.snd.snd.fst + IntKind.i64.wrap (IntKind.i64.wrap (↑x5.toNat : Int) * x1.snd.fst))).tmod 673, ()))) (w8)) (w7)) (w6)) (w4)) (fun w9 =>
  divW (26) (fun w10 =>
  divW (26) (fun w11 =>
  nw (Obj.cells #[(Value.int IntKind.u8 (IntKind.u8.wrap (IntKind.i64.wrap (97 + IntKind.i64.wrap (Int.tdiv x1.snd.snd.fst 26))))), (Value.int IntKind.u8 (IntKind.u8.wrap (IntKind.i64.wrap (97 + Int.tmod x1.snd.snd.fst 26))))] 5 (0, 0)) (fun k12 w13 =>
  cnv (Md.full) Tryd.prog (36) (9) (Value.slice (some ⟨k12, 0, none⟩) (2) (2)) (fun v14 w15 =>
  asStr (v14) (fun s16 w17 =>
  K (Value.string (s16)) (w17)) (w15)) (w13)) (w11)) (w10)) (w9)) (w3)) (w)
theorem F44_eq (s0 : ByteArray) : sBody Tryd.prog [] Tryd.f44 [(Value.string s0)] = F44 s0 := by kernel_rfl
theorem F44_go (s0 : ByteArray) {K : KV} {w : World} (h : F44 s0 K w) : gocall Tryd.prog 44 [(Value.string s0)] K w :=
  ⟨by kernel_rfl, calls_of_sBody (T := []) mixed Tryd.func44 (by kernel_rfl) (by rw [F44_eq]; exact h)⟩
def F72 (a0 : Option Addr) (n0 : Nat) (c0 : Nat) (g1 : FuncId) (cap1 : Array Value) (K : KV) (w : World) : Prop :=
  gocall Tryd.prog (94) [(Value.slice a0 (n0) (c0)), (Value.func (Fn.func g1) #[] cap1)] (fun v5 w6 =>
  asI (IntKind.i64) (v5) (fun n7 w8 =>
  K (Value.bool (decide (n7 ≥ 0))) (w8)) (w6)) (w)
theorem F72_eq (a0 : Option Addr) (n0 : Nat) (c0 : Nat) (g1 : FuncId) (cap1 : Array Value) : sBody Tryd.prog [] Tryd.f72 [(Value.slice a0 n0 c0), (Value.func (.func g1) #[] cap1)] = F72 a0 n0 c0 g1 cap1 := by kernel_rfl
theorem F72_go (a0 : Option Addr) (n0 : Nat) (c0 : Nat) (g1 : FuncId) (cap1 : Array Value) {K : KV} {w : World} (h : F72 a0 n0 c0 g1 cap1 K w) : gocall Tryd.prog 72 [(Value.slice a0 n0 c0), (Value.func (.func g1) #[] cap1)] K w :=
  ⟨by kernel_rfl, calls_of_sBody (T := []) mixed Tryd.func72 (by kernel_rfl) (by rw [F72_eq]; exact h)⟩
def F73 (x0 : Int) (K : KV) (w : World) : Prop :=
  br (decide (x0 < -1000000000)) (fun w1 =>
  K (Value.bool (true)) (w1)) (fun w2 =>
  K (Value.bool (decide (x0 > 1000000000))) (w2)) (w)
theorem F73_eq (x0 : Int) : sBody Tryd.prog [] Tryd.f73 [(Value.int IntKind.i64 x0)] = F73 x0 := by kernel_rfl
theorem F73_go (x0 : Int) {K : KV} {w : World} (h : F73 x0 K w) : gocall Tryd.prog 73 [(Value.int IntKind.i64 x0)] K w :=
  ⟨by kernel_rfl, calls_of_sBody (T := []) mixed Tryd.func73 (by kernel_rfl) (by rw [F73_eq]; exact h)⟩
def F94 (a0 : Option Addr) (n0 : Nat) (c0 : Nat) (g1 : FuncId) (cap1 : Array Value) (K : KV) (w : World) : Prop :=
  loop (X := (Int) × (Int) × Unit) (0, (0, ())) (fun x5 rec6 w7 =>
  br (decide (x5.fst < (↑n0 : Int))) (fun w8 =>
  slAt (a0) (n0) (x5.fst) (1) (fun a9 w10 =>
  ld (a9) (fun v11 w12 =>
  asI (IntKind.i64) (v11) (fun n13 w14 =>
  gocall Tryd.prog (g1) ((Value.int IntKind.i64 (n13)) :: cap1.1) (fun v15 w16 =>
  asBoo (v15) (fun b17 w18 =>
  br (b17) (fun w19 =>
  K (Value.int IntKind.i64 (x5.fst)) (w19)) (fun w20 =>
  rec6 (IntKind.i64.wrap (x5.fst + 1), (x5.snd.fst, ())) (w20)) (w18)) (w16)) (w14)) (w12)) (w10)) (w8)) (fun w21 =>
  K (Value.int IntKind.i64 (-1)) (w21)) (w7)) (w)
theorem F94_eq (a0 : Option Addr) (n0 : Nat) (c0 : Nat) (g1 : FuncId) (cap1 : Array Value) : sBody Tryd.prog [] Tryd.f94 [(Value.slice a0 n0 c0), (Value.func (.func g1) #[] cap1)] = F94 a0 n0 c0 g1 cap1 := by kernel_rfl
theorem F94_go (a0 : Option Addr) (n0 : Nat) (c0 : Nat) (g1 : FuncId) (cap1 : Array Value) {K : KV} {w : World} (h : F94 a0 n0 c0 g1 cap1 K w) : gocall Tryd.prog 94 [(Value.slice a0 n0 c0), (Value.func (.func g1) #[] cap1)] K w :=
  ⟨by kernel_rfl, calls_of_sBody (T := []) mixed Tryd.func94 (by kernel_rfl) (by rw [F94_eq]; exact h)⟩
end Go.Proofs.YtkhmhgleglhcjaaDoor
