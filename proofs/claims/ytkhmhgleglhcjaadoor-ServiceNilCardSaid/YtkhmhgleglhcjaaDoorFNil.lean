/- The shallow readings of some functions of the program (printed by a program of ours out of the model's own evaluation) and, for each, the proof that it is one. Conditions: none. -/
import Derived.Test.YtkhmhgleglhcjaaDoorFJ
set_option maxRecDepth 100000
set_option linter.unusedVariables false
namespace Go.Proofs.YtkhmhgleglhcjaaDoor
open Go Go.Sh
def F8 (x0 : Int) (x1 : Int) (x2 : Int) (x3 : Int) (x4 : Int) (x5 : Int) (x6 : Int) (x7 : Int) (x8 : Int) (x9 : Int) (K : KV) (w : World) : Prop :=
  nw (Obj.cells #[(Value.int IntKind.i64 (x0)), (Value.int IntKind.i64 (x1)), (Value.int IntKind.i64 (x2)), (Value.int IntKind.i64 (x3)), (Value.int IntKind.i64 (x4)), (Value.int IntKind.i64 (x5)), (Value.int IntKind.i64 (x6)), (Value.int IntKind.i64 (x7)), (Value.int IntKind.i64 (x8)), (Value.int IntKind.i64 (x9))] 45 (0, 0)) (fun k10 w11 =>
  ld (⟨k10, 1, none⟩) (fun v12 w13 =>
  asI (IntKind.i64) (v12) (fun n14 w15 =>
  ld (⟨k10, 2, none⟩) (fun v16 w17 =>
  asI (IntKind.i64) (v16) (fun n18 w19 =>
  gocall Tryd.prog (27) [(Value.pointer none), (Value.int IntKind.i64 (n14)), (Value.int IntKind.i64 (n18))] (fun v20 w21 =>
  asT (0) (v20) (fun f22 w23 =>
  gocall Tryd.prog (28) [(Value.pointer none)] (fun v24 w25 =>
  asT (0) (v24) (fun f26 w27 =>
  ld (⟨k10, 3, none⟩) (fun v28 w29 =>
  asI (IntKind.i64) (v28) (fun n30 w31 =>
  ld (⟨k10, 4, none⟩) (fun v32 w33 =>
  asI (IntKind.i64) (v32) (fun n34 w35 =>
  ld (⟨k10, 5, none⟩) (fun v36 w37 =>
  asI (IntKind.i64) (v36) (fun n38 w39 =>
  ld (⟨k10, 6, none⟩) (fun v40 w41 =>
  asI (IntKind.i64) (v40) (fun n42 w43 =>
  ld (⟨k10, 7, none⟩) (fun v44 w45 =>
  asI (IntKind.i64) (v44) (fun n46 w47 =>
  ld (⟨k10, 8, none⟩) (fun v48 w49 =>
  asI (IntKind.i64) (v48) (fun n50 w51 =>
  ld (⟨k10, 9, none⟩) (fun v52 w53 =>
  asI (IntKind.i64) (v52) (fun n54 w55 =>
  gocall Tryd.prog (29) [(Value.pointer none), (Value.agg #[(Value.int IntKind.i64 (n30)), (Value.int IntKind.i64 (n34)), (Value.int IntKind.i64 (n38)), (Value.int IntKind.i64 (n42)), (Value.int IntKind.i64 (n46)), (Value.int IntKind.i64 (n50)), (Value.int IntKind.i64 (n54))])] (fun v56 w57 =>
  asSl (v56) (fun p58 k59 k60 w61 =>
  br ((↑k59 : Int) == 0) (fun w62 =>
  gocall Tryd.prog (30) [(Value.pointer none)] (fun v63 w64 =>
  asPtr (v63) (fun p65 w66 =>
  br (p65.isNone) (fun w67 =>
  gocall Tryd.prog (31) [(Value.pointer none)] (fun v68 w69 =>
  asBoo (v68) (fun b70 w71 =>
  br (!b70) (fun w72 =>
  gocall Tryd.prog (32) [] (fun v73 w74 =>
  asBoo (v73) (fun b75 w76 =>
  K (Value.bool (b75)) (w76)) (w74)) (w72)) (fun w77 =>
  K (Value.bool (false)) (w77)) (w71)) (w69)) (w67)) (fun w78 =>
  K (Value.bool (false)) (w78)) (w66)) (w64)) (w62)) (fun w79 =>
  K (Value.bool (false)) (w79)) (w61)) (w57)) (w55)) (w53)) (w51)) (w49)) (w47)) (w45)) (w43)) (w41)) (w39)) (w37)) (w35)) (w33)) (w31)) (w29)) (w27)) (w25)) (w23)) (w21)) (w19)) (w17)) (w15)) (w13)) (w11)) (w)
theorem F8_eq (x0 : Int) (x1 : Int) (x2 : Int) (x3 : Int) (x4 : Int) (x5 : Int) (x6 : Int) (x7 : Int) (x8 : Int) (x9 : Int) : sBody Tryd.prog [] Tryd.f8 [(Value.agg #[(Value.int IntKind.i64 x0), (Value.int IntKind.i64 x1), (Value.int IntKind.i64 x2), (Value.int IntKind.i64 x3), (Value.int IntKind.i64 x4), (Value.int IntKind.i64 x5), (Value.int IntKind.i64 x6), (Value.int IntKind.i64 x7), (Value.int IntKind.i64 x8), (Value.int IntKind.i64 x9)])] = F8 x0 x1 x2 x3 x4 x5 x6 x7 x8 x9 := by kernel_rfl
theorem F8_go (x0 : Int) (x1 : Int) (x2 : Int) (x3 : Int) (x4 : Int) (x5 : Int) (x6 : Int) (x7 : Int) (x8 : Int) (x9 : Int) {K : KV} {w : World} (h : F8 x0 x1 x2 x3 x4 x5 x6 x7 x8 x9 K w) : gocall Tryd.prog 8 [(Value.agg #[(Value.int IntKind.i64 x0), (Value.int IntKind.i64 x1), (Value.int IntKind.i64 x2), (Value.int IntKind.i64 x3), (Value.int IntKind.i64 x4), (Value.int IntKind.i64 x5), (Value.int IntKind.i64 x6), (Value.int IntKind.i64 x7), (Value.int IntKind.i64 x8), (Value.int IntKind.i64 x9)])] K w :=
  ⟨by kernel_rfl, calls_of_sBody (T := []) mixed Tryd.func8 (by kernel_rfl) (by rw [F8_eq]; exact h)⟩
def F10 (x0 : Int) (x1 : Int) (x2 : Int) (x3 : Int) (x4 : Int) (x5 : Int) (x6 : Int) (x7 : Int) (x8 : Int) (x9 : Int) (K : KV) (w : World) : Prop :=
  nw (Obj.cells #[(Value.int IntKind.i64 (x0)), (Value.int IntKind.i64 (x1)), (Value.int IntKind.i64 (x2)), (Value.int IntKind.i64 (x3)), (Value.int IntKind.i64 (x4)), (Value.int IntKind.i64 (x5)), (Value.int IntKind.i64 (x6)), (Value.int IntKind.i64 (x7)), (Value.int IntKind.i64 (x8)), (Value.int IntKind.i64 (x9))] 59 (0, 0)) (fun k10 w11 =>
  ld (⟨k10, 1, none⟩) (fun v12 w13 =>
  asI (IntKind.i64) (v12) (fun n14 w15 =>
  ld (⟨k10, 2, none⟩) (fun v16 w17 =>
  asI (IntKind.i64) (v16) (fun n18 w19 =>
  gocall Tryd.prog (36) [(Value.pointer none), (Value.int IntKind.i64 (n14)), (Value.int IntKind.i64 (n18))] (fun v20 w21 =>
  asT (0) (v20) (fun f22 w23 =>
  gocall Tryd.prog (37) [(Value.pointer none)] (fun v24 w25 =>
  asT (0) (v24) (fun f26 w27 =>
  ld (⟨k10, 3, none⟩) (fun v28 w29 =>
  asI (IntKind.i64) (v28) (fun n30 w31 =>
  ld (⟨k10, 4, none⟩) (fun v32 w33 =>
  asI (IntKind.i64) (v32) (fun n34 w35 =>
  ld (⟨k10, 5, none⟩) (fun v36 w37 =>
  asI (IntKind.i64) (v36) (fun n38 w39 =>
  ld (⟨k10, 6, none⟩) (fun v40 w41 =>
  asI (IntKind.i64) (v40) (fun n42 w43 =>
  ld (⟨k10, 7, none⟩) (fun v44 w45 =>
  asI (IntKind.i64) (v44) (fun n46 w47 =>
  ld (⟨k10, 8, none⟩) (fun v48 w49 =>
  asI (IntKind.i64) (v48) (fun n50 w51 =>
  ld (⟨k10, 9, none⟩) (fun v52 w53 =>
  asI (IntKind.i64) (v52) (fun n54 w55 =>
  gocall Tryd.prog (38) [(Value.pointer none), (Value.agg #[(Value.int IntKind.i64 (n30)), (Value.int IntKind.i64 (n34)), (Value.int IntKind.i64 (n38)), (Value.int IntKind.i64 (n42)), (Value.int IntKind.i64 (n46)), (Value.int IntKind.i64 (n50)), (Value.int IntKind.i64 (n54))])] (fun v56 w57 =>
  asSl (v56) (fun p58 k59 k60 w61 =>
  br ((↑k59 : Int) == 0) (fun w62 =>
  ld (⟨k10, 6, none⟩) (fun v63 w64 =>
  asI (IntKind.i64) (v63) (fun n65 w66 =>
  gocall Tryd.prog (39) [(Value.pointer none), (Value.int IntKind.i64 (n65))] (fun v67 w68 =>
  asI (IntKind.i64) (v67) (fun n69 w70 =>
  br (n69 == 0) (fun w71 =>
  gocall Tryd.prog (40) [(Value.pointer none)] (fun v72 w73 =>
  asI (IntKind.i64) (v72) (fun n74 w75 =>
  br (n74 == 0) (fun w76 =>
  gocall Tryd.prog (41) [(Value.pointer none)] (fun v77 w78 =>
  asBoo (v77) (fun b79 w80 =>
  br (!b79) (fun w81 =>
  gocall Tryd.prog (42) [] (fun v82 w83 =>
  asBoo (v82) (fun b84 w85 =>
  K (Value.bool (b84)) (w85)) (w83)) (w81)) (fun w86 =>
  K (Value.bool (false)) (w86)) (w80)) (w78)) (w76)) (fun w87 =>
  K (Value.bool (false)) (w87)) (w75)) (w73)) (w71)) (fun w88 =>
  K (Value.bool (false)) (w88)) (w70)) (w68)) (w66)) (w64)) (w62)) (fun w89 =>
  K (Value.bool (false)) (w89)) (w61)) (w57)) (w55)) (w53)) (w51)) (w49)) (w47)) (w45)) (w43)) (w41)) (w39)) (w37)) (w35)) (w33)) (w31)) (w29)) (w27)) (w25)) (w23)) (w21)) (w19)) (w17)) (w15)) (w13)) (w11)) (w)
theorem F10_eq (x0 : Int) (x1 : Int) (x2 : Int) (x3 : Int) (x4 : Int) (x5 : Int) (x6 : Int) (x7 : Int) (x8 : Int) (x9 : Int) : sBody Tryd.prog [] Tryd.f10 [(Value.agg #[(Value.int IntKind.i64 x0), (Value.int IntKind.i64 x1), (Value.int IntKind.i64 x2), (Value.int IntKind.i64 x3), (Value.int IntKind.i64 x4), (Value.int IntKind.i64 x5), (Value.int IntKind.i64 x6), (Value.int IntKind.i64 x7), (Value.int IntKind.i64 x8), (Value.int IntKind.i64 x9)])] = F10 x0 x1 x2 x3 x4 x5 x6 x7 x8 x9 := by kernel_rfl
theorem F10_go (x0 : Int) (x1 : Int) (x2 : Int) (x3 : Int) (x4 : Int) (x5 : Int) (x6 : Int) (x7 : Int) (x8 : Int) (x9 : Int) {K : KV} {w : World} (h : F10 x0 x1 x2 x3 x4 x5 x6 x7 x8 x9 K w) : gocall Tryd.prog 10 [(Value.agg #[(Value.int IntKind.i64 x0), (Value.int IntKind.i64 x1), (Value.int IntKind.i64 x2), (Value.int IntKind.i64 x3), (Value.int IntKind.i64 x4), (Value.int IntKind.i64 x5), (Value.int IntKind.i64 x6), (Value.int IntKind.i64 x7), (Value.int IntKind.i64 x8), (Value.int IntKind.i64 x9)])] K w :=
  ⟨by kernel_rfl, calls_of_sBody (T := []) mixed Tryd.func10 (by kernel_rfl) (by rw [F10_eq]; exact h)⟩
end Go.Proofs.YtkhmhgleglhcjaaDoor
