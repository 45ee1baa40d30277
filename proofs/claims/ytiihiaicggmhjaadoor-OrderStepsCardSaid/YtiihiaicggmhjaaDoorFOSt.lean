/- The shallow readings of some functions of the program (printed by a program of ours out of the model's own evaluation) and, for each, the proof that it is one. Conditions: none. -/
import Derived.Test.YtiihiaicggmhjaaDoorC15
set_option maxRecDepth 100000
set_option linter.unusedVariables false
namespace Go.Proofs.YtiihiaicggmhjaaDoor
open Go Go.Sh
def F9 (x0 : Int) (x1 : Int) (x2 : Int) (x3 : Int) (x4 : Int) (a5 : Option Addr) (n5 : Nat) (c5 : Nat) (K : KV) (w : World) : Prop :=
  nw (Obj.cells #[(Value.int IntKind.i64 (x0)), (Value.int IntKind.i64 (x1)), (Value.int IntKind.i64 (x2)), (Value.int IntKind.i64 (x3)), (Value.int IntKind.i64 (x4)), (Value.slice a5 (n5) (c5))] 43 (0, 0)) (fun k8 w9 =>
  ld (⟨k8, 0, none⟩) (fun v10 w11 =>
  asI (IntKind.i64) (v10) (fun n12 w13 =>
  ld (⟨k8, 1, none⟩) (fun v14 w15 =>
  asI (IntKind.i64) (v14) (fun n16 w17 =>
  ld (⟨k8, 2, none⟩) (fun v18 w19 =>
  asI (IntKind.i64) (v18) (fun n20 w21 =>
  ld (⟨k8, 3, none⟩) (fun v22 w23 =>
  asI (IntKind.i64) (v22) (fun n24 w25 =>
  ld (⟨k8, 4, none⟩) (fun v26 w27 =>
  asI (IntKind.i64) (v26) (fun n28 w29 =>
  ld (⟨k8, 5, none⟩) (fun v30 w31 =>
  asSl (v30) (fun p32 k33 k34 w35 =>
  gocall Tryd.prog (22) [(Value.agg #[(Value.int IntKind.i64 (n12)), (Value.int IntKind.i64 (n16)), (Value.int IntKind.i64 (n20)), (Value.int IntKind.i64 (n24)), (Value.int IntKind.i64 (n28)), (Value.slice p32 (k33) (k34))])] (fun v36 w37 =>
  asBoo (v36) (fun b38 w39 =>
  br (!b38) (fun w40 =>
  gocall Tryd.prog (23) [] (fun v41 w42 =>
  asBoo (v41) (fun b43 w44 =>
  K (Value.bool (b43)) (w44)) (w42)) (w40)) (fun w45 =>
  ld (⟨k8, 0, none⟩) (fun v46 w47 =>
  asI (IntKind.i64) (v46) (fun n48 w49 =>
  ld (⟨k8, 1, none⟩) (fun v50 w51 =>
  asI (IntKind.i64) (v50) (fun n52 w53 =>
  ld (⟨k8, 2, none⟩) (fun v54 w55 =>
  asI (IntKind.i64) (v54) (fun n56 w57 =>
  ld (⟨k8, 3, none⟩) (fun v58 w59 =>
  asI (IntKind.i64) (v58) (fun n60 w61 =>
  ld (⟨k8, 4, none⟩) (fun v62 w63 =>
  asI (IntKind.i64) (v62) (fun n64 w65 =>
  ld (⟨k8, 5, none⟩) (fun v66 w67 =>
  asSl (v66) (fun p68 k69 k70 w71 =>
  gocall Tryd.prog (26) [(Value.agg #[(Value.int IntKind.i64 (n48)), (Value.int IntKind.i64 (n52)), (Value.int IntKind.i64 (n56)), (Value.int IntKind.i64 (n60)), (Value.int IntKind.i64 (n64)), (Value.slice p68 (k69) (k70))])] (fun v72 w73 =>
  asBoo (v72) (fun b74 w75 =>
  br (!b74) (fun w76 =>
  gocall Tryd.prog (23) [] (fun v77 w78 =>
  asBoo (v77) (fun b79 w80 =>
  K (Value.bool (b79)) (w80)) (w78)) (w76)) (fun w81 =>
  loop (X := (Int) × (Int) × (Bool) × Unit) (-1, (0, (false, ()))) (fun x82 rec83 w84 =>
  br (decide (x82.fst ≤ 8)) (fun w85 =>
  ld (⟨k8, 0, none⟩) (fun v86 w87 =>
  asI (IntKind.i64) (v86) (fun n88 w89 =>
  ld (⟨k8, 1, none⟩) (fun v90 w91 =>
  asI (IntKind.i64) (v90) (fun n92 w93 =>
  ld (⟨k8, 2, none⟩) (fun v94 w95 =>
  asI (IntKind.i64) (v94) (fun n96 w97 =>
  ld (⟨k8, 3, none⟩) (fun v98 w99 =>
  asI (IntKind.i64) (v98) (fun n100 w101 =>
  ld (⟨k8, 4, none⟩) (fun v102 w103 =>
  asI (IntKind.i64) (v102) (fun n104 w105 =>
  ld (⟨k8, 5, none⟩) (fun v106 w107 =>
  asSl (v106) (fun p108 k109 k110 w111 =>
  gocall Tryd.prog (29) [(Value.agg #[(Value.int IntKind.i64 (n88)), (Value.int IntKind.i64 (n92)), (Value.int IntKind.i64 (n96)), (Value.int IntKind.i64 (n100)), (Value.int IntKind.i64 (n104)), (Value.slice p108 (k109) (k110))]), (Value.int IntKind.i64 (x82.fst))] (fun v112 w113 =>
  asI (IntKind.i64) (v112) (fun n114 w115 =>
  br (decide (n114 ≥ 0)) (fun w116 =>
  ld (⟨k8, 5, none⟩) (fun v117 w118 =>
  asSl (v117) (fun p119 k120 k121 w122 =>
  br (decide (n114 ≥ (↑k120 : Int))) (fun w123 =>
  K (Value.bool (false)) (w123)) (fun w124 =>
  ld (⟨k8, 5, none⟩) (fun v125 w126 =>
  asSl (v125) (fun p127 k128 k129 w130 =>
  slAt (p127) (k128) (n114) (2) (fun a131 w132 =>
  ld (a131) (fun v133 w134 =>
  asI (IntKind.i64) (v133) (fun n135 w136 =>
  br (n135 != x82.fst) (fun w137 =>
  K (Value.bool (false)) (w137)) (fun w138 =>
  rec83 (IntKind.i64.wrap (x82.fst + 1), (IntKind.i64.wrap (x82.snd.fst + 1), (x82.snd.snd.fst, ()))) (w138)) (w136)) (w134)) (w132)) (w130)) (w126)) (w124)) (w122)) (w118)) (w116)) (fun w139 =>
  rec83 (IntKind.i64.wrap (x82.fst + 1), (x82.snd.fst, (x82.snd.snd.fst, ()))) (w139)) (w115)) (w113)) (w111)) (w107)) (w105)) (w103)) (w101)) (w99)) (w97)) (w95)) (w93)) (w91)) (w89)) (w87)) (w85)) (fun w140 =>
  ld (⟨k8, 5, none⟩) (fun v141 w142 =>
  asSl (v141) (fun p143 k144 k145 w146 =>
  br (x82.snd.fst == (↑k144 : Int)) (fun w147 =>
  gocall Tryd.prog (23) [] (fun v148 w149 =>
  asBoo (v148) (fun b150 w151 =>
  K (Value.bool (b150)) (w151)) (w149)) (w147)) (fun w152 =>
  K (Value.bool (false)) (w152)) (w146)) (w142)) (w140)) (w84)) (w81)) (w75)) (w73)) (w71)) (w67)) (w65)) (w63)) (w61)) (w59)) (w57)) (w55)) (w53)) (w51)) (w49)) (w47)) (w45)) (w39)) (w37)) (w35)) (w31)) (w29)) (w27)) (w25)) (w23)) (w21)) (w19)) (w17)) (w15)) (w13)) (w11)) (w9)) (w)
theorem F9_eq (x0 : Int) (x1 : Int) (x2 : Int) (x3 : Int) (x4 : Int) (a5 : Option Addr) (n5 : Nat) (c5 : Nat) : sBody Tryd.prog [] Tryd.f9 [(Value.agg #[(Value.int IntKind.i64 x0), (Value.int IntKind.i64 x1), (Value.int IntKind.i64 x2), (Value.int IntKind.i64 x3), (Value.int IntKind.i64 x4), (Value.slice a5 n5 c5)])] = F9 x0 x1 x2 x3 x4 a5 n5 c5 := by kernel_rfl
theorem F9_go (x0 : Int) (x1 : Int) (x2 : Int) (x3 : Int) (x4 : Int) (a5 : Option Addr) (n5 : Nat) (c5 : Nat) {K : KV} {w : World} (h : F9 x0 x1 x2 x3 x4 a5 n5 c5 K w) : gocall Tryd.prog 9 [(Value.agg #[(Value.int IntKind.i64 x0), (Value.int IntKind.i64 x1), (Value.int IntKind.i64 x2), (Value.int IntKind.i64 x3), (Value.int IntKind.i64 x4), (Value.slice a5 n5 c5)])] K w :=
  ⟨by kernel_rfl, calls_of_sBody (T := []) mixed Tryd.func9 (by kernel_rfl) (by rw [F9_eq]; exact h)⟩
end Go.Proofs.YtiihiaicggmhjaaDoor
