/- The shallow readings of some functions of the program (printed by a program of ours out of the model's own evaluation) and, for each, the proof that it is one. Conditions: none. -/
import Derived.Test.YteppbgalecjlfaaDoorCJ2
set_option maxRecDepth 100000
set_option linter.unusedVariables false
namespace Go.Proofs.YteppbgalecjlfaaDoor
open Go Go.Sh
def F14  (K : KV) (w : World) : Prop :=
  gocall Tryd.prog (9) [(Value.int IntKind.i64 (9))] (fun v0 w1 =>
  asPtr (v0) (fun p2 w3 =>
  nw (Obj.cells #[(Value.string ({ data := #[] })), (Value.int IntKind.i64 (0)), (Value.slice none (0) (0))] 29 (0, 0)) (fun k4 w5 =>
  st (⟨k4, 0, none⟩) (Value.string ({ data := #[97] })) (fun w6 =>
  st (⟨k4, 1, none⟩) (Value.int IntKind.i64 (1)) (fun w7 =>
  st (⟨k4, 2, none⟩) (Value.slice none (0) (0)) (fun w8 =>
  keeps (fun S9 w10 =>
  ldS (S9) (⟨k4, 0, none⟩) (fun v11 w12 =>
  asStr (v11) (fun s13 w14 =>
  ldS (S9) (⟨k4, 1, none⟩) (fun v15 w16 =>
  asI (IntKind.i64) (v15) (fun n17 w18 =>
  ldS (S9) (⟨k4, 2, none⟩) (fun v19 w20 =>
  asSl (v19) (fun p21 k22 k23 w24 =>
  ldS (S9) (⟨k4, 0, none⟩) (fun v25 w26 =>
  asStr (v25) (fun s27 w28 =>
  ldS (S9) (⟨k4, 1, none⟩) (fun v29 w30 =>
  asI (IntKind.i64) (v29) (fun n31 w32 =>
  ldS (S9) (⟨k4, 2, none⟩) (fun v33 w34 =>
  asSl (v33) (fun p35 k36 k37 w38 =>
  gocall Tryd.prog (10) [(Value.pointer p2), (Value.agg #[(Value.string (s13)), (Value.int IntKind.i64 (n17)), (Value.slice p21 (k22) (k23))])] (fun v39 w40 =>
  asI (IntKind.i64) (v39) (fun n41 w42 =>
  kp (S9) (fun w43 =>
  gocall Tryd.prog (10) [(Value.pointer p2), (Value.agg #[(Value.string (s27)), (Value.int IntKind.i64 (n31)), (Value.slice p35 (k36) (k37))])] (fun v44 w45 =>
  asI (IntKind.i64) (v44) (fun n46 w47 =>
  kp (S9) (fun w48 =>
  gocall Tryd.prog (15) [(Value.pointer p2)] (fun v49 w50 =>
  asI (IntKind.i64) (v49) (fun n51 w52 =>
  kp (S9) (fun w53 =>
  ld (⟨k4, 0, none⟩) (fun v54 w55 =>
  asStr (v54) (fun s56 w57 =>
  ld (⟨k4, 1, none⟩) (fun v58 w59 =>
  asI (IntKind.i64) (v58) (fun n60 w61 =>
  ld (⟨k4, 2, none⟩) (fun v62 w63 =>
  asSl (v62) (fun p64 k65 k66 w67 =>
  gocall Tryd.prog (10) [(Value.pointer p2), (Value.agg #[(Value.string (s56)), (Value.int IntKind.i64 (n60)), (Value.slice p64 (k65) (k66))])] (fun v68 w69 =>
  asI (IntKind.i64) (v68) (fun n70 w71 =>
  gocall Tryd.prog (12) [(Value.pointer p2), (Value.int IntKind.i64 (0)), (Value.int IntKind.i64 (3))] (fun v72 w73 =>
  asT (0) (v72) (fun f74 w75 =>
  gocall Tryd.prog (13) [(Value.pointer p2)] (fun v76 w77 =>
  asI (IntKind.i64) (v76) (fun n78 w79 =>
  br (n41 == 0) (fun w80 =>
  br (n46 == 0) (fun w81 =>
  br (n51 == 0) (fun w82 =>
  br (n70 == 0) (fun w83 =>
  br (n78 == 1) (fun w84 =>
  gocall Tryd.prog (11) [(Value.pointer p2)] (fun v85 w86 =>
  asSl (v85) (fun p87 k88 k89 w90 =>
  br ((↑k88 : Int) == 2) (fun w91 =>
  gocall Tryd.prog (16) [(Value.pointer p2)] (fun v92 w93 =>
  asI (IntKind.i64) (v92) (fun n94 w95 =>
  K (Value.bool (n94 == 2)) (w95)) (w93)) (w91)) (fun w96 =>
  K (Value.bool (false)) (w96)) (w90)) (w86)) (w84)) (fun w97 =>
  K (Value.bool (false)) (w97)) (w83)) (fun w98 =>
  K (Value.bool (false)) (w98)) (w82)) (fun w99 =>
  K (Value.bool (false)) (w99)) (w81)) (fun w100 =>
  K (Value.bool (false)) (w100)) (w80)) (fun w101 =>
  K (Value.bool (false)) (w101)) (w79)) (w77)) (w75)) (w73)) (w71)) (w69)) (w67)) (w63)) (w61)) (w59)) (w57)) (w55)) (w53)) (w52)) (w50)) (w48)) (w47)) (w45)) (w43)) (w42)) (w40)) (w38)) (w34)) (w32)) (w30)) (w28)) (w26)) (w24)) (w20)) (w18)) (w16)) (w14)) (w12)) (w10)) (w8.drew)) (w7)) (w6)) (w5)) (w3)) (w1)) (w)
theorem F14_eq  : sBody Tryd.prog [(3, [0, 1, 3, 4, 6, 2, 5, 7, 8, 9, 10])] Tryd.f14 [] = F14  := by kernel_rfl
theorem F14_go  {K : KV} {w : World} (h : F14  K w) : gocall Tryd.prog 14 [] K w :=
  ⟨by kernel_rfl, calls_of_sBody (T := [(3, [0, 1, 3, 4, 6, 2, 5, 7, 8, 9, 10])]) mixed Tryd.func14 (by kernel_rfl) (by rw [F14_eq]; exact h)⟩
def F3 (x0 : Int) (x1 : Int) (K : KV) (w : World) : Prop :=
  divW (40) (fun w2 =>
  divW (10) (fun w3 =>
  gocall Tryd.prog (9) [(Value.int IntKind.i64 (IntKind.i64.wrap (1 + IntKind.i64.wrap ((IntKind.u64.wrap x0).tmod 40))))] (fun v4 w5 =>
  asPtr (v4) (fun p6 w7 =>
  loop (X := (Int) × (Bool) × Unit) (0, (false, ())) (fun x8 rec9 w10 =>
  br (decide (x8.fst < IntKind.i64.wrap (IntKind.i64.wrap (1 + IntKind.i64.wrap ((IntKind.u64.wrap x0).tmod 40)) + IntKind.i64.wrap ((IntKind.u64.wrap x1).tmod 10)))) (fun w11 =>
  divW (900) (fun w12 =>
  gocall Tryd.prog (10) [(Value.pointer p6), (Value.agg #[(Value.string ({ data := #[107] })), (Value.int IntKind.i64 (Int.tmod x8.fst 900)), (Value.slice none (0) (0))])] (fun v13 w14 =>
  asI (IntKind.i64) (v13) (fun n15 w16 =>
  br (!(n15 == 0) == decide (x8.fst < IntKind.i64.wrap (1 + IntKind.i64.wrap ((IntKind.u64.wrap x0).tmod 40)))) (fun w17 =>
  K (Value.bool (false)) (w17)) (fun w18 =>
  br (n15 != 0) (fun w19 =>
  br (n15 != 5) (fun w20 =>
  K (Value.bool (false)) (w20)) (fun w21 =>
  rec9 (IntKind.i64.wrap (x8.fst + 1), (x8.snd.fst, ())) (w21)) (w19)) (fun w22 =>
  rec9 (IntKind.i64.wrap (x8.fst + 1), (x8.snd.fst, ())) (w22)) (w18)) (w16)) (w14)) (w12)) (w11)) (fun w23 =>
  gocall Tryd.prog (11) [(Value.pointer p6)] (fun v24 w25 =>
  asSl (v24) (fun p26 k27 k28 w29 =>
  br ((↑k27 : Int) != IntKind.i64.wrap (1 + IntKind.i64.wrap ((IntKind.u64.wrap x0).tmod 40))) (fun w30 =>
  K (Value.bool (false)) (w30)) (fun w31 =>
  gocall Tryd.prog (12) [(Value.pointer p6), (Value.int IntKind.i64 (0)), (Value.int IntKind.i64 (0))] (fun v32 w33 =>
  asT (0) (v32) (fun f34 w35 =>
  gocall Tryd.prog (13) [(Value.pointer p6)] (fun v36 w37 =>
  asI (IntKind.i64) (v36) (fun n38 w39 =>
  br (n38 == 0) (fun w40 =>
  gocall Tryd.prog (11) [(Value.pointer p6)] (fun v41 w42 =>
  asSl (v41) (fun p43 k44 k45 w46 =>
  br ((↑k44 : Int) == 0) (fun w47 =>
  gocall Tryd.prog (10) [(Value.pointer p6), (Value.agg #[(Value.string ({ data := #[107] })), (Value.int IntKind.i64 (0)), (Value.slice none (0) (0))])] (fun v48 w49 =>
  asI (IntKind.i64) (v48) (fun n50 w51 =>
  br (n50 == 0) (fun w52 =>
  gocall Tryd.prog (14) [] (fun v53 w54 =>
  asBoo (v53) (fun b55 w56 =>
  K (Value.bool (b55)) (w56)) (w54)) (w52)) (fun w57 =>
  K (Value.bool (false)) (w57)) (w51)) (w49)) (w47)) (fun w58 =>
  K (Value.bool (false)) (w58)) (w46)) (w42)) (w40)) (fun w59 =>
  K (Value.bool (false)) (w59)) (w39)) (w37)) (w35)) (w33)) (w31)) (w29)) (w25)) (w23)) (w10)) (w7)) (w5)) (w3)) (w2)) (w)
theorem F3_eq (x0 : Int) (x1 : Int) : sBody Tryd.prog [] Tryd.f3 [(Value.int IntKind.i64 x0), (Value.int IntKind.i64 x1)] = F3 x0 x1 := by kernel_rfl
theorem F3_go (x0 : Int) (x1 : Int) {K : KV} {w : World} (h : F3 x0 x1 K w) : gocall Tryd.prog 3 [(Value.int IntKind.i64 x0), (Value.int IntKind.i64 x1)] K w :=
  ⟨by kernel_rfl, calls_of_sBody (T := []) mixed Tryd.func3 (by kernel_rfl) (by rw [F3_eq]; exact h)⟩
end Go.Proofs.YteppbgalecjlfaaDoor
