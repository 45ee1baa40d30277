/- The shallow readings of some functions of the program (printed by a program of ours out of the model's own evaluation) and, for each, the proof that it is one. Conditions: none. -/
import Derived.Test.YteppbgalecjlfaaDoorCR
set_option maxRecDepth 100000
set_option linter.unusedVariables false
namespace Go.Proofs.YteppbgalecjlfaaDoor
open Go Go.Sh
def F7 (x0 : Int) (x1 : Int) (x2 : Int) (s3 : ByteArray) (x4 : Int) (a5 : Option Addr) (n5 : Nat) (c5 : Nat) (K : KV) (w : World) : Prop :=
  nw (Obj.cells #[(Value.int IntKind.i64 (x0)), (Value.int IntKind.i64 (x1)), (Value.int IntKind.i64 (x2)), (Value.string (s3)), (Value.int IntKind.i64 (x4)), (Value.slice a5 (n5) (c5))] 46 (0, 0)) (fun k8 w9 =>
  ld (⟨k8, 1, none⟩) (fun v10 w11 =>
  asI (IntKind.i64) (v10) (fun n12 w13 =>
  ld (⟨k8, 2, none⟩) (fun v14 w15 =>
  asI (IntKind.i64) (v14) (fun n16 w17 =>
  gocall Tryd.prog (12) [(Value.pointer none), (Value.int IntKind.i64 (n12)), (Value.int IntKind.i64 (n16))] (fun v18 w19 =>
  asT (0) (v18) (fun f20 w21 =>
  ld (⟨k8, 3, none⟩) (fun v22 w23 =>
  asStr (v22) (fun s24 w25 =>
  ld (⟨k8, 4, none⟩) (fun v26 w27 =>
  asI (IntKind.i64) (v26) (fun n28 w29 =>
  ld (⟨k8, 5, none⟩) (fun v30 w31 =>
  asSl (v30) (fun p32 k33 k34 w35 =>
  gocall Tryd.prog (10) [(Value.pointer none), (Value.agg #[(Value.string (s24)), (Value.int IntKind.i64 (n28)), (Value.slice p32 (k33) (k34))])] (fun v36 w37 =>
  asI (IntKind.i64) (v36) (fun n38 w39 =>
  br (n38 == 1) (fun w40 =>
  gocall Tryd.prog (15) [(Value.pointer none)] (fun v41 w42 =>
  asI (IntKind.i64) (v41) (fun n43 w44 =>
  br (n43 == 1) (fun w45 =>
  gocall Tryd.prog (13) [(Value.pointer none)] (fun v46 w47 =>
  asI (IntKind.i64) (v46) (fun n48 w49 =>
  br (n48 == 0) (fun w50 =>
  gocall Tryd.prog (17) [(Value.pointer none), (Value.int IntKind.i64 (3))] (fun v51 w52 =>
  asSl (v51) (fun p53 k54 k55 w56 =>
  br ((↑k54 : Int) == 0) (fun w57 =>
  gocall Tryd.prog (11) [(Value.pointer none)] (fun v58 w59 =>
  asSl (v58) (fun p60 k61 k62 w63 =>
  br ((↑k61 : Int) == 0) (fun w64 =>
  gocall Tryd.prog (16) [(Value.pointer none)] (fun v65 w66 =>
  asI (IntKind.i64) (v65) (fun n67 w68 =>
  br (n67 == 0) (fun w69 =>
  gocall Tryd.prog (27) [(Value.pointer none)] (fun v70 w71 =>
  asBoo (v70) (fun b72 w73 =>
  br (!b72) (fun w74 =>
  gocall Tryd.prog (14) [] (fun v75 w76 =>
  asBoo (v75) (fun b77 w78 =>
  K (Value.bool (b77)) (w78)) (w76)) (w74)) (fun w79 =>
  K (Value.bool (false)) (w79)) (w73)) (w71)) (w69)) (fun w80 =>
  K (Value.bool (false)) (w80)) (w68)) (w66)) (w64)) (fun w81 =>
  K (Value.bool (false)) (w81)) (w63)) (w59)) (w57)) (fun w82 =>
  K (Value.bool (false)) (w82)) (w56)) (w52)) (w50)) (fun w83 =>
  K (Value.bool (false)) (w83)) (w49)) (w47)) (w45)) (fun w84 =>
  K (Value.bool (false)) (w84)) (w44)) (w42)) (w40)) (fun w85 =>
  K (Value.bool (false)) (w85)) (w39)) (w37)) (w35)) (w31)) (w29)) (w27)) (w25)) (w23)) (w21)) (w19)) (w17)) (w15)) (w13)) (w11)) (w9)) (w)
theorem F7_eq (x0 : Int) (x1 : Int) (x2 : Int) (s3 : ByteArray) (x4 : Int) (a5 : Option Addr) (n5 : Nat) (c5 : Nat) : sBody Tryd.prog [] Tryd.f7 [(Value.agg #[(Value.int IntKind.i64 x0), (Value.int IntKind.i64 x1), (Value.int IntKind.i64 x2), (Value.string s3), (Value.int IntKind.i64 x4), (Value.slice a5 n5 c5)])] = F7 x0 x1 x2 s3 x4 a5 n5 c5 := by kernel_rfl
theorem F7_go (x0 : Int) (x1 : Int) (x2 : Int) (s3 : ByteArray) (x4 : Int) (a5 : Option Addr) (n5 : Nat) (c5 : Nat) {K : KV} {w : World} (h : F7 x0 x1 x2 s3 x4 a5 n5 c5 K w) : gocall Tryd.prog 7 [(Value.agg #[(Value.int IntKind.i64 x0), (Value.int IntKind.i64 x1), (Value.int IntKind.i64 x2), (Value.string s3), (Value.int IntKind.i64 x4), (Value.slice a5 n5 c5)])] K w :=
  ⟨by kernel_rfl, calls_of_sBody (T := []) mixed Tryd.func7 (by kernel_rfl) (by rw [F7_eq]; exact h)⟩
def F17 (p0 : Option Addr) (x1 : Int) (K : KV) (w : World) : Prop :=
  nw (Obj.cells #[(Value.int IntKind.i64 (x1))] 3 (0, 0)) (fun k2 w3 =>
  nw (Obj.cells #[(Value.slice none (0) (0))] 37 (0, 0)) (fun k4 w5 =>
  gocall Tryd.prog (31) [(Value.pointer p0)] (fun v6 w7 =>
  isfn (v6) (fun b8 w9 =>
  br (b8) (fun w10 =>
  K (Value.slice none (0) (0)) (w10)) (fun w11 =>
  asFn (v6) (fun k12 x13 w14 =>
  rfn Tryd.prog (fun k15 k16 f17 w18 =>
  gocall Tryd.prog (k12) ((Value.func (Fn.yield k16) #[] #[]) :: x13.1) (fun v19 w20 =>
  rfe (k16) (f17) (fun p21 w22 =>
  rfj (fun w23 =>
  ld (⟨k4, 0, none⟩) (fun v24 w25 =>
  asSl (v24) (fun p26 k27 k28 w29 =>
  dfr (k15) (fun w30 =>
  K (Value.slice p26 (k27) (k28)) (w30)) (w29)) (w25)) (w23)) (fun w31 =>
  dfr (k15) (fun w32 =>
  K (Value.slice none (0) (0)) (w32)) (w31)) [(0, (fun w33 =>
  ld (⟨k4, 0, none⟩) (fun v34 w35 =>
  asSl (v34) (fun p36 k37 k38 w39 =>
  dfr (k15) (fun w40 =>
  K (Value.slice p36 (k37) (k38)) (w40)) (w39)) (w35)) (w33)))] (p21) (w22)) (w20)) (w18)) (fun k41 f42 x43 f44 w45 =>
  asT (1) (Value.tuple x43.toArray) (fun f46 w47 =>
  asN (3) (f46 0) (fun f48 w49 =>
  asStr (f48 0) (fun s50 w51 =>
  asI (IntKind.i64) (f48 1) (fun n52 w53 =>
  asSl (f48 2) (fun p54 k55 k56 w57 =>
  nw (Obj.cells #[(Value.string ({ data := #[] })), (Value.int IntKind.i64 (0)), (Value.slice none (0) (0))] 29 (0, 0)) (fun k58 w59 =>
  st (⟨k58, 0, none⟩) (Value.string (s50)) (fun w60 =>
  st (⟨k58, 1, none⟩) (Value.int IntKind.i64 (n52)) (fun w61 =>
  st (⟨k58, 2, none⟩) (Value.slice p54 (k55) (k56)) (fun w62 =>
  rfb (k41) (f42) (fun w63 =>
  ld (⟨k4, 0, none⟩) (fun v64 w65 =>
  asSl (v64) (fun p66 k67 k68 w69 =>
  ld (⟨k2, 0, none⟩) (fun v70 w71 =>
  asI (IntKind.i64) (v70) (fun n72 w73 =>
  br (decide ((↑k67 : Int) ≥ n72)) (fun w74 =>
  rfx (k41) (f42) (Code.exit 0) (fun v75 w76 =>
  f44 (v75) (w76)) (w74)) (fun w77 =>
  ld (⟨k4, 0, none⟩) (fun v78 w79 =>
  asSl (v78) (fun p80 k81 k82 w83 =>
  ld (⟨k58, 0, none⟩) (fun v84 w85 =>
  asStr (v84) (fun s86 w87 =>
  ld (⟨k58, 1, none⟩) (fun v88 w89 =>
  asI (IntKind.i64) (v88) (fun n90 w91 =>
  ld (⟨k58, 2, none⟩) (fun v92 w93 =>
  asSl (v92) (fun p94 k95 k96 w97 =>
  nw (Obj.cells #[(Value.string (s86)), (Value.int IntKind.i64 (n90)), (Value.slice p94 (k95) (k96))] 29 (0, 0)) (fun k98 w99 =>
  bapp (Md.full) Tryd.prog (#[37, 37]) (37) (Value.slice p80 (k81) (k82)) (Value.slice (some ⟨k98, 0, none⟩) (1) (1)) (fun v100 w101 =>
  asSl (v100) (fun p102 k103 k104 w105 =>
  st (⟨k4, 0, none⟩) (Value.slice p102 (k103) (k104)) (fun w106 =>
  rfy (k41) (f42) (fun v107 w108 =>
  f44 (v107) (w108)) (w106)) (w105)) (w101)) (w99)) (w97)) (w93)) (w91)) (w89)) (w87)) (w85)) (w83)) (w79)) (w77)) (w73)) (w71)) (w69)) (w65)) (w63)) (w62)) (w61)) (w60)) (w59)) (w57)) (w53)) (w51)) (w49)) (w47)) (w45)) (w14)) (w11)) (w9)) (w7)) (w5)) (w3)) (w)
theorem F17_eq (p0 : Option Addr) (x1 : Int) : sBody Tryd.prog [(1000013, [29])] Tryd.f17 [(Value.pointer p0), (Value.int IntKind.i64 x1)] = F17 p0 x1 := by kernel_rfl
theorem F17_go (p0 : Option Addr) (x1 : Int) {K : KV} {w : World} (h : F17 p0 x1 K w) : gocall Tryd.prog 17 [(Value.pointer p0), (Value.int IntKind.i64 x1)] K w :=
  ⟨by kernel_rfl, calls_of_sBody (T := [(1000013, [29])]) mixed Tryd.func17 (by kernel_rfl) (by rw [F17_eq]; exact h)⟩
end Go.Proofs.YteppbgalecjlfaaDoor
