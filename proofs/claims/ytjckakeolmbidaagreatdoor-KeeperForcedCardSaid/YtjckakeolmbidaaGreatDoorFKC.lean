/- The shallow readings of some functions of the program (printed by a program of ours out of the model's own evaluation) and, for each, the proof that it is one. Conditions: none. -/
import Derived.Test.YtjckakeolmbidaaGreatDoorK5
set_option maxRecDepth 100000
set_option linter.unusedVariables false
namespace Go.Proofs.YtjckakeolmbidaaGreatDoor
open Go Go.Sh
def F42 (p0 : Option Addr) (x1 : Int) (x2 : Int) (K : KV) (w : World) : Prop :=
  br (p0.isNone) (fun w3 =>
  K (Value.tuple #[]) (w3)) (fun w4 =>
  gocall Tryz.prog (55) [(Value.pointer p0)] (fun v5 w6 =>
  asBoo (v5) (fun b7 w8 =>
  br (b7) (fun w9 =>
  K (Value.tuple #[]) (w9)) (fun w10 =>
  nn (p0) (fun a11 w12 =>
  ld (⟨a11.block, a11.off + 2, none⟩) (fun v13 w14 =>
  asPtr (v13) (fun p15 w16 =>
  gocall Tryz.prog (68) [(Value.pointer p15), (Value.int IntKind.i64 (x1)), (Value.int IntKind.i64 (x2))] (fun v17 w18 =>
  asT (0) (v17) (fun f19 w20 =>
  gocall Tryz.prog (91) [(Value.pointer p0)] (fun v21 w22 =>
  asT (0) (v21) (fun f23 w24 =>
  K (Value.tuple #[]) (w24)) (w22)) (w20)) (w18)) (w16)) (w14)) (w12)) (w10)) (w8)) (w6)) (w4)) (w)
theorem F42_eq (p0 : Option Addr) (x1 : Int) (x2 : Int) : sBody Tryz.prog [] Tryz.f42 [(Value.pointer p0), (Value.int IntKind.i64 x1), (Value.int IntKind.i64 x2)] = F42 p0 x1 x2 := by kernel_rfl
theorem F42_go (p0 : Option Addr) (x1 : Int) (x2 : Int) {K : KV} {w : World} (h : F42 p0 x1 x2 K w) : gocall Tryz.prog 42 [(Value.pointer p0), (Value.int IntKind.i64 x1), (Value.int IntKind.i64 x2)] K w :=
  ⟨by kernel_rfl, calls_of_sBody (T := []) mixed Tryz.func42 (by kernel_rfl) (by rw [F42_eq]; exact h)⟩
def F43 (p0 : Option Addr) (K : KV) (w : World) : Prop :=
  nw (Obj.cells #[(Value.pointer p0)] 65 (0, 0)) (fun k1 w2 =>
  ld (⟨k1, 0, none⟩) (fun v3 w4 =>
  asPtr (v3) (fun p5 w6 =>
  br (p5.isNone) (fun w7 =>
  K (Value.tuple #[]) (w7)) (fun w8 =>
  ld (⟨k1, 0, none⟩) (fun v9 w10 =>
  asPtr (v9) (fun p11 w12 =>
  gocall Tryz.prog (55) [(Value.pointer p11)] (fun v13 w14 =>
  asBoo (v13) (fun b15 w16 =>
  br (!b15) (fun w17 =>
  K (Value.tuple #[]) (w17)) (fun w18 =>
  ld (⟨k1, 0, none⟩) (fun v19 w20 =>
  asPtr (v19) (fun p21 w22 =>
  nn (p21) (fun a23 w24 =>
  ld (⟨a23.block, a23.off + 2, none⟩) (fun v25 w26 =>
  asPtr (v25) (fun p27 w28 =>
  gocall Tryz.prog (70) [(Value.pointer p27)] (fun v29 w30 =>
  asI (IntKind.i64) (v29) (fun n31 w32 =>
  ld (⟨k1, 0, none⟩) (fun v33 w34 =>
  asPtr (v33) (fun p35 w36 =>
  gocall Tryz.prog (91) [(Value.pointer p35)] (fun v37 w38 =>
  asT (0) (v37) (fun f39 w40 =>
  ld (⟨k1, 0, none⟩) (fun v41 w42 =>
  asPtr (v41) (fun p43 w44 =>
  nn (p43) (fun a45 w46 =>
  ld (⟨a45.block, a45.off + 2, none⟩) (fun v47 w48 =>
  asPtr (v47) (fun p49 w50 =>
  gocall Tryz.prog (71) [(Value.pointer p49)] (fun v51 w52 =>
  asFn (v51) (fun k53 x54 w55 =>
  rfn Tryz.prog (fun k56 k57 f58 w59 =>
  gocall Tryz.prog (k53) ((Value.func (Fn.yield k57) #[] #[]) :: x54.1) (fun v60 w61 =>
  rfe (k57) (f58) (fun p62 w63 =>
  rfj (fun w64 =>
  dfr (k56) (fun w65 =>
  K (Value.tuple #[]) (w65)) (w64)) (fun w66 =>
  dfr (k56) (fun w67 =>
  K (Value.tuple #[]) (w67)) (w66)) [] (p62) (w63)) (w61)) (w59)) (fun k68 f69 l70 f71 w72 =>
  asT (1) (Value.tuple l70.toArray) (fun f73 w74 =>
  asN (3) (f73 0) (fun f75 w76 =>
  asStr (f75 0) (fun s77 w78 =>
  asI (IntKind.i64) (f75 1) (fun n79 w80 =>
  asSl (f75 2) (fun p81 k82 k83 w84 =>
  nw (Obj.cells #[(Value.string ({ data := #[] })), (Value.int IntKind.i64 (0)), (Value.slice none (0) (0))] 105 (0, 0)) (fun k85 w86 =>
  st (⟨k85, 0, none⟩) (Value.string (s77)) (fun w87 =>
  st (⟨k85, 1, none⟩) (Value.int IntKind.i64 (n79)) (fun w88 =>
  st (⟨k85, 2, none⟩) (Value.slice p81 (k82) (k83)) (fun w89 =>
  rfb (k68) (f69) (fun w90 =>
  ld (⟨k1, 0, none⟩) (fun v91 w92 =>
  asPtr (v91) (fun p93 w94 =>
  ld (⟨k85, 0, none⟩) (fun v95 w96 =>
  asStr (v95) (fun s97 w98 =>
  ld (⟨k85, 1, none⟩) (fun v99 w100 =>
  asI (IntKind.i64) (v99) (fun n101 w102 =>
  ld (⟨k85, 2, none⟩) (fun v103 w104 =>
  asSl (v103) (fun p105 k106 k107 w108 =>
  gocall Tryz.prog (97) [(Value.pointer p93), (Value.agg #[(Value.string (s97)), (Value.int IntKind.i64 (n101)), (Value.slice p105 (k106) (k107))])] (fun v109 w110 =>
  asT (0) (v109) (fun f111 w112 =>
  rfy (k68) (f69) (fun v113 w114 =>
  f71 (v113) (w114)) (w112)) (w110)) (w108)) (w104)) (w102)) (w100)) (w98)) (w96)) (w94)) (w92)) (w90)) (w89)) (w88)) (w87)) (w86)) (w84)) (w80)) (w78)) (w76)) (w74)) (w72)) (w55)) (w52)) (w50)) (w48)) (w46)) (w44)) (w42)) (w40)) (w38)) (w36)) (w34)) (w32)) (w30)) (w28)) (w26)) (w24)) (w22)) (w20)) (w18)) (w16)) (w14)) (w12)) (w10)) (w8)) (w6)) (w4)) (w2)) (w)
theorem F43_eq (p0 : Option Addr) : sBody Tryz.prog [(1000022, [105])] Tryz.f43 [(Value.pointer p0)] = F43 p0 := by kernel_rfl
theorem F43_go (p0 : Option Addr) {K : KV} {w : World} (h : F43 p0 K w) : gocall Tryz.prog 43 [(Value.pointer p0)] K w :=
  ⟨by kernel_rfl, calls_of_sBody (T := [(1000022, [105])]) mixed Tryz.func43 (by kernel_rfl) (by rw [F43_eq]; exact h)⟩
end Go.Proofs.YtjckakeolmbidaaGreatDoor
