/- The shallow readings of some functions of the program (printed by a program of ours out of the model's own evaluation) and, for each, the proof that it is one. Conditions: none. -/
import Derived.Test.YtjckakeolmbidaaDoorV2
set_option maxRecDepth 100000
set_option linter.unusedVariables false
namespace Go.Proofs.YtjckakeolmbidaaDoor
open Go Go.Sh
def F7 (x0 : Int) (x1 : Int) (b2 : Bool) (K : KV) (w : World) : Prop :=
  divW (100) (fun w3 =>
  divW (100) (fun w4 =>
  gocall Tryd.prog (27) [(Value.int IntKind.i64 (4)), (Value.int IntKind.i64 (200)), (Value.int IntKind.i64 (50))] (fun v5 w6 =>
  asPtr (v5) (fun p7 w8 =>
  gocall Tryd.prog (30) [(Value.pointer p7), (Value.agg #[(Value.int IntKind.i64 (1)), (Value.int IntKind.i64 (0)), (Value.int IntKind.i64 (4)), (Value.int IntKind.i64 (1)), (Value.int IntKind.i64 (0)), (Value.int IntKind.i64 (IntKind.i64.wrap (1 + IntKind.i64.wrap ((IntKind.u64.wrap x0).tmod 100)))), (Value.int IntKind.i64 (0))])] (fun v9 w10 =>
  asSl (v9) (fun p11 k12 k13 w14 =>
  br (b2) (fun w15 =>
  gocall Tryd.prog (30) [(Value.pointer p7), (Value.agg #[(Value.int IntKind.i64 (4)), (Value.int IntKind.i64 (0)), (Value.int IntKind.i64 (4)), (Value.int IntKind.i64 (1)), (Value.int IntKind.i64 (0)), (Value.int IntKind.i64 (0)), (Value.int IntKind.i64 (0))])] (fun v16 w17 =>
  asSl (v16) (fun p18 k19 k20 w21 =>
  gocall Tryd.prog (30) [(Value.pointer p7), (Value.agg #[(Value.int IntKind.i64 (1)), (Value.int IntKind.i64 (0)), (Value.int IntKind.i64 (4)), (Value.int IntKind.i64 (2)), (Value.int IntKind.i64 (0)), (Value.int IntKind.i64 (IntKind.i64.wrap (1 + IntKind.i64.wrap ((IntKind.u64.wrap x1).tmod 100)))), (Value.int IntKind.i64 (0))])] (fun v22 w23 =>
  asSl (v22) (fun p24 k25 k26 w27 =>
  gocall Tryd.prog (28) [(Value.pointer p7), (Value.int IntKind.i64 (0)), (Value.int IntKind.i64 (0))] (fun v28 w29 =>
  asT (0) (v28) (fun f30 w31 =>
  gocall Tryd.prog (31) [(Value.pointer p7)] (fun v32 w33 =>
  asT (0) (v32) (fun f34 w35 =>
  br ((↑k12 : Int) == 1) (fun w36 =>
  slAt (p11) (k12) (0) (7) (fun a37 w38 =>
  ld (a37) (fun v39 w40 =>
  asI (IntKind.i64) (v39) (fun n41 w42 =>
  br (n41 == 2) (fun w43 =>
  br ((↑k25 : Int) == 1) (fun w44 =>
  slAt (p24) (k25) (0) (7) (fun a45 w46 =>
  ld (a45) (fun v47 w48 =>
  asI (IntKind.i64) (v47) (fun n49 w50 =>
  br (n49 == 2) (fun w51 =>
  gocall Tryd.prog (32) [(Value.pointer p7), (Value.int IntKind.i64 (2))] (fun v52 w53 =>
  asI (IntKind.i64) (v52) (fun n54 w55 =>
  br (n54 == 1) (fun w56 =>
  gocall Tryd.prog (33) [(Value.pointer p7)] (fun v57 w58 =>
  asI (IntKind.i64) (v57) (fun n59 w60 =>
  br (n59 == IntKind.i64.wrap (IntKind.i64.wrap (200 - 0) - IntKind.i64.wrap (1 + IntKind.i64.wrap ((IntKind.u64.wrap x1).tmod 100)))) (fun w61 =>
  gocall Tryd.prog (34) [] (fun v62 w63 =>
  asBoo (v62) (fun b64 w65 =>
  K (Value.bool (b64)) (w65)) (w63)) (w61)) (fun w66 =>
  K (Value.bool (false)) (w66)) (w60)) (w58)) (w56)) (fun w67 =>
  K (Value.bool (false)) (w67)) (w55)) (w53)) (w51)) (fun w68 =>
  K (Value.bool (false)) (w68)) (w50)) (w48)) (w46)) (w44)) (fun w69 =>
  K (Value.bool (false)) (w69)) (w43)) (fun w70 =>
  K (Value.bool (false)) (w70)) (w42)) (w40)) (w38)) (w36)) (fun w71 =>
  K (Value.bool (false)) (w71)) (w35)) (w33)) (w31)) (w29)) (w27)) (w23)) (w21)) (w17)) (w15)) (fun w72 =>
  gocall Tryd.prog (30) [(Value.pointer p7), (Value.agg #[(Value.int IntKind.i64 (1)), (Value.int IntKind.i64 (0)), (Value.int IntKind.i64 (4)), (Value.int IntKind.i64 (2)), (Value.int IntKind.i64 (0)), (Value.int IntKind.i64 (IntKind.i64.wrap (1 + IntKind.i64.wrap ((IntKind.u64.wrap x1).tmod 100)))), (Value.int IntKind.i64 (0))])] (fun v73 w74 =>
  asSl (v73) (fun p75 k76 k77 w78 =>
  gocall Tryd.prog (28) [(Value.pointer p7), (Value.int IntKind.i64 (0)), (Value.int IntKind.i64 (0))] (fun v79 w80 =>
  asT (0) (v79) (fun f81 w82 =>
  gocall Tryd.prog (31) [(Value.pointer p7)] (fun v83 w84 =>
  asT (0) (v83) (fun f85 w86 =>
  br ((↑k12 : Int) == 1) (fun w87 =>
  slAt (p11) (k12) (0) (7) (fun a88 w89 =>
  ld (a88) (fun v90 w91 =>
  asI (IntKind.i64) (v90) (fun n92 w93 =>
  br (n92 == 2) (fun w94 =>
  br ((↑k76 : Int) == 1) (fun w95 =>
  slAt (p75) (k76) (0) (7) (fun a96 w97 =>
  ld (a96) (fun v98 w99 =>
  asI (IntKind.i64) (v98) (fun n100 w101 =>
  br (n100 == 2) (fun w102 =>
  gocall Tryd.prog (32) [(Value.pointer p7), (Value.int IntKind.i64 (2))] (fun v103 w104 =>
  asI (IntKind.i64) (v103) (fun n105 w106 =>
  br (n105 == 1) (fun w107 =>
  gocall Tryd.prog (33) [(Value.pointer p7)] (fun v108 w109 =>
  asI (IntKind.i64) (v108) (fun n110 w111 =>
  br (n110 == IntKind.i64.wrap (IntKind.i64.wrap (200 - IntKind.i64.wrap (1 + IntKind.i64.wrap ((IntKind.u64.wrap x0).tmod 100))) - IntKind.i64.wrap (1 + IntKind.i64.wrap ((IntKind.u64.wrap x1).tmod 100)))) (fun w112 =>
  gocall Tryd.prog (34) [] (fun v113 w114 =>
  asBoo (v113) (fun b115 w116 =>
  K (Value.bool (b115)) (w116)) (w114)) (w112)) (fun w117 =>
  K (Value.bool (false)) (w117)) (w111)) (w109)) (w107)) (fun w118 =>
  K (Value.bool (false)) (w118)) (w106)) (w104)) (w102)) (fun w119 =>
  K (Value.bool (false)) (w119)) (w101)) (w99)) (w97)) (w95)) (fun w120 =>
  K (Value.bool (false)) (w120)) (w94)) (fun w121 =>
  K (Value.bool (false)) (w121)) (w93)) (w91)) (w89)) (w87)) (fun w122 =>
  K (Value.bool (false)) (w122)) (w86)) (w84)) (w82)) (w80)) (w78)) (w74)) (w72)) (w14)) (w10)) (w8)) (w6)) (w4)) (w3)) (w)
theorem F7_eq (x0 : Int) (x1 : Int) (b2 : Bool) : sBody Tryd.prog [] Tryd.f7 [(Value.int IntKind.i64 x0), (Value.int IntKind.i64 x1), (Value.bool b2)] = F7 x0 x1 b2 := by kernel_rfl
theorem F7_go (x0 : Int) (x1 : Int) (b2 : Bool) {K : KV} {w : World} (h : F7 x0 x1 b2 K w) : gocall Tryd.prog 7 [(Value.int IntKind.i64 x0), (Value.int IntKind.i64 x1), (Value.bool b2)] K w :=
  ⟨by kernel_rfl, calls_of_sBody (T := []) mixed Tryd.func7 (by kernel_rfl) (by rw [F7_eq]; exact h)⟩
end Go.Proofs.YtjckakeolmbidaaDoor
