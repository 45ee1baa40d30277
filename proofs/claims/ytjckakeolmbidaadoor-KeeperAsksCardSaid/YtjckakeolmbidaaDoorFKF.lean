/- The shallow readings of some functions of the program (printed by a program of ours out of the model's own evaluation) and, for each, the proof that it is one. Conditions: none. -/
import Derived.Test.YtjckakeolmbidaaDoorK5
set_option maxRecDepth 100000
set_option linter.unusedVariables false
namespace Go.Proofs.YtjckakeolmbidaaDoor
open Go Go.Sh
def F4 (x0 : Int) (x1 : Int) (K : KV) (w : World) : Prop :=
  divW (20) (fun w2 =>
  nw (Obj.cells #[(Value.int IntKind.i64 (1000))] 3 (0, 0)) (fun k3 w4 =>
  gocall Tryd.prog (8) [(Value.int IntKind.i64 (1)), (Value.slice (some ⟨k3, 0, none⟩) (1) (1)), (Value.int IntKind.i64 (IntKind.i64.wrap (1 + IntKind.i64.wrap ((IntKind.u64.wrap x0).tmod 20))))] (fun v5 w6 =>
  asPtr (v5) (fun p7 w8 =>
  loop (X := (Int) × (Bool) × Unit) (0, (false, ())) (fun x9 rec10 w11 =>
  br (decide (x9.fst < IntKind.i64.wrap (1 + IntKind.i64.wrap ((IntKind.u64.wrap x0).tmod 20)))) (fun w12 =>
  gocall Tryd.prog (10) [(Value.pointer p7), (Value.agg #[(Value.int IntKind.i64 (6)), (Value.int IntKind.i64 (0)), (Value.int IntKind.i64 (1)), (Value.int IntKind.i64 (IntKind.i64.wrap (1 + x9.fst))), (Value.int IntKind.i64 (0)), (Value.int IntKind.i64 (0)), (Value.int IntKind.i64 (1))])] (fun v13 w14 =>
  asSl (v13) (fun p15 k16 k17 w18 =>
  br ((↑k16 : Int) != 1) (fun w19 =>
  K (Value.bool (false)) (w19)) (fun w20 =>
  slAt (p15) (k16) (0) (7) (fun a21 w22 =>
  ld (a21) (fun v23 w24 =>
  asI (IntKind.i64) (v23) (fun n25 w26 =>
  br (n25 != 7) (fun w27 =>
  K (Value.bool (false)) (w27)) (fun w28 =>
  rec10 (IntKind.i64.wrap (x9.fst + 1), (x9.snd.fst, ())) (w28)) (w26)) (w24)) (w22)) (w20)) (w18)) (w14)) (w12)) (fun w29 =>
  nw (Obj.cells #[(Value.int IntKind.i64 (6)), (Value.int IntKind.i64 (9)), (Value.int IntKind.i64 (10)), (Value.int IntKind.i64 (12))] 3 (0, 0)) (fun k30 w31 =>
  divW (4) (fun w32 =>
  slAt ((some ⟨k30, 0, none⟩)) (4) ((IntKind.u64.wrap x1).tmod 4) (1) (fun a33 w34 =>
  ld (a33) (fun v35 w36 =>
  asI (IntKind.i64) (v35) (fun n37 w38 =>
  nw (Obj.cells #[(Value.int IntKind.i64 (0)), (Value.int IntKind.i64 (0)), (Value.int IntKind.i64 (0)), (Value.int IntKind.i64 (0)), (Value.int IntKind.i64 (0)), (Value.int IntKind.i64 (0)), (Value.int IntKind.i64 (0))] 30 (0, 0)) (fun k39 w40 =>
  st (⟨k39, 0, none⟩) (Value.int IntKind.i64 (n37)) (fun w41 =>
  st (⟨k39, 1, none⟩) (Value.int IntKind.i64 (0)) (fun w42 =>
  st (⟨k39, 2, none⟩) (Value.int IntKind.i64 (1)) (fun w43 =>
  st (⟨k39, 3, none⟩) (Value.int IntKind.i64 (500)) (fun w44 =>
  st (⟨k39, 4, none⟩) (Value.int IntKind.i64 (0)) (fun w45 =>
  st (⟨k39, 5, none⟩) (Value.int IntKind.i64 (0)) (fun w46 =>
  st (⟨k39, 6, none⟩) (Value.int IntKind.i64 (1)) (fun w47 =>
  join (X := Unit) (fun J48 w49 =>
  ld (⟨k39, 0, none⟩) (fun v50 w51 =>
  asI (IntKind.i64) (v50) (fun n52 w53 =>
  br (n52 == 9) (fun w54 =>
  st (⟨k39, 3, none⟩) (Value.int IntKind.i64 (1)) (fun w55 =>
  J48 () (w55)) (w54)) (fun w56 =>
  J48 () (w56)) (w53)) (w51)) (w49)) (fun x57 w58 =>
  gocall Tryd.prog (15) [(Value.pointer p7)] (fun v59 w60 =>
  asPtr (v59) (fun p61 w62 =>
  gocall Tryd.prog (16) [(Value.pointer p61), (Value.int IntKind.i64 (0))] (fun v63 w64 =>
  asI (IntKind.i64) (v63) (fun n65 w66 =>
  ld (⟨k39, 0, none⟩) (fun v67 w68 =>
  asI (IntKind.i64) (v67) (fun n69 w70 =>
  ld (⟨k39, 1, none⟩) (fun v71 w72 =>
  asI (IntKind.i64) (v71) (fun n73 w74 =>
  ld (⟨k39, 2, none⟩) (fun v75 w76 =>
  asI (IntKind.i64) (v75) (fun n77 w78 =>
  ld (⟨k39, 3, none⟩) (fun v79 w80 =>
  asI (IntKind.i64) (v79) (fun n81 w82 =>
  ld (⟨k39, 4, none⟩) (fun v83 w84 =>
  asI (IntKind.i64) (v83) (fun n85 w86 =>
  ld (⟨k39, 5, none⟩) (fun v87 w88 =>
  asI (IntKind.i64) (v87) (fun n89 w90 =>
  ld (⟨k39, 6, none⟩) (fun v91 w92 =>
  asI (IntKind.i64) (v91) (fun n93 w94 =>
  gocall Tryd.prog (10) [(Value.pointer p7), (Value.agg #[(Value.int IntKind.i64 (n69)), (Value.int IntKind.i64 (n73)), (Value.int IntKind.i64 (n77)), (Value.int IntKind.i64 (n81)), (Value.int IntKind.i64 (n85)), (Value.int IntKind.i64 (n89)), (Value.int IntKind.i64 (n93))])] (fun v95 w96 =>
  asSl (v95) (fun p97 k98 k99 w100 =>
  gocall Tryd.prog (10) [(Value.pointer p7), (Value.agg #[(Value.int IntKind.i64 (6)), (Value.int IntKind.i64 (0)), (Value.int IntKind.i64 (1)), (Value.int IntKind.i64 (1)), (Value.int IntKind.i64 (0)), (Value.int IntKind.i64 (0)), (Value.int IntKind.i64 (1))])] (fun v101 w102 =>
  asSl (v101) (fun p103 k104 k105 w106 =>
  br ((↑k98 : Int) == 0) (fun w107 =>
  gocall Tryd.prog (11) [(Value.pointer p7), (Value.int IntKind.i64 (500))] (fun v108 w109 =>
  asI (IntKind.i64) (v108) (fun n110 w111 =>
  br (n110 == 0) (fun w112 =>
  gocall Tryd.prog (11) [(Value.pointer p7), (Value.int IntKind.i64 (1))] (fun v113 w114 =>
  asI (IntKind.i64) (v113) (fun n115 w116 =>
  br (n115 == 1) (fun w117 =>
  gocall Tryd.prog (15) [(Value.pointer p7)] (fun v118 w119 =>
  asPtr (v118) (fun p120 w121 =>
  gocall Tryd.prog (16) [(Value.pointer p120), (Value.int IntKind.i64 (0))] (fun v122 w123 =>
  asI (IntKind.i64) (v122) (fun n124 w125 =>
  br (n124 == n65) (fun w126 =>
  gocall Tryd.prog (15) [(Value.pointer p7)] (fun v127 w128 =>
  asPtr (v127) (fun p129 w130 =>
  gocall Tryd.prog (17) [(Value.pointer p129), (Value.int IntKind.i64 (0))] (fun v131 w132 =>
  asI (IntKind.i64) (v131) (fun n133 w134 =>
  br (n133 == 1000) (fun w135 =>
  gocall Tryd.prog (18) [(Value.pointer p7), (Value.int IntKind.i64 (1)), (Value.bool (true))] (fun v136 w137 =>
  asI (IntKind.i64) (v136) (fun n138 w139 =>
  br (n138 == 5) (fun w140 =>
  br ((↑k104 : Int) == 1) (fun w141 =>
  slAt (p103) (k104) (0) (7) (fun a142 w143 =>
  ld (a142) (fun v144 w145 =>
  asI (IntKind.i64) (v144) (fun n146 w147 =>
  br (n146 == 7) (fun w148 =>
  gocall Tryd.prog (14) [] (fun v149 w150 =>
  asBoo (v149) (fun b151 w152 =>
  K (Value.bool (b151)) (w152)) (w150)) (w148)) (fun w153 =>
  K (Value.bool (false)) (w153)) (w147)) (w145)) (w143)) (w141)) (fun w154 =>
  K (Value.bool (false)) (w154)) (w140)) (fun w155 =>
  K (Value.bool (false)) (w155)) (w139)) (w137)) (w135)) (fun w156 =>
  K (Value.bool (false)) (w156)) (w134)) (w132)) (w130)) (w128)) (w126)) (fun w157 =>
  K (Value.bool (false)) (w157)) (w125)) (w123)) (w121)) (w119)) (w117)) (fun w158 =>
  K (Value.bool (false)) (w158)) (w116)) (w114)) (w112)) (fun w159 =>
  K (Value.bool (false)) (w159)) (w111)) (w109)) (w107)) (fun w160 =>
  K (Value.bool (false)) (w160)) (w106)) (w102)) (w100)) (w96)) (w94)) (w92)) (w90)) (w88)) (w86)) (w84)) (w82)) (w80)) (w78)) (w76)) (w74)) (w72)) (w70)) (w68)) (w66)) (w64)) (w62)) (w60)) (w58)) (w47)) (w46)) (w45)) (w44)) (w43)) (w42)) (w41)) (w40)) (w38)) (w36)) (w34)) (w32)) (w31)) (w29)) (w11)) (w8)) (w6)) (w4)) (w2)) (w)
theorem F4_eq (x0 : Int) (x1 : Int) : sBody Tryd.prog [(4000013, [])] Tryd.f4 [(Value.int IntKind.i64 x0), (Value.int IntKind.i64 x1)] = F4 x0 x1 := by kernel_rfl
theorem F4_go (x0 : Int) (x1 : Int) {K : KV} {w : World} (h : F4 x0 x1 K w) : gocall Tryd.prog 4 [(Value.int IntKind.i64 x0), (Value.int IntKind.i64 x1)] K w :=
  ⟨by kernel_rfl, calls_of_sBody (T := [(4000013, [])]) mixed Tryd.func4 (by kernel_rfl) (by rw [F4_eq]; exact h)⟩
end Go.Proofs.YtjckakeolmbidaaDoor
