/- The shallow readings of some functions of the program (printed by a program of ours out of the model's own evaluation) and, for each, the proof that it is one. Conditions: none. -/
import Derived.Test.YtiihiaicggmhjaaDoorFH
set_option maxRecDepth 100000
set_option linter.unusedVariables false
namespace Go.Proofs.YtiihiaicggmhjaaDoor
open Go Go.Sh
def F5 (x0 : Int) (b1 : Bool) (K : KV) (w : World) : Prop :=
  divW (20) (fun w0 =>
  gocall Tryd.prog (17) [(Value.int IntKind.i64 (6)), (Value.int IntKind.i64 (1000)), (Value.int IntKind.i64 (IntKind.i64.wrap (1 + IntKind.i64.wrap ((IntKind.u64.wrap x0).tmod 20))))] (fun v1 w2 =>
  asPtr (v1) (fun p3 w4 =>
  loop (X := (Int) × (Bool) × Unit) (0, (false, ())) (fun x5 rec6 w7 =>
  br (decide (x5.fst < IntKind.i64.wrap (1 + IntKind.i64.wrap ((IntKind.u64.wrap x0).tmod 20)))) (fun w8 =>
  gocall Tryd.prog (18) [(Value.pointer p3), (Value.agg #[(Value.int IntKind.i64 (1)), (Value.int IntKind.i64 (0)), (Value.int IntKind.i64 (6)), (Value.int IntKind.i64 (IntKind.i64.wrap (1 + x5.fst))), (Value.int IntKind.i64 (0)), (Value.int IntKind.i64 (1)), (Value.int IntKind.i64 (0))])] (fun v9 w10 =>
  asSl (v9) (fun p11 k12 k13 w14 =>
  br ((↑k12 : Int) != 1) (fun w15 =>
  K (Value.bool (false)) (w15)) (fun w16 =>
  rec6 (IntKind.i64.wrap (x5.fst + 1), (x5.snd.fst, ())) (w16)) (w14)) (w10)) (w8)) (fun w17 =>
  nw (Obj.cells #[(Value.int IntKind.i64 (0)), (Value.int IntKind.i64 (0)), (Value.int IntKind.i64 (0)), (Value.int IntKind.i64 (0)), (Value.int IntKind.i64 (0)), (Value.int IntKind.i64 (0)), (Value.int IntKind.i64 (0))] 23 (0, 0)) (fun k18 w19 =>
  st (⟨k18, 0, none⟩) (Value.int IntKind.i64 (1)) (fun w20 =>
  st (⟨k18, 1, none⟩) (Value.int IntKind.i64 (0)) (fun w21 =>
  st (⟨k18, 2, none⟩) (Value.int IntKind.i64 (6)) (fun w22 =>
  st (⟨k18, 3, none⟩) (Value.int IntKind.i64 (500)) (fun w23 =>
  st (⟨k18, 4, none⟩) (Value.int IntKind.i64 (0)) (fun w24 =>
  st (⟨k18, 5, none⟩) (Value.int IntKind.i64 (1)) (fun w25 =>
  st (⟨k18, 6, none⟩) (Value.int IntKind.i64 (0)) (fun w26 =>
  br (b1) (fun w27 =>
  st (⟨k18, 0, none⟩) (Value.int IntKind.i64 (4)) (fun w28 =>
  st (⟨k18, 1, none⟩) (Value.int IntKind.i64 (0)) (fun w29 =>
  st (⟨k18, 2, none⟩) (Value.int IntKind.i64 (6)) (fun w30 =>
  st (⟨k18, 3, none⟩) (Value.int IntKind.i64 (1)) (fun w31 =>
  st (⟨k18, 4, none⟩) (Value.int IntKind.i64 (0)) (fun w32 =>
  st (⟨k18, 5, none⟩) (Value.int IntKind.i64 (0)) (fun w33 =>
  st (⟨k18, 6, none⟩) (Value.int IntKind.i64 (0)) (fun w34 =>
  gocall Tryd.prog (19) [(Value.pointer p3)] (fun v35 w36 =>
  asI (IntKind.i64) (v35) (fun n37 w38 =>
  ld (⟨k18, 0, none⟩) (fun v39 w40 =>
  asI (IntKind.i64) (v39) (fun n41 w42 =>
  ld (⟨k18, 1, none⟩) (fun v43 w44 =>
  asI (IntKind.i64) (v43) (fun n45 w46 =>
  ld (⟨k18, 2, none⟩) (fun v47 w48 =>
  asI (IntKind.i64) (v47) (fun n49 w50 =>
  ld (⟨k18, 3, none⟩) (fun v51 w52 =>
  asI (IntKind.i64) (v51) (fun n53 w54 =>
  ld (⟨k18, 4, none⟩) (fun v55 w56 =>
  asI (IntKind.i64) (v55) (fun n57 w58 =>
  ld (⟨k18, 5, none⟩) (fun v59 w60 =>
  asI (IntKind.i64) (v59) (fun n61 w62 =>
  ld (⟨k18, 6, none⟩) (fun v63 w64 =>
  asI (IntKind.i64) (v63) (fun n65 w66 =>
  gocall Tryd.prog (18) [(Value.pointer p3), (Value.agg #[(Value.int IntKind.i64 (n41)), (Value.int IntKind.i64 (n45)), (Value.int IntKind.i64 (n49)), (Value.int IntKind.i64 (n53)), (Value.int IntKind.i64 (n57)), (Value.int IntKind.i64 (n61)), (Value.int IntKind.i64 (n65))])] (fun v67 w68 =>
  asSl (v67) (fun p69 k70 k71 w72 =>
  gocall Tryd.prog (18) [(Value.pointer p3), (Value.agg #[(Value.int IntKind.i64 (1)), (Value.int IntKind.i64 (0)), (Value.int IntKind.i64 (6)), (Value.int IntKind.i64 (1)), (Value.int IntKind.i64 (0)), (Value.int IntKind.i64 (1)), (Value.int IntKind.i64 (0))])] (fun v73 w74 =>
  asSl (v73) (fun p75 k76 k77 w78 =>
  br ((↑k70 : Int) == 0) (fun w79 =>
  gocall Tryd.prog (19) [(Value.pointer p3)] (fun v80 w81 =>
  asI (IntKind.i64) (v80) (fun n82 w83 =>
  br (n82 == n37) (fun w84 =>
  gocall Tryd.prog (20) [(Value.pointer p3), (Value.int IntKind.i64 (500))] (fun v85 w86 =>
  asI (IntKind.i64) (v85) (fun n87 w88 =>
  br (n87 == 0) (fun w89 =>
  br ((↑k76 : Int) == 1) (fun w90 =>
  slAt (p75) (k76) (0) (7) (fun a91 w92 =>
  ld (a91) (fun v93 w94 =>
  asI (IntKind.i64) (v93) (fun n95 w96 =>
  br (n95 == 2) (fun w97 =>
  gocall Tryd.prog (21) [] (fun v98 w99 =>
  asBoo (v98) (fun b100 w101 =>
  K (Value.bool (b100)) (w101)) (w99)) (w97)) (fun w102 =>
  K (Value.bool (false)) (w102)) (w96)) (w94)) (w92)) (w90)) (fun w103 =>
  K (Value.bool (false)) (w103)) (w89)) (fun w104 =>
  K (Value.bool (false)) (w104)) (w88)) (w86)) (w84)) (fun w105 =>
  K (Value.bool (false)) (w105)) (w83)) (w81)) (w79)) (fun w106 =>
  K (Value.bool (false)) (w106)) (w78)) (w74)) (w72)) (w68)) (w66)) (w64)) (w62)) (w60)) (w58)) (w56)) (w54)) (w52)) (w50)) (w48)) (w46)) (w44)) (w42)) (w40)) (w38)) (w36)) (w34)) (w33)) (w32)) (w31)) (w30)) (w29)) (w28)) (w27)) (fun w107 =>
  gocall Tryd.prog (19) [(Value.pointer p3)] (fun v108 w109 =>
  asI (IntKind.i64) (v108) (fun n110 w111 =>
  ld (⟨k18, 0, none⟩) (fun v112 w113 =>
  asI (IntKind.i64) (v112) (fun n114 w115 =>
  ld (⟨k18, 1, none⟩) (fun v116 w117 =>
  asI (IntKind.i64) (v116) (fun n118 w119 =>
  ld (⟨k18, 2, none⟩) (fun v120 w121 =>
  asI (IntKind.i64) (v120) (fun n122 w123 =>
  ld (⟨k18, 3, none⟩) (fun v124 w125 =>
  asI (IntKind.i64) (v124) (fun n126 w127 =>
  ld (⟨k18, 4, none⟩) (fun v128 w129 =>
  asI (IntKind.i64) (v128) (fun n130 w131 =>
  ld (⟨k18, 5, none⟩) (fun v132 w133 =>
  asI (IntKind.i64) (v132) (fun n134 w135 =>
  ld (⟨k18, 6, none⟩) (fun v136 w137 =>
  asI (IntKind.i64) (v136) (fun n138 w139 =>
  gocall Tryd.prog (18) [(Value.pointer p3), (Value.agg #[(Value.int IntKind.i64 (n114)), (Value.int IntKind.i64 (n118)), (Value.int IntKind.i64 (n122)), (Value.int IntKind.i64 (n126)), (Value.int IntKind.i64 (n130)), (Value.int IntKind.i64 (n134)), (Value.int IntKind.i64 (n138))])] (fun v140 w141 =>
  asSl (v140) (fun p142 k143 k144 w145 =>
  gocall Tryd.prog (18) [(Value.pointer p3), (Value.agg #[(Value.int IntKind.i64 (1)), (Value.int IntKind.i64 (0)), (Value.int IntKind.i64 (6)), (Value.int IntKind.i64 (1)), (Value.int IntKind.i64 (0)), (Value.int IntKind.i64 (1)), (Value.int IntKind.i64 (0))])] (fun v146 w147 =>
  asSl (v146) (fun p148 k149 k150 w151 =>
  br ((↑k143 : Int) == 0) (fun w152 =>
  gocall Tryd.prog (19) [(Value.pointer p3)] (fun v153 w154 =>
  asI (IntKind.i64) (v153) (fun n155 w156 =>
  br (n155 == n110) (fun w157 =>
  gocall Tryd.prog (20) [(Value.pointer p3), (Value.int IntKind.i64 (500))] (fun v158 w159 =>
  asI (IntKind.i64) (v158) (fun n160 w161 =>
  br (n160 == 0) (fun w162 =>
  br ((↑k149 : Int) == 1) (fun w163 =>
  slAt (p148) (k149) (0) (7) (fun a164 w165 =>
  ld (a164) (fun v166 w167 =>
  asI (IntKind.i64) (v166) (fun n168 w169 =>
  br (n168 == 2) (fun w170 =>
  gocall Tryd.prog (21) [] (fun v171 w172 =>
  asBoo (v171) (fun b173 w174 =>
  K (Value.bool (b173)) (w174)) (w172)) (w170)) (fun w175 =>
  K (Value.bool (false)) (w175)) (w169)) (w167)) (w165)) (w163)) (fun w176 =>
  K (Value.bool (false)) (w176)) (w162)) (fun w177 =>
  K (Value.bool (false)) (w177)) (w161)) (w159)) (w157)) (fun w178 =>
  K (Value.bool (false)) (w178)) (w156)) (w154)) (w152)) (fun w179 =>
  K (Value.bool (false)) (w179)) (w151)) (w147)) (w145)) (w141)) (w139)) (w137)) (w135)) (w133)) (w131)) (w129)) (w127)) (w125)) (w123)) (w121)) (w119)) (w117)) (w115)) (w113)) (w111)) (w109)) (w107)) (w26)) (w25)) (w24)) (w23)) (w22)) (w21)) (w20)) (w19)) (w17)) (w7)) (w4)) (w2)) (w0)) (w)
theorem F5_eq (x0 : Int) (b1 : Bool) : sBody Tryd.prog [] Tryd.f5 [(Value.int IntKind.i64 x0), (Value.bool b1)] = F5 x0 b1 := by kernel_rfl
theorem F5_go (x0 : Int) (b1 : Bool) {K : KV} {w : World} (h : F5 x0 b1 K w) : gocall Tryd.prog 5 [(Value.int IntKind.i64 x0), (Value.bool b1)] K w :=
  ⟨by kernel_rfl, calls_of_sBody (T := []) mixed Tryd.func5 (by kernel_rfl) (by rw [F5_eq]; exact h)⟩
end Go.Proofs.YtiihiaicggmhjaaDoor
