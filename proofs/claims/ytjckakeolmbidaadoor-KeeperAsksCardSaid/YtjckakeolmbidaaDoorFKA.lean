/- The shallow readings of some functions of the program (printed by a program of ours out of the model's own evaluation) and, for each, the proof that it is one. Conditions: none. -/
import Derived.Test.YtjckakeolmbidaaDoorM5
set_option maxRecDepth 100000
set_option linter.unusedVariables false
namespace Go.Proofs.YtjckakeolmbidaaDoor
open Go Go.Sh
def F3 (x0 : Int) (b1 : Bool) (K : KV) (w : World) : Prop :=
  divW (1000) (fun w2 =>
  nw (Obj.cells #[(Value.int IntKind.i64 (1000))] 3 (0, 0)) (fun k3 w4 =>
  gocall Tryd.prog (8) [(Value.int IntKind.i64 (2)), (Value.slice (some ⟨k3, 0, none⟩) (1) (1)), (Value.int IntKind.i64 (50))] (fun v5 w6 =>
  asPtr (v5) (fun p7 w8 =>
  br (p7.isNone) (fun w9 =>
  K (Value.bool (false)) (w9)) (fun w10 =>
  gocall Tryd.prog (9) [(Value.pointer p7), (Value.int IntKind.i64 (4))] (fun v11 w12 =>
  asSl (v11) (fun p13 k14 k15 w16 =>
  br ((↑k14 : Int) != 0) (fun w17 =>
  K (Value.bool (false)) (w17)) (fun w18 =>
  gocall Tryd.prog (10) [(Value.pointer p7), (Value.agg #[(Value.int IntKind.i64 (6)), (Value.int IntKind.i64 (0)), (Value.int IntKind.i64 (2)), (Value.int IntKind.i64 (4)), (Value.int IntKind.i64 (0)), (Value.int IntKind.i64 (0)), (Value.int IntKind.i64 (IntKind.i64.wrap (1 + IntKind.i64.wrap ((IntKind.u64.wrap x0).tmod 1000))))])] (fun v19 w20 =>
  asSl (v19) (fun p21 k22 k23 w24 =>
  gocall Tryd.prog (9) [(Value.pointer p7), (Value.int IntKind.i64 (4))] (fun v25 w26 =>
  asSl (v25) (fun p27 k28 k29 w30 =>
  br ((↑k28 : Int) != 2) (fun w31 =>
  K (Value.bool (false)) (w31)) (fun w32 =>
  slAt (p27) (k28) (0) (7) (fun a33 w34 =>
  ld (⟨a33.block, a33.off + 2, none⟩) (fun v35 w36 =>
  asI (IntKind.i64) (v35) (fun n37 w38 =>
  br (n37 != 0) (fun w39 =>
  K (Value.bool (false)) (w39)) (fun w40 =>
  slAt (p27) (k28) (1) (7) (fun a41 w42 =>
  ld (⟨a41.block, a41.off + 2, none⟩) (fun v43 w44 =>
  asI (IntKind.i64) (v43) (fun n45 w46 =>
  br (n45 != 1) (fun w47 =>
  K (Value.bool (false)) (w47)) (fun w48 =>
  slAt (p27) (k28) (0) (7) (fun a49 w50 =>
  ld (a49) (fun v51 w52 =>
  asI (IntKind.i64) (v51) (fun n53 w54 =>
  br (n53 != 12) (fun w55 =>
  K (Value.bool (false)) (w55)) (fun w56 =>
  slAt (p27) (k28) (1) (7) (fun a57 w58 =>
  ld (a57) (fun v59 w60 =>
  asI (IntKind.i64) (v59) (fun n61 w62 =>
  br (n61 != 12) (fun w63 =>
  K (Value.bool (false)) (w63)) (fun w64 =>
  slAt (p27) (k28) (1) (7) (fun a65 w66 =>
  ld (⟨a65.block, a65.off + 1, none⟩) (fun v67 w68 =>
  asI (IntKind.i64) (v67) (fun n69 w70 =>
  br (n69 != 2) (fun w71 =>
  K (Value.bool (false)) (w71)) (fun w72 =>
  slAt (p27) (k28) (1) (7) (fun a73 w74 =>
  ld (⟨a73.block, a73.off + 3, none⟩) (fun v75 w76 =>
  asI (IntKind.i64) (v75) (fun n77 w78 =>
  br (n77 != 4) (fun w79 =>
  K (Value.bool (false)) (w79)) (fun w80 =>
  br (b1) (fun w81 =>
  gocall Tryd.prog (10) [(Value.pointer p7), (Value.agg #[(Value.int IntKind.i64 (13)), (Value.int IntKind.i64 (1)), (Value.int IntKind.i64 (2)), (Value.int IntKind.i64 (4)), (Value.int IntKind.i64 (0)), (Value.int IntKind.i64 (0)), (Value.int IntKind.i64 (0))])] (fun v82 w83 =>
  asSl (v82) (fun p84 k85 k86 w87 =>
  br ((↑k85 : Int) == 1) (fun w88 =>
  slAt (p84) (k85) (0) (7) (fun a89 w90 =>
  ld (a89) (fun v91 w92 =>
  asI (IntKind.i64) (v91) (fun n93 w94 =>
  br (n93 == 11) (fun w95 =>
  slAt (p84) (k85) (0) (7) (fun a96 w97 =>
  ld (⟨a96.block, a96.off + 2, none⟩) (fun v98 w99 =>
  asI (IntKind.i64) (v98) (fun n100 w101 =>
  br (n100 == 0) (fun w102 =>
  gocall Tryd.prog (11) [(Value.pointer p7), (Value.int IntKind.i64 (4))] (fun v103 w104 =>
  asI (IntKind.i64) (v103) (fun n105 w106 =>
  br (n105 == 2) (fun w107 =>
  gocall Tryd.prog (12) [(Value.pointer p7)] (fun v108 w109 =>
  asPtr (v108) (fun p110 w111 =>
  gocall Tryd.prog (13) [(Value.pointer p110)] (fun v112 w113 =>
  asI (IntKind.i64) (v112) (fun n114 w115 =>
  br (n114 == IntKind.i64.wrap (1 + IntKind.i64.wrap ((IntKind.u64.wrap x0).tmod 1000))) (fun w116 =>
  gocall Tryd.prog (9) [(Value.pointer p7), (Value.int IntKind.i64 (4))] (fun v117 w118 =>
  asSl (v117) (fun p119 k120 k121 w122 =>
  br ((↑k120 : Int) == 0) (fun w123 =>
  gocall Tryd.prog (14) [] (fun v124 w125 =>
  asBoo (v124) (fun b126 w127 =>
  K (Value.bool (b126)) (w127)) (w125)) (w123)) (fun w128 =>
  K (Value.bool (false)) (w128)) (w122)) (w118)) (w116)) (fun w129 =>
  K (Value.bool (false)) (w129)) (w115)) (w113)) (w111)) (w109)) (w107)) (fun w130 =>
  K (Value.bool (false)) (w130)) (w106)) (w104)) (w102)) (fun w131 =>
  K (Value.bool (false)) (w131)) (w101)) (w99)) (w97)) (w95)) (fun w132 =>
  K (Value.bool (false)) (w132)) (w94)) (w92)) (w90)) (w88)) (fun w133 =>
  K (Value.bool (false)) (w133)) (w87)) (w83)) (w81)) (fun w134 =>
  gocall Tryd.prog (10) [(Value.pointer p7), (Value.agg #[(Value.int IntKind.i64 (14)), (Value.int IntKind.i64 (1)), (Value.int IntKind.i64 (2)), (Value.int IntKind.i64 (4)), (Value.int IntKind.i64 (0)), (Value.int IntKind.i64 (0)), (Value.int IntKind.i64 (0))])] (fun v135 w136 =>
  asSl (v135) (fun p137 k138 k139 w140 =>
  br ((↑k138 : Int) == 1) (fun w141 =>
  slAt (p137) (k138) (0) (7) (fun a142 w143 =>
  ld (a142) (fun v144 w145 =>
  asI (IntKind.i64) (v144) (fun n146 w147 =>
  br (n146 == 11) (fun w148 =>
  slAt (p137) (k138) (0) (7) (fun a149 w150 =>
  ld (⟨a149.block, a149.off + 2, none⟩) (fun v151 w152 =>
  asI (IntKind.i64) (v151) (fun n153 w154 =>
  br (n153 == 0) (fun w155 =>
  gocall Tryd.prog (11) [(Value.pointer p7), (Value.int IntKind.i64 (4))] (fun v156 w157 =>
  asI (IntKind.i64) (v156) (fun n158 w159 =>
  br (n158 == 3) (fun w160 =>
  gocall Tryd.prog (12) [(Value.pointer p7)] (fun v161 w162 =>
  asPtr (v161) (fun p163 w164 =>
  gocall Tryd.prog (13) [(Value.pointer p163)] (fun v165 w166 =>
  asI (IntKind.i64) (v165) (fun n167 w168 =>
  br (n167 == 0) (fun w169 =>
  gocall Tryd.prog (9) [(Value.pointer p7), (Value.int IntKind.i64 (4))] (fun v170 w171 =>
  asSl (v170) (fun p172 k173 k174 w175 =>
  br ((↑k173 : Int) == 0) (fun w176 =>
  gocall Tryd.prog (14) [] (fun v177 w178 =>
  asBoo (v177) (fun b179 w180 =>
  K (Value.bool (b179)) (w180)) (w178)) (w176)) (fun w181 =>
  K (Value.bool (false)) (w181)) (w175)) (w171)) (w169)) (fun w182 =>
  K (Value.bool (false)) (w182)) (w168)) (w166)) (w164)) (w162)) (w160)) (fun w183 =>
  K (Value.bool (false)) (w183)) (w159)) (w157)) (w155)) (fun w184 =>
  K (Value.bool (false)) (w184)) (w154)) (w152)) (w150)) (w148)) (fun w185 =>
  K (Value.bool (false)) (w185)) (w147)) (w145)) (w143)) (w141)) (fun w186 =>
  K (Value.bool (false)) (w186)) (w140)) (w136)) (w134)) (w80)) (w78)) (w76)) (w74)) (w72)) (w70)) (w68)) (w66)) (w64)) (w62)) (w60)) (w58)) (w56)) (w54)) (w52)) (w50)) (w48)) (w46)) (w44)) (w42)) (w40)) (w38)) (w36)) (w34)) (w32)) (w30)) (w26)) (w24)) (w20)) (w18)) (w16)) (w12)) (w10)) (w8)) (w6)) (w4)) (w2)) (w)
theorem F3_eq (x0 : Int) (b1 : Bool) : sBody Tryd.prog [] Tryd.f3 [(Value.int IntKind.i64 x0), (Value.bool b1)] = F3 x0 b1 := by kernel_rfl
theorem F3_go (x0 : Int) (b1 : Bool) {K : KV} {w : World} (h : F3 x0 b1 K w) : gocall Tryd.prog 3 [(Value.int IntKind.i64 x0), (Value.bool b1)] K w :=
  ⟨by kernel_rfl, calls_of_sBody (T := []) mixed Tryd.func3 (by kernel_rfl) (by rw [F3_eq]; exact h)⟩
end Go.Proofs.YtjckakeolmbidaaDoor
