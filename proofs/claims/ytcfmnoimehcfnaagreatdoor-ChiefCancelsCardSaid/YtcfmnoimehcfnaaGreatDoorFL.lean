/- The shallow readings of some functions of the program (printed by a program of ours out of the model's own evaluation) and, for each, the proof that it is one. Conditions: none. -/
import Derived.Test.YtcfmnoimehcfnaaGreatDoorFX
set_option maxRecDepth 100000
set_option linter.unusedVariables false
namespace Go.Proofs.YtcfmnoimehcfnaaGreatDoor
open Go Go.Sh
def F4 (x0 : Int) (x1 : Int) (x2 : Int) (x3 : Int) (x4 : Int) (a5 : Option Addr) (n5 : Nat) (c5 : Nat) (b6 : Bool) (K : KV) (w : World) : Prop :=
nw (Obj.cells #[(I (x0)), (I (x1)), (I (x2)), (I (x3)), (I (x4)), (.slice a5 (n5) (c5))] 24 (0, 0)) (fun k9 w10 =>
ld (⟨k9, 5, none⟩) (fun v11 w12 =>
asSl (v11) (fun p13 k14 k15 w16 =>
br (decide ((↑k14 : Int) > 10)) (fun w17 =>
gocall Tryz.prog (16) [] (fun v18 w19 =>
asBoo (v18) (fun b20 w21 =>
K (.bool (b20)) (w21)) (w19)) (w17)) (fun w22 =>
ld (⟨k9, 0, none⟩) (fun v23 w24 =>
asI .i64 (v23) (fun n25 w26 =>
ld (⟨k9, 1, none⟩) (fun v27 w28 =>
asI .i64 (v27) (fun n29 w30 =>
ld (⟨k9, 2, none⟩) (fun v31 w32 =>
asI .i64 (v31) (fun n33 w34 =>
ld (⟨k9, 3, none⟩) (fun v35 w36 =>
asI .i64 (v35) (fun n37 w38 =>
ld (⟨k9, 4, none⟩) (fun v39 w40 =>
asI .i64 (v39) (fun n41 w42 =>
ld (⟨k9, 5, none⟩) (fun v43 w44 =>
asSl (v43) (fun p45 k46 k47 w48 =>
gocall Tryz.prog (15) [(Value.agg #[(I (n25)), (I (n29)), (I (n33)), (I (n37)), (I (n41)), (.slice p45 (k46) (k47))])] (fun v49 w50 =>
asBoo (v49) (fun b51 w52 =>
br (!b51) (fun w53 =>
gocall Tryz.prog (16) [] (fun v54 w55 =>
asBoo (v54) (fun b56 w57 =>
K (.bool (b56)) (w57)) (w55)) (w53)) (fun w58 =>
gocall Tryz.prog (17) [(I (3)), (I (100)), (I (3))] (fun v59 w60 =>
asPtr (v59) (fun p61 w62 =>
ld (⟨k9, 0, none⟩) (fun v63 w64 =>
asI .i64 (v63) (fun n65 w66 =>
gocall Tryz.prog (23) [(Value.pointer p61), (I (n65))] (fun v67 w68 =>
asT (2) (v67) (fun f69 w70 =>
asSl (f69 0) (fun p71 k72 k73 w74 =>
asI .i64 (f69 1) (fun n75 w76 =>
br (n75 != 6) (fun w77 =>
K (.bool (false)) (w77)) (fun w78 =>
ld (⟨k9, 0, none⟩) (fun v79 w80 =>
asI .i64 (v79) (fun n81 w82 =>
ld (⟨k9, 1, none⟩) (fun v83 w84 =>
asI .i64 (v83) (fun n85 w86 =>
ld (⟨k9, 2, none⟩) (fun v87 w88 =>
asI .i64 (v87) (fun n89 w90 =>
ld (⟨k9, 3, none⟩) (fun v91 w92 =>
asI .i64 (v91) (fun n93 w94 =>
ld (⟨k9, 4, none⟩) (fun v95 w96 =>
asI .i64 (v95) (fun n97 w98 =>
ld (⟨k9, 5, none⟩) (fun v99 w100 =>
asSl (v99) (fun p101 k102 k103 w104 =>
gocall Tryz.prog (18) [(Value.pointer p61), (Value.agg #[(I (n81)), (I (n85)), (I (n89)), (I (n93)), (I (n97)), (.slice p101 (k102) (k103))])] (fun v105 w106 =>
asT (2) (v105) (fun f107 w108 =>
asSl (f107 0) (fun p109 k110 k111 w112 =>
asI .i64 (f107 1) (fun n113 w114 =>
ld (⟨k9, 0, none⟩) (fun v115 w116 =>
asI .i64 (v115) (fun n117 w118 =>
gocall Tryz.prog (23) [(Value.pointer p61), (I (n117))] (fun v119 w120 =>
asT (2) (v119) (fun f121 w122 =>
asSl (f121 0) (fun p123 k124 k125 w126 =>
asI .i64 (f121 1) (fun n127 w128 =>
br (n127 != 0) (fun w129 =>
K (.bool (false)) (w129)) (fun w130 =>
ld (⟨k9, 0, none⟩) (fun v131 w132 =>
asI .i64 (v131) (fun n133 w134 =>
gocall Tryz.prog (23) [(Value.pointer p61), (I (n133))] (fun v135 w136 =>
asT (2) (v135) (fun f137 w138 =>
asSl (f137 0) (fun p139 k140 k141 w142 =>
asI .i64 (f137 1) (fun n143 w144 =>
br (b6) (fun w145 =>
ld (⟨k9, 0, none⟩) (fun v146 w147 =>
asI .i64 (v146) (fun n148 w149 =>
gocall Tryz.prog (19) [(Value.pointer p61), (Value.agg #[(I (7)), (I (1)), (I (0)), (I (n148)), (I (0)), (I (0)), (I (0))])] (fun v150 w151 =>
asSl (v150) (fun p152 k153 k154 w155 =>
ld (⟨k9, 0, none⟩) (fun v156 w157 =>
asI .i64 (v156) (fun n158 w159 =>
gocall Tryz.prog (19) [(Value.pointer p61), (Value.agg #[(I (7)), (I (2)), (I (0)), (I (n158)), (I (0)), (I (0)), (I (0))])] (fun v160 w161 =>
asSl (v160) (fun p162 k163 k164 w165 =>
br (n143 == 7) (fun w166 =>
ld (⟨k9, 0, none⟩) (fun v167 w168 =>
asI .i64 (v167) (fun n169 w170 =>
gocall Tryz.prog (21) [(Value.pointer p61), (I (n169))] (fun v171 w172 =>
asI .i64 (v171) (fun n173 w174 =>
br (n173 == 4) (fun w175 =>
ld (⟨k9, 0, none⟩) (fun v176 w177 =>
asI .i64 (v176) (fun n178 w179 =>
gocall Tryz.prog (24) [(Value.pointer p61), (I (n178))] (fun v180 w181 =>
asI .i64 (v180) (fun n182 w183 =>
br (n182 == 7) (fun w184 =>
gocall Tryz.prog (16) [] (fun v185 w186 =>
asBoo (v185) (fun b187 w188 =>
K (.bool (b187)) (w188)) (w186)) (w184)) (fun w189 =>
K (.bool (false)) (w189)) (w183)) (w181)) (w179)) (w177)) (w175)) (fun w190 =>
K (.bool (false)) (w190)) (w174)) (w172)) (w170)) (w168)) (w166)) (fun w191 =>
K (.bool (false)) (w191)) (w165)) (w161)) (w159)) (w157)) (w155)) (w151)) (w149)) (w147)) (w145)) (fun w192 =>
br (n143 == 7) (fun w193 =>
ld (⟨k9, 0, none⟩) (fun v194 w195 =>
asI .i64 (v194) (fun n196 w197 =>
gocall Tryz.prog (21) [(Value.pointer p61), (I (n196))] (fun v198 w199 =>
asI .i64 (v198) (fun n200 w201 =>
br (n200 == 4) (fun w202 =>
ld (⟨k9, 0, none⟩) (fun v203 w204 =>
asI .i64 (v203) (fun n205 w206 =>
gocall Tryz.prog (24) [(Value.pointer p61), (I (n205))] (fun v207 w208 =>
asI .i64 (v207) (fun n209 w210 =>
br (n209 == 7) (fun w211 =>
gocall Tryz.prog (16) [] (fun v212 w213 =>
asBoo (v212) (fun b214 w215 =>
K (.bool (b214)) (w215)) (w213)) (w211)) (fun w216 =>
K (.bool (false)) (w216)) (w210)) (w208)) (w206)) (w204)) (w202)) (fun w217 =>
K (.bool (false)) (w217)) (w201)) (w199)) (w197)) (w195)) (w193)) (fun w218 =>
K (.bool (false)) (w218)) (w192)) (w144)) (w142)) (w138)) (w136)) (w134)) (w132)) (w130)) (w128)) (w126)) (w122)) (w120)) (w118)) (w116)) (w114)) (w112)) (w108)) (w106)) (w104)) (w100)) (w98)) (w96)) (w94)) (w92)) (w90)) (w88)) (w86)) (w84)) (w82)) (w80)) (w78)) (w76)) (w74)) (w70)) (w68)) (w66)) (w64)) (w62)) (w60)) (w58)) (w52)) (w50)) (w48)) (w44)) (w42)) (w40)) (w38)) (w36)) (w34)) (w32)) (w30)) (w28)) (w26)) (w24)) (w22)) (w16)) (w12)) (w10)) (w)
theorem F4_eq (x0 : Int) (x1 : Int) (x2 : Int) (x3 : Int) (x4 : Int) (a5 : Option Addr) (n5 : Nat) (c5 : Nat) (b6 : Bool) : sBody Tryz.prog [] Tryz.f4 [(Value.agg #[(I x0), (I x1), (I x2), (I x3), (I x4), (.slice a5 n5 c5)]), (.bool b6)] = F4 x0 x1 x2 x3 x4 a5 n5 c5 b6 := by kernel_rfl
theorem F4_go (x0 : Int) (x1 : Int) (x2 : Int) (x3 : Int) (x4 : Int) (a5 : Option Addr) (n5 : Nat) (c5 : Nat) (b6 : Bool) {K : KV} {w : World} (h : F4 x0 x1 x2 x3 x4 a5 n5 c5 b6 K w) : gocall Tryz.prog 4 [(Value.agg #[(I x0), (I x1), (I x2), (I x3), (I x4), (.slice a5 n5 c5)]), (.bool b6)] K w :=
⟨by kernel_rfl, calls_of_sBody (T := []) mixed Tryz.func4 (by kernel_rfl) (by rw [F4_eq]; exact h)⟩
end Go.Proofs.YtcfmnoimehcfnaaGreatDoor
