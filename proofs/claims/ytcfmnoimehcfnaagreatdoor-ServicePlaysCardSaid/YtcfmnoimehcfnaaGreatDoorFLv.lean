/- The shallow readings of some functions of the program (printed by a program of ours out of the model's own evaluation) and, for each, the proof that it is one. Conditions: none. -/
import Derived.Test.YtcfmnoimehcfnaaGreatDoorFRv
set_option maxRecDepth 100000
set_option linter.unusedVariables false
namespace Go.Proofs.YtcfmnoimehcfnaaGreatDoor
open Go Go.Sh
def F6 (x0 : Int) (x1 : Int) (x2 : Int) (a3 : Option Addr) (n3 : Nat) (c3 : Nat) (K : KV) : World → Prop :=
cP 42 [(I x0), (I x1), (I x2)] fun p8 =>
cP 43 [(I x0), (I x1), (I x2)] fun p12 =>
br_ (! (if true = true then p8.isSome else p8.isNone) == if true = true then p12.isSome else p12.isNone) (K (.bool false)) (jn_ (X := Unit) (fun J16 =>
br_ p12.isNone (cB 44 [] fun b21 =>
K (.bool b21)) (J16 ())) fun x24 =>
jn_ (X := Unit) (fun J26 =>
lp_ (X := Int × Unit) (0, ()) fun x28 rec29 =>
jn_ (X := Unit) (fun J31 =>
br_ (decide (x28.fst < (↑n3 : Int))) (J31 ()) (J26 ())) fun x35 =>
sa_ a3 n3 x28.fst 10 fun a37 =>
lI a37 fun n41 =>
lI (a37.o 1) fun n45 =>
lI (a37.o 2) fun n49 =>
lI (a37.o 3) fun n53 =>
lI (a37.o 4) fun n57 =>
lI (a37.o 5) fun n61 =>
lI (a37.o 6) fun n65 =>
lI (a37.o 7) fun n69 =>
lI (a37.o 8) fun n73 =>
lI (a37.o 9) fun n77 =>
nw_ (.cells #[(I 0), (I 0), (I 0), (I 0), (I 0), (I 0), (I 0), (I 0), (I 0), (I 0)] 71 (0, 0)) fun k79 =>
st_ ⟨k79, 0, none⟩ (I n41) (st_ ⟨k79, 1, none⟩ (I n45) (st_ ⟨k79, 2, none⟩ (I n49) (st_ ⟨k79, 3, none⟩ (I n53) (st_ ⟨k79, 4, none⟩ (I n57) (st_ ⟨k79, 5, none⟩ (I n61) (st_ ⟨k79, 6, none⟩ (I n65) (st_ ⟨k79, 7, none⟩ (I n69) (st_ ⟨k79, 8, none⟩ (I n73) (st_ ⟨k79, 9, none⟩ (I n77) (jn_ (X := Unit) (fun J91 =>
br_ (decide (x28.fst ≥ 80)) (J26 ()) (J91 ())) fun x95 =>
jn_ (X := Bool × Unit) (fun J97 =>
lI ⟨k79, 0, none⟩ fun n101 =>
br_ (n101 == 0) (lI ⟨k79, 1, none⟩ fun n106 =>
lI ⟨k79, 2, none⟩ fun n110 =>
c_ 45 [(.pointer p8), (I n106), (I n110)] fun v112 =>
aT 0 v112 fun f114 =>
lI ⟨k79, 1, none⟩ fun n118 =>
lI ⟨k79, 2, none⟩ fun n122 =>
c_ 46 [(.pointer p12), (I n118), (I n122)] fun v124 =>
aT 0 v124 fun f126 =>
J97 (true, ())) (br_ (n101 == 1) (c_ 47 [(.pointer p8)] fun v130 =>
aT 0 v130 fun f132 =>
c_ 48 [(.pointer p12)] fun v134 =>
aT 0 v134 fun f136 =>
J97 (true, ())) (drw (kps fun S139 =>
ldS_ S139 ⟨k79, 3, none⟩ fun v141 =>
aI v141 fun n143 =>
ldS_ S139 ⟨k79, 4, none⟩ fun v145 =>
aI v145 fun n147 =>
ldS_ S139 ⟨k79, 5, none⟩ fun v149 =>
aI v149 fun n151 =>
ldS_ S139 ⟨k79, 6, none⟩ fun v153 =>
aI v153 fun n155 =>
ldS_ S139 ⟨k79, 7, none⟩ fun v157 =>
aI v157 fun n159 =>
ldS_ S139 ⟨k79, 8, none⟩ fun v161 =>
aI v161 fun n163 =>
ldS_ S139 ⟨k79, 9, none⟩ fun v165 =>
aI v165 fun n167 =>
ldS_ S139 ⟨k79, 3, none⟩ fun v169 =>
aI v169 fun n171 =>
ldS_ S139 ⟨k79, 4, none⟩ fun v173 =>
aI v173 fun n175 =>
ldS_ S139 ⟨k79, 5, none⟩ fun v177 =>
aI v177 fun n179 =>
ldS_ S139 ⟨k79, 6, none⟩ fun v181 =>
aI v181 fun n183 =>
ldS_ S139 ⟨k79, 7, none⟩ fun v185 =>
aI v185 fun n187 =>
ldS_ S139 ⟨k79, 8, none⟩ fun v189 =>
aI v189 fun n191 =>
ldS_ S139 ⟨k79, 9, none⟩ fun v193 =>
aI v193 fun n195 =>
cL 49 [(.pointer p8), (.agg #[(I n143), (I n147), (I n151), (I n155), (I n159), (I n163), (I n167)])] fun p199 k200 k201 =>
kp_ S139 (cL 50 [(.pointer p12), (.agg #[(I n171), (I n175), (I n179), (I n183), (I n187), (I n191), (I n195)])] fun p206 k207 k208 =>
kp_ S139 (cB 31 [(.slice p199 k200 k201), (.slice p206 k207 k208)] fun b213 =>
kp_ S139 (J97 (b213, ())))))))) fun x216 =>
drw (kps fun S218 =>
br_ (!x216.fst) (K (.bool false)) (ldS_ S218 ⟨k79, 6, none⟩ fun v222 =>
aI v222 fun n224 =>
ldS_ S218 ⟨k79, 6, none⟩ fun v226 =>
aI v226 fun n228 =>
cI 51 [(.pointer p8), (I n224)] fun n232 =>
kp_ S218 (cI 52 [(.pointer p12), (I n228)] fun n237 =>
kp_ S218 (br_ (n232 != n237) (K (.bool false)) (nn_ p12 fun a242 =>
ldS_ S218 (a242.o 3) fun v244 =>
aP v244 fun p246 =>
nn_ p246 fun a248 =>
ldS_ S218 a248 fun v250 =>
aI v250 fun n252 =>
cI 53 [(.pointer p8)] fun n256 =>
kp_ S218 (br_ (n256 != n252) (K (.bool false)) (nn_ p12 fun a261 =>
ldS_ S218 (a261.o 2) fun v263 =>
aP v263 fun p265 =>
nn_ p265 fun a267 =>
ldS_ S218 (a267.o 3) fun v269 =>
aB v269 fun b271 =>
cB 54 [(.pointer p8)] fun b275 =>
kp_ S218 (br_ (!b275 == b271) (K (.bool false)) (rec29 (IntKind.i64.wrap (x28.fst + 1), ()))))))))))))))))))))) fun x280 =>
cB 44 [] fun b284 =>
K (.bool b284))
theorem F6_go {x0 x1 x2 a3 n3 c3 K w} : F6 x0 x1 x2 a3 n3 c3 K w → c_ 6 [(I x0), (I x1), (I x2), (.slice a3 n3 c3)] K w := goT (T := [(12, [0, 1, 2, 4, 5, 6, 3, 7, 8, 9]), (19, [0, 1, 2, 3, 4, 5, 6, 8, 9, 10, 11, 7, 12, 13, 14, 15, 16, 18, 19, 20, 21, 22, 23, 24, 17, 25, 26, 27, 28, 30, 31, 32, 33, 34, 35, 36, 29, 37, 38]), (4000006, []), (4000022, []), (4000008, []), (4000010, []), (4000019, [13, 1])]) Tryz.func6 (by kernel_rfl)
end Go.Proofs.YtcfmnoimehcfnaaGreatDoor
