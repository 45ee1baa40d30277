/- The shallow readings of some functions of the program (printed by a program of ours out of the model's own evaluation) and, for each, the proof that it is one. Conditions: none. -/
import Derived.Test.YtcfmnoimehcfnaaGreatDoorFRs
set_option maxRecDepth 100000
set_option linter.unusedVariables false
namespace Go.Proofs.YtcfmnoimehcfnaaGreatDoor
open Go Go.Sh
def F5 (x0 : Int) (a1 : Option Addr) (n1 : Nat) (c1 : Nat) (K : KV) : World → Prop :=
cP 25 [(I x0)] fun p6 =>
cP 26 [(I x0)] fun p10 =>
jn_ (X := Unit) (fun J12 =>
br_ p6.isNone (K (.bool false)) (J12 ())) fun x16 =>
jn_ (X := Unit) (fun J18 =>
lp_ (X := Int × Unit) (0, ()) fun x20 rec21 =>
br_ (decide (x20.fst < (↑n1 : Int))) (sa_ a1 n1 x20.fst 10 fun a24 =>
lI a24 fun n28 =>
lI (a24.o 1) fun n32 =>
lI (a24.o 2) fun n36 =>
lI (a24.o 3) fun n40 =>
lI (a24.o 4) fun n44 =>
lI (a24.o 5) fun n48 =>
lI (a24.o 6) fun n52 =>
lI (a24.o 7) fun n56 =>
lI (a24.o 8) fun n60 =>
lI (a24.o 9) fun n64 =>
nw_ (.cells #[(I 0), (I 0), (I 0), (I 0), (I 0), (I 0), (I 0), (I 0), (I 0), (I 0)] 50 (0, 0)) fun k66 =>
st_ ⟨k66, 0, none⟩ (I n28) (st_ ⟨k66, 1, none⟩ (I n32) (st_ ⟨k66, 2, none⟩ (I n36) (st_ ⟨k66, 3, none⟩ (I n40) (st_ ⟨k66, 4, none⟩ (I n44) (st_ ⟨k66, 5, none⟩ (I n48) (st_ ⟨k66, 6, none⟩ (I n52) (st_ ⟨k66, 7, none⟩ (I n56) (st_ ⟨k66, 8, none⟩ (I n60) (st_ ⟨k66, 9, none⟩ (I n64) (jn_ (X := Unit) (fun J78 =>
br_ (decide (x20.fst ≥ 80)) (J18 ()) (J78 ())) fun x82 =>
jn_ (X := Bool × Unit) (fun J84 =>
lI ⟨k66, 0, none⟩ fun n88 =>
br_ (n88 == 0) (lI ⟨k66, 1, none⟩ fun n93 =>
lI ⟨k66, 2, none⟩ fun n97 =>
c_ 27 [(.pointer p6), (I n93), (I n97)] fun v99 =>
aT 0 v99 fun f101 =>
lI ⟨k66, 1, none⟩ fun n105 =>
lI ⟨k66, 2, none⟩ fun n109 =>
c_ 28 [(.pointer p10), (I n105), (I n109)] fun v111 =>
aT 0 v111 fun f113 =>
J84 (true, ())) (br_ (n88 == 1) (c_ 29 [(.pointer p6)] fun v117 =>
aT 0 v117 fun f119 =>
c_ 30 [(.pointer p10)] fun v121 =>
aT 0 v121 fun f123 =>
J84 (true, ())) (drw (kps fun S126 =>
ldS_ S126 ⟨k66, 3, none⟩ fun v128 =>
aI v128 fun n130 =>
ldS_ S126 ⟨k66, 4, none⟩ fun v132 =>
aI v132 fun n134 =>
ldS_ S126 ⟨k66, 5, none⟩ fun v136 =>
aI v136 fun n138 =>
ldS_ S126 ⟨k66, 6, none⟩ fun v140 =>
aI v140 fun n142 =>
ldS_ S126 ⟨k66, 7, none⟩ fun v144 =>
aI v144 fun n146 =>
ldS_ S126 ⟨k66, 8, none⟩ fun v148 =>
aI v148 fun n150 =>
ldS_ S126 ⟨k66, 9, none⟩ fun v152 =>
aI v152 fun n154 =>
ldS_ S126 ⟨k66, 3, none⟩ fun v156 =>
aI v156 fun n158 =>
ldS_ S126 ⟨k66, 4, none⟩ fun v160 =>
aI v160 fun n162 =>
ldS_ S126 ⟨k66, 5, none⟩ fun v164 =>
aI v164 fun n166 =>
ldS_ S126 ⟨k66, 6, none⟩ fun v168 =>
aI v168 fun n170 =>
ldS_ S126 ⟨k66, 7, none⟩ fun v172 =>
aI v172 fun n174 =>
ldS_ S126 ⟨k66, 8, none⟩ fun v176 =>
aI v176 fun n178 =>
ldS_ S126 ⟨k66, 9, none⟩ fun v180 =>
aI v180 fun n182 =>
cL 32 [(.pointer p6), (.agg #[(I n130), (I n134), (I n138), (I n142), (I n146), (I n150), (I n154)])] fun p186 k187 k188 =>
kp_ S126 (cL 33 [(.pointer p10), (.agg #[(I n158), (I n162), (I n166), (I n170), (I n174), (I n178), (I n182)])] fun p193 k194 k195 =>
kp_ S126 (cB 31 [(.slice p186 k187 k188), (.slice p193 k194 k195)] fun b200 =>
kp_ S126 (J84 (b200, ())))))))) fun x203 =>
drw (kps fun S205 =>
br_ (!x203.fst) (K (.bool false)) (cP 34 [(.pointer p6)] fun p211 =>
kp_ S205 (br_ p211.isNone (K (.bool false)) (nn_ p10 fun a216 =>
ldS_ S205 (a216.o 1) fun v218 =>
aP v218 fun p220 =>
cP 34 [(.pointer p6)] fun p224 =>
kp_ S205 (cL 36 [(.pointer p224)] fun p229 k230 k231 =>
kp_ S205 (cL 37 [(.pointer p220)] fun p236 k237 k238 =>
kp_ S205 (cB 35 [(.slice p229 k230 k231), (.slice p236 k237 k238)] fun b243 =>
kp_ S205 (br_ (!b243) (K (.bool false)) (ldS_ S205 ⟨k66, 8, none⟩ fun v248 =>
aI v248 fun n250 =>
nn_ p10 fun a252 =>
ldS_ S205 (a252.o 1) fun v254 =>
aP v254 fun p256 =>
ldS_ S205 ⟨k66, 8, none⟩ fun v258 =>
aI v258 fun n260 =>
cP 34 [(.pointer p6)] fun p264 =>
kp_ S205 (cI 38 [(.pointer p264), (I n250)] fun n269 =>
kp_ S205 (cI 39 [(.pointer p256), (I n260)] fun n274 =>
kp_ S205 (br_ (n269 != n274) (K (.bool false)) (nn_ p10 fun a279 =>
ldS_ S205 a279 fun v281 =>
aP v281 fun p283 =>
nn_ p283 fun a285 =>
ldS_ S205 (a285.o 3) fun v287 =>
aB v287 fun b289 =>
cB 40 [(.pointer p6)] fun b293 =>
kp_ S205 (br_ (!b293 == b289) (K (.bool false)) (rec21 (IntKind.i64.wrap (x20.fst + 1), ()))))))))))))))))))))))))))) (J18 ())) fun x299 =>
cB 41 [] fun b303 =>
K (.bool b303)
theorem F5_go {x0 a1 n1 c1 K w} : F5 x0 a1 n1 c1 K w → c_ 5 [(I x0), (.slice a1 n1 c1)] K w := goT (T := [(10, [0, 1, 2, 4, 5, 6, 3, 7, 8, 9]), (17, [0, 1, 2, 3, 4, 5, 6, 7, 8, 11, 12, 13, 14, 9, 10, 15, 16, 17, 18, 19, 20, 22, 23, 24, 26, 27, 28, 29, 30, 31, 32, 21, 25, 33, 34, 35, 36, 37, 39, 40, 41, 42, 43, 44, 45, 38, 46, 47]), (4000004, []), (4000020, []), (4000008, []), (4000017, [9, 1])]) Tryz.func5 (by kernel_rfl)
end Go.Proofs.YtcfmnoimehcfnaaGreatDoor
