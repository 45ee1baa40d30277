/- The shallow readings of some functions of the program (printed by a program of ours out of the model's own evaluation) and, for each, the proof that it is one. Conditions: none. -/
import Derived.Test.YtcfmnoimehcfnaaGreatDoorFX
set_option maxRecDepth 100000
set_option linter.unusedVariables false
namespace Go.Proofs.YtcfmnoimehcfnaaGreatDoor
open Go Go.Sh
def F20 (x0 : Int) (x1 : Int) (x2 : Int) (x3 : Int) (x4 : Int) (x5 : Int) (x6 : Int) (x7 : Int) (K : KV) : World → Prop :=
nw_ (.cells #[(I x0), (I x1), (I x2), (I x3), (I x4), (I x5), (I x6)] 35 (0, 0)) fun k8 =>
nw_ (.cells #[(I 0), (I 0), (I 0), (I 0), (I 0), (I 0), (I 0)] 35 (0, 0)) fun k10 =>
lI ⟨k8, 2, none⟩ fun n14 =>
lI ⟨k8, 3, none⟩ fun n18 =>
lI ⟨k8, 4, none⟩ fun n22 =>
nw_ (.cells #[(I 0), (I 0), (I 0), (I 0), (I 0), (I 0), (I 0)] 35 (0, 0)) fun k24 =>
st_ ⟨k24, 0, none⟩ (I 0) (st_ ⟨k24, 1, none⟩ (I n14) (st_ ⟨k24, 2, none⟩ (I 0) (st_ ⟨k24, 3, none⟩ (I n18) (st_ ⟨k24, 4, none⟩ (I n22) (st_ ⟨k24, 5, none⟩ (I 0) (st_ ⟨k24, 6, none⟩ (I 0) (jn_ (X := Unit) (fun J33 =>
lI ⟨k8, 0, none⟩ fun n37 =>
br_ (n37 == 1) (st_ ⟨k24, 0, none⟩ (I 2) (br_ (IntKind.i64.wrap (↑ (BitVec.ofInt IntKind.i64.bits x7 &&& BitVec.ofInt IntKind.i64.bits 7).toNat : Int) == 0) (st_ ⟨k24, 0, none⟩ (I 3) (J33 ())) (J33 ()))) (br_ (n37 == 6) (st_ ⟨k24, 0, none⟩ (I 7) (br_ (IntKind.i64.wrap (↑ (BitVec.ofInt IntKind.i64.bits x7 &&& BitVec.ofInt IntKind.i64.bits 7).toNat : Int) == 0) (st_ ⟨k24, 0, none⟩ (I 8) (J33 ())) (J33 ()))) (br_ (n37 == 4) (st_ ⟨k24, 0, none⟩ (I 5) (J33 ())) (jn_ (X := Bool × Unit) (fun J54 =>
br_ (n37 == 9) (J54 (true, ())) (J54 (n37 == 10, ()))) fun x58 =>
br_ x58.fst (st_ ⟨k24, 0, none⟩ (I 11) (br_ (IntKind.i64.wrap (↑ (BitVec.ofInt IntKind.i64.bits x7 &&& BitVec.ofInt IntKind.i64.bits 7).toNat : Int) == 0) (st_ ⟨k24, 0, none⟩ (I 17) (J33 ())) (J33 ()))) (br_ (n37 == 15) (st_ ⟨k24, 0, none⟩ (I 16) (J33 ())) (J33 ())))))) fun x69 =>
lI ⟨k24, 0, none⟩ fun n73 =>
lI ⟨k24, 1, none⟩ fun n77 =>
lI ⟨k24, 2, none⟩ fun n81 =>
lI ⟨k24, 3, none⟩ fun n85 =>
lI ⟨k24, 4, none⟩ fun n89 =>
lI ⟨k24, 5, none⟩ fun n93 =>
lI ⟨k24, 6, none⟩ fun n97 =>
st_ ⟨k10, 0, none⟩ (I n73) (st_ ⟨k10, 1, none⟩ (I n77) (st_ ⟨k10, 2, none⟩ (I n81) (st_ ⟨k10, 3, none⟩ (I n85) (st_ ⟨k10, 4, none⟩ (I n89) (st_ ⟨k10, 5, none⟩ (I n93) (st_ ⟨k10, 6, none⟩ (I n97) (lI ⟨k10, 0, none⟩ fun n108 =>
lI ⟨k10, 1, none⟩ fun n112 =>
lI ⟨k10, 2, none⟩ fun n116 =>
lI ⟨k10, 3, none⟩ fun n120 =>
lI ⟨k10, 4, none⟩ fun n124 =>
lI ⟨k10, 5, none⟩ fun n128 =>
lI ⟨k10, 6, none⟩ fun n132 =>
K (.agg #[(I n108), (I n112), (I n116), (I n120), (I n124), (I n128), (I n132)])))))))))))))))
theorem F20_go {x0 x1 x2 x3 x4 x5 x6 x7 K w} : F20 x0 x1 x2 x3 x4 x5 x6 x7 K w → c_ 20 [(.agg #[(I x0), (I x1), (I x2), (I x3), (I x4), (I x5), (I x6)]), (I x7)] K w := goT (T := [(4000020, []), (4000015, [32, 1])]) Tryz.func20 (by kernel_rfl)
def F3 (x0 : Int) (x1 : Int) (x2 : Int) (x3 : Int) (x4 : Int) (a5 : Option Addr) (n5 : Nat) (c5 : Nat) (x6 : Int) (b7 : Bool) (K : KV) : World → Prop :=
nw_ (.cells #[(I x0), (I x1), (I x2), (I x3), (I x4), (.slice a5 n5 c5)] 24 (0, 0)) fun k10 =>
lL ⟨k10, 5, none⟩ fun p14 k15 k16 =>
br_ (decide ((↑k15 : Int) > 10)) (cB 16 [] fun b21 =>
K (.bool b21)) (lI ⟨k10, 0, none⟩ fun n26 =>
lI ⟨k10, 1, none⟩ fun n30 =>
lI ⟨k10, 2, none⟩ fun n34 =>
lI ⟨k10, 3, none⟩ fun n38 =>
lI ⟨k10, 4, none⟩ fun n42 =>
lL ⟨k10, 5, none⟩ fun p46 k47 k48 =>
cB 15 [(.agg #[(I n26), (I n30), (I n34), (I n38), (I n42), (.slice p46 k47 k48)])] fun b52 =>
br_ (!b52) (cB 16 [] fun b57 =>
K (.bool b57)) (divW_ 20 (cP 17 [(I 3), (I 4096), (I (IntKind.i64.wrap (1 + IntKind.i64.wrap ((IntKind.u64.wrap x6).tmod 20))))] fun p63 =>
lI ⟨k10, 0, none⟩ fun n67 =>
lI ⟨k10, 1, none⟩ fun n71 =>
lI ⟨k10, 2, none⟩ fun n75 =>
lI ⟨k10, 3, none⟩ fun n79 =>
lI ⟨k10, 4, none⟩ fun n83 =>
lL ⟨k10, 5, none⟩ fun p87 k88 k89 =>
c_ 18 [(.pointer p63), (.agg #[(I n67), (I n71), (I n75), (I n79), (I n83), (.slice p87 k88 k89)])] fun v91 =>
aT 2 v91 fun f93 =>
aL (f93 0) fun p95 k96 k97 =>
aI (f93 1) fun n99 =>
br_ (n99 != 0) (K (.bool false)) (br_ b7 (lp_ (X := Int × ((Option Addr) × Nat × Nat) × Unit) (0, ((p95, k96, k97), ())) fun x104 rec105 =>
br_ (decide (x104.fst < 10)) (lp_ (X := Int × ((Option Addr) × Nat × Nat) × Unit) (0, ((x104.snd.fst.1, x104.snd.fst.snd.fst, x104.snd.fst.snd.snd), ())) fun x108 rec109 =>
br_ (decide (x108.fst < (↑x104.snd.fst.snd.fst : Int))) (sa_ x104.snd.fst.1 x104.snd.fst.snd.fst x108.fst 7 fun a112 =>
lI a112 fun n116 =>
lI (a112.o 1) fun n120 =>
lI (a112.o 2) fun n124 =>
lI (a112.o 3) fun n128 =>
lI (a112.o 4) fun n132 =>
lI (a112.o 5) fun n136 =>
lI (a112.o 6) fun n140 =>
nw_ (.cells #[(I 0), (I 0), (I 0), (I 0), (I 0), (I 0), (I 0)] 35 (0, 0)) fun k142 =>
st_ ⟨k142, 0, none⟩ (I n116) (st_ ⟨k142, 1, none⟩ (I n120) (st_ ⟨k142, 2, none⟩ (I n124) (st_ ⟨k142, 3, none⟩ (I n128) (st_ ⟨k142, 4, none⟩ (I n132) (st_ ⟨k142, 5, none⟩ (I n136) (st_ ⟨k142, 6, none⟩ (I n140) (lI ⟨k142, 0, none⟩ fun n153 =>
br_ (n153 == 1) (lI ⟨k142, 0, none⟩ fun n158 =>
lI ⟨k142, 1, none⟩ fun n162 =>
lI ⟨k142, 2, none⟩ fun n166 =>
lI ⟨k142, 3, none⟩ fun n170 =>
lI ⟨k142, 4, none⟩ fun n174 =>
lI ⟨k142, 5, none⟩ fun n178 =>
lI ⟨k142, 6, none⟩ fun n182 =>
c_ 20 [(.agg #[(I n158), (I n162), (I n166), (I n170), (I n174), (I n178), (I n182)]), (I 1)] fun v184 =>
aN 7 v184 fun f186 =>
aI (f186 0) fun n188 =>
aI (f186 1) fun n190 =>
aI (f186 2) fun n192 =>
aI (f186 3) fun n194 =>
aI (f186 4) fun n196 =>
aI (f186 5) fun n198 =>
aI (f186 6) fun n200 =>
cL 19 [(.pointer p63), (.agg #[(I n188), (I n190), (I n192), (I n194), (I n196), (I n198), (I n200)])] fun p204 k205 k206 =>
rec109 (IntKind.i64.wrap (x108.fst + 1), ((p204, k205, k206), ()))) (lI ⟨k142, 0, none⟩ fun n211 =>
br_ (n211 == 6) (lI ⟨k142, 0, none⟩ fun n216 =>
lI ⟨k142, 1, none⟩ fun n220 =>
lI ⟨k142, 2, none⟩ fun n224 =>
lI ⟨k142, 3, none⟩ fun n228 =>
lI ⟨k142, 4, none⟩ fun n232 =>
lI ⟨k142, 5, none⟩ fun n236 =>
lI ⟨k142, 6, none⟩ fun n240 =>
c_ 20 [(.agg #[(I n216), (I n220), (I n224), (I n228), (I n232), (I n236), (I n240)]), (I 1)] fun v242 =>
aN 7 v242 fun f244 =>
aI (f244 0) fun n246 =>
aI (f244 1) fun n248 =>
aI (f244 2) fun n250 =>
aI (f244 3) fun n252 =>
aI (f244 4) fun n254 =>
aI (f244 5) fun n256 =>
aI (f244 6) fun n258 =>
cL 19 [(.pointer p63), (.agg #[(I n246), (I n248), (I n250), (I n252), (I n254), (I n256), (I n258)])] fun p262 k263 k264 =>
rec109 (IntKind.i64.wrap (x108.fst + 1), ((p262, k263, k264), ()))) (rec109 (IntKind.i64.wrap (x108.fst + 1), ((x108.snd.fst.1, x108.snd.fst.snd.fst, x108.snd.fst.snd.snd), ())))))))))))) (rec105 (IntKind.i64.wrap (x104.fst + 1), ((x108.snd.fst.1, x108.snd.fst.snd.fst, x108.snd.fst.snd.snd), ())))) (lI ⟨k10, 0, none⟩ fun n271 =>
cI 21 [(.pointer p63), (I n271)] fun n275 =>
br_ (n275 != 3) (K (.bool false)) (lp_ (X := Int × Bool × Unit) (0, (false, ())) fun x279 rec280 =>
br_ (decide (x279.fst < IntKind.i64.wrap (1 + IntKind.i64.wrap ((IntKind.u64.wrap x6).tmod 20)))) (lI ⟨k10, 0, none⟩ fun n285 =>
cL 22 [(.pointer p63), (I n285)] fun p289 k290 k291 =>
br_ ((↑k290 : Int) == 0) (K (.bool false)) (lI ⟨k10, 0, none⟩ fun n297 =>
cI 21 [(.pointer p63), (I n297)] fun n301 =>
br_ (n301 == 4) (K (.bool false)) (rec280 (IntKind.i64.wrap (x279.fst + 1), (x279.snd.fst, ()))))) (lI ⟨k10, 0, none⟩ fun n308 =>
cL 22 [(.pointer p63), (I n308)] fun p312 k313 k314 =>
br_ ((↑k313 : Int) == 0) (K (.bool false)) (br_ b7 (lI ⟨k10, 0, none⟩ fun n321 =>
cI 21 [(.pointer p63), (I n321)] fun n325 =>
br_ (n325 == 3) (cB 16 [] fun b330 =>
K (.bool b330)) (K (.bool false))) (lI ⟨k10, 0, none⟩ fun n336 =>
cI 21 [(.pointer p63), (I n336)] fun n340 =>
br_ (n340 == 4) (cB 16 [] fun b345 =>
K (.bool b345)) (K (.bool false)))))))) (lp_ (X := Int × Bool × Unit) (0, (false, ())) fun x349 rec350 =>
br_ (decide (x349.fst < IntKind.i64.wrap (1 + IntKind.i64.wrap ((IntKind.u64.wrap x6).tmod 20)))) (lI ⟨k10, 0, none⟩ fun n355 =>
cL 22 [(.pointer p63), (I n355)] fun p359 k360 k361 =>
br_ ((↑k360 : Int) == 0) (K (.bool false)) (lI ⟨k10, 0, none⟩ fun n367 =>
cI 21 [(.pointer p63), (I n367)] fun n371 =>
br_ (n371 == 4) (K (.bool false)) (rec350 (IntKind.i64.wrap (x349.fst + 1), (x349.snd.fst, ()))))) (lI ⟨k10, 0, none⟩ fun n378 =>
cL 22 [(.pointer p63), (I n378)] fun p382 k383 k384 =>
br_ ((↑k383 : Int) == 0) (K (.bool false)) (br_ b7 (lI ⟨k10, 0, none⟩ fun n391 =>
cI 21 [(.pointer p63), (I n391)] fun n395 =>
br_ (n395 == 3) (cB 16 [] fun b400 =>
K (.bool b400)) (K (.bool false))) (lI ⟨k10, 0, none⟩ fun n406 =>
cI 21 [(.pointer p63), (I n406)] fun n410 =>
br_ (n410 == 4) (cB 16 [] fun b415 =>
K (.bool b415)) (K (.bool false))))))))))
theorem F3_go {x0 x1 x2 x3 x4 a5 n5 c5 x6 b7 K w} : F3 x0 x1 x2 x3 x4 a5 n5 c5 x6 b7 K w → c_ 3 [(.agg #[(I x0), (I x1), (I x2), (I x3), (I x4), (.slice a5 n5 c5)]), (I x6), (.bool b7)] K w := goF Tryz.func3 (by kernel_rfl)
end Go.Proofs.YtcfmnoimehcfnaaGreatDoor
