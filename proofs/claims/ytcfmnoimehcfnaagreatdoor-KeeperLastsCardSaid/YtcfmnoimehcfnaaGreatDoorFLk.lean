/- The shallow readings of some functions of the program (printed by a program of ours out of the model's own evaluation) and, for each, the proof that it is one. Conditions: none. -/
import Derived.Test.YtcfmnoimehcfnaaGreatDoorFK
set_option maxRecDepth 100000
set_option linter.unusedVariables false
namespace Go.Proofs.YtcfmnoimehcfnaaGreatDoor
open Go Go.Sh
def F66 (a0 : Option Addr) (n0 : Nat) (c0 : Nat) (K : KV) : World → Prop :=
lp_ (X := Int × Int × Unit) (0, (0, ())) fun x3 rec4 =>
br_ (decide (x3.fst < (↑n0 : Int))) (sa_ a0 n0 x3.fst 1 fun a7 =>
lI a7 fun n11 =>
br_ (x3.fst == 0) (br_ (n11 != 0) (K (I 0)) (rec4 (IntKind.i64.wrap (x3.fst + 1), (x3.snd.fst, ())))) (sa_ a0 n0 (IntKind.i64.wrap (x3.fst - 1)) 1 fun a17 =>
lI a17 fun n21 =>
br_ (n11 != n21) (br_ (n21 == 0) (br_ (n11 == 1) (rec4 (IntKind.i64.wrap (x3.fst + 1), (x3.snd.fst, ()))) (br_ (!n11 == 3) (br_ (n21 == 1) (cB 153 [(I n11)] fun b31 =>
br_ (!b31) (K (I x3.fst)) (rec4 (IntKind.i64.wrap (x3.fst + 1), (x3.snd.fst, ())))) (K (I x3.fst))) (rec4 (IntKind.i64.wrap (x3.fst + 1), (x3.snd.fst, ()))))) (br_ (n21 == 1) (cB 153 [(I n11)] fun b41 =>
br_ (!b41) (K (I x3.fst)) (rec4 (IntKind.i64.wrap (x3.fst + 1), (x3.snd.fst, ())))) (K (I x3.fst)))) (rec4 (IntKind.i64.wrap (x3.fst + 1), (x3.snd.fst, ()))))) (K (I (↑n0 : Int)))
theorem F66_go {a0 n0 c0 K w} : F66 a0 n0 c0 K w → c_ 66 [(.slice a0 n0 c0)] K w := goF Tryz.func66 (by kernel_rfl)
def F153 (x0 : Int) (K : KV) : World → Prop :=
br_ (decide (x0 ≥ 2)) (K (.bool (decide (x0 ≤ 5)))) (K (.bool false))
theorem F153_go {x0 K w} : F153 x0 K w → c_ 153 [(I x0)] K w := goF Tryz.func153 (by kernel_rfl)
def F8 (x0 : Int) (a1 : Option Addr) (n1 : Nat) (c1 : Nat) (K : KV) : World → Prop :=
divW_ 10000 (nw_ (.cells #[(I (IntKind.i64.wrap ((IntKind.u64.wrap x0).tmod 10000)))] 3 (0, 0)) fun k5 =>
cP 56 [(I 1), (.slice (some ⟨k5, 0, none⟩) 1 1), (I 4096)] fun p9 =>
br_ p9.isNone (K (.bool false)) (nw_ (.cells #[(.slice none 0 0), (.slice none 0 0), (.slice none 0 0), (.slice none 0 0), (.slice none 0 0), (.slice none 0 0), (.slice none 0 0), (.slice none 0 0), (.slice none 0 0), (.slice none 0 0)] 87 (0, 0)) fun k13 =>
nw_ (.cells #[(I 0), (I 0), (I 0), (I 0), (I 0), (I 0), (I 0), (I 0), (I 0), (I 0)] 88 (0, 0)) fun k15 =>
jn_ (X := Unit) (fun J17 =>
lp_ (X := Int × Bool × Unit) (0, (false, ())) fun x19 rec20 =>
br_ (decide (x19.fst < (↑n1 : Int))) (sa_ a1 n1 x19.fst 11 fun a23 =>
lI a23 fun n27 =>
lI (a23.o 1) fun n31 =>
lI (a23.o 2) fun n35 =>
lB (a23.o 3) fun b39 =>
lI (a23.o 4) fun n43 =>
lI (a23.o 5) fun n47 =>
lI (a23.o 6) fun n51 =>
lI (a23.o 7) fun n55 =>
lI (a23.o 8) fun n59 =>
lI (a23.o 9) fun n63 =>
lI (a23.o 10) fun n67 =>
nw_ (.cells #[(I 0), (I 0), (I 0), (.bool false), (I 0), (I 0), (I 0), (I 0), (I 0), (I 0), (I 0)] 90 (0, 0)) fun k69 =>
st_ ⟨k69, 0, none⟩ (I n27) (st_ ⟨k69, 1, none⟩ (I n31) (st_ ⟨k69, 2, none⟩ (I n35) (st_ ⟨k69, 3, none⟩ (.bool b39) (st_ ⟨k69, 4, none⟩ (I n43) (st_ ⟨k69, 5, none⟩ (I n47) (st_ ⟨k69, 6, none⟩ (I n51) (st_ ⟨k69, 7, none⟩ (I n55) (st_ ⟨k69, 8, none⟩ (I n59) (st_ ⟨k69, 9, none⟩ (I n63) (st_ ⟨k69, 10, none⟩ (I n67) (br_ (decide (x19.fst ≥ 80)) (J17 ()) (lI ⟨k69, 7, none⟩ fun n86 =>
divW_ 9 (lI ⟨k69, 4, none⟩ fun n91 =>
lI ⟨k69, 5, none⟩ fun n95 =>
lI ⟨k69, 6, none⟩ fun n99 =>
lI ⟨k69, 7, none⟩ fun n103 =>
lI ⟨k69, 8, none⟩ fun n107 =>
lI ⟨k69, 9, none⟩ fun n111 =>
lI ⟨k69, 10, none⟩ fun n115 =>
nw_ (.cells #[(I 0), (I 0), (I 0), (I 0), (I 0), (I 0), (I 0)] 35 (0, 0)) fun k117 =>
st_ ⟨k117, 0, none⟩ (I n91) (st_ ⟨k117, 1, none⟩ (I n95) (st_ ⟨k117, 2, none⟩ (I n99) (st_ ⟨k117, 3, none⟩ (I n103) (st_ ⟨k117, 4, none⟩ (I n107) (st_ ⟨k117, 5, none⟩ (I n111) (st_ ⟨k117, 6, none⟩ (I n115) (jn_ (X := Unit) (fun J126 =>
drw (kps fun S128 =>
ldS_ S128 ⟨k69, 10, none⟩ fun v130 =>
aI v130 fun n132 =>
bo_ (kp_ S128 (divW_ 2000 (bo_ (kp_ S128 (st_ ⟨k117, 3, none⟩ (I (IntKind.i64.wrap (1 + IntKind.i64.wrap ((IntKind.u64.wrap n86).tmod 9)))) (kp_ S128 (st_ ⟨k117, 2, none⟩ (I 1) (kp_ S128 (st_ ⟨k117, 5, none⟩ (I 0) (kp_ S128 (st_ ⟨k117, 6, none⟩ (I (IntKind.i64.wrap (1 + IntKind.i64.wrap ((IntKind.u64.wrap n132).tmod 2000)))) (J126 ()))))))))) (st_ ⟨k117, 3, none⟩ (I (IntKind.i64.wrap (1 + IntKind.i64.wrap ((IntKind.u64.wrap n86).tmod 9)))) (kp_ S128 (bo_ (kp_ S128 (st_ ⟨k117, 2, none⟩ (I 1) (kp_ S128 (st_ ⟨k117, 5, none⟩ (I 0) (kp_ S128 (st_ ⟨k117, 6, none⟩ (I (IntKind.i64.wrap (1 + IntKind.i64.wrap ((IntKind.u64.wrap n132).tmod 2000)))) (J126 ()))))))) (st_ ⟨k117, 2, none⟩ (I 1) (kp_ S128 (bo_ (kp_ S128 (st_ ⟨k117, 5, none⟩ (I 0) (kp_ S128 (st_ ⟨k117, 6, none⟩ (I (IntKind.i64.wrap (1 + IntKind.i64.wrap ((IntKind.u64.wrap n132).tmod 2000)))) (J126 ()))))) (st_ ⟨k117, 5, none⟩ (I 0) (kp_ S128 (kp_ S128 (st_ ⟨k117, 6, none⟩ (I (IntKind.i64.wrap (1 + IntKind.i64.wrap ((IntKind.u64.wrap n132).tmod 2000)))) (J126 ())))))))))))))) (st_ ⟨k117, 3, none⟩ (I (IntKind.i64.wrap (1 + IntKind.i64.wrap ((IntKind.u64.wrap n86).tmod 9)))) (kp_ S128 (bo_ (kp_ S128 (divW_ 2000 (bo_ (kp_ S128 (st_ ⟨k117, 2, none⟩ (I 1) (kp_ S128 (st_ ⟨k117, 5, none⟩ (I 0) (kp_ S128 (st_ ⟨k117, 6, none⟩ (I (IntKind.i64.wrap (1 + IntKind.i64.wrap ((IntKind.u64.wrap n132).tmod 2000)))) (J126 ()))))))) (st_ ⟨k117, 2, none⟩ (I 1) (kp_ S128 (bo_ (kp_ S128 (st_ ⟨k117, 5, none⟩ (I 0) (kp_ S128 (st_ ⟨k117, 6, none⟩ (I (IntKind.i64.wrap (1 + IntKind.i64.wrap ((IntKind.u64.wrap n132).tmod 2000)))) (J126 ()))))) (st_ ⟨k117, 5, none⟩ (I 0) (kp_ S128 (kp_ S128 (st_ ⟨k117, 6, none⟩ (I (IntKind.i64.wrap (1 + IntKind.i64.wrap ((IntKind.u64.wrap n132).tmod 2000)))) (J126 ()))))))))))) (st_ ⟨k117, 2, none⟩ (I 1) (kp_ S128 (bo_ (kp_ S128 (divW_ 2000 (bo_ (kp_ S128 (st_ ⟨k117, 5, none⟩ (I 0) (kp_ S128 (st_ ⟨k117, 6, none⟩ (I (IntKind.i64.wrap (1 + IntKind.i64.wrap ((IntKind.u64.wrap n132).tmod 2000)))) (J126 ()))))) (st_ ⟨k117, 5, none⟩ (I 0) (kp_ S128 (kp_ S128 (st_ ⟨k117, 6, none⟩ (I (IntKind.i64.wrap (1 + IntKind.i64.wrap ((IntKind.u64.wrap n132).tmod 2000)))) (J126 ())))))))) (st_ ⟨k117, 5, none⟩ (I 0) (kp_ S128 (kp_ S128 (divW_ 2000 (kp_ S128 (st_ ⟨k117, 6, none⟩ (I (IntKind.i64.wrap (1 + IntKind.i64.wrap ((IntKind.u64.wrap n132).tmod 2000)))) (J126 ()))))))))))))))) fun x218 =>
cI 57 [(.pointer p9), (I (IntKind.i64.wrap (1 + IntKind.i64.wrap ((IntKind.u64.wrap n86).tmod 9))))] fun n222 =>
jn_ (X := Bool × Unit) (fun J224 =>
lI ⟨k69, 0, none⟩ fun n228 =>
br_ (n228 == 0) (lI ⟨k69, 1, none⟩ fun n233 =>
lI ⟨k69, 2, none⟩ fun n237 =>
c_ 58 [(.pointer p9), (I n233), (I n237)] fun v239 =>
aT 0 v239 fun f241 =>
c_ 59 [(.pointer p9)] fun v243 =>
aT 0 v243 fun f245 =>
J224 (x19.snd.fst, ())) (br_ (n228 == 1) (lI ⟨k69, 1, none⟩ fun n251 =>
lI ⟨k69, 2, none⟩ fun n255 =>
c_ 58 [(.pointer p9), (I n251), (I n255)] fun v257 =>
aT 0 v257 fun f259 =>
c_ 59 [(.pointer p9)] fun v261 =>
aT 0 v261 fun f263 =>
J224 (x19.snd.fst, ())) (br_ (n228 == 2) (cL 60 [(.pointer p9), (I (IntKind.i64.wrap (1 + IntKind.i64.wrap ((IntKind.u64.wrap n86).tmod 9))))] fun p269 k270 k271 =>
J224 (x19.snd.fst, ())) (br_ (n228 == 3) (lB ⟨k69, 3, none⟩ fun b277 =>
cI 61 [(.pointer p9), (I (IntKind.i64.wrap (1 + IntKind.i64.wrap ((IntKind.u64.wrap n86).tmod 9)))), (.bool b277)] fun n281 =>
br_ (! (n281 == 0) == (n222 == 1)) (K (.bool false)) (J224 (x19.snd.fst, ()))) (lI ⟨k117, 0, none⟩ fun n288 =>
lI ⟨k117, 1, none⟩ fun n292 =>
lI ⟨k117, 2, none⟩ fun n296 =>
lI ⟨k117, 3, none⟩ fun n300 =>
lI ⟨k117, 4, none⟩ fun n304 =>
lI ⟨k117, 5, none⟩ fun n308 =>
lI ⟨k117, 6, none⟩ fun n312 =>
cL 62 [(.pointer p9), (.agg #[(I n288), (I n292), (I n296), (I n300), (I n304), (I n308), (I n312)])] fun p316 k317 k318 =>
J224 (x19.snd.fst, ())))))) fun x320 =>
jn_ (X := Unit) (fun J322 =>
cI 57 [(.pointer p9), (I (IntKind.i64.wrap (1 + IntKind.i64.wrap ((IntKind.u64.wrap n86).tmod 9))))] fun n326 =>
br_ (n326 == 1) (br_ (n222 == 0) (lI ⟨k117, 6, none⟩ fun n332 =>
ra_ ⟨k15, 0, none⟩ 10 (IntKind.i64.wrap (1 + IntKind.i64.wrap ((IntKind.u64.wrap n86).tmod 9))) 1 fun a334 =>
st_ a334 (I n332) (J322 ())) (J322 ())) (J322 ())) fun x339 =>
lp_ (X := Int × Int × Int × Unit) (1, (IntKind.i64.wrap ((IntKind.u64.wrap x0).tmod 10000), (IntKind.i64.wrap ((IntKind.u64.wrap x0).tmod 10000), ()))) fun x341 rec342 =>
br_ (decide (x341.fst ≤ 9)) (jn_ (X := Int × Int × Unit) (fun J345 =>
cI 57 [(.pointer p9), (I x341.fst)] fun n349 =>
ra_ ⟨k13, 0, none⟩ 10 x341.fst 1 fun a351 =>
lL a351 fun p355 k356 k357 =>
nw_ (.cells #[(I n349)] 3 (0, 0)) fun k359 =>
bapp_ #[56, 56] 56 (.slice p355 k356 k357) (.slice (some ⟨k359, 0, none⟩) 1 1) fun v361 =>
aL v361 fun p363 k364 k365 =>
ra_ ⟨k13, 0, none⟩ 10 x341.fst 1 fun a367 =>
st_ a367 (.slice p363 k364 k365) (jn_ (X := Int × Unit) (fun J370 =>
br_ (n349 == 2) (ra_ ⟨k15, 0, none⟩ 10 x341.fst 1 fun a373 =>
lI a373 fun n377 =>
J370 (IntKind.i64.wrap (x341.snd.snd.fst - n377), ())) (br_ (n349 == 4) (ra_ ⟨k15, 0, none⟩ 10 x341.fst 1 fun a381 =>
lI a381 fun n385 =>
J370 (IntKind.i64.wrap (x341.snd.snd.fst - n385), ())) (J370 (x341.snd.snd.fst, ())))) fun x388 =>
br_ (n349 == 2) (ra_ ⟨k15, 0, none⟩ 10 x341.fst 1 fun a391 =>
lI a391 fun n395 =>
J345 (x388.fst, (IntKind.i64.wrap (x341.snd.fst - n395), ()))) (br_ (n349 == 4) (ra_ ⟨k15, 0, none⟩ 10 x341.fst 1 fun a399 =>
lI a399 fun n403 =>
J345 (x388.fst, (IntKind.i64.wrap (x341.snd.fst - n403), ()))) (br_ (n349 == 1) (ra_ ⟨k15, 0, none⟩ 10 x341.fst 1 fun a407 =>
lI a407 fun n411 =>
J345 (x388.fst, (IntKind.i64.wrap (x341.snd.fst - n411), ()))) (J345 (x388.fst, (x341.snd.fst, ()))))))) fun x414 =>
rec342 (IntKind.i64.wrap (x341.fst + 1), (x414.snd.fst, (x414.fst, ())))) (cP 63 [(.pointer p9)] fun p419 =>
cI 64 [(.pointer p419), (I 0)] fun n423 =>
br_ (n423 != x341.snd.snd.fst) (K (.bool false)) (cP 63 [(.pointer p9)] fun p429 =>
cI 65 [(.pointer p429), (I 0)] fun n433 =>
br_ (n433 != x341.snd.fst) (K (.bool false)) (br_ (decide (x341.snd.fst < 0)) (K (.bool false)) (rec20 (IntKind.i64.wrap (x19.fst + 1), (x320.fst, ()))))))))))))))))))))))))))) (J17 ())) fun x440 =>
ldN_ ⟨k13, 0, none⟩ 10 fun l442 =>
lp_ (X := Int × Unit) (0, ()) fun x444 rec445 =>
br_ (decide (x444.fst < 10)) (ga_ l442.toArray 10 x444.fst 1 fun v448 =>
aL v448 fun p450 k451 k452 =>
br_ (decide ((↑k451 : Int) > 0)) (nw_ (.cells #[(I 0)] 3 (0, 0)) fun k455 =>
bapp_ #[56, 56] 56 (.slice (some ⟨k455, 0, none⟩) 1 1) (.slice p450 k451 k452) fun v457 =>
aL v457 fun p459 k460 k461 =>
cI 66 [(.slice p459 k460 k461)] fun n465 =>
br_ (n465 != IntKind.i64.wrap ((↑k451 : Int) + 1)) (K (.bool false)) (rec445 (IntKind.i64.wrap (x444.fst + 1), ()))) (rec445 (IntKind.i64.wrap (x444.fst + 1), ()))) (cB 67 [] fun b473 =>
K (.bool b473))))
theorem F8_go {x0 a1 n1 c1 K w} : F8 x0 a1 n1 c1 K w → c_ 8 [(I x0), (.slice a1 n1 c1)] K w := goT (T := [(13, [0, 1, 2, 3, 8, 5035, 4, 5, 5009, 6, 7, 9, 10, 11, 12, 13, 14, 15, 9, 10, 5007, 6, 7, 11, 12, 13, 14, 15, 11, 12, 5005, 6, 7, 13, 14, 15, 13, 6, 7, 14, 15, 9, 10, 5023, 4, 5, 5007, 6, 7, 11, 12, 13, 14, 15, 11, 12, 5005, 6, 7, 13, 14, 15, 13, 6, 7, 14, 15, 11, 12, 5013, 4, 5, 5005, 6, 7, 13, 14, 15, 13, 6, 7, 14, 15, 13, 4, 5, 6, 7, 14, 15]), (4000041, []), (4000014, []), (4000026, [4, 1]), (4000028, []), (4000031, [13, 0, 14, 0]), (4000036, [13, 0])]) Tryz.func8 (by kernel_rfl)
end Go.Proofs.YtcfmnoimehcfnaaGreatDoor
