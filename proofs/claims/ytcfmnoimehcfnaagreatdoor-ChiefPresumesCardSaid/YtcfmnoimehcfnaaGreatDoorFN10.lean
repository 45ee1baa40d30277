/- The shallow readings of some functions of the program (printed by a program of ours out of the model's own evaluation) and, for each, the proof that it is one. Conditions: none. -/
import Derived.Test.YtcfmnoimehcfnaaGreatDoorX30
set_option maxRecDepth 100000
set_option linter.unusedVariables false
namespace Go.Proofs.YtcfmnoimehcfnaaGreatDoor
open Go Go.Sh
def F10 (x0 : Int) (x1 : Int) (x2 : Int) (K : KV) : World → Prop :=
divW_ 2 (cP 17 [(I 3), (I 100), (I 3)] fun p6 =>
c_ 18 [(.pointer p6), (.agg #[(I 5), (I 0), (I 1), (I 0), (I 1), (.slice none 0 0)])] fun v8 =>
aT 2 v8 fun f10 =>
aL (f10 0) fun p12 k13 k14 =>
aI (f10 1) fun n16 =>
nw_ (.cells #[(I 0), (I 0), (I 0), (I 0), (I 0), (I 0), (I 0)] 35 (0, 0)) fun k18 =>
st_ ⟨k18, 0, none⟩ (I 12) (st_ ⟨k18, 1, none⟩ (I (IntKind.i64.wrap (1 + IntKind.i64.wrap ((IntKind.u64.wrap x0).tmod 2)))) (st_ ⟨k18, 2, none⟩ (I 0) (st_ ⟨k18, 3, none⟩ (I 5) (st_ ⟨k18, 4, none⟩ (I 0) (st_ ⟨k18, 5, none⟩ (I 0) (st_ ⟨k18, 6, none⟩ (I 0) (lI ⟨k18, 0, none⟩ fun n29 =>
lI ⟨k18, 1, none⟩ fun n33 =>
lI ⟨k18, 2, none⟩ fun n37 =>
lI ⟨k18, 3, none⟩ fun n41 =>
lI ⟨k18, 4, none⟩ fun n45 =>
lI ⟨k18, 5, none⟩ fun n49 =>
lI ⟨k18, 6, none⟩ fun n53 =>
cL 19 [(.pointer p6), (.agg #[(I n29), (I n33), (I n37), (I n41), (I n45), (I n49), (I n53)])] fun p57 k58 k59 =>
br_ ((↑k58 : Int) != 0) (K (.bool false)) (divW_ 3 (br_ ((IntKind.u64.wrap x1).tmod 3 == 0) (cL 19 [(.pointer p6), (.agg #[(I 7), (I 1), (I 0), (I 5), (I 0), (I 0), (I 0)])] fun p67 k68 k69 =>
cL 19 [(.pointer p6), (.agg #[(I 7), (I 2), (I 0), (I 5), (I 0), (I 0), (I 0)])] fun p73 k74 k75 =>
c_ 79 [(.pointer p6), (I 0), (I 0)] fun v77 =>
aT 0 v77 fun f79 =>
c_ 80 [(.pointer p6)] fun v81 =>
aT 0 v81 fun f83 =>
lI ⟨k18, 0, none⟩ fun n87 =>
lI ⟨k18, 1, none⟩ fun n91 =>
lI ⟨k18, 2, none⟩ fun n95 =>
lI ⟨k18, 3, none⟩ fun n99 =>
lI ⟨k18, 4, none⟩ fun n103 =>
lI ⟨k18, 5, none⟩ fun n107 =>
lI ⟨k18, 6, none⟩ fun n111 =>
cL 19 [(.pointer p6), (.agg #[(I n87), (I n91), (I n95), (I n99), (I n103), (I n107), (I n111)])] fun p115 k116 k117 =>
st_ ⟨k18, 3, none⟩ (I x2) (lI ⟨k18, 0, none⟩ fun n122 =>
lI ⟨k18, 1, none⟩ fun n126 =>
lI ⟨k18, 2, none⟩ fun n130 =>
lI ⟨k18, 3, none⟩ fun n134 =>
lI ⟨k18, 4, none⟩ fun n138 =>
lI ⟨k18, 5, none⟩ fun n142 =>
lI ⟨k18, 6, none⟩ fun n146 =>
cL 19 [(.pointer p6), (.agg #[(I n122), (I n126), (I n130), (I n134), (I n138), (I n142), (I n146)])] fun p150 k151 k152 =>
br_ (x2 != 5) (br_ ((↑k151 : Int) != 1) (K (.bool false)) (sa_ p150 k151 0 7 fun a157 =>
lI a157 fun n161 =>
br_ (n161 != 14) (K (.bool false)) (br_ ((↑k116 : Int) == 1) (sa_ p115 k116 0 7 fun a166 =>
lI a166 fun n170 =>
br_ (n170 == 13) (sa_ p115 k116 0 7 fun a173 =>
lI (a173.o 2) fun n177 =>
br_ (n177 == IntKind.i64.wrap (1 + IntKind.i64.wrap ((IntKind.u64.wrap x0).tmod 2))) (sa_ p115 k116 0 7 fun a180 =>
lI (a180.o 3) fun n184 =>
br_ (n184 == 5) (cB 16 [] fun b189 =>
K (.bool b189)) (K (.bool false))) (K (.bool false))) (K (.bool false))) (K (.bool false))))) (br_ ((↑k116 : Int) == 1) (sa_ p115 k116 0 7 fun a197 =>
lI a197 fun n201 =>
br_ (n201 == 13) (sa_ p115 k116 0 7 fun a204 =>
lI (a204.o 2) fun n208 =>
br_ (n208 == IntKind.i64.wrap (1 + IntKind.i64.wrap ((IntKind.u64.wrap x0).tmod 2))) (sa_ p115 k116 0 7 fun a211 =>
lI (a211.o 3) fun n215 =>
br_ (n215 == 5) (cB 16 [] fun b220 =>
K (.bool b220)) (K (.bool false))) (K (.bool false))) (K (.bool false))) (K (.bool false))))) (br_ ((IntKind.u64.wrap x1).tmod 3 == 1) (c_ 23 [(.pointer p6), (I 5)] fun v228 =>
aT 2 v228 fun f230 =>
aL (f230 0) fun p232 k233 k234 =>
aI (f230 1) fun n236 =>
c_ 79 [(.pointer p6), (I 0), (I 0)] fun v238 =>
aT 0 v238 fun f240 =>
c_ 80 [(.pointer p6)] fun v242 =>
aT 0 v242 fun f244 =>
lI ⟨k18, 0, none⟩ fun n248 =>
lI ⟨k18, 1, none⟩ fun n252 =>
lI ⟨k18, 2, none⟩ fun n256 =>
lI ⟨k18, 3, none⟩ fun n260 =>
lI ⟨k18, 4, none⟩ fun n264 =>
lI ⟨k18, 5, none⟩ fun n268 =>
lI ⟨k18, 6, none⟩ fun n272 =>
cL 19 [(.pointer p6), (.agg #[(I n248), (I n252), (I n256), (I n260), (I n264), (I n268), (I n272)])] fun p276 k277 k278 =>
st_ ⟨k18, 3, none⟩ (I x2) (lI ⟨k18, 0, none⟩ fun n283 =>
lI ⟨k18, 1, none⟩ fun n287 =>
lI ⟨k18, 2, none⟩ fun n291 =>
lI ⟨k18, 3, none⟩ fun n295 =>
lI ⟨k18, 4, none⟩ fun n299 =>
lI ⟨k18, 5, none⟩ fun n303 =>
lI ⟨k18, 6, none⟩ fun n307 =>
cL 19 [(.pointer p6), (.agg #[(I n283), (I n287), (I n291), (I n295), (I n299), (I n303), (I n307)])] fun p311 k312 k313 =>
br_ (x2 != 5) (br_ ((↑k312 : Int) != 1) (K (.bool false)) (sa_ p311 k312 0 7 fun a318 =>
lI a318 fun n322 =>
br_ (n322 != 14) (K (.bool false)) (br_ ((↑k277 : Int) == 1) (sa_ p276 k277 0 7 fun a327 =>
lI a327 fun n331 =>
br_ (n331 == 14) (sa_ p276 k277 0 7 fun a334 =>
lI (a334.o 2) fun n338 =>
br_ (n338 == IntKind.i64.wrap (1 + IntKind.i64.wrap ((IntKind.u64.wrap x0).tmod 2))) (sa_ p276 k277 0 7 fun a341 =>
lI (a341.o 3) fun n345 =>
br_ (n345 == 5) (cB 16 [] fun b350 =>
K (.bool b350)) (K (.bool false))) (K (.bool false))) (K (.bool false))) (K (.bool false))))) (br_ ((↑k277 : Int) == 1) (sa_ p276 k277 0 7 fun a358 =>
lI a358 fun n362 =>
br_ (n362 == 14) (sa_ p276 k277 0 7 fun a365 =>
lI (a365.o 2) fun n369 =>
br_ (n369 == IntKind.i64.wrap (1 + IntKind.i64.wrap ((IntKind.u64.wrap x0).tmod 2))) (sa_ p276 k277 0 7 fun a372 =>
lI (a372.o 3) fun n376 =>
br_ (n376 == 5) (cB 16 [] fun b381 =>
K (.bool b381)) (K (.bool false))) (K (.bool false))) (K (.bool false))) (K (.bool false))))) (cL 19 [(.pointer p6), (.agg #[(I 8), (I 2), (I 0), (I 5), (I 0), (I 0), (I 0)])] fun p390 k391 k392 =>
c_ 79 [(.pointer p6), (I 0), (I 0)] fun v394 =>
aT 0 v394 fun f396 =>
c_ 80 [(.pointer p6)] fun v398 =>
aT 0 v398 fun f400 =>
lI ⟨k18, 0, none⟩ fun n404 =>
lI ⟨k18, 1, none⟩ fun n408 =>
lI ⟨k18, 2, none⟩ fun n412 =>
lI ⟨k18, 3, none⟩ fun n416 =>
lI ⟨k18, 4, none⟩ fun n420 =>
lI ⟨k18, 5, none⟩ fun n424 =>
lI ⟨k18, 6, none⟩ fun n428 =>
cL 19 [(.pointer p6), (.agg #[(I n404), (I n408), (I n412), (I n416), (I n420), (I n424), (I n428)])] fun p432 k433 k434 =>
st_ ⟨k18, 3, none⟩ (I x2) (lI ⟨k18, 0, none⟩ fun n439 =>
lI ⟨k18, 1, none⟩ fun n443 =>
lI ⟨k18, 2, none⟩ fun n447 =>
lI ⟨k18, 3, none⟩ fun n451 =>
lI ⟨k18, 4, none⟩ fun n455 =>
lI ⟨k18, 5, none⟩ fun n459 =>
lI ⟨k18, 6, none⟩ fun n463 =>
cL 19 [(.pointer p6), (.agg #[(I n439), (I n443), (I n447), (I n451), (I n455), (I n459), (I n463)])] fun p467 k468 k469 =>
br_ (x2 != 5) (br_ ((↑k468 : Int) != 1) (K (.bool false)) (sa_ p467 k468 0 7 fun a474 =>
lI a474 fun n478 =>
br_ (n478 != 14) (K (.bool false)) (br_ ((↑k433 : Int) == 1) (sa_ p432 k433 0 7 fun a483 =>
lI a483 fun n487 =>
br_ (n487 == 14) (sa_ p432 k433 0 7 fun a490 =>
lI (a490.o 2) fun n494 =>
br_ (n494 == IntKind.i64.wrap (1 + IntKind.i64.wrap ((IntKind.u64.wrap x0).tmod 2))) (sa_ p432 k433 0 7 fun a497 =>
lI (a497.o 3) fun n501 =>
br_ (n501 == 5) (cB 16 [] fun b506 =>
K (.bool b506)) (K (.bool false))) (K (.bool false))) (K (.bool false))) (K (.bool false))))) (br_ ((↑k433 : Int) == 1) (sa_ p432 k433 0 7 fun a514 =>
lI a514 fun n518 =>
br_ (n518 == 14) (sa_ p432 k433 0 7 fun a521 =>
lI (a521.o 2) fun n525 =>
br_ (n525 == IntKind.i64.wrap (1 + IntKind.i64.wrap ((IntKind.u64.wrap x0).tmod 2))) (sa_ p432 k433 0 7 fun a528 =>
lI (a528.o 3) fun n532 =>
br_ (n532 == 5) (cB 16 [] fun b537 =>
K (.bool b537)) (K (.bool false))) (K (.bool false))) (K (.bool false))) (K (.bool false))))))))))))))))
theorem F10_go {x0 x1 x2 K w} : F10 x0 x1 x2 K w → c_ 10 [(I x0), (I x1), (I x2)] K w := goF Tryz.func10 (by kernel_rfl)
end Go.Proofs.YtcfmnoimehcfnaaGreatDoor
