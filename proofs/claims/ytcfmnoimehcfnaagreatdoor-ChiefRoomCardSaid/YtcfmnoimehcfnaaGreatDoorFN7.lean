/- The shallow readings of some functions of the program (printed by a program of ours out of the model's own evaluation) and, for each, the proof that it is one. Conditions: none. -/
import Derived.Test.YtcfmnoimehcfnaaGreatDoorFN2
set_option maxRecDepth 100000
set_option linter.unusedVariables false
namespace Go.Proofs.YtcfmnoimehcfnaaGreatDoor
open Go Go.Sh
def F7 (x0 : Int) (x1 : Int) (K : KV) : World → Prop :=
divW_ 10 (divW_ 12 (cP 17 [(I (IntKind.i64.wrap (1 + IntKind.i64.wrap ((IntKind.u64.wrap x0).tmod 10)))), (I (IntKind.i64.wrap (1 + IntKind.i64.wrap ((IntKind.u64.wrap x1).tmod 12)))), (I 3)] fun p6 =>
lp_ (X := Int × Int × Int × Bool × Unit) (0, (0, (IntKind.i64.wrap (1 + IntKind.i64.wrap ((IntKind.u64.wrap x1).tmod 12)), (false, ())))) fun x8 rec9 =>
br_ (decide (x8.fst < 12)) (nw_ (.cells #[(I 5), (I 1)] 81 (0, 0)) fun k12 =>
nw_ (.cells #[(I 0), (I 0), (I 0), (I 0), (I 0), (.slice none 0 0)] 24 (0, 0)) fun k14 =>
st_ ⟨k14, 0, none⟩ (I (IntKind.i64.wrap (1 + x8.fst))) (st_ ⟨k14, 1, none⟩ (I 0) (st_ ⟨k14, 2, none⟩ (I 1) (st_ ⟨k14, 3, none⟩ (I 0) (st_ ⟨k14, 4, none⟩ (I 1) (st_ ⟨k14, 5, none⟩ (.slice (some ⟨k12, 0, none⟩) 1 1) (lI ⟨k14, 0, none⟩ fun n24 =>
lI ⟨k14, 1, none⟩ fun n28 =>
lI ⟨k14, 2, none⟩ fun n32 =>
lI ⟨k14, 3, none⟩ fun n36 =>
lI ⟨k14, 4, none⟩ fun n40 =>
lL ⟨k14, 5, none⟩ fun p44 k45 k46 =>
c_ 18 [(.pointer p6), (.agg #[(I n24), (I n28), (I n32), (I n36), (I n40), (.slice p44 k45 k46)])] fun v48 =>
aT 2 v48 fun f50 =>
aL (f50 0) fun p52 k53 k54 =>
aI (f50 1) fun n56 =>
br_ (decide (x8.snd.fst < IntKind.i64.wrap (1 + IntKind.i64.wrap ((IntKind.u64.wrap x0).tmod 10)))) (br_ (! (n56 == 0) == decide (x8.snd.snd.fst ≥ 2)) (K (.bool false)) (br_ (!decide (x8.snd.snd.fst ≥ 2)) (br_ (n56 != 5) (K (.bool false)) (lI ⟨k14, 0, none⟩ fun n66 =>
cI 21 [(.pointer p6), (I n66)] fun n70 =>
br_ (! (n70 == 1) == decide (x8.snd.snd.fst ≥ 2)) (K (.bool false)) (br_ (decide (x8.snd.snd.fst ≥ 2)) (rec9 (IntKind.i64.wrap (x8.fst + 1), (IntKind.i64.wrap (x8.snd.fst + 1), (IntKind.i64.wrap (x8.snd.snd.fst - 2), (x8.snd.snd.snd.fst, ()))))) (rec9 (IntKind.i64.wrap (x8.fst + 1), (x8.snd.fst, (x8.snd.snd.fst, (x8.snd.snd.snd.fst, ())))))))) (lI ⟨k14, 0, none⟩ fun n79 =>
cI 21 [(.pointer p6), (I n79)] fun n83 =>
br_ (! (n83 == 1) == decide (x8.snd.snd.fst ≥ 2)) (K (.bool false)) (br_ (decide (x8.snd.snd.fst ≥ 2)) (rec9 (IntKind.i64.wrap (x8.fst + 1), (IntKind.i64.wrap (x8.snd.fst + 1), (IntKind.i64.wrap (x8.snd.snd.fst - 2), (x8.snd.snd.snd.fst, ()))))) (rec9 (IntKind.i64.wrap (x8.fst + 1), (x8.snd.fst, (x8.snd.snd.fst, (x8.snd.snd.snd.fst, ()))))))))) (br_ (! (n56 == 0) == false) (K (.bool false)) (br_ (n56 != 5) (K (.bool false)) (lI ⟨k14, 0, none⟩ fun n96 =>
cI 21 [(.pointer p6), (I n96)] fun n100 =>
br_ (! (n100 == 1) == false) (K (.bool false)) (rec9 (IntKind.i64.wrap (x8.fst + 1), (x8.snd.fst, (x8.snd.snd.fst, (x8.snd.snd.snd.fst, ()))))))))))))))) (cL 55 [(.pointer p6), (I 100)] fun p107 k108 k109 =>
br_ ((↑k108 : Int) == x8.snd.fst) (cB 16 [] fun b114 =>
K (.bool b114)) (K (.bool false)))))
theorem F7_go {x0 x1 K w} : F7 x0 x1 K w → c_ 7 [(I x0), (I x1)] K w := goF Tryz.func7 (by kernel_rfl)
end Go.Proofs.YtcfmnoimehcfnaaGreatDoor
