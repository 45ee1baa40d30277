/- The shallow readings of some functions of the program (printed by a program of ours out of the model's own evaluation) and, for each, the proof that it is one. Conditions: none. -/
import Derived.Test.YtcfmnoimehcfnaaGreatDoorFS
set_option maxRecDepth 100000
set_option linter.unusedVariables false
namespace Go.Proofs.YtcfmnoimehcfnaaGreatDoor
open Go Go.Sh
def F15 (x0 : Int) (x1 : Int) (x2 : Int) (x3 : Int) (x4 : Int) (a5 : Option Addr) (n5 : Nat) (c5 : Nat) (K : KV) : World → Prop :=
nw_ (.cells #[(I x0), (I x1), (I x2), (I x3), (I x4), (.slice a5 n5 c5)] 24 (0, 0)) fun k8 =>
lI ⟨k8, 0, none⟩ fun n12 =>
cB 95 [(I n12)] fun b16 =>
br_ (!b16) (K (.bool false)) (lI ⟨k8, 1, none⟩ fun n22 =>
cB 96 [(I n22)] fun b26 =>
br_ (!b26) (K (.bool false)) (lI ⟨k8, 3, none⟩ fun n32 =>
cB 96 [(I n32)] fun b36 =>
br_ (!b36) (K (.bool false)) (lI ⟨k8, 2, none⟩ fun n42 =>
cB 97 [(I n42)] fun b46 =>
br_ (!b46) (K (.bool false)) (lI ⟨k8, 4, none⟩ fun n52 =>
cB 97 [(I n52)] fun b56 =>
br_ (!b56) (K (.bool false)) (lL ⟨k8, 5, none⟩ fun p62 k63 k64 =>
br_ (decide ((↑k63 : Int) > 3)) (K (.bool false)) (lL ⟨k8, 5, none⟩ fun p70 k71 k72 =>
lp_ (X := Int × Bool × Unit) (0, (false, ())) fun x74 rec75 =>
br_ (decide (x74.fst < (↑k71 : Int))) (sa_ p70 k71 x74.fst 2 fun a78 =>
lI a78 fun n82 =>
lI (a78.o 1) fun n86 =>
nw_ (.cells #[(I 0), (I 0)] 81 (0, 0)) fun k88 =>
st_ ⟨k88, 0, none⟩ (I n82) (st_ ⟨k88, 1, none⟩ (I n86) (lI ⟨k88, 0, none⟩ fun n94 =>
br_ (decide (n94 < 4)) (K (.bool false)) (lI ⟨k88, 0, none⟩ fun n100 =>
br_ (decide (n100 > 6)) (K (.bool false)) (lI ⟨k88, 1, none⟩ fun n106 =>
cB 97 [(I n106)] fun b110 =>
br_ (!b110) (K (.bool false)) (lL ⟨k8, 5, none⟩ fun p116 k117 k118 =>
ss_ p116 k118 0 x74.fst 2 fun p120 k121 k122 =>
lp_ (X := Int × Bool × Unit) (0, (x74.snd.fst, ())) fun x124 rec125 =>
br_ (decide (x124.fst < (↑k121 : Int))) (sa_ p120 k121 x124.fst 2 fun a128 =>
lI a128 fun n132 =>
lI (a128.o 1) fun n136 =>
nw_ (.cells #[(I 0), (I 0)] 81 (0, 0)) fun k138 =>
st_ ⟨k138, 0, none⟩ (I n132) (st_ ⟨k138, 1, none⟩ (I n136) (lI ⟨k138, 0, none⟩ fun n144 =>
lI ⟨k88, 0, none⟩ fun n148 =>
br_ (n144 == n148) (K (.bool false)) (rec125 (IntKind.i64.wrap (x124.fst + 1), (x124.snd.fst, ())))))) (rec75 (IntKind.i64.wrap (x74.fst + 1), (x124.snd.fst, ()))))))))) (K (.bool true))))))))
theorem F15_go {x0 x1 x2 x3 x4 a5 n5 c5 K w} : F15 x0 x1 x2 x3 x4 a5 n5 c5 K w → c_ 15 [(.agg #[(I x0), (I x1), (I x2), (I x3), (I x4), (.slice a5 n5 c5)])] K w := goF Tryz.func15 (by kernel_rfl)
def F95 (x0 : Int) (K : KV) : World → Prop :=
br_ (decide (x0 ≥ 1)) (K (.bool (decide (x0 ≤ 999)))) (K (.bool false))
theorem F95_go {x0 K w} : F95 x0 K w → c_ 95 [(I x0)] K w := goF Tryz.func95 (by kernel_rfl)
def F96 (x0 : Int) (K : KV) : World → Prop :=
br_ (decide (x0 ≥ 0)) (K (.bool (decide (x0 < 8)))) (K (.bool false))
theorem F96_go {x0 K w} : F96 x0 K w → c_ 96 [(I x0)] K w := goF Tryz.func96 (by kernel_rfl)
def F97 (x0 : Int) (K : KV) : World → Prop :=
br_ (decide (x0 ≥ 1)) (K (.bool (decide (x0 ≤ 1000000000)))) (K (.bool false))
theorem F97_go {x0 K w} : F97 x0 K w → c_ 97 [(I x0)] K w := goF Tryz.func97 (by kernel_rfl)
def F221 (x0 : Int) (K : KV) : World → Prop :=
br_ (decide (x0 ≥ 0)) (K (.bool (decide (x0 < 8)))) (K (.bool false))
theorem F221_go {x0 K w} : F221 x0 K w → c_ 221 [(I x0)] K w := goF Tryz.func221 (by kernel_rfl)
def F222 (x0 : Int) (K : KV) : World → Prop :=
br_ (decide (x0 ≥ 1)) (K (.bool (decide (x0 ≤ 1000000000)))) (K (.bool false))
theorem F222_go {x0 K w} : F222 x0 K w → c_ 222 [(I x0)] K w := goF Tryz.func222 (by kernel_rfl)
end Go.Proofs.YtcfmnoimehcfnaaGreatDoor
