/- The shallow readings of some functions of the program (printed by a program of ours out of the model's own evaluation) and, for each, the proof that it is one. Conditions: none. -/
import Derived.Test.YtcfmnoimehcfnaaGreatDoorX30
set_option maxRecDepth 100000
set_option linter.unusedVariables false
namespace Go.Proofs.YtcfmnoimehcfnaaGreatDoor
open Go Go.Sh
def F11 (x0 : Int) (x1 : Int) (x2 : Int) (x3 : Int) (x4 : Int) (a5 : Option Addr) (n5 : Nat) (c5 : Nat) (x6 : Int) (K : KV) : World → Prop :=
nw_ (.cells #[(I x0), (I x1), (I x2), (I x3), (I x4), (.slice a5 n5 c5)] 24 (0, 0)) fun k9 =>
lL ⟨k9, 5, none⟩ fun p13 k14 k15 =>
br_ ((↑k14 : Int) != 0) (cB 16 [] fun b20 =>
K (.bool b20)) (lI ⟨k9, 0, none⟩ fun n25 =>
lI ⟨k9, 1, none⟩ fun n29 =>
lI ⟨k9, 2, none⟩ fun n33 =>
lI ⟨k9, 3, none⟩ fun n37 =>
lI ⟨k9, 4, none⟩ fun n41 =>
lL ⟨k9, 5, none⟩ fun p45 k46 k47 =>
cB 15 [(.agg #[(I n25), (I n29), (I n33), (I n37), (I n41), (.slice p45 k46 k47)])] fun b51 =>
br_ (!b51) (cB 16 [] fun b56 =>
K (.bool b56)) (divW_ 3 (cP 17 [(I 3), (I 100), (I 3)] fun p62 =>
lI ⟨k9, 0, none⟩ fun n66 =>
lI ⟨k9, 1, none⟩ fun n70 =>
lI ⟨k9, 2, none⟩ fun n74 =>
lI ⟨k9, 3, none⟩ fun n78 =>
lI ⟨k9, 4, none⟩ fun n82 =>
lL ⟨k9, 5, none⟩ fun p86 k87 k88 =>
c_ 18 [(.pointer p62), (.agg #[(I n66), (I n70), (I n74), (I n78), (I n82), (.slice p86 k87 k88)])] fun v90 =>
aT 2 v90 fun f92 =>
aL (f92 0) fun p94 k95 k96 =>
aI (f92 1) fun n98 =>
br_ (n98 != 0) (K (.bool false)) (br_ ((↑k95 : Int) != 2) (K (.bool false)) (lI ⟨k9, 0, none⟩ fun n106 =>
cI 21 [(.pointer p62), (I n106)] fun n110 =>
br_ (n110 != 2) (K (.bool false)) (c_ 79 [(.pointer p62), (I (IntKind.i64.wrap ((IntKind.u64.wrap x6).tmod 3))), (I 0)] fun v114 =>
aT 0 v114 fun f116 =>
c_ 80 [(.pointer p62)] fun v118 =>
aT 0 v118 fun f120 =>
br_ (decide (IntKind.i64.wrap ((IntKind.u64.wrap x6).tmod 3) > 0)) (lI ⟨k9, 0, none⟩ fun n125 =>
cL 22 [(.pointer p62), (I n125)] fun p129 k130 k131 =>
lI ⟨k9, 0, none⟩ fun n135 =>
cI 21 [(.pointer p62), (I n135)] fun n139 =>
br_ (n139 == 4) (br_ ((↑k130 : Int) == 2) (sa_ p129 k130 0 7 fun a143 =>
lI a143 fun n147 =>
br_ (n147 == 10) (cB 16 [] fun b152 =>
K (.bool b152)) (K (.bool false))) (K (.bool false))) (K (.bool false))) (lI ⟨k9, 0, none⟩ fun n160 =>
cL 22 [(.pointer p62), (I n160)] fun p164 k165 k166 =>
br_ ((↑k165 : Int) == 2) (sa_ p164 k165 0 7 fun a169 =>
lI a169 fun n173 =>
br_ (n173 == 6) (lI ⟨k9, 0, none⟩ fun n178 =>
cI 21 [(.pointer p62), (I n178)] fun n182 =>
br_ (n182 == 2) (cB 16 [] fun b187 =>
K (.bool b187)) (K (.bool false))) (K (.bool false))) (K (.bool false)))))))))
theorem F11_go {x0 x1 x2 x3 x4 a5 n5 c5 x6 K w} : F11 x0 x1 x2 x3 x4 a5 n5 c5 x6 K w → c_ 11 [(.agg #[(I x0), (I x1), (I x2), (I x3), (I x4), (.slice a5 n5 c5)]), (I x6)] K w := goF Tryz.func11 (by kernel_rfl)
end Go.Proofs.YtcfmnoimehcfnaaGreatDoor
