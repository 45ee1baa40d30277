/- The shallow readings of some functions of the program (printed by a program of ours out of the model's own evaluation) and, for each, the proof that it is one. Conditions: none. -/
import Derived.Test.YtcfmnoimehcfnaaGreatDoorFSh
set_option maxRecDepth 100000
set_option linter.unusedVariables false
namespace Go.Proofs.YtcfmnoimehcfnaaGreatDoor
open Go Go.Sh
def F42 (x0 : Int) (x1 : Int) (x2 : Int) (K : KV) : World → Prop :=
br_ (decide (x0 < 4)) (K (.pointer none)) (br_ (decide (x0 > 6)) (K (.pointer none)) (cP 98 [(I x2)] fun p9 =>
nw_ (.cells #[(I x0), (I x1), (.pointer p9), (.pointer none), (.map none)] 178 (0, 0)) fun k11 =>
c_ 134 [(pk k11)] fun v13 =>
aT 0 v13 fun f15 =>
K (pk k11)))
theorem F42_go {x0 x1 x2 K w} : F42 x0 x1 x2 K w → c_ 42 [(I x0), (I x1), (I x2)] K w := goF Tryz.func42 (by kernel_rfl)
def F44 (K : KV) : World → Prop :=
cP 42 [(I 4), (I 5), (I 20)] fun p2 =>
br_ p2.isNone (K (.bool false)) (cL 49 [(.pointer p2), (.agg #[(I 4), (I 0), (I 4), (I 7), (I 0), (I 0), (I 0)])] fun p8 k9 k10 =>
cL 49 [(.pointer p2), (.agg #[(I 1), (I 0), (I 4), (I 7), (I 0), (I 1), (I 0)])] fun p14 k15 k16 =>
br_ ((↑k9 : Int) == 1) (sa_ p8 k9 0 7 fun a19 =>
lI a19 fun n23 =>
br_ (n23 == 5) (br_ ((↑k15 : Int) == 1) (sa_ p14 k15 0 7 fun a27 =>
lI a27 fun n31 =>
br_ (n31 == 3) (cI 51 [(.pointer p2), (I 7)] fun n36 =>
K (.bool (n36 == 3))) (K (.bool false))) (K (.bool false))) (K (.bool false))) (K (.bool false)))
theorem F44_go {K w} : F44  K w → c_ 44 [] K w := goF Tryz.func44 (by kernel_rfl)
def F45 (p0 : Option Addr) (x1 : Int) (x2 : Int) (K : KV) : World → Prop :=
br_ p0.isNone (K (.tuple #[])) (cB 54 [(.pointer p0)] fun b7 =>
br_ b7 (K (.tuple #[])) (nn_ p0 fun a11 =>
lP (a11.o 2) fun p15 =>
c_ 121 [(.pointer p15), (I x1), (I x2)] fun v17 =>
aT 0 v17 fun f19 =>
c_ 134 [(.pointer p0)] fun v21 =>
aT 0 v21 fun f23 =>
K (.tuple #[])))
theorem F45_go {p0 x1 x2 K w} : F45 p0 x1 x2 K w → c_ 45 [(.pointer p0), (I x1), (I x2)] K w := goF Tryz.func45 (by kernel_rfl)
def F47 (p0 : Option Addr) (K : KV) : World → Prop :=
nw_ (.cells #[(.pointer p0)] 67 (0, 0)) fun k1 =>
lP ⟨k1, 0, none⟩ fun p5 =>
br_ p5.isNone (K (.tuple #[])) (lP ⟨k1, 0, none⟩ fun p11 =>
cB 54 [(.pointer p11)] fun b15 =>
br_ (!b15) (K (.tuple #[])) (lP ⟨k1, 0, none⟩ fun p21 =>
nn_ p21 fun a23 =>
lP (a23.o 2) fun p27 =>
cI 123 [(.pointer p27)] fun n31 =>
lP ⟨k1, 0, none⟩ fun p35 =>
c_ 134 [(.pointer p35)] fun v37 =>
aT 0 v37 fun f39 =>
lP ⟨k1, 0, none⟩ fun p43 =>
nn_ p43 fun a45 =>
lP (a45.o 2) fun p49 =>
c_ 124 [(.pointer p49)] fun v51 =>
aF v51 fun k53 x54 =>
rfn_ (fun k56 k57 f58 =>
c_ k53 ((.func (Fn.yield k57) #[] #[]) :: x54.1) fun v60 =>
rfe_ k57 f58 (rfj (dfr_ k56 (K (.tuple #[]))) (dfr_ k56 (K (.tuple #[]))) [])) fun k68 f69 l70 f71 =>
aT 1 (.tuple l70.toArray) fun f73 =>
aN 3 (f73 0) fun f75 =>
aS (f75 0) fun s77 =>
aI (f75 1) fun n79 =>
aL (f75 2) fun p81 k82 k83 =>
nw_ (.cells #[(.string ({data := #[]})), (I 0), (.slice none 0 0)] 139 (0, 0)) fun k85 =>
st_ ⟨k85, 0, none⟩ (.string s77) (st_ ⟨k85, 1, none⟩ (I n79) (st_ ⟨k85, 2, none⟩ (.slice p81 k82 k83) (rfb_ k68 f69 (lP ⟨k1, 0, none⟩ fun p93 =>
lT ⟨k85, 0, none⟩ fun s97 =>
lI ⟨k85, 1, none⟩ fun n101 =>
lL ⟨k85, 2, none⟩ fun p105 k106 k107 =>
c_ 136 [(.pointer p93), (.agg #[(.string s97), (I n101), (.slice p105 k106 k107)])] fun v109 =>
aT 0 v109 fun f111 =>
rfy_ k68 f69 f71))))))
theorem F47_go {p0 K w} : F47 p0 K w → c_ 47 [(.pointer p0)] K w := goT (T := [(1000022, [139])]) Tryz.func47 (by kernel_rfl)
def F49 (p0 : Option Addr) (x1 : Int) (x2 : Int) (x3 : Int) (x4 : Int) (x5 : Int) (x6 : Int) (x7 : Int) (K : KV) : World → Prop :=
nw_ (.cells #[(I x1), (I x2), (I x3), (I x4), (I x5), (I x6), (I x7)] 35 (0, 0)) fun k8 =>
drw (kps fun S10 =>
br_ p0.isNone (K (.slice none 0 0)) (cB 54 [(.pointer p0)] fun b16 =>
kp_ S10 (br_ b16 (K (.slice none 0 0)) (ldS_ S10 ⟨k8, 2, none⟩ fun v21 =>
aI v21 fun n23 =>
nn_ p0 fun a25 =>
ldS_ S10 a25 fun v27 =>
aI v27 fun n29 =>
br_ (n23 != n29) (K (.slice none 0 0)) (ldS_ S10 ⟨k8, 1, none⟩ fun v33 =>
aI v33 fun n35 =>
br_ (n35 != 0) (K (.slice none 0 0)) (ldS_ S10 ⟨k8, 3, none⟩ fun v39 =>
aI v39 fun n41 =>
br_ (decide (n41 < 1)) (K (.slice none 0 0)) (ldS_ S10 ⟨k8, 3, none⟩ fun v45 =>
aI v45 fun n47 =>
br_ (decide (n47 > 999)) (K (.slice none 0 0)) (lI ⟨k8, 0, none⟩ fun n53 =>
br_ (n53 == 1) (lI ⟨k8, 3, none⟩ fun n58 =>
lI ⟨k8, 5, none⟩ fun n62 =>
cI 139 [(.pointer p0), (I n58), (I n62)] fun n66 =>
br_ (n66 == 0) (K (.slice none 0 0)) (drw (nn_ p0 fun a70 =>
lI a70 fun n74 =>
lI ⟨k8, 3, none⟩ fun n78 =>
lI ⟨k8, 4, none⟩ fun n82 =>
nw_ (.cells #[(I n66), (I n74), (I 0), (I n78), (I n82), (I 0), (I 0)] 35 (0, 0)) fun k84 =>
K (.slice (some ⟨k84, 0, none⟩) 1 1)))) (br_ (n53 == 4) (lI ⟨k8, 3, none⟩ fun n90 =>
cI 140 [(.pointer p0), (I n90)] fun n94 =>
br_ (n94 == 0) (K (.slice none 0 0)) (drw (nn_ p0 fun a98 =>
lI a98 fun n102 =>
lI ⟨k8, 3, none⟩ fun n106 =>
lI ⟨k8, 4, none⟩ fun n110 =>
nw_ (.cells #[(I n94), (I n102), (I 0), (I n106), (I n110), (I 0), (I 0)] 35 (0, 0)) fun k112 =>
K (.slice (some ⟨k112, 0, none⟩) 1 1)))) (K (.slice none 0 0)))))))))))
theorem F49_go {p0 x1 x2 x3 x4 x5 x6 x7 K w} : F49 p0 x1 x2 x3 x4 x5 x6 x7 K w → c_ 49 [(.pointer p0), (.agg #[(I x1), (I x2), (I x3), (I x4), (I x5), (I x6), (I x7)])] K w := goT (T := [(1, [0, 1, 2, 3, 4, 5, 6, 7, 8, 9, 10, 11, 12, 13, 14, 15, 16, 17, 18, 19, 20, 21, 22, 23, 24, 25, 26, 27, 28, 29])]) Tryz.func49 (by kernel_rfl)
def F51 (p0 : Option Addr) (x1 : Int) (K : KV) : World → Prop :=
br_ p0.isNone (K (I 0)) (nn_ p0 fun a4 =>
lM (a4.o 4) fun p8 =>
mget_ 176 (.map p8) (I x1) false fun v10 =>
aI v10 fun n12 =>
K (I n12))
theorem F51_go {p0 x1 K w} : F51 p0 x1 K w → c_ 51 [(.pointer p0), (I x1)] K w := goF Tryz.func51 (by kernel_rfl)
def F53 (p0 : Option Addr) (K : KV) : World → Prop :=
br_ p0.isNone (K (I 0)) (nn_ p0 fun a3 =>
lP (a3.o 3) fun p7 =>
cI 141 [(.pointer p7)] fun n11 =>
K (I n11))
theorem F53_go {p0 K w} : F53 p0 K w → c_ 53 [(.pointer p0)] K w := goF Tryz.func53 (by kernel_rfl)
def F54 (p0 : Option Addr) (K : KV) : World → Prop :=
br_ p0.isSome (nn_ p0 fun a2 =>
lP (a2.o 2) fun p6 =>
cB 133 [(.pointer p6)] fun b10 =>
K (.bool b10)) (K (.bool false))
theorem F54_go {p0 K w} : F54 p0 K w → c_ 54 [(.pointer p0)] K w := goF Tryz.func54 (by kernel_rfl)
def F134 (p0 : Option Addr) (K : KV) : World → Prop :=
nn_ p0 fun a1 =>
lI (a1.o 1) fun n5 =>
cP 226 [(I n5)] fun p9 =>
nw_ (.map #[] 0) fun k11 =>
nn_ p0 fun a13 =>
st_ (a13.o 3) (.pointer p9) (nn_ p0 fun a16 =>
st_ (a16.o 4) (.map (some k11)) (K (.tuple #[])))
theorem F134_go {p0 K w} : F134 p0 K w → c_ 134 [(.pointer p0)] K w := goF Tryz.func134 (by kernel_rfl)
def F136 (p0 : Option Addr) (s1 : ByteArray) (x2 : Int) (a3 : Option Addr) (n3 : Nat) (c3 : Nat) (K : KV) : World → Prop :=
nw_ (.cells #[(.string s1), (I x2), (.slice a3 n3 c3)] 139 (0, 0)) fun k6 =>
lT ⟨k6, 0, none⟩ fun s10 =>
br_ (strEq s10 {data := #[100, 105, 100]}) (lL ⟨k6, 2, none⟩ fun p15 k16 k17 =>
lp_ (X := Int × Unit) (0, ()) fun x19 rec20 =>
br_ (decide (x19.fst < (↑k16 : Int))) (sa_ p15 k16 x19.fst 1 fun a23 =>
lI a23 fun n27 =>
drw (nn_ p0 fun a29 =>
lP (a29.o 3) fun p33 =>
lI ⟨k6, 1, none⟩ fun n37 =>
cI 228 [(.pointer p33), (I n37), (I n27)] fun n41 =>
rec20 (IntKind.i64.wrap (x19.fst + 1), ()))) (drw (nn_ p0 fun a44 =>
lM (a44.o 4) fun p48 =>
lI ⟨k6, 1, none⟩ fun n52 =>
mset_ 176 (.map p48) (I n52) (I 1) (K (.tuple #[]))))) (br_ (strEq s10 {data := #[99, 97, 110, 116]}) (drw (nn_ p0 fun a57 =>
lM (a57.o 4) fun p61 =>
lI ⟨k6, 1, none⟩ fun n65 =>
mset_ 176 (.map p61) (I n65) (I 2) (K (.tuple #[])))) (br_ (strEq s10 {data := #[117, 110, 100, 105, 100]}) (drw (nn_ p0 fun a70 =>
lP (a70.o 3) fun p74 =>
lI ⟨k6, 1, none⟩ fun n78 =>
cI 229 [(.pointer p74), (I n78)] fun n82 =>
drw (nn_ p0 fun a84 =>
lM (a84.o 4) fun p88 =>
lI ⟨k6, 1, none⟩ fun n92 =>
mset_ 176 (.map p88) (I n92) (I 3) (K (.tuple #[]))))) (K (.tuple #[]))))
theorem F136_go {p0 s1 x2 a3 n3 c3 K w} : F136 p0 s1 x2 a3 n3 c3 K w → c_ 136 [(.pointer p0), (.agg #[(.string s1), (I x2), (.slice a3 n3 c3)])] K w := goF Tryz.func136 (by kernel_rfl)
def F139 (p0 : Option Addr) (x1 : Int) (x2 : Int) (K : KV) : World → Prop :=
nn_ p0 fun a3 =>
lM (a3.o 4) fun p7 =>
mget_ 176 (.map p7) (I x1) false fun v9 =>
aI v9 fun n11 =>
br_ (n11 == 1) (K (I 2)) (br_ (n11 == 0) (nn_ p0 fun a16 =>
lP (a16.o 3) fun p20 =>
cI 228 [(.pointer p20), (I x1), (I x2)] fun n24 =>
br_ (n24 != 0) (cB 230 [(.pointer p0), (.agg #[(.string ({data := #[99, 97, 110, 116]})), (I x1), (.slice none 0 0)])] fun b29 =>
br_ b29 (K (I 3)) (K (I 0))) (nn_ p0 fun a34 =>
lP (a34.o 3) fun p38 =>
cI 229 [(.pointer p38), (I x1)] fun n42 =>
nw_ (.cells #[(I x2)] 3 (0, 0)) fun k44 =>
cB 230 [(.pointer p0), (.agg #[(.string ({data := #[100, 105, 100]})), (I x1), (.slice (some ⟨k44, 0, none⟩) 1 1)])] fun b48 =>
br_ b48 (K (I 2)) (K (I 0)))) (K (I 3)))
theorem F139_go {p0 x1 x2 K w} : F139 p0 x1 x2 K w → c_ 139 [(.pointer p0), (I x1), (I x2)] K w := goF Tryz.func139 (by kernel_rfl)
def F140 (p0 : Option Addr) (x1 : Int) (K : KV) : World → Prop :=
nn_ p0 fun a2 =>
lM (a2.o 4) fun p6 =>
mget_ 176 (.map p6) (I x1) false fun v8 =>
aI v8 fun n10 =>
br_ (n10 == 0) (cB 230 [(.pointer p0), (.agg #[(.string ({data := #[117, 110, 100, 105, 100]})), (I x1), (.slice none 0 0)])] fun b15 =>
br_ (!b15) (K (I 0)) (K (I 5))) (br_ (n10 == 1) (cB 230 [(.pointer p0), (.agg #[(.string ({data := #[117, 110, 100, 105, 100]})), (I x1), (.slice none 0 0)])] fun b23 =>
br_ (!b23) (K (I 0)) (K (I 5))) (K (I 5)))
theorem F140_go {p0 x1 K w} : F140 p0 x1 K w → c_ 140 [(.pointer p0), (I x1)] K w := goF Tryz.func140 (by kernel_rfl)
def F141 (p0 : Option Addr) (K : KV) : World → Prop :=
br_ p0.isNone (K (I 0)) (nn_ p0 fun a3 =>
lI a3 fun n7 =>
K (I n7))
theorem F141_go {p0 K w} : F141 p0 K w → c_ 141 [(.pointer p0)] K w := goF Tryz.func141 (by kernel_rfl)
def F226 (x0 : Int) (K : KV) : World → Prop :=
nw_ (.map #[] 0) fun k1 =>
nw_ (.cells #[(I (if (if 1000000000 < x0 then 1000000000 else x0) > 0 then if 1000000000 < x0 then 1000000000 else x0 else 0)), (.map (some k1))] 257 (0, 0)) fun k3 =>
K (pk k3)
theorem F226_go {x0 K w} : F226 x0 K w → c_ 226 [(I x0)] K w := goF Tryz.func226 (by kernel_rfl)
def F228 (p0 : Option Addr) (x1 : Int) (x2 : Int) (K : KV) : World → Prop :=
br_ p0.isNone (K (I 1)) (br_ (decide (x1 < 1)) (K (I 1)) (br_ (decide (x1 > 999)) (K (I 1)) (br_ (x2 == 0) (K (I 1)) (cB 265 [(I x2)] fun b13 =>
br_ (!b13) (K (I 1)) (nn_ p0 fun a17 =>
lM (a17.o 1) fun p21 =>
mget_ 176 (.map p21) (I x1) false fun v23 =>
aI v23 fun n25 =>
br_ (decide (n25 > 0)) (K (I 8)) (nn_ p0 fun a29 =>
lI a29 fun n33 =>
c_ 287 [(I n33), (I x2)] fun v35 =>
aT 2 v35 fun f37 =>
aI (f37 0) fun n39 =>
aI (f37 1) fun n41 =>
br_ (n41 == 0) (nn_ p0 fun a44 =>
lM (a44.o 1) fun p48 =>
nn_ p0 fun a50 =>
st_ a50 (I n39) (ment_ 176 (.map p48) (I x1) fun v53 =>
aT 2 v53 fun f55 =>
aI (f55 0) fun n57 =>
aI (f55 1) fun n59 =>
mest_ 176 (.map p48) (I n59) (I x2) (K (I n41)))) (K (I n41))))))))
theorem F228_go {p0 x1 x2 K w} : F228 p0 x1 x2 K w → c_ 228 [(.pointer p0), (I x1), (I x2)] K w := goF Tryz.func228 (by kernel_rfl)
def F229 (p0 : Option Addr) (x1 : Int) (K : KV) : World → Prop :=
br_ p0.isNone (K (I 1)) (nn_ p0 fun a4 =>
lM (a4.o 1) fun p8 =>
mget_ 176 (.map p8) (I x1) false fun v10 =>
aI v10 fun n12 =>
br_ (n12 == 0) (K (I 6)) (drw (nn_ p0 fun a16 =>
lI a16 fun n20 =>
nn_ p0 fun a22 =>
lM (a22.o 1) fun p26 =>
mget Md.see Tryz.prog 176 (.map p26) (I x1) false fun v28 =>
aI v28 fun n30 =>
nn_ p0 fun a32 =>
st_ a32 (I (IntKind.i64.wrap (n20 + n30))) (nn_ p0 fun a35 =>
lM (a35.o 1) fun p39 =>
bdel_ #[176, 3] 0 (.map p39) (I x1) fun v41 =>
K (I 0)))))
theorem F229_go {p0 x1 K w} : F229 p0 x1 K w → c_ 229 [(.pointer p0), (I x1)] K w := goF Tryz.func229 (by kernel_rfl)
def F230 (p0 : Option Addr) (s1 : ByteArray) (x2 : Int) (a3 : Option Addr) (n3 : Nat) (c3 : Nat) (K : KV) : World → Prop :=
nw_ (.cells #[(.string s1), (I x2), (.slice a3 n3 c3)] 139 (0, 0)) fun k6 =>
drw (nn_ p0 fun a8 =>
lP (a8.o 2) fun p12 =>
lT ⟨k6, 0, none⟩ fun s16 =>
lI ⟨k6, 1, none⟩ fun n20 =>
lL ⟨k6, 2, none⟩ fun p24 k25 k26 =>
cI 211 [(.pointer p12), (.agg #[(.string s16), (I n20), (.slice p24 k25 k26)])] fun n30 =>
br_ (n30 != 0) (K (.bool false)) (nn_ p0 fun a34 =>
lP (a34.o 2) fun p38 =>
cI 202 [(.pointer p38)] fun n42 =>
lT ⟨k6, 0, none⟩ fun s46 =>
lI ⟨k6, 1, none⟩ fun n50 =>
lL ⟨k6, 2, none⟩ fun p54 k55 k56 =>
c_ 136 [(.pointer p0), (.agg #[(.string s46), (I n50), (.slice p54 k55 k56)])] fun v58 =>
aT 0 v58 fun f60 =>
K (.bool true)))
theorem F230_go {p0 s1 x2 a3 n3 c3 K w} : F230 p0 s1 x2 a3 n3 c3 K w → c_ 230 [(.pointer p0), (.agg #[(.string s1), (I x2), (.slice a3 n3 c3)])] K w := goF Tryz.func230 (by kernel_rfl)
def F287 (x0 : Int) (x1 : Int) (K : KV) : World → Prop :=
cB 309 [(I x0), (I x1)] fun b4 =>
br_ (!b4) (K (.tuple #[(I 0), (I 1)])) (br_ (decide (x1 > x0)) (K (.tuple #[(I 0), (I 9)])) (K (.tuple #[(I (IntKind.i64.wrap (x0 - x1))), (I 0)])))
theorem F287_go {x0 x1 K w} : F287 x0 x1 K w → c_ 287 [(I x0), (I x1)] K w := goF Tryz.func287 (by kernel_rfl)
def F309 (x0 : Int) (x1 : Int) (K : KV) : World → Prop :=
cB 265 [(I x0)] fun b4 =>
br_ b4 (cB 265 [(I x1)] fun b9 =>
K (.bool b9)) (K (.bool false))
theorem F309_go {x0 x1 K w} : F309 x0 x1 K w → c_ 309 [(I x0), (I x1)] K w := goF Tryz.func309 (by kernel_rfl)
end Go.Proofs.YtcfmnoimehcfnaaGreatDoor
