/- The shallow readings of some functions of the program (printed by a program of ours out of the model's own evaluation) and, for each, the proof that it is one. Conditions: none. -/
import Derived.Test.YtcfmnoimehcfnaaGreatDoorFR1
set_option maxRecDepth 100000
set_option linter.unusedVariables false
namespace Go.Proofs.YtcfmnoimehcfnaaGreatDoor
open Go Go.Sh
def F26 (x0 : Int) (K : KV) : World → Prop :=
cP 120 [(I x0)] fun p3 =>
nw_ (.cells #[(.slice none 0 0)] 157 (0, 0)) fun k5 =>
nw_ (.cells #[(.pointer p3), (pk k5)] 61 (0, 0)) fun k7 =>
K (pk k7)
theorem F26_go {x0 K w} : F26 x0 K w → c_ 26 [(I x0)] K w := goF Tryz.func26 (by kernel_rfl)
def F28 (p0 : Option Addr) (x1 : Int) (x2 : Int) (K : KV) : World → Prop :=
nn_ p0 fun a3 =>
lP a3 fun p7 =>
nn_ p7 fun a9 =>
lB (a9.o 3) fun b13 =>
br_ (!b13) (nn_ p0 fun a16 =>
lP a16 fun p20 =>
c_ 122 [(.pointer p20), (I x1), (I x2)] fun v22 =>
aT 0 v22 fun f24 =>
nw_ (.cells #[(.slice none 0 0)] 157 (0, 0)) fun k26 =>
nn_ p0 fun a28 =>
st_ (a28.o 1) (pk k26) (K (.tuple #[]))) (K (.tuple #[]))
theorem F28_go {p0 x1 x2 K w} : F28 p0 x1 x2 K w → c_ 28 [(.pointer p0), (I x1), (I x2)] K w := goF Tryz.func28 (by kernel_rfl)
def F30 (p0 : Option Addr) (K : KV) : World → Prop :=
nn_ p0 fun a1 =>
lP a1 fun p5 =>
nn_ p5 fun a7 =>
lB (a7.o 3) fun b11 =>
br_ (!b11) (K (.tuple #[])) (nn_ p0 fun a15 =>
lP a15 fun p19 =>
cI 126 [(.pointer p19)] fun n23 =>
nn_ p0 fun a25 =>
lP a25 fun p29 =>
cL 127 [(.pointer p29)] fun p33 k34 k35 =>
lp_ (X := Int × Unit) (0, ()) fun x37 rec38 =>
br_ (decide (x37.fst < (↑k34 : Int))) (sa_ p33 k34 x37.fst 3 fun a41 =>
lT a41 fun s45 =>
lI (a41.o 1) fun n49 =>
lL (a41.o 2) fun p53 k54 k55 =>
nw_ (.cells #[(.string ({data := #[]})), (I 0), (.slice none 0 0)] 139 (0, 0)) fun k57 =>
st_ ⟨k57, 0, none⟩ (.string s45) (st_ ⟨k57, 1, none⟩ (I n49) (st_ ⟨k57, 2, none⟩ (.slice p53 k54 k55) (drw (nn_ p0 fun a62 =>
lP (a62.o 1) fun p66 =>
lI ⟨k57, 1, none⟩ fun n70 =>
lL ⟨k57, 2, none⟩ fun p74 k75 k76 =>
sa_ p74 k75 0 1 fun a78 =>
lI a78 fun n82 =>
lL ⟨k57, 2, none⟩ fun p86 k87 k88 =>
sa_ p86 k87 1 1 fun a90 =>
lI a90 fun n94 =>
cI 128 [(.pointer p66), (I n70), (I n82), (I n94)] fun n98 =>
rec38 (IntKind.i64.wrap (x37.fst + 1), ())))))) (K (.tuple #[])))
theorem F30_go {p0 K w} : F30 p0 K w → c_ 30 [(.pointer p0)] K w := goF Tryz.func30 (by kernel_rfl)
def F33 (p0 : Option Addr) (x1 : Int) (x2 : Int) (x3 : Int) (x4 : Int) (x5 : Int) (x6 : Int) (x7 : Int) (K : KV) : World → Prop :=
nw_ (.cells #[(I x1), (I x2), (I x3), (I x4), (I x5), (I x6), (I x7)] 35 (0, 0)) fun k8 =>
nn_ p0 fun a10 =>
lP a10 fun p14 =>
nn_ p14 fun a16 =>
lB (a16.o 3) fun b20 =>
br_ b20 (K (.slice none 0 0)) (lI ⟨k8, 2, none⟩ fun n26 =>
br_ (n26 != 3) (K (.slice none 0 0)) (lI ⟨k8, 1, none⟩ fun n32 =>
br_ (n32 != 0) (K (.slice none 0 0)) (lI ⟨k8, 3, none⟩ fun n38 =>
cB 95 [(I n38)] fun b42 =>
br_ (!b42) (K (.slice none 0 0)) (lI ⟨k8, 0, none⟩ fun n48 =>
br_ (n48 != 15) (K (.slice none 0 0)) (jn_ (X := Unit) (fun J52 =>
jn_ (X := Bool × Unit) (fun J54 =>
drw (kps fun S56 =>
nn_ p0 fun a58 =>
ldS_ S56 (a58.o 1) fun v60 =>
aP v60 fun p62 =>
ldS_ S56 ⟨k8, 3, none⟩ fun v64 =>
aI v64 fun n66 =>
bo_ (c_ 130 [(.pointer p62), (I n66)] fun v69 =>
aT 2 v69 fun f71 =>
aN 3 (f71 0) fun f73 =>
aI (f73 0) fun n75 =>
aI (f73 1) fun n77 =>
aI (f73 2) fun n79 =>
aB (f71 1) fun b81 =>
kp_ S56 (nw_ (.cells #[(I 0), (I 0), (I 0)] 166 (0, 0)) fun k84 =>
kp_ S56 (st_ ⟨k84, 0, none⟩ (I n75) (st_ ⟨k84, 1, none⟩ (I n77) (st_ ⟨k84, 2, none⟩ (I n79) (kp_ S56 (J54 (b81, ())))))))) (nw_ (.cells #[(I 0), (I 0), (I 0)] 166 (0, 0)) fun k92 =>
kp_ S56 (c_ 130 [(.pointer p62), (I n66)] fun v95 =>
aT 2 v95 fun f97 =>
aN 3 (f97 0) fun f99 =>
aI (f99 0) fun n101 =>
aI (f99 1) fun n103 =>
aI (f99 2) fun n105 =>
aB (f97 1) fun b107 =>
kp_ S56 (st_ ⟨k92, 0, none⟩ (I n101) (st_ ⟨k92, 1, none⟩ (I n103) (st_ ⟨k92, 2, none⟩ (I n105) (kp_ S56 (J54 (b107, ())))))))))) fun x114 =>
jn_ (X := Bool × Unit) (fun J116 =>
J116 (!x114.fst, ())) fun x118 =>
br_ x118.fst (jn_ (X := Unit) (fun J121 =>
drw (nn_ p0 fun a123 =>
lP a123 fun p127 =>
nn_ p127 fun a129 =>
lL (a129.o 1) fun p133 k134 k135 =>
nn_ p0 fun a137 =>
lP a137 fun p141 =>
nn_ p141 fun a143 =>
lI a143 fun n147 =>
br_ (decide ((↑k134 : Int) ≥ n147)) (K (.slice none 0 0)) (nn_ p0 fun a151 =>
lP (a151.o 1) fun p155 =>
lI ⟨k8, 3, none⟩ fun n159 =>
lI ⟨k8, 5, none⟩ fun n163 =>
lI ⟨k8, 6, none⟩ fun n167 =>
cI 128 [(.pointer p155), (I n159), (I n163), (I n167)] fun n171 =>
br_ (n171 != 0) (K (.slice none 0 0)) (J121 ())))) fun x175 =>
drw (kps fun S177 =>
nn_ p0 fun a179 =>
ldS_ S177 a179 fun v181 =>
aP v181 fun p183 =>
ldS_ S177 ⟨k8, 3, none⟩ fun v185 =>
aI v185 fun n187 =>
ldS_ S177 ⟨k8, 5, none⟩ fun v189 =>
aI v189 fun n191 =>
ldS_ S177 ⟨k8, 6, none⟩ fun v193 =>
aI v193 fun n195 =>
nw_ (.cells #[(I n191), (I n195)] 3 (0, 0)) fun k197 =>
kp_ S177 (c_ 132 [(.string ({data := #[115, 101, 110, 116]})), (I n187), (.slice (some ⟨k197, 0, none⟩) 2 2)] fun v200 =>
aN 3 v200 fun f202 =>
aS (f202 0) fun s204 =>
aI (f202 1) fun n206 =>
aL (f202 2) fun p208 k209 k210 =>
kp_ S177 (nw_ (.cells #[(.string s204), (I n206), (.slice p208 k209 k210)] 139 (0, 0)) fun k213 =>
kp_ S177 (cB 131 [(.pointer p183), (.bool true), (.slice (some ⟨k213, 0, none⟩) 1 1)] fun b218 =>
kp_ S177 (J52 ())))))) (nw_ (.cells #[(.slice none 0 0)] 157 (0, 0)) fun k222 =>
lI ⟨k8, 3, none⟩ fun n226 =>
lI ⟨k8, 5, none⟩ fun n230 =>
lI ⟨k8, 6, none⟩ fun n234 =>
cI 128 [(pk k222), (I n226), (I n230), (I n234)] fun n238 =>
br_ (n238 != 0) (K (.slice none 0 0)) (J52 ()))) fun x242 =>
lI ⟨k8, 3, none⟩ fun n246 =>
nw_ (.cells #[(I 16), (I 3), (I 0), (I n246), (I 0), (I 0), (I 0)] 35 (0, 0)) fun k248 =>
K (.slice (some ⟨k248, 0, none⟩) 1 1))))))
theorem F33_go {p0 x1 x2 x3 x4 x5 x6 x7 K w} : F33 p0 x1 x2 x3 x4 x5 x6 x7 K w → c_ 33 [(.pointer p0), (.agg #[(I x1), (I x2), (I x3), (I x4), (I x5), (I x6), (I x7)])] K w := goT (T := [(3, [0, 1, 2, 3, 4, 5, 5007, 6, 7, 8, 9, 10, 11, 12, 10, 6, 7, 8, 9, 11, 12]), (7, [0, 1, 2, 3, 4, 5, 6, 7, 8, 9, 10, 11, 12, 13]), (4000010, []), (4000004, [6, 1]), (4000005, [46, 1]), (4000007, [])]) Tryz.func33 (by kernel_rfl)
def F37 (p0 : Option Addr) (K : KV) : World → Prop :=
nn_ p0 fun a1 =>
lL a1 fun p5 k6 k7 =>
lp_ (X := Int × ((Option Addr) × Nat × Nat) × Unit) (0, ((none, 0, 0), ())) fun x9 rec10 =>
br_ (decide (x9.fst < (↑k6 : Int))) (sa_ p5 k6 x9.fst 3 fun a13 =>
lI a13 fun n17 =>
lI (a13.o 1) fun n21 =>
lI (a13.o 2) fun n25 =>
nw_ (.cells #[(I 0), (I 0), (I 0)] 166 (0, 0)) fun k27 =>
st_ ⟨k27, 0, none⟩ (I n17) (st_ ⟨k27, 1, none⟩ (I n21) (st_ ⟨k27, 2, none⟩ (I n25) (lI ⟨k27, 0, none⟩ fun n34 =>
nw_ (.cells #[(I n34)] 3 (0, 0)) fun k36 =>
bapp_ #[56, 56] 56 (.slice x9.snd.fst.1 x9.snd.fst.snd.fst x9.snd.fst.snd.snd) (.slice (some ⟨k36, 0, none⟩) 1 1) fun v38 =>
aL v38 fun p40 k41 k42 =>
rec10 (IntKind.i64.wrap (x9.fst + 1), ((p40, k41, k42), ())))))) (K (.slice x9.snd.fst.1 x9.snd.fst.snd.fst x9.snd.fst.snd.snd))
theorem F37_go {p0 K w} : F37 p0 K w → c_ 37 [(.pointer p0)] K w := goF Tryz.func37 (by kernel_rfl)
def F39 (p0 : Option Addr) (x1 : Int) (K : KV) : World → Prop :=
nn_ p0 fun a2 =>
lL a2 fun p6 k7 k8 =>
lp_ (X := Int × Int × Unit) (0, (0, ())) fun x10 rec11 =>
br_ (decide (x10.fst < (↑k7 : Int))) (sa_ p6 k7 x10.fst 3 fun a14 =>
lI a14 fun n18 =>
lI (a14.o 1) fun n22 =>
lI (a14.o 2) fun n26 =>
nw_ (.cells #[(I 0), (I 0), (I 0)] 166 (0, 0)) fun k28 =>
st_ ⟨k28, 0, none⟩ (I n18) (st_ ⟨k28, 1, none⟩ (I n22) (st_ ⟨k28, 2, none⟩ (I n26) (lI ⟨k28, 1, none⟩ fun n35 =>
br_ (n35 == x1) (lI ⟨k28, 2, none⟩ fun n40 =>
rec11 (IntKind.i64.wrap (x10.fst + 1), (IntKind.i64.wrap (x10.snd.fst + n40), ()))) (rec11 (IntKind.i64.wrap (x10.fst + 1), (x10.snd.fst, ()))))))) (K (I x10.snd.fst))
theorem F39_go {p0 x1 K w} : F39 p0 x1 K w → c_ 39 [(.pointer p0), (I x1)] K w := goF Tryz.func39 (by kernel_rfl)
def F128 (p0 : Option Addr) (x1 : Int) (x2 : Int) (x3 : Int) (K : KV) : World → Prop :=
cB 95 [(I x1)] fun b6 =>
br_ (!b6) (K (I 1)) (cB 221 [(I x2)] fun b12 =>
br_ (!b12) (K (I 1)) (cB 222 [(I x3)] fun b18 =>
br_ (!b18) (K (I 1)) (c_ 130 [(.pointer p0), (I x1)] fun v22 =>
aT 2 v22 fun f24 =>
aN 3 (f24 0) fun f26 =>
aI (f26 0) fun n28 =>
aI (f26 1) fun n30 =>
aI (f26 2) fun n32 =>
aB (f24 1) fun b34 =>
nw_ (.cells #[(I 0), (I 0), (I 0)] 166 (0, 0)) fun k36 =>
st_ ⟨k36, 0, none⟩ (I n28) (st_ ⟨k36, 1, none⟩ (I n30) (st_ ⟨k36, 2, none⟩ (I n32) (br_ b34 (K (I 8)) (nn_ p0 fun a43 =>
lL a43 fun p47 k48 k49 =>
nw_ (.cells #[(I x1), (I x2), (I x3)] 166 (0, 0)) fun k51 =>
bapp_ #[155, 155] 155 (.slice p47 k48 k49) (.slice (some ⟨k51, 0, none⟩) 1 1) fun v53 =>
aL v53 fun p55 k56 k57 =>
nn_ p0 fun a59 =>
st_ a59 (.slice p55 k56 k57) (K (I 0)))))))))
theorem F128_go {p0 x1 x2 x3 K w} : F128 p0 x1 x2 x3 K w → c_ 128 [(.pointer p0), (I x1), (I x2), (I x3)] K w := goF Tryz.func128 (by kernel_rfl)
def F130 (p0 : Option Addr) (x1 : Int) (K : KV) : World → Prop :=
nw_ (.cells #[(I 0), (I 0), (I 0)] 166 (0, 0)) fun k2 =>
nn_ p0 fun a4 =>
lL a4 fun p8 k9 k10 =>
lp_ (X := Int × Bool × Unit) (0, (false, ())) fun x12 rec13 =>
br_ (decide (x12.fst < (↑k9 : Int))) (sa_ p8 k9 x12.fst 3 fun a16 =>
lI a16 fun n20 =>
lI (a16.o 1) fun n24 =>
lI (a16.o 2) fun n28 =>
nw_ (.cells #[(I 0), (I 0), (I 0)] 166 (0, 0)) fun k30 =>
st_ ⟨k30, 0, none⟩ (I n20) (st_ ⟨k30, 1, none⟩ (I n24) (st_ ⟨k30, 2, none⟩ (I n28) (lI ⟨k30, 0, none⟩ fun n37 =>
br_ (n37 == x1) (lI ⟨k30, 0, none⟩ fun n42 =>
lI ⟨k30, 1, none⟩ fun n46 =>
lI ⟨k30, 2, none⟩ fun n50 =>
st_ ⟨k2, 0, none⟩ (I n42) (st_ ⟨k2, 1, none⟩ (I n46) (st_ ⟨k2, 2, none⟩ (I n50) (lI ⟨k2, 0, none⟩ fun n57 =>
lI ⟨k2, 1, none⟩ fun n61 =>
lI ⟨k2, 2, none⟩ fun n65 =>
K (.tuple #[(.agg #[(I n57), (I n61), (I n65)]), (.bool true)]))))) (rec13 (IntKind.i64.wrap (x12.fst + 1), (x12.snd.fst, ()))))))) (st_ ⟨k2, 0, none⟩ (I 0) (st_ ⟨k2, 1, none⟩ (I 0) (st_ ⟨k2, 2, none⟩ (I 0) (lI ⟨k2, 0, none⟩ fun n74 =>
lI ⟨k2, 1, none⟩ fun n78 =>
lI ⟨k2, 2, none⟩ fun n82 =>
K (.tuple #[(.agg #[(I n74), (I n78), (I n82)]), (.bool false)])))))
theorem F130_go {p0 x1 K w} : F130 p0 x1 K w → c_ 130 [(.pointer p0), (I x1)] K w := goF Tryz.func130 (by kernel_rfl)
end Go.Proofs.YtcfmnoimehcfnaaGreatDoor
