/- The shallow readings of some functions of the program (printed by a program of ours out of the model's own evaluation) and, for each, the proof that it is one. Conditions: none. -/
import Derived.Test.YtcfmnoimehcfnaaGreatDoorFS
set_option maxRecDepth 100000
set_option linter.unusedVariables false
namespace Go.Proofs.YtcfmnoimehcfnaaGreatDoor
open Go Go.Sh
def F25 (x0 : Int) (K : KV) : World → Prop :=
cP 98 [(I x0)] fun p3 =>
cP 119 [] fun p7 =>
nw_ (.cells #[(.pointer p3), (.pointer p7)] 153 (0, 0)) fun k9 =>
K (pk k9)
theorem F25_go {x0 K w} : F25 x0 K w → c_ 25 [(I x0)] K w := goF Tryz.func25 (by kernel_rfl)
def F27 (p0 : Option Addr) (x1 : Int) (x2 : Int) (K : KV) : World → Prop :=
br_ p0.isNone (K (.tuple #[])) (cB 40 [(.pointer p0)] fun b7 =>
br_ b7 (K (.tuple #[])) (nn_ p0 fun a11 =>
lP a11 fun p15 =>
c_ 121 [(.pointer p15), (I x1), (I x2)] fun v17 =>
aT 0 v17 fun f19 =>
cP 119 [] fun p23 =>
nn_ p0 fun a25 =>
st_ (a25.o 1) (.pointer p23) (K (.tuple #[]))))
theorem F27_go {p0 x1 x2 K w} : F27 p0 x1 x2 K w → c_ 27 [(.pointer p0), (I x1), (I x2)] K w := goF Tryz.func27 (by kernel_rfl)
def F29 (p0 : Option Addr) (K : KV) : World → Prop :=
nw_ (.cells #[(.pointer p0)] 45 (0, 0)) fun k1 =>
lP ⟨k1, 0, none⟩ fun p5 =>
br_ p5.isNone (K (.tuple #[])) (lP ⟨k1, 0, none⟩ fun p11 =>
cB 40 [(.pointer p11)] fun b15 =>
br_ (!b15) (K (.tuple #[])) (lP ⟨k1, 0, none⟩ fun p21 =>
nn_ p21 fun a23 =>
lP a23 fun p27 =>
cI 123 [(.pointer p27)] fun n31 =>
drw (kps fun S33 =>
ldS_ S33 ⟨k1, 0, none⟩ fun v35 =>
aP v35 fun p37 =>
cP 119 [] fun p41 =>
kp_ S33 (nn_ p37 fun a44 =>
st_ (a44.o 1) (.pointer p41) (lP ⟨k1, 0, none⟩ fun p49 =>
nn_ p49 fun a51 =>
lP a51 fun p55 =>
c_ 124 [(.pointer p55)] fun v57 =>
aF v57 fun k59 x60 =>
rfn_ (fun k62 k63 f64 =>
c_ k59 ((.func (Fn.yield k63) #[] #[]) :: x60.1) fun v66 =>
rfe_ k63 f64 (rfj (dfr_ k62 (K (.tuple #[]))) (dfr_ k62 (K (.tuple #[]))) [])) fun k74 f75 l76 f77 =>
aT 1 (.tuple l76.toArray) fun f79 =>
aN 3 (f79 0) fun f81 =>
aS (f81 0) fun s83 =>
aI (f81 1) fun n85 =>
aL (f81 2) fun p87 k88 k89 =>
nw_ (.cells #[(.string ({data := #[]})), (I 0), (.slice none 0 0)] 139 (0, 0)) fun k91 =>
st_ ⟨k91, 0, none⟩ (.string s83) (st_ ⟨k91, 1, none⟩ (I n85) (st_ ⟨k91, 2, none⟩ (.slice p87 k88 k89) (rfb_ k74 f75 (lP ⟨k1, 0, none⟩ fun p99 =>
lT ⟨k91, 0, none⟩ fun s103 =>
lI ⟨k91, 1, none⟩ fun n107 =>
lL ⟨k91, 2, none⟩ fun p111 k112 k113 =>
c_ 125 [(.pointer p99), (.agg #[(.string s103), (I n107), (.slice p111 k112 k113)])] fun v115 =>
aT 0 v115 fun f117 =>
rfy_ k74 f75 f77)))))))))
theorem F29_go {p0 K w} : F29 p0 K w → c_ 29 [(.pointer p0)] K w := goT (T := [(3, [0, 1, 2, 3, 4]), (1000024, [139])]) Tryz.func29 (by kernel_rfl)
def F32 (p0 : Option Addr) (x1 : Int) (x2 : Int) (x3 : Int) (x4 : Int) (x5 : Int) (x6 : Int) (x7 : Int) (K : KV) : World → Prop :=
nw_ (.cells #[(I x1), (I x2), (I x3), (I x4), (I x5), (I x6), (I x7)] 35 (0, 0)) fun k8 =>
br_ p0.isNone (K (.slice none 0 0)) (cB 40 [(.pointer p0)] fun b14 =>
br_ b14 (K (.slice none 0 0)) (lI ⟨k8, 2, none⟩ fun n20 =>
br_ (n20 != 3) (K (.slice none 0 0)) (lI ⟨k8, 1, none⟩ fun n26 =>
br_ (n26 != 0) (K (.slice none 0 0)) (lI ⟨k8, 0, none⟩ fun n32 =>
br_ (n32 != 15) (K (.slice none 0 0)) (lI ⟨k8, 0, none⟩ fun n38 =>
lI ⟨k8, 1, none⟩ fun n42 =>
lI ⟨k8, 2, none⟩ fun n46 =>
lI ⟨k8, 3, none⟩ fun n50 =>
lI ⟨k8, 4, none⟩ fun n54 =>
lI ⟨k8, 5, none⟩ fun n58 =>
lI ⟨k8, 6, none⟩ fun n62 =>
cB 129 [(.pointer p0), (.agg #[(I n38), (I n42), (I n46), (I n50), (I n54), (I n58), (I n62)])] fun b66 =>
br_ (!b66) (K (.slice none 0 0)) (lI ⟨k8, 3, none⟩ fun n72 =>
nw_ (.cells #[(I 16), (I 3), (I 0), (I n72), (I 0), (I 0), (I 0)] 35 (0, 0)) fun k74 =>
K (.slice (some ⟨k74, 0, none⟩) 1 1)))))))
theorem F32_go {p0 x1 x2 x3 x4 x5 x6 x7 K w} : F32 p0 x1 x2 x3 x4 x5 x6 x7 K w → c_ 32 [(.pointer p0), (.agg #[(I x1), (I x2), (I x3), (I x4), (I x5), (I x6), (I x7)])] K w := goF Tryz.func32 (by kernel_rfl)
def F34 (p0 : Option Addr) (K : KV) : World → Prop :=
br_ p0.isNone (K (.pointer none)) (nn_ p0 fun a3 =>
lP (a3.o 1) fun p7 =>
K (.pointer p7))
theorem F34_go {p0 K w} : F34 p0 K w → c_ 34 [(.pointer p0)] K w := goF Tryz.func34 (by kernel_rfl)
def F40 (p0 : Option Addr) (K : KV) : World → Prop :=
br_ p0.isSome (nn_ p0 fun a2 =>
lP a2 fun p6 =>
cB 133 [(.pointer p6)] fun b10 =>
K (.bool b10)) (K (.bool false))
theorem F40_go {p0 K w} : F40 p0 K w → c_ 40 [(.pointer p0)] K w := goF Tryz.func40 (by kernel_rfl)
def F41 (K : KV) : World → Prop :=
cP 25 [(I 20)] fun p2 =>
nw_ (.cells #[(I 0), (I 0), (I 0), (I 0), (I 0), (I 0), (I 0)] 35 (0, 0)) fun k4 =>
st_ ⟨k4, 0, none⟩ (I 15) (st_ ⟨k4, 1, none⟩ (I 0) (st_ ⟨k4, 2, none⟩ (I 3) (st_ ⟨k4, 3, none⟩ (I 7) (st_ ⟨k4, 4, none⟩ (I 0) (st_ ⟨k4, 5, none⟩ (I 0) (st_ ⟨k4, 6, none⟩ (I 2) (drw (kps fun S13 =>
ldS_ S13 ⟨k4, 0, none⟩ fun v15 =>
aI v15 fun n17 =>
ldS_ S13 ⟨k4, 1, none⟩ fun v19 =>
aI v19 fun n21 =>
ldS_ S13 ⟨k4, 2, none⟩ fun v23 =>
aI v23 fun n25 =>
ldS_ S13 ⟨k4, 3, none⟩ fun v27 =>
aI v27 fun n29 =>
ldS_ S13 ⟨k4, 4, none⟩ fun v31 =>
aI v31 fun n33 =>
ldS_ S13 ⟨k4, 5, none⟩ fun v35 =>
aI v35 fun n37 =>
ldS_ S13 ⟨k4, 6, none⟩ fun v39 =>
aI v39 fun n41 =>
ldS_ S13 ⟨k4, 0, none⟩ fun v43 =>
aI v43 fun n45 =>
ldS_ S13 ⟨k4, 1, none⟩ fun v47 =>
aI v47 fun n49 =>
ldS_ S13 ⟨k4, 2, none⟩ fun v51 =>
aI v51 fun n53 =>
ldS_ S13 ⟨k4, 3, none⟩ fun v55 =>
aI v55 fun n57 =>
ldS_ S13 ⟨k4, 4, none⟩ fun v59 =>
aI v59 fun n61 =>
ldS_ S13 ⟨k4, 5, none⟩ fun v63 =>
aI v63 fun n65 =>
ldS_ S13 ⟨k4, 6, none⟩ fun v67 =>
aI v67 fun n69 =>
cL 32 [(.pointer p2), (.agg #[(I n17), (I n21), (I n25), (I n29), (I n33), (I n37), (I n41)])] fun p73 k74 k75 =>
kp_ S13 (cL 32 [(.pointer p2), (.agg #[(I n45), (I n49), (I n53), (I n57), (I n61), (I n65), (I n69)])] fun p80 k81 k82 =>
kp_ S13 (br_ ((↑k74 : Int) == 1) (br_ ((↑k81 : Int) == 1) (sa_ p80 k81 0 7 fun a87 =>
lI a87 fun n91 =>
br_ (n91 == 16) (cP 34 [(.pointer p2)] fun p96 =>
cI 38 [(.pointer p96), (I 0)] fun n100 =>
K (.bool (n100 == 2))) (K (.bool false))) (K (.bool false))) (K (.bool false))))))))))))
theorem F41_go {K w} : F41  K w → c_ 41 [] K w := goT (T := [(3, [0, 1, 3, 4, 2, 5, 6, 7])]) Tryz.func41 (by kernel_rfl)
def F125 (p0 : Option Addr) (s1 : ByteArray) (x2 : Int) (a3 : Option Addr) (n3 : Nat) (c3 : Nat) (K : KV) : World → Prop :=
nw_ (.cells #[(.string s1), (I x2), (.slice a3 n3 c3)] 139 (0, 0)) fun k6 =>
lT ⟨k6, 0, none⟩ fun s10 =>
br_ (strEq s10 {data := #[115, 101, 110, 116]}) (lL ⟨k6, 2, none⟩ fun p15 k16 k17 =>
br_ ((↑k16 : Int) == 2) (drw (nn_ p0 fun a20 =>
lP (a20.o 1) fun p24 =>
lI ⟨k6, 1, none⟩ fun n28 =>
lL ⟨k6, 2, none⟩ fun p32 k33 k34 =>
sa_ p32 k33 0 1 fun a36 =>
lI a36 fun n40 =>
lL ⟨k6, 2, none⟩ fun p44 k45 k46 =>
sa_ p44 k45 1 1 fun a48 =>
lI a48 fun n52 =>
cI 219 [(.pointer p24), (I n28), (I n40), (I n52)] fun n56 =>
K (.tuple #[]))) (K (.tuple #[]))) (K (.tuple #[]))
theorem F125_go {p0 s1 x2 a3 n3 c3 K w} : F125 p0 s1 x2 a3 n3 c3 K w → c_ 125 [(.pointer p0), (.agg #[(.string s1), (I x2), (.slice a3 n3 c3)])] K w := goF Tryz.func125 (by kernel_rfl)
def F129 (p0 : Option Addr) (x1 : Int) (x2 : Int) (x3 : Int) (x4 : Int) (x5 : Int) (x6 : Int) (x7 : Int) (K : KV) : World → Prop :=
nw_ (.cells #[(I x1), (I x2), (I x3), (I x4), (I x5), (I x6), (I x7)] 35 (0, 0)) fun k8 =>
drw (kps fun S10 =>
nn_ p0 fun a12 =>
ldS_ S10 (a12.o 1) fun v14 =>
aP v14 fun p16 =>
ldS_ S10 ⟨k8, 3, none⟩ fun v18 =>
aI v18 fun n20 =>
c_ 223 [(.pointer p16), (I n20)] fun v22 =>
aT 3 v22 fun f24 =>
aI (f24 0) fun n26 =>
aI (f24 1) fun n28 =>
aB (f24 2) fun b30 =>
kp_ S10 (br_ b30 (drw (kps fun S34 =>
ldS_ S34 ⟨k8, 3, none⟩ fun v36 =>
aI v36 fun n38 =>
ldS_ S34 ⟨k8, 5, none⟩ fun v40 =>
aI v40 fun n42 =>
ldS_ S34 ⟨k8, 6, none⟩ fun v44 =>
aI v44 fun n46 =>
cP 119 [] fun p50 =>
kp_ S34 (cI 219 [(.pointer p50), (I n38), (I n42), (I n46)] fun n55 =>
kp_ S34 (K (.bool (n55 == 0)))))) (lI ⟨k8, 3, none⟩ fun n61 =>
lI ⟨k8, 5, none⟩ fun n65 =>
lI ⟨k8, 6, none⟩ fun n69 =>
nw_ (.cells #[(I n65), (I n69)] 3 (0, 0)) fun k71 =>
nw_ (.cells #[(.string ({data := #[]})), (I 0), (.slice none 0 0)] 139 (0, 0)) fun k73 =>
st_ ⟨k73, 0, none⟩ (.string ({data := #[115, 101, 110, 116]})) (st_ ⟨k73, 1, none⟩ (I n61) (st_ ⟨k73, 2, none⟩ (.slice (some ⟨k71, 0, none⟩) 2 2) (drw (kps fun S78 =>
ldS_ S78 ⟨k8, 3, none⟩ fun v80 =>
aI v80 fun n82 =>
ldS_ S78 ⟨k8, 5, none⟩ fun v84 =>
aI v84 fun n86 =>
ldS_ S78 ⟨k8, 6, none⟩ fun v88 =>
aI v88 fun n90 =>
cP 119 [] fun p94 =>
kp_ S78 (cI 219 [(.pointer p94), (I n82), (I n86), (I n90)] fun n99 =>
kp_ S78 (br_ (n99 != 0) (K (.bool false)) (nn_ p0 fun a104 =>
ldS_ S78 a104 fun v106 =>
aP v106 fun p108 =>
ldS_ S78 ⟨k73, 0, none⟩ fun v110 =>
aS v110 fun s112 =>
ldS_ S78 ⟨k73, 1, none⟩ fun v114 =>
aI v114 fun n116 =>
ldS_ S78 ⟨k73, 2, none⟩ fun v118 =>
aL v118 fun p120 k121 k122 =>
cI 211 [(.pointer p108), (.agg #[(.string s112), (I n116), (.slice p120 k121 k122)])] fun n126 =>
kp_ S78 (br_ (n126 != 0) (K (.bool false)) (nn_ p0 fun a131 =>
lP a131 fun p135 =>
cI 202 [(.pointer p135)] fun n139 =>
lT ⟨k73, 0, none⟩ fun s143 =>
lI ⟨k73, 1, none⟩ fun n147 =>
lL ⟨k73, 2, none⟩ fun p151 k152 k153 =>
c_ 125 [(.pointer p0), (.agg #[(.string s143), (I n147), (.slice p151 k152 k153)])] fun v155 =>
aT 0 v155 fun f157 =>
K (.bool true)))))))))))))
theorem F129_go {p0 x1 x2 x3 x4 x5 x6 x7 K w} : F129 p0 x1 x2 x3 x4 x5 x6 x7 K w → c_ 129 [(.pointer p0), (.agg #[(I x1), (I x2), (I x3), (I x4), (I x5), (I x6), (I x7)])] K w := goT (T := [(1, [0, 1, 2, 3, 4, 5, 6, 7, 8, 9, 10, 11, 12, 13]), (3, [1, 2, 3, 4, 5, 6, 0, 7, 8, 9]), (5, [1, 2, 3, 4, 5, 6, 0, 7, 8, 9, 10, 11, 12, 13, 14, 15, 16, 17])]) Tryz.func129 (by kernel_rfl)
end Go.Proofs.YtcfmnoimehcfnaaGreatDoor
