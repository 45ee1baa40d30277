/- The shallow readings of some functions of the program (printed by a program of ours out of the model's own evaluation) and, for each, the proof that it is one. Conditions: none. -/
import Derived.Test.YtcfmnoimehcfnaaGreatDoorFSv
set_option maxRecDepth 100000
set_option linter.unusedVariables false
namespace Go.Proofs.YtcfmnoimehcfnaaGreatDoor
open Go Go.Sh
def F56 (x0 : Int) (a1 : Option Addr) (n1 : Nat) (c1 : Nat) (x2 : Int) (K : KV) : World → Prop :=
br_ (x0 != 1) (br_ (x0 != 2) (K (.pointer none)) (cL 143 [(.slice a1 n1 c1)] fun p10 k11 k12 =>
cP 98 [(I x2)] fun p16 =>
nw_ (.cells #[(I x0), (.slice p10 k11 k12), (.pointer p16), Value.nilIface, (.map none)] 189 (0, 0)) fun k18 =>
c_ 144 [(pk k18)] fun v20 =>
aT 0 v20 fun f22 =>
K (pk k18))) (cL 143 [(.slice a1 n1 c1)] fun p27 k28 k29 =>
cP 98 [(I x2)] fun p33 =>
nw_ (.cells #[(I x0), (.slice p27 k28 k29), (.pointer p33), Value.nilIface, (.map none)] 189 (0, 0)) fun k35 =>
c_ 144 [(pk k35)] fun v37 =>
aT 0 v37 fun f39 =>
K (pk k35))
theorem F56_go {x0 a1 n1 c1 x2 K w} : F56 x0 a1 n1 c1 x2 K w → c_ 56 [(I x0), (.slice a1 n1 c1), (I x2)] K w := goF Tryz.func56 (by kernel_rfl)
def F57 (p0 : Option Addr) (x1 : Int) (K : KV) : World → Prop :=
br_ p0.isNone (K (I 0)) (nn_ p0 fun a4 =>
lM (a4.o 4) fun p8 =>
mget_ 176 (.map p8) (I x1) false fun v10 =>
aI v10 fun n12 =>
K (I n12))
theorem F57_go {p0 x1 K w} : F57 p0 x1 K w → c_ 57 [(.pointer p0), (I x1)] K w := goF Tryz.func57 (by kernel_rfl)
def F58 (p0 : Option Addr) (x1 : Int) (x2 : Int) (K : KV) : World → Prop :=
br_ p0.isNone (K (.tuple #[])) (cB 76 [(.pointer p0)] fun b7 =>
br_ b7 (K (.tuple #[])) (nn_ p0 fun a11 =>
lP (a11.o 2) fun p15 =>
c_ 121 [(.pointer p15), (I x1), (I x2)] fun v17 =>
aT 0 v17 fun f19 =>
c_ 144 [(.pointer p0)] fun v21 =>
aT 0 v21 fun f23 =>
K (.tuple #[])))
theorem F58_go {p0 x1 x2 K w} : F58 p0 x1 x2 K w → c_ 58 [(.pointer p0), (I x1), (I x2)] K w := goF Tryz.func58 (by kernel_rfl)
def F59 (p0 : Option Addr) (K : KV) : World → Prop :=
nw_ (.cells #[(.pointer p0)] 85 (0, 0)) fun k1 =>
lP ⟨k1, 0, none⟩ fun p5 =>
br_ p5.isNone (K (.tuple #[])) (lP ⟨k1, 0, none⟩ fun p11 =>
cB 76 [(.pointer p11)] fun b15 =>
br_ (!b15) (K (.tuple #[])) (lP ⟨k1, 0, none⟩ fun p21 =>
nn_ p21 fun a23 =>
lP (a23.o 2) fun p27 =>
cI 123 [(.pointer p27)] fun n31 =>
lP ⟨k1, 0, none⟩ fun p35 =>
c_ 144 [(.pointer p35)] fun v37 =>
aT 0 v37 fun f39 =>
lP ⟨k1, 0, none⟩ fun p43 =>
nn_ p43 fun a45 =>
lP (a45.o 2) fun p49 =>
c_ 124 [(.pointer p49)] fun v51 =>
aF v51 fun k53 x54 =>
rfn_ (fun k56 k57 f58 =>
c_ k53 ((.func (Fn.yield k57) #[] #[]) :: x54.1) fun v60 =>
rfe_ k57 f58 (rfj (dfr_ k56 (K (.tuple #[]))) (dfr_ k56 (K (.tuple #[]))) [])) fun k68 f69 l70 f71 =>
aT 1 (.tuple l70.toArray) fun f73 =>
aN 3 (f73 0) fun f75 =>
aS (f75 0) fun s77 =>
aI (f75 1) fun n79 =>
aL (f75 2) fun p81 k82 k83 =>
nw_ (.cells #[(.string ({data := #[]})), (I 0), (.slice none 0 0)] 139 (0, 0)) fun k85 =>
st_ ⟨k85, 0, none⟩ (.string s77) (st_ ⟨k85, 1, none⟩ (I n79) (st_ ⟨k85, 2, none⟩ (.slice p81 k82 k83) (rfb_ k68 f69 (lP ⟨k1, 0, none⟩ fun p93 =>
lT ⟨k85, 0, none⟩ fun s97 =>
lI ⟨k85, 1, none⟩ fun n101 =>
lL ⟨k85, 2, none⟩ fun p105 k106 k107 =>
c_ 145 [(.pointer p93), (.agg #[(.string s97), (I n101), (.slice p105 k106 k107)])] fun v109 =>
aT 0 v109 fun f111 =>
rfy_ k68 f69 f71))))))
theorem F59_go {p0 K w} : F59 p0 K w → c_ 59 [(.pointer p0)] K w := goT (T := [(1000022, [139])]) Tryz.func59 (by kernel_rfl)
def F60 (p0 : Option Addr) (x1 : Int) (K : KV) : World → Prop :=
br_ p0.isNone (K (.slice none 0 0)) (cB 76 [(.pointer p0)] fun b6 =>
br_ b6 (K (.slice none 0 0)) (cI 57 [(.pointer p0), (I x1)] fun n12 =>
br_ (n12 != 1) (K (.slice none 0 0)) (nn_ p0 fun a16 =>
lI a16 fun n20 =>
nw_ (.cells #[(I 0), (I 0), (I 0), (I 0), (I 0), (I 0), (I 0)] 35 (0, 0)) fun k22 =>
st_ ⟨k22, 0, none⟩ (I 12) (st_ ⟨k22, 1, none⟩ (I n20) (st_ ⟨k22, 2, none⟩ (I 0) (st_ ⟨k22, 3, none⟩ (I x1) (st_ ⟨k22, 4, none⟩ (I 0) (st_ ⟨k22, 5, none⟩ (I 0) (st_ ⟨k22, 6, none⟩ (I 0) (lI ⟨k22, 0, none⟩ fun n33 =>
lI ⟨k22, 1, none⟩ fun n37 =>
lI ⟨k22, 2, none⟩ fun n41 =>
lI ⟨k22, 3, none⟩ fun n45 =>
lI ⟨k22, 4, none⟩ fun n49 =>
lI ⟨k22, 5, none⟩ fun n53 =>
lI ⟨k22, 6, none⟩ fun n57 =>
nw_ (.cells #[(I 0), (I 0), (I 0), (I 0), (I 0), (I 0), (I 0)] 35 (0, 0)) fun k59 =>
st_ ⟨k59, 0, none⟩ (I n33) (st_ ⟨k59, 1, none⟩ (I n37) (st_ ⟨k59, 2, none⟩ (I n41) (st_ ⟨k59, 3, none⟩ (I n45) (st_ ⟨k59, 4, none⟩ (I n49) (st_ ⟨k59, 5, none⟩ (I n53) (st_ ⟨k59, 6, none⟩ (I n57) (cI 146 [(.pointer p0)] fun n70 =>
st_ ⟨k59, 2, none⟩ (I n70) (lI ⟨k22, 0, none⟩ fun n75 =>
lI ⟨k22, 1, none⟩ fun n79 =>
lI ⟨k22, 2, none⟩ fun n83 =>
lI ⟨k22, 3, none⟩ fun n87 =>
lI ⟨k22, 4, none⟩ fun n91 =>
lI ⟨k22, 5, none⟩ fun n95 =>
lI ⟨k22, 6, none⟩ fun n99 =>
lI ⟨k59, 0, none⟩ fun n103 =>
lI ⟨k59, 1, none⟩ fun n107 =>
lI ⟨k59, 2, none⟩ fun n111 =>
lI ⟨k59, 3, none⟩ fun n115 =>
lI ⟨k59, 4, none⟩ fun n119 =>
lI ⟨k59, 5, none⟩ fun n123 =>
lI ⟨k59, 6, none⟩ fun n127 =>
nw_ (.cells #[(I n75), (I n79), (I n83), (I n87), (I n91), (I n95), (I n99), (I n103), (I n107), (I n111), (I n115), (I n119), (I n123), (I n127)] 35 (0, 0)) fun k129 =>
K (.slice (some ⟨k129, 0, none⟩) 2 2)))))))))))))))))))
theorem F60_go {p0 x1 K w} : F60 p0 x1 K w → c_ 60 [(.pointer p0), (I x1)] K w := goF Tryz.func60 (by kernel_rfl)
def F61 (p0 : Option Addr) (x1 : Int) (b2 : Bool) (K : KV) : World → Prop :=
br_ p0.isNone (K (I 1)) (cB 76 [(.pointer p0)] fun b7 =>
br_ b7 (K (I 10)) (cB 147 [(I x1)] fun b13 =>
br_ (!b13) (K (I 1)) (cI 57 [(.pointer p0), (I x1)] fun n19 =>
c_ 148 [(I n19), (.bool b2)] fun v21 =>
aT 2 v21 fun f23 =>
aI (f23 0) fun n25 =>
aI (f23 1) fun n27 =>
br_ (n27 == 0) (cB 149 [(.pointer p0), (I x1), (I n25), (.slice none 0 0)] fun b32 =>
br_ (!b32) (K (I 5)) (K (I n27))) (K (I n27)))))
theorem F61_go {p0 x1 b2 K w} : F61 p0 x1 b2 K w → c_ 61 [(.pointer p0), (I x1), (.bool b2)] K w := goF Tryz.func61 (by kernel_rfl)
def F62 (p0 : Option Addr) (x1 : Int) (x2 : Int) (x3 : Int) (x4 : Int) (x5 : Int) (x6 : Int) (x7 : Int) (K : KV) : World → Prop :=
nw_ (.cells #[(I x1), (I x2), (I x3), (I x4), (I x5), (I x6), (I x7)] 35 (0, 0)) fun k8 =>
jn_ (X := Unit) (fun J10 =>
drw (kps fun S12 =>
br_ p0.isNone (K (.slice none 0 0)) (cB 76 [(.pointer p0)] fun b18 =>
kp_ S12 (br_ b18 (K (.slice none 0 0)) (ldS_ S12 ⟨k8, 2, none⟩ fun v23 =>
aI v23 fun n25 =>
nn_ p0 fun a27 =>
ldS_ S12 a27 fun v29 =>
aI v29 fun n31 =>
br_ (n25 != n31) (K (.slice none 0 0)) (ldS_ S12 ⟨k8, 3, none⟩ fun v35 =>
aI v35 fun n37 =>
cB 147 [(I n37)] fun b41 =>
kp_ S12 (br_ (!b41) (K (.slice none 0 0)) (ldS_ S12 ⟨k8, 1, none⟩ fun v46 =>
aI v46 fun n48 =>
br_ (n48 != 0) (ldS_ S12 ⟨k8, 1, none⟩ fun v51 =>
aI v51 fun n53 =>
cI 146 [(.pointer p0)] fun n57 =>
kp_ S12 (br_ (n53 != n57) (K (.slice none 0 0)) (J10 ()))) (J10 ()))))))))) fun x63 =>
lI ⟨k8, 3, none⟩ fun n67 =>
cI 57 [(.pointer p0), (I n67)] fun n71 =>
drw (kps fun S73 =>
ldS_ S73 ⟨k8, 0, none⟩ fun v75 =>
aI v75 fun n77 =>
ldS_ S73 ⟨k8, 0, none⟩ fun v79 =>
aI v79 fun n81 =>
ldS_ S73 ⟨k8, 1, none⟩ fun v83 =>
aI v83 fun n85 =>
ldS_ S73 ⟨k8, 2, none⟩ fun v87 =>
aI v87 fun n89 =>
ldS_ S73 ⟨k8, 3, none⟩ fun v91 =>
aI v91 fun n93 =>
ldS_ S73 ⟨k8, 4, none⟩ fun v95 =>
aI v95 fun n97 =>
ldS_ S73 ⟨k8, 5, none⟩ fun v99 =>
aI v99 fun n101 =>
ldS_ S73 ⟨k8, 6, none⟩ fun v103 =>
aI v103 fun n105 =>
cB 151 [(.pointer p0), (.agg #[(I n81), (I n85), (I n89), (I n93), (I n97), (I n101), (I n105)])] fun b109 =>
kp_ S73 (c_ 150 [(I n71), (I n77), (.bool b109)] fun v112 =>
aT 2 v112 fun f114 =>
aI (f114 0) fun n116 =>
aI (f114 1) fun n118 =>
kp_ S73 (jn_ (X := Unit) (fun J121 =>
br_ (n116 != n71) (jn_ (X := ((Option Addr) × Nat × Nat) × Unit) (fun J124 =>
br_ (n116 == 1) (lI ⟨k8, 5, none⟩ fun n129 =>
lI ⟨k8, 6, none⟩ fun n133 =>
nw_ (.cells #[(I n129), (I n133)] 3 (0, 0)) fun k135 =>
J124 (((some ⟨k135, 0, none⟩), 2, 2), ())) (J124 ((none, 0, 0), ()))) fun x138 =>
lI ⟨k8, 3, none⟩ fun n142 =>
cB 149 [(.pointer p0), (I n142), (I n116), (.slice x138.fst.1 x138.fst.snd.fst x138.fst.snd.snd)] fun b146 =>
br_ (!b146) (K (.slice none 0 0)) (J121 ())) (J121 ())) fun x151 =>
lI ⟨k8, 1, none⟩ fun n155 =>
jn_ (X := Int × Unit) (fun J157 =>
br_ (n118 == 0) (K (.slice none 0 0)) (br_ (n118 == 11) (J157 (0, ())) (br_ (n118 == 17) (J157 (0, ())) (J157 (n155, ()))))) fun x165 =>
drw (nn_ p0 fun a167 =>
lI a167 fun n171 =>
lI ⟨k8, 3, none⟩ fun n175 =>
nw_ (.cells #[(I n118), (I n171), (I x165.fst), (I n175), (I 0), (I 0), (I 0)] 35 (0, 0)) fun k177 =>
K (.slice (some ⟨k177, 0, none⟩) 1 1)))))
theorem F62_go {p0 x1 x2 x3 x4 x5 x6 x7 K w} : F62 p0 x1 x2 x3 x4 x5 x6 x7 K w → c_ 62 [(.pointer p0), (.agg #[(I x1), (I x2), (I x3), (I x4), (I x5), (I x6), (I x7)])] K w := goT (T := [(1, [0, 1, 2, 3, 4, 5, 6, 7, 8, 9, 10, 11, 12, 13, 14, 15, 16, 17, 18, 19, 20, 21, 22, 23, 24, 25, 26, 27, 28, 29, 30, 31, 32]), (4, [0, 1, 2, 3, 4, 5, 6, 7, 8, 9, 10, 11]), (4000003, []), (4000011, []), (4000009, [8, 3]), (4000018, [9, 0])]) Tryz.func62 (by kernel_rfl)
def F63 (p0 : Option Addr) (K : KV) : World → Prop :=
br_ p0.isNone (K (.pointer none)) (nn_ p0 fun a3 =>
ld_ (a3.o 3) fun v5 =>
tyas_ v5 187 196 true fun v7 =>
aT 2 v7 fun f9 =>
aN 1 (f9 0) fun f11 =>
aP (f11 0) fun p13 =>
aB (f9 1) fun b15 =>
nw_ (.cells #[(.pointer none)] 196 (0, 0)) fun k17 =>
st_ ⟨k17, 0, none⟩ (.pointer p13) (lP ⟨k17, 0, none⟩ fun p22 =>
K (.pointer p22)))
theorem F63_go {p0 K w} : F63 p0 K w → c_ 63 [(.pointer p0)] K w := goF Tryz.func63 (by kernel_rfl)
def F64 (p0 : Option Addr) (x1 : Int) (K : KV) : World → Prop :=
br_ p0.isNone (K (I 0)) (cB 152 [(I x1)] fun b6 =>
br_ (!b6) (K (I 0)) (nn_ p0 fun a10 =>
ra_ a10 8 x1 1 fun a12 =>
lI a12 fun n16 =>
K (I n16)))
theorem F64_go {p0 x1 K w} : F64 p0 x1 K w → c_ 64 [(.pointer p0), (I x1)] K w := goF Tryz.func64 (by kernel_rfl)
def F65 (p0 : Option Addr) (x1 : Int) (K : KV) : World → Prop :=
br_ p0.isNone (K (I 0)) (cB 152 [(I x1)] fun b6 =>
br_ (!b6) (K (I 0)) (nn_ p0 fun a10 =>
ra_ (a10.o 8) 8 x1 1 fun a12 =>
lI a12 fun n16 =>
K (I n16)))
theorem F65_go {p0 x1 K w} : F65 p0 x1 K w → c_ 65 [(.pointer p0), (I x1)] K w := goF Tryz.func65 (by kernel_rfl)
def F67 (K : KV) : World → Prop :=
nw_ (.cells #[(I 5)] 3 (0, 0)) fun k0 =>
cP 56 [(I 1), (.slice (some ⟨k0, 0, none⟩) 1 1), (I 20)] fun p4 =>
br_ p4.isNone (K (.bool false)) (nw_ (.cells #[(I 0), (I 0), (I 0), (I 0), (I 0), (I 0), (I 0)] 35 (0, 0)) fun k8 =>
st_ ⟨k8, 0, none⟩ (I 6) (st_ ⟨k8, 1, none⟩ (I 0) (st_ ⟨k8, 2, none⟩ (I 1) (st_ ⟨k8, 3, none⟩ (I 7) (st_ ⟨k8, 4, none⟩ (I 0) (st_ ⟨k8, 5, none⟩ (I 0) (st_ ⟨k8, 6, none⟩ (I 2) (lI ⟨k8, 0, none⟩ fun n19 =>
lI ⟨k8, 1, none⟩ fun n23 =>
lI ⟨k8, 2, none⟩ fun n27 =>
lI ⟨k8, 3, none⟩ fun n31 =>
lI ⟨k8, 4, none⟩ fun n35 =>
lI ⟨k8, 5, none⟩ fun n39 =>
lI ⟨k8, 6, none⟩ fun n43 =>
cL 62 [(.pointer p4), (.agg #[(I n19), (I n23), (I n27), (I n31), (I n35), (I n39), (I n43)])] fun p47 k48 k49 =>
cL 62 [(.pointer p4), (.agg #[(I 10), (I 0), (I 1), (I 7), (I 0), (I 0), (I 0)])] fun p53 k54 k55 =>
lI ⟨k8, 0, none⟩ fun n59 =>
lI ⟨k8, 1, none⟩ fun n63 =>
lI ⟨k8, 2, none⟩ fun n67 =>
lI ⟨k8, 3, none⟩ fun n71 =>
lI ⟨k8, 4, none⟩ fun n75 =>
lI ⟨k8, 5, none⟩ fun n79 =>
lI ⟨k8, 6, none⟩ fun n83 =>
cL 62 [(.pointer p4), (.agg #[(I n59), (I n63), (I n67), (I n71), (I n75), (I n79), (I n83)])] fun p87 k88 k89 =>
br_ ((↑k48 : Int) == 1) (sa_ p47 k48 0 7 fun a92 =>
lI a92 fun n96 =>
br_ (n96 == 7) (br_ ((↑k54 : Int) == 1) (sa_ p53 k54 0 7 fun a100 =>
lI a100 fun n104 =>
br_ (n104 == 11) (br_ ((↑k88 : Int) == 1) (sa_ p87 k88 0 7 fun a108 =>
lI a108 fun n112 =>
br_ (n112 == 8) (cP 63 [(.pointer p4)] fun p117 =>
cI 65 [(.pointer p117), (I 0)] fun n121 =>
K (.bool (n121 == 5))) (K (.bool false))) (K (.bool false))) (K (.bool false))) (K (.bool false))) (K (.bool false))) (K (.bool false))))))))))
theorem F67_go {K w} : F67  K w → c_ 67 [] K w := goF Tryz.func67 (by kernel_rfl)
def F76 (p0 : Option Addr) (K : KV) : World → Prop :=
br_ p0.isSome (nn_ p0 fun a2 =>
lP (a2.o 2) fun p6 =>
cB 133 [(.pointer p6)] fun b10 =>
K (.bool b10)) (K (.bool false))
theorem F76_go {p0 K w} : F76 p0 K w → c_ 76 [(.pointer p0)] K w := goF Tryz.func76 (by kernel_rfl)
def F143 (a0 : Option Addr) (n0 : Nat) (c0 : Nat) (K : KV) : World → Prop :=
br_ a0.isNone (K (.slice none 0 0)) (nw_ (.cells #[] 3 (0, 0)) fun k5 =>
bapp_ #[56, 56] 56 (.slice (some ⟨k5, 0, none⟩) 0 0) (.slice a0 n0 c0) fun v7 =>
aL v7 fun p9 k10 k11 =>
K (.slice p9 k10 k11))
theorem F143_go {a0 n0 c0 K w} : F143 a0 n0 c0 K w → c_ 143 [(.slice a0 n0 c0)] K w := goF Tryz.func143 (by kernel_rfl)
def F144 (p0 : Option Addr) (K : KV) : World → Prop :=
nw_ (.map #[] 0) fun k1 =>
nn_ p0 fun a3 =>
st_ (a3.o 4) (.map (some k1)) (nn_ p0 fun a6 =>
lI a6 fun n10 =>
br_ (n10 == 1) (nn_ p0 fun a13 =>
lL (a13.o 1) fun p17 k18 k19 =>
cP 234 [(.slice p17 k18 k19)] fun p23 =>
nn_ p0 fun a25 =>
st_ (a25.o 3) (.iface 196 (.agg #[(.pointer p23)])) (K (.tuple #[]))) (nn_ p0 fun a29 =>
lL (a29.o 1) fun p33 k34 k35 =>
cP 235 [(.slice p33 k34 k35)] fun p39 =>
nn_ p0 fun a41 =>
st_ (a41.o 3) (.iface 264 (.agg #[(.pointer p39)])) (K (.tuple #[]))))
theorem F144_go {p0 K w} : F144 p0 K w → c_ 144 [(.pointer p0)] K w := goF Tryz.func144 (by kernel_rfl)
def F145 (p0 : Option Addr) (s1 : ByteArray) (x2 : Int) (a3 : Option Addr) (n3 : Nat) (c3 : Nat) (K : KV) : World → Prop :=
nw_ (.cells #[(.string s1), (I x2), (.slice a3 n3 c3)] 139 (0, 0)) fun k6 =>
cM 236 [] fun p10 =>
mrng_ 265 (.map p10) fun v12 =>
lp_ (X := Unit) () fun x14 rec15 =>
mnxt_ v12 false 0 fun v17 =>
aB1 v17 fun b19 l20 =>
br_ b19 (mtry_ v12 fun v23 =>
aT 2 v23 fun f25 =>
aI (f25 0) fun n27 =>
aS (f25 1) fun s29 =>
lT ⟨k6, 0, none⟩ fun s33 =>
br_ (!strEq s29 s33) (rec15 ()) (br_ (n27 == 1) (lL ⟨k6, 2, none⟩ fun p40 k41 k42 =>
br_ ((↑k41 : Int) == 2) (drw (nn_ p0 fun a45 =>
ld_ (a45.o 3) fun v47 =>
lI ⟨k6, 1, none⟩ fun n51 =>
lL ⟨k6, 2, none⟩ fun p55 k56 k57 =>
sa_ p55 k56 0 1 fun a59 =>
lI a59 fun n63 =>
lL ⟨k6, 2, none⟩ fun p67 k68 k69 =>
sa_ p67 k68 1 1 fun a71 =>
lI a71 fun n75 =>
nif_ v47 (ivk_ v47 ("wharfinger/keeper.take") [(I n51), (I n63), (I n75)] fun v78 =>
aB v78 fun b80 =>
c_ 237 [(I n27)] fun v82 =>
aT 2 v82 fun f84 =>
aB (f84 0) fun b86 =>
aB (f84 1) fun b88 =>
br_ b88 (br_ b86 (drw (nn_ p0 fun a92 =>
ld_ (a92.o 3) fun v94 =>
lI ⟨k6, 1, none⟩ fun n98 =>
ivk_ v94 ("wharfinger/keeper.gives") [(I n98)] fun v100 =>
aT 0 v100 fun f102 =>
drw (nn_ p0 fun a104 =>
lM (a104.o 4) fun p108 =>
lI ⟨k6, 1, none⟩ fun n112 =>
mset_ 176 (.map p108) (I n112) (I n27) (K (.tuple #[]))))) (br_ b88 (drw (nn_ p0 fun a117 =>
ld_ (a117.o 3) fun v119 =>
lI ⟨k6, 1, none⟩ fun n123 =>
ivk_ v119 ("wharfinger/keeper.lets") [(I n123)] fun v125 =>
aT 0 v125 fun f127 =>
drw (nn_ p0 fun a129 =>
lM (a129.o 4) fun p133 =>
lI ⟨k6, 1, none⟩ fun n137 =>
mset_ 176 (.map p133) (I n137) (I n27) (K (.tuple #[]))))) (drw (nn_ p0 fun a141 =>
lM (a141.o 4) fun p145 =>
lI ⟨k6, 1, none⟩ fun n149 =>
mset_ 176 (.map p145) (I n149) (I n27) (K (.tuple #[])))))) (br_ b88 (drw (nn_ p0 fun a154 =>
ld_ (a154.o 3) fun v156 =>
lI ⟨k6, 1, none⟩ fun n160 =>
ivk_ v156 ("wharfinger/keeper.lets") [(I n160)] fun v162 =>
aT 0 v162 fun f164 =>
drw (nn_ p0 fun a166 =>
lM (a166.o 4) fun p170 =>
lI ⟨k6, 1, none⟩ fun n174 =>
mset_ 176 (.map p170) (I n174) (I n27) (K (.tuple #[]))))) (drw (nn_ p0 fun a178 =>
lM (a178.o 4) fun p182 =>
lI ⟨k6, 1, none⟩ fun n186 =>
mset_ 176 (.map p182) (I n186) (I n27) (K (.tuple #[])))))))) (c_ 237 [(I n27)] fun v190 =>
aT 2 v190 fun f192 =>
aB (f192 0) fun b194 =>
aB (f192 1) fun b196 =>
br_ b196 (br_ b194 (drw (nn_ p0 fun a200 =>
ld_ (a200.o 3) fun v202 =>
lI ⟨k6, 1, none⟩ fun n206 =>
ivk_ v202 ("wharfinger/keeper.gives") [(I n206)] fun v208 =>
aT 0 v208 fun f210 =>
drw (nn_ p0 fun a212 =>
lM (a212.o 4) fun p216 =>
lI ⟨k6, 1, none⟩ fun n220 =>
mset_ 176 (.map p216) (I n220) (I n27) (K (.tuple #[]))))) (br_ b196 (drw (nn_ p0 fun a225 =>
ld_ (a225.o 3) fun v227 =>
lI ⟨k6, 1, none⟩ fun n231 =>
ivk_ v227 ("wharfinger/keeper.lets") [(I n231)] fun v233 =>
aT 0 v233 fun f235 =>
drw (nn_ p0 fun a237 =>
lM (a237.o 4) fun p241 =>
lI ⟨k6, 1, none⟩ fun n245 =>
mset_ 176 (.map p241) (I n245) (I n27) (K (.tuple #[]))))) (drw (nn_ p0 fun a249 =>
lM (a249.o 4) fun p253 =>
lI ⟨k6, 1, none⟩ fun n257 =>
mset_ 176 (.map p253) (I n257) (I n27) (K (.tuple #[])))))) (br_ b196 (drw (nn_ p0 fun a262 =>
ld_ (a262.o 3) fun v264 =>
lI ⟨k6, 1, none⟩ fun n268 =>
ivk_ v264 ("wharfinger/keeper.lets") [(I n268)] fun v270 =>
aT 0 v270 fun f272 =>
drw (nn_ p0 fun a274 =>
lM (a274.o 4) fun p278 =>
lI ⟨k6, 1, none⟩ fun n282 =>
mset_ 176 (.map p278) (I n282) (I n27) (K (.tuple #[]))))) (drw (nn_ p0 fun a286 =>
lM (a286.o 4) fun p290 =>
lI ⟨k6, 1, none⟩ fun n294 =>
mset_ 176 (.map p290) (I n294) (I n27) (K (.tuple #[]))))))) (c_ 237 [(I n27)] fun v298 =>
aT 2 v298 fun f300 =>
aB (f300 0) fun b302 =>
aB (f300 1) fun b304 =>
br_ b304 (br_ b302 (drw (nn_ p0 fun a308 =>
ld_ (a308.o 3) fun v310 =>
lI ⟨k6, 1, none⟩ fun n314 =>
ivk_ v310 ("wharfinger/keeper.gives") [(I n314)] fun v316 =>
aT 0 v316 fun f318 =>
drw (nn_ p0 fun a320 =>
lM (a320.o 4) fun p324 =>
lI ⟨k6, 1, none⟩ fun n328 =>
mset_ 176 (.map p324) (I n328) (I n27) (K (.tuple #[]))))) (br_ b304 (drw (nn_ p0 fun a333 =>
ld_ (a333.o 3) fun v335 =>
lI ⟨k6, 1, none⟩ fun n339 =>
ivk_ v335 ("wharfinger/keeper.lets") [(I n339)] fun v341 =>
aT 0 v341 fun f343 =>
drw (nn_ p0 fun a345 =>
lM (a345.o 4) fun p349 =>
lI ⟨k6, 1, none⟩ fun n353 =>
mset_ 176 (.map p349) (I n353) (I n27) (K (.tuple #[]))))) (drw (nn_ p0 fun a357 =>
lM (a357.o 4) fun p361 =>
lI ⟨k6, 1, none⟩ fun n365 =>
mset_ 176 (.map p361) (I n365) (I n27) (K (.tuple #[])))))) (br_ b304 (drw (nn_ p0 fun a370 =>
ld_ (a370.o 3) fun v372 =>
lI ⟨k6, 1, none⟩ fun n376 =>
ivk_ v372 ("wharfinger/keeper.lets") [(I n376)] fun v378 =>
aT 0 v378 fun f380 =>
drw (nn_ p0 fun a382 =>
lM (a382.o 4) fun p386 =>
lI ⟨k6, 1, none⟩ fun n390 =>
mset_ 176 (.map p386) (I n390) (I n27) (K (.tuple #[]))))) (drw (nn_ p0 fun a394 =>
lM (a394.o 4) fun p398 =>
lI ⟨k6, 1, none⟩ fun n402 =>
mset_ 176 (.map p398) (I n402) (I n27) (K (.tuple #[])))))))) (K (.tuple #[]))
theorem F145_go {p0 s1 x2 a3 n3 c3 K w} : F145 p0 s1 x2 a3 n3 c3 K w → c_ 145 [(.pointer p0), (.agg #[(.string s1), (I x2), (.slice a3 n3 c3)])] K w := goF Tryz.func145 (by kernel_rfl)
def F146 (p0 : Option Addr) (K : KV) : World → Prop :=
nn_ p0 fun a1 =>
lI a1 fun n5 =>
K (I (IntKind.i64.wrap (3 - n5)))
theorem F146_go {p0 K w} : F146 p0 K w → c_ 146 [(.pointer p0)] K w := goF Tryz.func146 (by kernel_rfl)
def F147 (x0 : Int) (K : KV) : World → Prop :=
br_ (decide (x0 ≥ 1)) (K (.bool (decide (x0 ≤ 999)))) (K (.bool false))
theorem F147_go {x0 K w} : F147 x0 K w → c_ 147 [(I x0)] K w := goF Tryz.func147 (by kernel_rfl)
def F148 (x0 : Int) (b1 : Bool) (K : KV) : World → Prop :=
cB 238 [(I x0)] fun b4 =>
br_ (!b4) (K (.tuple #[(I 0), (I 1)])) (br_ (x0 != 1) (K (.tuple #[(I 0), (I 7)])) (br_ b1 (K (.tuple #[(I 4), (I 0)])) (K (.tuple #[(I 5), (I 0)]))))
theorem F148_go {x0 b1 K w} : F148 x0 b1 K w → c_ 148 [(I x0), (.bool b1)] K w := goF Tryz.func148 (by kernel_rfl)
def F149 (p0 : Option Addr) (x1 : Int) (x2 : Int) (a3 : Option Addr) (n3 : Nat) (c3 : Nat) (K : KV) : World → Prop :=
cM 236 [] fun p8 =>
mget_ 265 (.map p8) (I x2) false fun v10 =>
aS v10 fun s12 =>
nw_ (.cells #[(.string ({data := #[]})), (I 0), (.slice none 0 0)] 139 (0, 0)) fun k14 =>
st_ ⟨k14, 0, none⟩ (.string s12) (st_ ⟨k14, 1, none⟩ (I x1) (st_ ⟨k14, 2, none⟩ (.slice a3 n3 c3) (drw (nn_ p0 fun a19 =>
lP (a19.o 2) fun p23 =>
lT ⟨k14, 0, none⟩ fun s27 =>
lI ⟨k14, 1, none⟩ fun n31 =>
lL ⟨k14, 2, none⟩ fun p35 k36 k37 =>
cI 211 [(.pointer p23), (.agg #[(.string s27), (I n31), (.slice p35 k36 k37)])] fun n41 =>
br_ (n41 != 0) (K (.bool false)) (nn_ p0 fun a45 =>
lP (a45.o 2) fun p49 =>
cI 202 [(.pointer p49)] fun n53 =>
lT ⟨k14, 0, none⟩ fun s57 =>
lI ⟨k14, 1, none⟩ fun n61 =>
lL ⟨k14, 2, none⟩ fun p65 k66 k67 =>
c_ 145 [(.pointer p0), (.agg #[(.string s57), (I n61), (.slice p65 k66 k67)])] fun v69 =>
aT 0 v69 fun f71 =>
K (.bool true))))))
theorem F149_go {p0 x1 x2 a3 n3 c3 K w} : F149 p0 x1 x2 a3 n3 c3 K w → c_ 149 [(.pointer p0), (I x1), (I x2), (.slice a3 n3 c3)] K w := goF Tryz.func149 (by kernel_rfl)
def F150 (x0 : Int) (x1 : Int) (b2 : Bool) (K : KV) : World → Prop :=
cB 238 [(I x0)] fun b5 =>
br_ (!b5) (K (.tuple #[(I x0), (I 0)])) (br_ (x1 == 6) (c_ 239 [(I x0), (.bool b2)] fun v10 =>
aT 2 v10 fun f12 =>
aI (f12 0) fun n14 =>
aI (f12 1) fun n16 =>
K (.tuple #[(I n14), (I n16)])) (br_ (x1 == 9) (c_ 240 [(I x0)] fun v20 =>
aT 2 v20 fun f22 =>
aI (f22 0) fun n24 =>
aI (f22 1) fun n26 =>
K (.tuple #[(I n24), (I n26)])) (br_ (x1 == 13) (c_ 240 [(I x0)] fun v30 =>
aT 2 v30 fun f32 =>
aI (f32 0) fun n34 =>
aI (f32 1) fun n36 =>
K (.tuple #[(I n34), (I n36)])) (br_ (x1 == 10) (c_ 241 [(I x0)] fun v40 =>
aT 2 v40 fun f42 =>
aI (f42 0) fun n44 =>
aI (f42 1) fun n46 =>
K (.tuple #[(I n44), (I n46)])) (br_ (x1 == 14) (c_ 241 [(I x0)] fun v50 =>
aT 2 v50 fun f52 =>
aI (f52 0) fun n54 =>
aI (f52 1) fun n56 =>
K (.tuple #[(I n54), (I n56)])) (br_ (x1 == 12) (c_ 242 [(I x0)] fun v60 =>
aT 2 v60 fun f62 =>
aI (f62 0) fun n64 =>
aI (f62 1) fun n66 =>
K (.tuple #[(I n64), (I n66)])) (K (.tuple #[(I x0), (I 0)]))))))))
theorem F150_go {x0 x1 b2 K w} : F150 x0 x1 b2 K w → c_ 150 [(I x0), (I x1), (.bool b2)] K w := goF Tryz.func150 (by kernel_rfl)
def F151 (p0 : Option Addr) (x1 : Int) (x2 : Int) (x3 : Int) (x4 : Int) (x5 : Int) (x6 : Int) (x7 : Int) (K : KV) : World → Prop :=
nw_ (.cells #[(I x1), (I x2), (I x3), (I x4), (I x5), (I x6), (I x7)] 35 (0, 0)) fun k8 =>
drw (lI ⟨k8, 0, none⟩ fun n12 =>
br_ (n12 == 6) (nn_ p0 fun a15 =>
lM (a15.o 4) fun p19 =>
lI ⟨k8, 3, none⟩ fun n23 =>
mget Md.see Tryz.prog 176 (.map p19) (I n23) false fun v25 =>
aI v25 fun n27 =>
br_ (n27 == 0) (nn_ p0 fun a30 =>
ld_ (a30.o 3) fun v32 =>
lI ⟨k8, 3, none⟩ fun n36 =>
lI ⟨k8, 5, none⟩ fun n40 =>
lI ⟨k8, 6, none⟩ fun n44 =>
ivk_ v32 ("wharfinger/keeper.take") [(I n36), (I n40), (I n44)] fun v46 =>
aB v46 fun b48 =>
br_ b48 (drw (nn_ p0 fun a51 =>
ld_ (a51.o 3) fun v53 =>
lI ⟨k8, 3, none⟩ fun n57 =>
ivk_ v53 ("wharfinger/keeper.lets") [(I n57)] fun v59 =>
aT 0 v59 fun f61 =>
K (.bool b48))) (K (.bool b48))) (K (.bool false))) (K (.bool false)))
theorem F151_go {p0 x1 x2 x3 x4 x5 x6 x7 K w} : F151 p0 x1 x2 x3 x4 x5 x6 x7 K w → c_ 151 [(.pointer p0), (.agg #[(I x1), (I x2), (I x3), (I x4), (I x5), (I x6), (I x7)])] K w := goF Tryz.func151 (by kernel_rfl)
def F152 (x0 : Int) (K : KV) : World → Prop :=
br_ (decide (x0 ≥ 0)) (K (.bool (decide (x0 < 8)))) (K (.bool false))
theorem F152_go {x0 K w} : F152 x0 K w → c_ 152 [(I x0)] K w := goF Tryz.func152 (by kernel_rfl)
def F234 (a0 : Option Addr) (n0 : Nat) (c0 : Nat) (K : KV) : World → Prop :=
nw_ (.map #[] 0) fun k3 =>
nw_ (.cells #[(I 0), (I 0), (I 0), (I 0), (I 0), (I 0), (I 0), (I 0), (I 0), (I 0), (I 0), (I 0), (I 0), (I 0), (I 0), (I 0), (.map (some k3))] 201 (0, 0)) fun k5 =>
lp_ (X := Int × Unit) (0, ()) fun x7 rec8 =>
br_ (decide (x7.fst < if 8 < (↑n0 : Int) then 8 else (↑n0 : Int))) (drw (sa_ a0 n0 x7.fst 1 fun a11 =>
lI a11 fun n15 =>
nn_ (some ⟨k5, 0, none⟩) fun a17 =>
ra_ a17 8 x7.fst 1 fun a19 =>
st_ a19 (I (if (if 1000000000 < n15 then 1000000000 else n15) > 0 then if 1000000000 < n15 then 1000000000 else n15 else 0)) (rec8 (IntKind.i64.wrap (x7.fst + 1), ())))) (nn_ (some ⟨k5, 0, none⟩) fun a23 =>
lI a23 fun n27 =>
lI (a23.o 1) fun n31 =>
lI (a23.o 2) fun n35 =>
lI (a23.o 3) fun n39 =>
lI (a23.o 4) fun n43 =>
lI (a23.o 5) fun n47 =>
lI (a23.o 6) fun n51 =>
lI (a23.o 7) fun n55 =>
nn_ (some ⟨k5, 0, none⟩) fun a57 =>
st_ (a57.o 8) (I n27) (st_ (a57.o 9) (I n31) (st_ (a57.o 10) (I n35) (st_ (a57.o 11) (I n39) (st_ (a57.o 12) (I n43) (st_ (a57.o 13) (I n47) (st_ (a57.o 14) (I n51) (st_ (a57.o 15) (I n55) (K (pk k5))))))))))
theorem F234_go {a0 n0 c0 K w} : F234 a0 n0 c0 K w → c_ 234 [(.slice a0 n0 c0)] K w := goF Tryz.func234 (by kernel_rfl)
def F235 (a0 : Option Addr) (n0 : Nat) (c0 : Nat) (K : KV) : World → Prop :=
nw_ (.map #[] 0) fun k3 =>
nw_ (.map #[] 0) fun k5 =>
nw_ (.cells #[(I 0), (I 0), (I 0), (I 0), (I 0), (I 0), (I 0), (I 0), (I 0), (.map (some k3)), (.map (some k5))] 277 (0, 0)) fun k7 =>
lp_ (X := Int × Unit) (0, ()) fun x9 rec10 =>
br_ (decide (x9.fst < if 8 < (↑n0 : Int) then 8 else (↑n0 : Int))) (drw (sa_ a0 n0 x9.fst 1 fun a13 =>
lI a13 fun n17 =>
nn_ (some ⟨k7, 0, none⟩) fun a19 =>
ra_ a19 8 x9.fst 1 fun a21 =>
st_ a21 (I (if (if 1000000000 < n17 then 1000000000 else n17) > 0 then if 1000000000 < n17 then 1000000000 else n17 else 0)) (rec10 (IntKind.i64.wrap (x9.fst + 1), ())))) (K (pk k7))
theorem F235_go {a0 n0 c0 K w} : F235 a0 n0 c0 K w → c_ 235 [(.slice a0 n0 c0)] K w := goF Tryz.func235 (by kernel_rfl)
def F236 (K : KV) : World → Prop :=
nw_ (.map #[] 0) fun k0 =>
mset_ 265 (.map (some k0)) (I 1) (.string ({data := #[114, 101, 97, 100, 121]})) (mset_ 265 (.map (some k0)) (I 2) (.string ({data := #[121, 101, 115]})) (mset_ 265 (.map (some k0)) (I 3) (.string ({data := #[110, 111]})) (mset_ 265 (.map (some k0)) (I 4) (.string ({data := #[102, 121, 101, 115]})) (mset_ 265 (.map (some k0)) (I 5) (.string ({data := #[102, 110, 111]})) (K (.map (some k0)))))))
theorem F236_go {K w} : F236  K w → c_ 236 [] K w := goF Tryz.func236 (by kernel_rfl)
def F237 (x0 : Int) (K : KV) : World → Prop :=
br_ (x0 == 2) (K (.tuple #[(.bool true), (.bool true)])) (br_ (x0 == 4) (K (.tuple #[(.bool true), (.bool true)])) (br_ (x0 == 3) (K (.tuple #[(.bool false), (.bool true)])) (br_ (x0 == 5) (K (.tuple #[(.bool false), (.bool true)])) (K (.tuple #[(.bool false), (.bool false)])))))
theorem F237_go {x0 K w} : F237 x0 K w → c_ 237 [(I x0)] K w := goF Tryz.func237 (by kernel_rfl)
def F238 (x0 : Int) (K : KV) : World → Prop :=
br_ (decide (x0 ≥ 0)) (K (.bool (decide (x0 ≤ 5)))) (K (.bool false))
theorem F238_go {x0 K w} : F238 x0 K w → c_ 238 [(I x0)] K w := goF Tryz.func238 (by kernel_rfl)
def F239 (x0 : Int) (b1 : Bool) (K : KV) : World → Prop :=
br_ (x0 == 0) (br_ b1 (K (.tuple #[(I 1), (I 7)])) (K (.tuple #[(I 3), (I 8)]))) (br_ (x0 == 1) (K (.tuple #[(I x0), (I 7)])) (br_ (x0 == 4) (K (.tuple #[(I x0), (I 7)])) (br_ (x0 == 3) (K (.tuple #[(I x0), (I 8)])) (br_ (x0 == 5) (K (.tuple #[(I x0), (I 8)])) (K (.tuple #[(I x0), (I 0)]))))))
theorem F239_go {x0 b1 K w} : F239 x0 b1 K w → c_ 239 [(I x0), (.bool b1)] K w := goF Tryz.func239 (by kernel_rfl)
def F240 (x0 : Int) (K : KV) : World → Prop :=
br_ (x0 == 1) (K (.tuple #[(I 2), (I 11)])) (br_ (x0 == 2) (K (.tuple #[(I 2), (I 11)])) (br_ (x0 == 4) (K (.tuple #[(I x0), (I 11)])) (br_ (x0 == 5) (K (.tuple #[(I x0), (I 17)])) (K (.tuple #[(I x0), (I 0)])))))
theorem F240_go {x0 K w} : F240 x0 K w → c_ 240 [(I x0)] K w := goF Tryz.func240 (by kernel_rfl)
def F241 (x0 : Int) (K : KV) : World → Prop :=
br_ (x0 == 0) (K (.tuple #[(I 3), (I 11)])) (br_ (x0 == 1) (K (.tuple #[(I 3), (I 11)])) (br_ (x0 == 3) (K (.tuple #[(I 3), (I 11)])) (br_ (x0 == 5) (K (.tuple #[(I x0), (I 11)])) (br_ (x0 == 4) (K (.tuple #[(I x0), (I 17)])) (K (.tuple #[(I x0), (I 0)]))))))
theorem F241_go {x0 K w} : F241 x0 K w → c_ 241 [(I x0)] K w := goF Tryz.func241 (by kernel_rfl)
def F242 (x0 : Int) (K : KV) : World → Prop :=
br_ (x0 == 0) (K (.tuple #[(I 3), (I 14)])) (br_ (x0 == 3) (K (.tuple #[(I 3), (I 14)])) (br_ (x0 == 2) (K (.tuple #[(I x0), (I 13)])) (K (.tuple #[(I x0), (I 0)]))))
theorem F242_go {x0 K w} : F242 x0 K w → c_ 242 [(I x0)] K w := goF Tryz.func242 (by kernel_rfl)
def F386 (p0 : Option Addr) (x1 : Int) (K : KV) : World → Prop :=
nw_ (.cells #[(.pointer p0)] 196 (0, 0)) fun k2 =>
lP ⟨k2, 0, none⟩ fun p6 =>
cI 389 [(.pointer p6), (I x1)] fun n10 =>
K (.tuple #[])
theorem F386_go {p0 x1 K w} : F386 p0 x1 K w → c_ 386 [(.agg #[(.pointer p0)]), (I x1)] K w := goF Tryz.func386 (by kernel_rfl)
def F387 (p0 : Option Addr) (x1 : Int) (K : KV) : World → Prop :=
nw_ (.cells #[(.pointer p0)] 196 (0, 0)) fun k2 =>
lP ⟨k2, 0, none⟩ fun p6 =>
cI 390 [(.pointer p6), (I x1)] fun n10 =>
K (.tuple #[])
theorem F387_go {p0 x1 K w} : F387 p0 x1 K w → c_ 387 [(.agg #[(.pointer p0)]), (I x1)] K w := goF Tryz.func387 (by kernel_rfl)
def F388 (p0 : Option Addr) (x1 : Int) (x2 : Int) (x3 : Int) (K : KV) : World → Prop :=
nw_ (.cells #[(.pointer p0)] 196 (0, 0)) fun k4 =>
lP ⟨k4, 0, none⟩ fun p8 =>
cI 391 [(.pointer p8), (I x1), (I x2), (I x3)] fun n12 =>
K (.bool (n12 == 0))
theorem F388_go {p0 x1 x2 x3 K w} : F388 p0 x1 x2 x3 K w → c_ 388 [(.agg #[(.pointer p0)]), (I x1), (I x2), (I x3)] K w := goF Tryz.func388 (by kernel_rfl)
def F389 (p0 : Option Addr) (x1 : Int) (K : KV) : World → Prop :=
c_ 392 [(.pointer p0), (I x1)] fun v2 =>
aT 2 v2 fun f4 =>
aN 2 (f4 0) fun f6 =>
aI (f6 0) fun n8 =>
aI (f6 1) fun n10 =>
aI (f4 1) fun n12 =>
nw_ (.cells #[(I 0), (I 0)] 407 (0, 0)) fun k14 =>
st_ ⟨k14, 0, none⟩ (I n8) (st_ ⟨k14, 1, none⟩ (I n10) (br_ (n12 == 0) (drw (lI ⟨k14, 0, none⟩ fun n21 =>
nn_ p0 fun a23 =>
ra_ a23 8 n21 1 fun a25 =>
lI a25 fun n29 =>
lI ⟨k14, 1, none⟩ fun n33 =>
nn_ p0 fun a35 =>
ra_ a35 8 n21 1 fun a37 =>
st_ a37 (I (IntKind.i64.wrap (n29 - n33))) (K (I n12)))) (K (I n12))))
theorem F389_go {p0 x1 K w} : F389 p0 x1 K w → c_ 389 [(.pointer p0), (I x1)] K w := goF Tryz.func389 (by kernel_rfl)
def F390 (p0 : Option Addr) (x1 : Int) (K : KV) : World → Prop :=
c_ 392 [(.pointer p0), (I x1)] fun v2 =>
aT 2 v2 fun f4 =>
aN 2 (f4 0) fun f6 =>
aI (f6 0) fun n8 =>
aI (f6 1) fun n10 =>
aI (f4 1) fun n12 =>
nw_ (.cells #[(I 0), (I 0)] 407 (0, 0)) fun k14 =>
st_ ⟨k14, 0, none⟩ (I n8) (st_ ⟨k14, 1, none⟩ (I n10) (br_ (n12 == 0) (drw (lI ⟨k14, 0, none⟩ fun n21 =>
nn_ p0 fun a23 =>
ra_ (a23.o 8) 8 n21 1 fun a25 =>
lI a25 fun n29 =>
lI ⟨k14, 1, none⟩ fun n33 =>
nn_ p0 fun a35 =>
ra_ (a35.o 8) 8 n21 1 fun a37 =>
st_ a37 (I (IntKind.i64.wrap (n29 + n33))) (K (I n12)))) (K (I n12))))
theorem F390_go {p0 x1 K w} : F390 p0 x1 K w → c_ 390 [(.pointer p0), (I x1)] K w := goF Tryz.func390 (by kernel_rfl)
def F391 (p0 : Option Addr) (x1 : Int) (x2 : Int) (x3 : Int) (K : KV) : World → Prop :=
br_ p0.isNone (K (I 1)) (br_ (decide (x1 < 1)) (K (I 1)) (br_ (decide (x1 > 999)) (K (I 1)) (cB 152 [(I x2)] fun b12 =>
br_ (!b12) (K (I 1)) (br_ (x3 == 0) (K (I 1)) (cB 265 [(I x3)] fun b20 =>
br_ (!b20) (K (I 1)) (nn_ p0 fun a24 =>
lM (a24.o 16) fun p28 =>
mget_ 199 (.map p28) (I x1) true fun v30 =>
aT 2 v30 fun f32 =>
aN 2 (f32 0) fun f34 =>
aI (f34 0) fun n36 =>
aI (f34 1) fun n38 =>
aB (f32 1) fun b40 =>
nw_ (.cells #[(I 0), (I 0)] 407 (0, 0)) fun k42 =>
st_ ⟨k42, 0, none⟩ (I n36) (st_ ⟨k42, 1, none⟩ (I n38) (br_ b40 (K (I 8)) (nn_ p0 fun a48 =>
ra_ (a48.o 8) 8 x2 1 fun a50 =>
lI a50 fun n54 =>
c_ 287 [(I n54), (I x3)] fun v56 =>
aT 2 v56 fun f58 =>
aI (f58 0) fun n60 =>
aI (f58 1) fun n62 =>
br_ (n62 == 0) (drw (kps fun S65 =>
nn_ p0 fun a67 =>
ldS_ S65 (a67.o 16) fun v69 =>
aM v69 fun p71 =>
nn_ p0 fun a73 =>
ra_ (a73.o 8) 8 x2 1 fun a75 =>
st_ a75 (I n60) (kp_ S65 (ment_ 199 (.map p71) (I x1) fun v79 =>
aT 2 v79 fun f81 =>
aN 2 (f81 0) fun f83 =>
aI (f83 0) fun n85 =>
aI (f83 1) fun n87 =>
aI (f81 1) fun n89 =>
kp_ S65 (mest_ 199 (.map p71) (I n89) (.agg #[(I x2), (I x3)]) (K (I n62))))))) (K (I n62)))))))))))
theorem F391_go {p0 x1 x2 x3 K w} : F391 p0 x1 x2 x3 K w → c_ 391 [(.pointer p0), (I x1), (I x2), (I x3)] K w := goT (T := [(8, [0, 1, 2, 3, 4, 5, 6, 7, 8, 9, 10, 11, 12, 13, 14, 15, 16, 17])]) Tryz.func391 (by kernel_rfl)
def F392 (p0 : Option Addr) (x1 : Int) (K : KV) : World → Prop :=
nw_ (.cells #[(I 0), (I 0)] 407 (0, 0)) fun k2 =>
br_ p0.isNone (st_ ⟨k2, 0, none⟩ (I 0) (st_ ⟨k2, 1, none⟩ (I 0) (lI ⟨k2, 0, none⟩ fun n9 =>
lI ⟨k2, 1, none⟩ fun n13 =>
K (.tuple #[(.agg #[(I n9), (I n13)]), (I 1)])))) (nn_ p0 fun a16 =>
lM (a16.o 16) fun p20 =>
mget_ 199 (.map p20) (I x1) true fun v22 =>
aT 2 v22 fun f24 =>
aN 2 (f24 0) fun f26 =>
aI (f26 0) fun n28 =>
aI (f26 1) fun n30 =>
aB (f24 1) fun b32 =>
nw_ (.cells #[(I 0), (I 0)] 407 (0, 0)) fun k34 =>
st_ ⟨k34, 0, none⟩ (I n28) (st_ ⟨k34, 1, none⟩ (I n30) (br_ (!b32) (st_ ⟨k2, 0, none⟩ (I 0) (st_ ⟨k2, 1, none⟩ (I 0) (lI ⟨k2, 0, none⟩ fun n43 =>
lI ⟨k2, 1, none⟩ fun n47 =>
K (.tuple #[(.agg #[(I n43), (I n47)]), (I 6)])))) (nn_ p0 fun a50 =>
lM (a50.o 16) fun p54 =>
bdel_ #[199, 3] 0 (.map p54) (I x1) fun v56 =>
lI ⟨k34, 0, none⟩ fun n60 =>
lI ⟨k34, 1, none⟩ fun n64 =>
st_ ⟨k2, 0, none⟩ (I n60) (st_ ⟨k2, 1, none⟩ (I n64) (lI ⟨k2, 0, none⟩ fun n70 =>
lI ⟨k2, 1, none⟩ fun n74 =>
K (.tuple #[(.agg #[(I n70), (I n74)]), (I 0)])))))))
theorem F392_go {p0 x1 K w} : F392 p0 x1 K w → c_ 392 [(.pointer p0), (I x1)] K w := goF Tryz.func392 (by kernel_rfl)
end Go.Proofs.YtcfmnoimehcfnaaGreatDoor
