/- The shallow readings of some functions of the program (printed by a program of ours out of the model's own evaluation) and, for each, the proof that it is one. Conditions: none. -/
import Derived.Test.YtcfmnoimehcfnaaGreatDoorFR1
set_option maxRecDepth 100000
set_option linter.unusedVariables false
namespace Go.Proofs.YtcfmnoimehcfnaaGreatDoor
open Go Go.Sh
def F43 (x0 : Int) (x1 : Int) (x2 : Int) (K : KV) : World → Prop :=
br_ (decide (x0 < 4)) (K (.pointer none)) (br_ (decide (x0 > 6)) (K (.pointer none)) (cP 120 [(I x2)] fun p9 =>
cP 135 [(I x1)] fun p13 =>
nw_ (.cells ([(I x0), (I x1), (.pointer p9), (.pointer p13)] ++ (List.replicate 1000 (I 0))).toArray 78 (0, 0)) fun k15 =>
K (pk k15)))
theorem F43_go {x0 x1 x2 K w} : F43 x0 x1 x2 K w → c_ 43 [(I x0), (I x1), (I x2)] K w := goF Tryz.func43 (by kernel_rfl)
def F46 (p0 : Option Addr) (x1 : Int) (x2 : Int) (K : KV) : World → Prop :=
nn_ p0 fun a3 =>
lP (a3.o 2) fun p7 =>
nn_ p7 fun a9 =>
lB (a9.o 3) fun b13 =>
br_ (!b13) (nn_ p0 fun a16 =>
lP (a16.o 2) fun p20 =>
c_ 122 [(.pointer p20), (I x1), (I x2)] fun v22 =>
aT 0 v22 fun f24 =>
nn_ p0 fun a26 =>
lI (a26.o 1) fun n30 =>
cP 135 [(I n30)] fun p34 =>
nn_ p0 fun a36 =>
st_ (a36.o 3) (.pointer p34) (nn_ p0 fun a39 =>
stN_ (a39.o 4) 1000 ((List.replicate 1000 (I 0)).toArray) (K (.tuple #[])))) (K (.tuple #[]))
theorem F46_go {p0 x1 x2 K w} : F46 p0 x1 x2 K w → c_ 46 [(.pointer p0), (I x1), (I x2)] K w := goF Tryz.func46 (by kernel_rfl)
def F48 (p0 : Option Addr) (K : KV) : World → Prop :=
nn_ p0 fun a1 =>
lP (a1.o 2) fun p5 =>
nn_ p5 fun a7 =>
lB (a7.o 3) fun b11 =>
br_ (!b11) (K (.tuple #[])) (nn_ p0 fun a15 =>
lP (a15.o 2) fun p19 =>
cI 126 [(.pointer p19)] fun n23 =>
nn_ p0 fun a25 =>
lP (a25.o 2) fun p29 =>
cL 127 [(.pointer p29)] fun p33 k34 k35 =>
lp_ (X := Int × Unit) (0, ()) fun x37 rec38 =>
br_ (decide (x37.fst < (↑k34 : Int))) (sa_ p33 k34 x37.fst 3 fun a41 =>
lT a41 fun s45 =>
lI (a41.o 1) fun n49 =>
lL (a41.o 2) fun p53 k54 k55 =>
nw_ (.cells #[(.string ({data := #[]})), (I 0), (.slice none 0 0)] 139 (0, 0)) fun k57 =>
st_ ⟨k57, 0, none⟩ (.string s45) (st_ ⟨k57, 1, none⟩ (I n49) (st_ ⟨k57, 2, none⟩ (.slice p53 k54 k55) (lT ⟨k57, 0, none⟩ fun s64 =>
br_ (strEq s64 {data := #[100, 105, 100]}) (drw (nn_ p0 fun a67 =>
lP (a67.o 3) fun p71 =>
lI ⟨k57, 1, none⟩ fun n75 =>
lL ⟨k57, 2, none⟩ fun p79 k80 k81 =>
sa_ p79 k80 0 1 fun a83 =>
lI a83 fun n87 =>
cI 137 [(.pointer p71), (I n75), (I n87)] fun n91 =>
drw (lI ⟨k57, 1, none⟩ fun n95 =>
nn_ p0 fun a97 =>
ra_ (a97.o 4) 1000 n95 1 fun a99 =>
st_ a99 (I 1) (rec38 (IntKind.i64.wrap (x37.fst + 1), ()))))) (br_ (strEq s64 {data := #[99, 97, 110, 116]}) (drw (lI ⟨k57, 1, none⟩ fun n106 =>
nn_ p0 fun a108 =>
ra_ (a108.o 4) 1000 n106 1 fun a110 =>
st_ a110 (I 2) (rec38 (IntKind.i64.wrap (x37.fst + 1), ())))) (br_ (strEq s64 {data := #[117, 110, 100, 105, 100]}) (drw (nn_ p0 fun a115 =>
lP (a115.o 3) fun p119 =>
lI ⟨k57, 1, none⟩ fun n123 =>
cI 138 [(.pointer p119), (I n123)] fun n127 =>
drw (lI ⟨k57, 1, none⟩ fun n131 =>
nn_ p0 fun a133 =>
ra_ (a133.o 4) 1000 n131 1 fun a135 =>
st_ a135 (I 3) (rec38 (IntKind.i64.wrap (x37.fst + 1), ()))))) (rec38 (IntKind.i64.wrap (x37.fst + 1), ())))))))) (K (.tuple #[])))
theorem F48_go {p0 K w} : F48 p0 K w → c_ 48 [(.pointer p0)] K w := goF Tryz.func48 (by kernel_rfl)
def F50 (p0 : Option Addr) (x1 : Int) (x2 : Int) (x3 : Int) (x4 : Int) (x5 : Int) (x6 : Int) (x7 : Int) (K : KV) : World → Prop :=
nw_ (.cells #[(I x1), (I x2), (I x3), (I x4), (I x5), (I x6), (I x7)] 35 (0, 0)) fun k8 =>
drw (nn_ p0 fun a10 =>
lP (a10.o 2) fun p14 =>
nn_ p14 fun a16 =>
lB (a16.o 3) fun b20 =>
br_ b20 (K (.slice none 0 0)) (lI ⟨k8, 2, none⟩ fun n26 =>
nn_ p0 fun a28 =>
lI a28 fun n32 =>
br_ (n26 != n32) (K (.slice none 0 0)) (lI ⟨k8, 1, none⟩ fun n38 =>
br_ (n38 != 0) (K (.slice none 0 0)) (lI ⟨k8, 3, none⟩ fun n44 =>
cB 95 [(I n44)] fun b48 =>
br_ (!b48) (K (.slice none 0 0)) (jn_ (X := Int × Unit) (fun J52 =>
drw (lI ⟨k8, 3, none⟩ fun n56 =>
nn_ p0 fun a58 =>
ra_ (a58.o 4) 1000 n56 1 fun a60 =>
lI a60 fun n64 =>
lI ⟨k8, 0, none⟩ fun n68 =>
br_ (n68 == 1) (jn_ (X := Int × Unit) (fun J71 =>
br_ (n64 == 1) (J71 (2, ())) (J71 (3, ()))) fun x75 =>
br_ (n64 == 0) (jn_ (X := Unit) (fun J78 =>
drw (nn_ p0 fun a80 =>
lP (a80.o 2) fun p84 =>
nn_ p84 fun a86 =>
lL (a86.o 1) fun p90 k91 k92 =>
nn_ p0 fun a94 =>
lP (a94.o 2) fun p98 =>
nn_ p98 fun a100 =>
lI a100 fun n104 =>
br_ (decide ((↑k91 : Int) ≥ n104)) (K (.slice none 0 0)) (J78 ()))) fun x108 =>
drw (lI ⟨k8, 3, none⟩ fun n112 =>
nn_ p0 fun a114 =>
ra_ (a114.o 4) 1000 n112 1 fun a116 =>
st_ a116 (I 2) (lI ⟨k8, 3, none⟩ fun n121 =>
c_ 132 [(.string ({data := #[99, 97, 110, 116]})), (I n121), (.slice none 0 0)] fun v123 =>
aN 3 v123 fun f125 =>
aS (f125 0) fun s127 =>
aI (f125 1) fun n129 =>
aL (f125 2) fun p131 k132 k133 =>
nw_ (.cells #[(.string ({data := #[]})), (I 0), (.slice none 0 0)] 139 (0, 0)) fun k135 =>
st_ ⟨k135, 0, none⟩ (.string s127) (st_ ⟨k135, 1, none⟩ (I n129) (st_ ⟨k135, 2, none⟩ (.slice p131 k132 k133) (jn_ (X := Int × Unit) (fun J140 =>
drw (nn_ p0 fun a142 =>
lP (a142.o 3) fun p146 =>
lI ⟨k8, 3, none⟩ fun n150 =>
lI ⟨k8, 5, none⟩ fun n154 =>
cI 137 [(.pointer p146), (I n150), (I n154)] fun n158 =>
br_ (n158 == 0) (drw (kps fun S161 =>
ldS_ S161 ⟨k8, 3, none⟩ fun v163 =>
aI v163 fun n165 =>
ldS_ S161 ⟨k8, 3, none⟩ fun v167 =>
aI v167 fun n169 =>
ldS_ S161 ⟨k8, 5, none⟩ fun v171 =>
aI v171 fun n173 =>
nn_ p0 fun a175 =>
nw_ (.cells #[(I n173)] 3 (0, 0)) fun k177 =>
kp_ S161 (c_ 132 [(.string ({data := #[100, 105, 100]})), (I n169), (.slice (some ⟨k177, 0, none⟩) 1 1)] fun v180 =>
aN 3 v180 fun f182 =>
aS (f182 0) fun s184 =>
aI (f182 1) fun n186 =>
aL (f182 2) fun p188 k189 k190 =>
kp_ S161 (ra_ (a175.o 4) 1000 n165 1 fun a193 =>
st_ a193 (I 1) (kp_ S161 (st_ ⟨k135, 0, none⟩ (.string s184) (st_ ⟨k135, 1, none⟩ (I n186) (st_ ⟨k135, 2, none⟩ (.slice p188 k189 k190) (J140 (2, ())))))))))) (J140 (x75.fst, ())))) fun x201 =>
drw (kps fun S203 =>
nn_ p0 fun a205 =>
ldS_ S203 (a205.o 2) fun v207 =>
aP v207 fun p209 =>
ldS_ S203 ⟨k135, 0, none⟩ fun v211 =>
aS v211 fun s213 =>
ldS_ S203 ⟨k135, 1, none⟩ fun v215 =>
aI v215 fun n217 =>
ldS_ S203 ⟨k135, 2, none⟩ fun v219 =>
aL v219 fun p221 k222 k223 =>
nw_ (.cells #[(.string s213), (I n217), (.slice p221 k222 k223)] 139 (0, 0)) fun k225 =>
kp_ S203 (cB 131 [(.pointer p209), (.bool true), (.slice (some ⟨k225, 0, none⟩) 1 1)] fun b230 =>
kp_ S203 (J52 (x201.fst, ())))))))))) (J52 (x75.fst, ()))) (br_ (n68 == 4) (br_ (n64 == 0) (jn_ (X := Unit) (fun J237 =>
drw (kps fun S239 =>
nn_ p0 fun a241 =>
ldS_ S239 (a241.o 2) fun v243 =>
aP v243 fun p245 =>
ldS_ S239 ⟨k8, 3, none⟩ fun v247 =>
aI v247 fun n249 =>
c_ 132 [(.string ({data := #[117, 110, 100, 105, 100]})), (I n249), (.slice none 0 0)] fun v251 =>
aN 3 v251 fun f253 =>
aS (f253 0) fun s255 =>
aI (f253 1) fun n257 =>
aL (f253 2) fun p259 k260 k261 =>
kp_ S239 (nw_ (.cells #[(.string s255), (I n257), (.slice p259 k260 k261)] 139 (0, 0)) fun k264 =>
kp_ S239 (cB 131 [(.pointer p245), (.bool true), (.slice (some ⟨k264, 0, none⟩) 1 1)] fun b269 =>
kp_ S239 (br_ (!b269) (K (.slice none 0 0)) (J237 ())))))) fun x274 =>
drw (lI ⟨k8, 3, none⟩ fun n278 =>
nn_ p0 fun a280 =>
ra_ (a280.o 4) 1000 n278 1 fun a282 =>
st_ a282 (I 3) (drw (nn_ p0 fun a285 =>
lP (a285.o 3) fun p289 =>
lI ⟨k8, 3, none⟩ fun n293 =>
cI 138 [(.pointer p289), (I n293)] fun n297 =>
J52 (5, ()))))) (br_ (n64 == 1) (jn_ (X := Unit) (fun J301 =>
drw (kps fun S303 =>
nn_ p0 fun a305 =>
ldS_ S303 (a305.o 2) fun v307 =>
aP v307 fun p309 =>
ldS_ S303 ⟨k8, 3, none⟩ fun v311 =>
aI v311 fun n313 =>
c_ 132 [(.string ({data := #[117, 110, 100, 105, 100]})), (I n313), (.slice none 0 0)] fun v315 =>
aN 3 v315 fun f317 =>
aS (f317 0) fun s319 =>
aI (f317 1) fun n321 =>
aL (f317 2) fun p323 k324 k325 =>
kp_ S303 (nw_ (.cells #[(.string s319), (I n321), (.slice p323 k324 k325)] 139 (0, 0)) fun k328 =>
kp_ S303 (cB 131 [(.pointer p309), (.bool true), (.slice (some ⟨k328, 0, none⟩) 1 1)] fun b333 =>
kp_ S303 (br_ (!b333) (K (.slice none 0 0)) (J301 ())))))) fun x338 =>
drw (lI ⟨k8, 3, none⟩ fun n342 =>
nn_ p0 fun a344 =>
ra_ (a344.o 4) 1000 n342 1 fun a346 =>
st_ a346 (I 3) (drw (nn_ p0 fun a349 =>
lP (a349.o 3) fun p353 =>
lI ⟨k8, 3, none⟩ fun n357 =>
cI 138 [(.pointer p353), (I n357)] fun n361 =>
J52 (5, ()))))) (J52 (5, ())))) (K (.slice none 0 0))))) fun x365 =>
drw (nn_ p0 fun a367 =>
lI a367 fun n371 =>
lI ⟨k8, 3, none⟩ fun n375 =>
lI ⟨k8, 4, none⟩ fun n379 =>
nw_ (.cells #[(I x365.fst), (I n371), (I 0), (I n375), (I n379), (I 0), (I 0)] 35 (0, 0)) fun k381 =>
K (.slice (some ⟨k381, 0, none⟩) 1 1)))))))
theorem F50_go {p0 x1 x2 x3 x4 x5 x6 x7 K w} : F50 p0 x1 x2 x3 x4 x5 x6 x7 K w → c_ 50 [(.pointer p0), (.agg #[(I x1), (I x2), (I x3), (I x4), (I x5), (I x6), (I x7)])] K w := goT (T := [(17, [0, 1, 2, 3, 4, 5, 6, 9, 10, 7, 8, 11, 12, 13, 14]), (18, [0, 1, 2, 3, 4, 5, 6]), (22, [0, 1, 2, 3, 4, 5, 6, 7, 8, 9]), (4000026, [5, 0]), (4000011, [5, 0]), (4000014, []), (4000018, [5, 0]), (4000024, [])]) Tryz.func50 (by kernel_rfl)
def F52 (p0 : Option Addr) (x1 : Int) (K : KV) : World → Prop :=
cB 95 [(I x1)] fun b4 =>
br_ (!b4) (K (I 0)) (nn_ p0 fun a8 =>
ra_ (a8.o 4) 1000 x1 1 fun a10 =>
lI a10 fun n14 =>
K (I n14))
theorem F52_go {p0 x1 K w} : F52 p0 x1 K w → c_ 52 [(.pointer p0), (I x1)] K w := goF Tryz.func52 (by kernel_rfl)
def F135 (x0 : Int) (K : KV) : World → Prop :=
cI 227 [(I x0)] fun n3 =>
nw_ (.cells ([(I n3)] ++ (List.replicate 1000 (I 0))).toArray 75 (0, 0)) fun k5 =>
K (pk k5)
theorem F135_go {x0 K w} : F135 x0 K w → c_ 135 [(I x0)] K w := goF Tryz.func135 (by kernel_rfl)
def F137 (p0 : Option Addr) (x1 : Int) (x2 : Int) (K : KV) : World → Prop :=
cB 95 [(I x1)] fun b5 =>
br_ (!b5) (K (I 1)) (cB 222 [(I x2)] fun b11 =>
br_ (!b11) (K (I 1)) (nn_ p0 fun a15 =>
ra_ (a15.o 1) 1000 x1 1 fun a17 =>
lI a17 fun n21 =>
br_ (decide (n21 > 0)) (K (I 8)) (nn_ p0 fun a25 =>
lI a25 fun n29 =>
br_ (decide (x2 > n29)) (K (I 9)) (nn_ p0 fun a33 =>
lI a33 fun n37 =>
nn_ p0 fun a39 =>
st_ a39 (I (IntKind.i64.wrap (n37 - x2))) (nn_ p0 fun a42 =>
ra_ (a42.o 1) 1000 x1 1 fun a44 =>
st_ a44 (I x2) (K (I 0)))))))
theorem F137_go {p0 x1 x2 K w} : F137 p0 x1 x2 K w → c_ 137 [(.pointer p0), (I x1), (I x2)] K w := goF Tryz.func137 (by kernel_rfl)
def F138 (p0 : Option Addr) (x1 : Int) (K : KV) : World → Prop :=
cB 95 [(I x1)] fun b4 =>
br_ (!b4) (K (I 6)) (nn_ p0 fun a8 =>
ra_ (a8.o 1) 1000 x1 1 fun a10 =>
lI a10 fun n14 =>
br_ (n14 == 0) (K (I 6)) (drw (nn_ p0 fun a18 =>
lI a18 fun n22 =>
nn_ p0 fun a24 =>
ra_ (a24.o 1) 1000 x1 1 fun a26 =>
lI a26 fun n30 =>
nn_ p0 fun a32 =>
st_ a32 (I (IntKind.i64.wrap (n22 + n30))) (nn_ p0 fun a35 =>
ra_ (a35.o 1) 1000 x1 1 fun a37 =>
st_ a37 (I 0) (K (I 0))))))
theorem F138_go {p0 x1 K w} : F138 p0 x1 K w → c_ 138 [(.pointer p0), (I x1)] K w := goF Tryz.func138 (by kernel_rfl)
def F227 (x0 : Int) (K : KV) : World → Prop :=
K (I (if (if 1000000000 < x0 then 1000000000 else x0) > 0 then if 1000000000 < x0 then 1000000000 else x0 else 0))
theorem F227_go {x0 K w} : F227 x0 K w → c_ 227 [(I x0)] K w := goF Tryz.func227 (by kernel_rfl)
end Go.Proofs.YtcfmnoimehcfnaaGreatDoor
