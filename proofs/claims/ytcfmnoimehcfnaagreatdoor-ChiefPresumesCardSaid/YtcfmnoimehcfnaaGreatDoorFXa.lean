/- The shallow readings of some functions of the program (printed by a program of ours out of the model's own evaluation) and, for each, the proof that it is one. Conditions: none. -/
import Derived.Test.YtcfmnoimehcfnaaGreatDoorC10
set_option maxRecDepth 100000
set_option linter.unusedVariables false
namespace Go.Proofs.YtcfmnoimehcfnaaGreatDoor
open Go Go.Sh
def F15 (x0 : Int) (x1 : Int) (x2 : Int) (x3 : Int) (x4 : Int) (a5 : Option Addr) (n5 : Nat) (c5 : Nat) (K : KV) : World → Prop :=
nw_ (.cells #[(I x0), (I x1), (I x2), (I x3), (I x4), (.slice a5 n5 c5)] 24 (0, 0)) fun k8 =>
lI ⟨k8, 0, none⟩ fun n12 =>
cB 95 [(I n12)] fun b16 =>
br_ (!b16) (K (.bool false)) (lI ⟨k8, 1, none⟩ fun n22 =>
cB 96 [(I n22)] fun b26 =>
br_ (!b26) (K (.bool false)) (lI ⟨k8, 3, none⟩ fun n32 =>
cB 96 [(I n32)] fun b36 =>
br_ (!b36) (K (.bool false)) (lI ⟨k8, 2, none⟩ fun n42 =>
cB 97 [(I n42)] fun b46 =>
br_ (!b46) (K (.bool false)) (lI ⟨k8, 4, none⟩ fun n52 =>
cB 97 [(I n52)] fun b56 =>
br_ (!b56) (K (.bool false)) (lL ⟨k8, 5, none⟩ fun p62 k63 k64 =>
br_ (decide ((↑k63 : Int) > 3)) (K (.bool false)) (lL ⟨k8, 5, none⟩ fun p70 k71 k72 =>
lp_ (X := Int × Bool × Unit) (0, (false, ())) fun x74 rec75 =>
br_ (decide (x74.fst < (↑k71 : Int))) (sa_ p70 k71 x74.fst 2 fun a78 =>
lI a78 fun n82 =>
lI (a78.o 1) fun n86 =>
nw_ (.cells #[(I 0), (I 0)] 81 (0, 0)) fun k88 =>
st_ ⟨k88, 0, none⟩ (I n82) (st_ ⟨k88, 1, none⟩ (I n86) (lI ⟨k88, 0, none⟩ fun n94 =>
br_ (decide (n94 < 4)) (K (.bool false)) (lI ⟨k88, 0, none⟩ fun n100 =>
br_ (decide (n100 > 6)) (K (.bool false)) (lI ⟨k88, 1, none⟩ fun n106 =>
cB 97 [(I n106)] fun b110 =>
br_ (!b110) (K (.bool false)) (lL ⟨k8, 5, none⟩ fun p116 k117 k118 =>
ss_ p116 k118 0 x74.fst 2 fun p120 k121 k122 =>
lp_ (X := Int × Bool × Unit) (0, (x74.snd.fst, ())) fun x124 rec125 =>
br_ (decide (x124.fst < (↑k121 : Int))) (sa_ p120 k121 x124.fst 2 fun a128 =>
lI a128 fun n132 =>
lI (a128.o 1) fun n136 =>
nw_ (.cells #[(I 0), (I 0)] 81 (0, 0)) fun k138 =>
st_ ⟨k138, 0, none⟩ (I n132) (st_ ⟨k138, 1, none⟩ (I n136) (lI ⟨k138, 0, none⟩ fun n144 =>
lI ⟨k88, 0, none⟩ fun n148 =>
br_ (n144 == n148) (K (.bool false)) (rec125 (IntKind.i64.wrap (x124.fst + 1), (x124.snd.fst, ())))))) (rec75 (IntKind.i64.wrap (x74.fst + 1), (x124.snd.fst, ()))))))))) (K (.bool true))))))))
theorem F15_go {x0 x1 x2 x3 x4 a5 n5 c5 K w} : F15 x0 x1 x2 x3 x4 a5 n5 c5 K w → c_ 15 [(.agg #[(I x0), (I x1), (I x2), (I x3), (I x4), (.slice a5 n5 c5)])] K w := goF Tryz.func15 (by kernel_rfl)
def F96 (x0 : Int) (K : KV) : World → Prop :=
br_ (decide (x0 ≥ 0)) (K (.bool (decide (x0 < 8)))) (K (.bool false))
theorem F96_go {x0 K w} : F96 x0 K w → c_ 96 [(I x0)] K w := goF Tryz.func96 (by kernel_rfl)
def F97 (x0 : Int) (K : KV) : World → Prop :=
br_ (decide (x0 ≥ 1)) (K (.bool (decide (x0 ≤ 1000000000)))) (K (.bool false))
theorem F97_go {x0 K w} : F97 x0 K w → c_ 97 [(I x0)] K w := goF Tryz.func97 (by kernel_rfl)
def F95 (x0 : Int) (K : KV) : World → Prop :=
br_ (decide (x0 ≥ 1)) (K (.bool (decide (x0 ≤ 999)))) (K (.bool false))
theorem F95_go {x0 K w} : F95 x0 K w → c_ 95 [(I x0)] K w := goF Tryz.func95 (by kernel_rfl)
def F16 (K : KV) : World → Prop :=
cP 17 [(I 5), (I 50), (I 3)] fun p2 =>
c_ 18 [(.pointer p2), (.agg #[(I 7), (I 0), (I 1), (I 0), (I 1), (.slice none 0 0)])] fun v4 =>
aT 2 v4 fun f6 =>
aL (f6 0) fun p8 k9 k10 =>
aI (f6 1) fun n12 =>
cL 19 [(.pointer p2), (.agg #[(I 8), (I 2), (I 0), (I 7), (I 0), (I 0), (I 0)])] fun p16 k17 k18 =>
br_ (n12 == 0) (br_ ((↑k9 : Int) == 2) (sa_ p8 k9 0 7 fun a22 =>
lI a22 fun n26 =>
br_ (n26 == 6) (br_ ((↑k17 : Int) == 2) (sa_ p16 k17 1 7 fun a30 =>
lI a30 fun n34 =>
br_ (n34 == 10) (cI 21 [(.pointer p2), (I 7)] fun n39 =>
K (.bool (n39 == 4))) (K (.bool false))) (K (.bool false))) (K (.bool false))) (K (.bool false))) (K (.bool false))
theorem F16_go {K w} : F16  K w → c_ 16 [] K w := goF Tryz.func16 (by kernel_rfl)
def F17 (x0 : Int) (x1 : Int) (x2 : Int) (K : KV) : World → Prop :=
cP 98 [(I x1)] fun p5 =>
nw_ (.cells #[(I (if (if 64 < x0 then 64 else x0) > 1 then if 64 < x0 then 64 else x0 else 1)), (I (if (if 4096 < x1 then 4096 else x1) > 1 then if 4096 < x1 then 4096 else x1 else 1)), (I x2), (.pointer p5), (I 0), (.map none), (.pointer none)] 136 (0, 0)) fun k7 =>
c_ 99 [(pk k7)] fun v9 =>
aT 0 v9 fun f11 =>
K (pk k7)
theorem F17_go {x0 x1 x2 K w} : F17 x0 x1 x2 K w → c_ 17 [(I x0), (I x1), (I x2)] K w := goF Tryz.func17 (by kernel_rfl)
def F18 (p0 : Option Addr) (x1 : Int) (x2 : Int) (x3 : Int) (x4 : Int) (x5 : Int) (a6 : Option Addr) (n6 : Nat) (c6 : Nat) (K : KV) : World → Prop :=
nw_ (.cells #[(I x1), (I x2), (I x3), (I x4), (I x5), (.slice a6 n6 c6)] 24 (0, 0)) fun k9 =>
br_ p0.isNone (K (.tuple #[(.slice none 0 0), (I 1)])) (cB 91 [(.pointer p0)] fun b15 =>
br_ b15 (K (.tuple #[(.slice none 0 0), (I 10)])) (lI ⟨k9, 0, none⟩ fun n21 =>
lI ⟨k9, 1, none⟩ fun n25 =>
lI ⟨k9, 2, none⟩ fun n29 =>
lI ⟨k9, 3, none⟩ fun n33 =>
lI ⟨k9, 4, none⟩ fun n37 =>
lL ⟨k9, 5, none⟩ fun p41 k42 k43 =>
cB 100 [(.agg #[(I n21), (I n25), (I n29), (I n33), (I n37), (.slice p41 k42 k43)])] fun b47 =>
br_ (!b47) (K (.tuple #[(.slice none 0 0), (I 1)])) (drw (nn_ p0 fun a51 =>
lM (a51.o 5) fun p55 =>
lI ⟨k9, 0, none⟩ fun n59 =>
mget Md.see Tryz.prog 133 (.map p55) (I n59) false fun v61 =>
aP v61 fun p63 =>
br_ p63.isSome (K (.tuple #[(.slice none 0 0), (I 8)])) (drw (kps fun S67 =>
nn_ p0 fun a69 =>
ldS_ S67 a69 fun v71 =>
aI v71 fun n73 =>
cI 101 [(.pointer p0)] fun n77 =>
kp_ S67 (br_ (decide (n77 ≥ n73)) (K (.tuple #[(.slice none 0 0), (I 5)])) (lI ⟨k9, 0, none⟩ fun n84 =>
lI ⟨k9, 1, none⟩ fun n88 =>
lI ⟨k9, 2, none⟩ fun n92 =>
lI ⟨k9, 3, none⟩ fun n96 =>
lI ⟨k9, 4, none⟩ fun n100 =>
nw_ (.cells #[(I n88), (I n92), (I n96), (I n100)] 3 (0, 0)) fun k102 =>
c_ 102 [(.string ({data := #[98, 101, 103, 105, 110]})), (I n84), (.slice (some ⟨k102, 0, none⟩) 4 4)] fun v104 =>
aN 3 v104 fun f106 =>
aS (f106 0) fun s108 =>
aI (f106 1) fun n110 =>
aL (f106 2) fun p112 k113 k114 =>
nw_ (.cells #[(.string s108), (I n110), (.slice p112 k113 k114)] 139 (0, 0)) fun k116 =>
lL ⟨k9, 5, none⟩ fun p120 k121 k122 =>
lp_ (X := Int × ((Option Addr) × Nat × Nat) × Unit) (0, (((some ⟨k116, 0, none⟩), 1, 1), ())) fun x124 rec125 =>
br_ (decide (x124.fst < (↑k121 : Int))) (sa_ p120 k121 x124.fst 2 fun a128 =>
lI a128 fun n132 =>
lI (a128.o 1) fun n136 =>
nw_ (.cells #[(I 0), (I 0)] 81 (0, 0)) fun k138 =>
st_ ⟨k138, 0, none⟩ (I n132) (st_ ⟨k138, 1, none⟩ (I n136) (lI ⟨k9, 0, none⟩ fun n144 =>
lI ⟨k138, 0, none⟩ fun n148 =>
lI ⟨k138, 1, none⟩ fun n152 =>
nw_ (.cells #[(I x124.fst), (I n148), (I n152)] 3 (0, 0)) fun k154 =>
c_ 102 [(.string ({data := #[115, 116, 101, 112]})), (I n144), (.slice (some ⟨k154, 0, none⟩) 3 3)] fun v156 =>
aN 3 v156 fun f158 =>
aS (f158 0) fun s160 =>
aI (f158 1) fun n162 =>
aL (f158 2) fun p164 k165 k166 =>
nw_ (.cells #[(.string s160), (I n162), (.slice p164 k165 k166)] 139 (0, 0)) fun k168 =>
bapp_ #[141, 141] 141 (.slice x124.snd.fst.1 x124.snd.fst.snd.fst x124.snd.fst.snd.snd) (.slice (some ⟨k168, 0, none⟩) 1 1) fun v170 =>
aL v170 fun p172 k173 k174 =>
rec125 (IntKind.i64.wrap (x124.fst + 1), ((p172, k173, k174), ()))))) (cB 103 [(.pointer p0), (.slice x124.snd.fst.1 x124.snd.fst.snd.fst x124.snd.fst.snd.snd)] fun b179 =>
br_ (!b179) (K (.tuple #[(.slice none 0 0), (I 5)])) (drw (nn_ p0 fun a183 =>
lP (a183.o 6) fun p187 =>
lI ⟨k9, 0, none⟩ fun n191 =>
cB 104 [(.pointer p187), (I n191)] fun b195 =>
drw (nn_ p0 fun a197 =>
lM (a197.o 5) fun p201 =>
lI ⟨k9, 0, none⟩ fun n205 =>
mget Md.see Tryz.prog 133 (.map p201) (I n205) false fun v207 =>
aP v207 fun p209 =>
cL 105 [(.pointer p0), (.pointer p209)] fun p213 k214 k215 =>
K (.tuple #[(.slice p213 k214 k215), (I 0)])))))))))))))
theorem F18_go {p0 x1 x2 x3 x4 x5 a6 n6 c6 K w} : F18 p0 x1 x2 x3 x4 x5 a6 n6 c6 K w → c_ 18 [(.pointer p0), (.agg #[(I x1), (I x2), (I x3), (I x4), (I x5), (.slice a6 n6 c6)])] K w := goT (T := [(9, [0, 2, 3, 4, 5, 1, 6, 7])]) Tryz.func18 (by kernel_rfl)
def F19 (p0 : Option Addr) (x1 : Int) (x2 : Int) (x3 : Int) (x4 : Int) (x5 : Int) (x6 : Int) (x7 : Int) (K : KV) : World → Prop :=
nw_ (.cells #[(I x1), (I x2), (I x3), (I x4), (I x5), (I x6), (I x7)] 35 (0, 0)) fun k8 =>
br_ p0.isNone (K (.slice none 0 0)) (cB 91 [(.pointer p0)] fun b14 =>
br_ b14 (K (.slice none 0 0)) (lI ⟨k8, 2, none⟩ fun n20 =>
br_ (n20 != 0) (K (.slice none 0 0)) (drw (nn_ p0 fun a24 =>
lM (a24.o 5) fun p28 =>
lI ⟨k8, 3, none⟩ fun n32 =>
mget Md.see Tryz.prog 133 (.map p28) (I n32) false fun v34 =>
aP v34 fun p36 =>
lI ⟨k8, 0, none⟩ fun n40 =>
br_ (n40 == 12) (lI ⟨k8, 0, none⟩ fun n45 =>
lI ⟨k8, 1, none⟩ fun n49 =>
lI ⟨k8, 2, none⟩ fun n53 =>
lI ⟨k8, 3, none⟩ fun n57 =>
lI ⟨k8, 4, none⟩ fun n61 =>
lI ⟨k8, 5, none⟩ fun n65 =>
lI ⟨k8, 6, none⟩ fun n69 =>
cL 106 [(.pointer p0), (.pointer p36), (.agg #[(I n45), (I n49), (I n53), (I n57), (I n61), (I n65), (I n69)])] fun p73 k74 k75 =>
K (.slice p73 k74 k75)) (br_ p36.isNone (K (.slice none 0 0)) (lI ⟨k8, 0, none⟩ fun n82 =>
br_ (n82 == 2) (lI ⟨k8, 0, none⟩ fun n87 =>
lI ⟨k8, 1, none⟩ fun n91 =>
lI ⟨k8, 2, none⟩ fun n95 =>
lI ⟨k8, 3, none⟩ fun n99 =>
lI ⟨k8, 4, none⟩ fun n103 =>
lI ⟨k8, 5, none⟩ fun n107 =>
lI ⟨k8, 6, none⟩ fun n111 =>
cL 107 [(.pointer p0), (.pointer p36), (.agg #[(I n87), (I n91), (I n95), (I n99), (I n103), (I n107), (I n111)])] fun p115 k116 k117 =>
K (.slice p115 k116 k117)) (br_ (n82 == 3) (lI ⟨k8, 0, none⟩ fun n123 =>
lI ⟨k8, 1, none⟩ fun n127 =>
lI ⟨k8, 2, none⟩ fun n131 =>
lI ⟨k8, 3, none⟩ fun n135 =>
lI ⟨k8, 4, none⟩ fun n139 =>
lI ⟨k8, 5, none⟩ fun n143 =>
lI ⟨k8, 6, none⟩ fun n147 =>
cL 107 [(.pointer p0), (.pointer p36), (.agg #[(I n123), (I n127), (I n131), (I n135), (I n139), (I n143), (I n147)])] fun p151 k152 k153 =>
K (.slice p151 k152 k153)) (br_ (n82 == 5) (lI ⟨k8, 0, none⟩ fun n159 =>
lI ⟨k8, 1, none⟩ fun n163 =>
lI ⟨k8, 2, none⟩ fun n167 =>
lI ⟨k8, 3, none⟩ fun n171 =>
lI ⟨k8, 4, none⟩ fun n175 =>
lI ⟨k8, 5, none⟩ fun n179 =>
lI ⟨k8, 6, none⟩ fun n183 =>
cL 107 [(.pointer p0), (.pointer p36), (.agg #[(I n159), (I n163), (I n167), (I n171), (I n175), (I n179), (I n183)])] fun p187 k188 k189 =>
K (.slice p187 k188 k189)) (br_ (n82 == 7) (lI ⟨k8, 0, none⟩ fun n195 =>
lI ⟨k8, 1, none⟩ fun n199 =>
lI ⟨k8, 2, none⟩ fun n203 =>
lI ⟨k8, 3, none⟩ fun n207 =>
lI ⟨k8, 4, none⟩ fun n211 =>
lI ⟨k8, 5, none⟩ fun n215 =>
lI ⟨k8, 6, none⟩ fun n219 =>
cL 108 [(.pointer p0), (.pointer p36), (.agg #[(I n195), (I n199), (I n203), (I n207), (I n211), (I n215), (I n219)])] fun p223 k224 k225 =>
K (.slice p223 k224 k225)) (br_ (n82 == 8) (lI ⟨k8, 0, none⟩ fun n231 =>
lI ⟨k8, 1, none⟩ fun n235 =>
lI ⟨k8, 2, none⟩ fun n239 =>
lI ⟨k8, 3, none⟩ fun n243 =>
lI ⟨k8, 4, none⟩ fun n247 =>
lI ⟨k8, 5, none⟩ fun n251 =>
lI ⟨k8, 6, none⟩ fun n255 =>
cL 108 [(.pointer p0), (.pointer p36), (.agg #[(I n231), (I n235), (I n239), (I n243), (I n247), (I n251), (I n255)])] fun p259 k260 k261 =>
K (.slice p259 k260 k261)) (br_ (n82 == 11) (lI ⟨k8, 0, none⟩ fun n267 =>
lI ⟨k8, 1, none⟩ fun n271 =>
lI ⟨k8, 2, none⟩ fun n275 =>
lI ⟨k8, 3, none⟩ fun n279 =>
lI ⟨k8, 4, none⟩ fun n283 =>
lI ⟨k8, 5, none⟩ fun n287 =>
lI ⟨k8, 6, none⟩ fun n291 =>
cL 109 [(.pointer p0), (.pointer p36), (.agg #[(I n267), (I n271), (I n275), (I n279), (I n283), (I n287), (I n291)])] fun p295 k296 k297 =>
K (.slice p295 k296 k297)) (br_ (n82 == 17) (lI ⟨k8, 0, none⟩ fun n303 =>
lI ⟨k8, 1, none⟩ fun n307 =>
lI ⟨k8, 2, none⟩ fun n311 =>
lI ⟨k8, 3, none⟩ fun n315 =>
lI ⟨k8, 4, none⟩ fun n319 =>
lI ⟨k8, 5, none⟩ fun n323 =>
lI ⟨k8, 6, none⟩ fun n327 =>
cL 109 [(.pointer p0), (.pointer p36), (.agg #[(I n303), (I n307), (I n311), (I n315), (I n319), (I n323), (I n327)])] fun p331 k332 k333 =>
K (.slice p331 k332 k333)) (br_ (n82 == 16) (lI ⟨k8, 1, none⟩ fun n339 =>
br_ (n339 == 3) (nn_ p36 fun a342 =>
lB (a342.o 9) fun b346 =>
br_ b346 (nn_ p36 fun a349 =>
lB (a349.o 13) fun b353 =>
br_ (!b353) (lI ⟨k8, 3, none⟩ fun n358 =>
c_ 102 [(.string ({data := #[115, 104, 105, 112, 112, 101, 100]})), (I n358), (.slice none 0 0)] fun v360 =>
aN 3 v360 fun f362 =>
aS (f362 0) fun s364 =>
aI (f362 1) fun n366 =>
aL (f362 2) fun p368 k369 k370 =>
nw_ (.cells #[(.string s364), (I n366), (.slice p368 k369 k370)] 139 (0, 0)) fun k372 =>
cB 110 [(.pointer p0), (.slice (some ⟨k372, 0, none⟩) 1 1)] fun b376 =>
br_ b376 (cL 105 [(.pointer p0), (.pointer p36)] fun p381 k382 k383 =>
K (.slice p381 k382 k383)) (K (.slice none 0 0))) (K (.slice none 0 0))) (K (.slice none 0 0))) (K (.slice none 0 0))) (K (.slice none 0 0)))))))))))))))
theorem F19_go {p0 x1 x2 x3 x4 x5 x6 x7 K w} : F19 p0 x1 x2 x3 x4 x5 x6 x7 K w → c_ 19 [(.pointer p0), (.agg #[(I x1), (I x2), (I x3), (I x4), (I x5), (I x6), (I x7)])] K w := goF Tryz.func19 (by kernel_rfl)
def F21 (p0 : Option Addr) (x1 : Int) (K : KV) : World → Prop :=
br_ p0.isNone (K (I 0)) (nn_ p0 fun a4 =>
lM (a4.o 5) fun p8 =>
mget_ 133 (.map p8) (I x1) false fun v10 =>
aP v10 fun p12 =>
br_ p12.isNone (K (I 0)) (drw (nn_ p0 fun a16 =>
lM (a16.o 5) fun p20 =>
mget Md.see Tryz.prog 133 (.map p20) (I x1) false fun v22 =>
aP v22 fun p24 =>
nn_ p24 fun a26 =>
lI a26 fun n30 =>
lI (a26.o 1) fun n34 =>
lI (a26.o 2) fun n38 =>
lI (a26.o 3) fun n42 =>
lI (a26.o 4) fun n46 =>
lL (a26.o 5) fun p50 k51 k52 =>
nn_ p0 fun a54 =>
lM (a54.o 5) fun p58 =>
mget Md.see Tryz.prog 133 (.map p58) (I x1) false fun v60 =>
aP v60 fun p62 =>
nn_ p62 fun a64 =>
lL (a64.o 6) fun p68 k69 k70 =>
lL (a64.o 7) fun p74 k75 k76 =>
lB (a64.o 8) fun b80 =>
lB (a64.o 9) fun b84 =>
lB (a64.o 10) fun b88 =>
lB (a64.o 11) fun b92 =>
lB (a64.o 12) fun b96 =>
lB (a64.o 13) fun b100 =>
lB (a64.o 14) fun b104 =>
lB (a64.o 15) fun b108 =>
lB (a64.o 16) fun b112 =>
cI 111 [(.agg #[(I n30), (I n34), (I n38), (I n42), (I n46), (.slice p50 k51 k52)]), (.agg #[(.slice p68 k69 k70), (.slice p74 k75 k76), (.bool b80), (.bool b84), (.bool b88), (.bool b92), (.bool b96), (.bool b100), (.bool b104), (.bool b108), (.bool b112)])] fun n116 =>
K (I n116))))
theorem F21_go {p0 x1 K w} : F21 p0 x1 K w → c_ 21 [(.pointer p0), (I x1)] K w := goF Tryz.func21 (by kernel_rfl)
def F22 (p0 : Option Addr) (x1 : Int) (K : KV) : World → Prop :=
br_ p0.isNone (K (.slice none 0 0)) (cB 91 [(.pointer p0)] fun b6 =>
br_ b6 (K (.slice none 0 0)) (nn_ p0 fun a10 =>
lM (a10.o 5) fun p14 =>
mget_ 133 (.map p14) (I x1) false fun v16 =>
aP v16 fun p18 =>
nn_ p0 fun a20 =>
lP (a20.o 6) fun p24 =>
c_ 112 [(.pointer p24), (I x1)] fun v26 =>
aT 2 v26 fun f28 =>
aB (f28 0) fun b30 =>
aB (f28 1) fun b32 =>
br_ (!b30) (K (.slice none 0 0)) (br_ p18.isNone (K (.slice none 0 0)) (br_ b32 (cB 113 [(.pointer p18)] fun b41 =>
br_ (!b41) (c_ 114 [(.pointer p0), (.pointer p18)] fun v44 =>
aT 2 v44 fun f46 =>
aL (f46 0) fun p48 k49 k50 =>
aI (f46 1) fun n52 =>
K (.slice p48 k49 k50)) (br_ b32 (nn_ p0 fun a56 =>
lP (a56.o 6) fun p60 =>
cB 115 [(.pointer p60), (I x1)] fun b64 =>
cL 116 [(.pointer p0), (.pointer p18)] fun p68 k69 k70 =>
K (.slice p68 k69 k70)) (cL 116 [(.pointer p0), (.pointer p18)] fun p75 k76 k77 =>
K (.slice p75 k76 k77)))) (br_ b32 (nn_ p0 fun a81 =>
lP (a81.o 6) fun p85 =>
cB 115 [(.pointer p85), (I x1)] fun b89 =>
cL 116 [(.pointer p0), (.pointer p18)] fun p93 k94 k95 =>
K (.slice p93 k94 k95)) (cL 116 [(.pointer p0), (.pointer p18)] fun p100 k101 k102 =>
K (.slice p100 k101 k102)))))))
theorem F22_go {p0 x1 K w} : F22 p0 x1 K w → c_ 22 [(.pointer p0), (I x1)] K w := goF Tryz.func22 (by kernel_rfl)
def F23 (p0 : Option Addr) (x1 : Int) (K : KV) : World → Prop :=
br_ p0.isNone (K (.tuple #[(.slice none 0 0), (I 1)])) (cB 91 [(.pointer p0)] fun b6 =>
br_ b6 (K (.tuple #[(.slice none 0 0), (I 10)])) (nn_ p0 fun a10 =>
lM (a10.o 5) fun p14 =>
mget_ 133 (.map p14) (I x1) false fun v16 =>
aP v16 fun p18 =>
br_ p18.isNone (K (.tuple #[(.slice none 0 0), (I 6)])) (nn_ p0 fun a22 =>
lM (a22.o 5) fun p26 =>
mget_ 133 (.map p26) (I x1) false fun v28 =>
aP v28 fun p30 =>
cB 113 [(.pointer p30)] fun b34 =>
br_ b34 (K (.tuple #[(.slice none 0 0), (I 7)])) (nn_ p0 fun a38 =>
lM (a38.o 5) fun p42 =>
mget_ 133 (.map p42) (I x1) false fun v44 =>
aP v44 fun p46 =>
c_ 114 [(.pointer p0), (.pointer p46)] fun v48 =>
aT 2 v48 fun f50 =>
aL (f50 0) fun p52 k53 k54 =>
aI (f50 1) fun n56 =>
K (.tuple #[(.slice p52 k53 k54), (I n56)])))))
theorem F23_go {p0 x1 K w} : F23 p0 x1 K w → c_ 23 [(.pointer p0), (I x1)] K w := goF Tryz.func23 (by kernel_rfl)
def F24 (p0 : Option Addr) (x1 : Int) (K : KV) : World → Prop :=
br_ p0.isNone (K (I 1)) (cB 91 [(.pointer p0)] fun b6 =>
br_ b6 (K (I 10)) (nn_ p0 fun a10 =>
lM (a10.o 5) fun p14 =>
mget_ 133 (.map p14) (I x1) false fun v16 =>
aP v16 fun p18 =>
br_ p18.isNone (K (I 6)) (cI 21 [(.pointer p0), (I x1)] fun n24 =>
br_ (n24 != 7) (K (I 7)) (c_ 102 [(.string ({data := #[97, 99, 99, 101, 112, 116]})), (I x1), (.slice none 0 0)] fun v28 =>
aN 3 v28 fun f30 =>
aS (f30 0) fun s32 =>
aI (f30 1) fun n34 =>
aL (f30 2) fun p36 k37 k38 =>
nw_ (.cells #[(.string s32), (I n34), (.slice p36 k37 k38)] 139 (0, 0)) fun k40 =>
cB 103 [(.pointer p0), (.slice (some ⟨k40, 0, none⟩) 1 1)] fun b44 =>
br_ (!b44) (K (I 5)) (nn_ p0 fun a48 =>
lM (a48.o 5) fun p52 =>
mget_ 133 (.map p52) (I x1) false fun v54 =>
aP v54 fun p56 =>
cB 117 [(.pointer p56)] fun b60 =>
br_ b60 (nn_ p0 fun a63 =>
lP (a63.o 6) fun p67 =>
cB 118 [(.pointer p67), (I x1)] fun b71 =>
K (I 0)) (K (I 0)))))))
theorem F24_go {p0 x1 K w} : F24 p0 x1 K w → c_ 24 [(.pointer p0), (I x1)] K w := goF Tryz.func24 (by kernel_rfl)
def F91 (p0 : Option Addr) (K : KV) : World → Prop :=
br_ p0.isSome (nn_ p0 fun a2 =>
lP (a2.o 3) fun p6 =>
cB 133 [(.pointer p6)] fun b10 =>
K (.bool b10)) (K (.bool false))
theorem F91_go {p0 K w} : F91 p0 K w → c_ 91 [(.pointer p0)] K w := goF Tryz.func91 (by kernel_rfl)
def F94 (x0 : Int) (x1 : Int) (x2 : Int) (x3 : Int) (x4 : Int) (a5 : Option Addr) (n5 : Nat) (c5 : Nat) (a6 : Option Addr) (n6 : Nat) (c6 : Nat) (a7 : Option Addr) (n7 : Nat) (c7 : Nat) (b8 : Bool) (b9 : Bool) (b10 : Bool) (b11 : Bool) (b12 : Bool) (b13 : Bool) (b14 : Bool) (b15 : Bool) (b16 : Bool) (K : KV) : World → Prop :=
nw_ (.cells #[(I x0), (I x1), (I x2), (I x3), (I x4), (.slice a5 n5 c5)] 24 (0, 0)) fun k23 =>
nw_ (.cells #[(.slice a6 n6 c6), (.slice a7 n7 c7), (.bool b8), (.bool b9), (.bool b10), (.bool b11), (.bool b12), (.bool b13), (.bool b14), (.bool b15), (.bool b16)] 124 (0, 0)) fun k25 =>
lL ⟨k23, 5, none⟩ fun p29 k30 k31 =>
jn_ (X := Unit) (fun J33 =>
lI ⟨k23, 0, none⟩ fun n37 =>
lI ⟨k23, 1, none⟩ fun n41 =>
lI ⟨k23, 2, none⟩ fun n45 =>
lI ⟨k23, 3, none⟩ fun n49 =>
lI ⟨k23, 4, none⟩ fun n53 =>
lL ⟨k23, 5, none⟩ fun p57 k58 k59 =>
cB 100 [(.agg #[(I n37), (I n41), (I n45), (I n49), (I n53), (.slice p57 k58 k59)])] fun b63 =>
br_ (!b63) (K (.bool false)) (lL ⟨k25, 0, none⟩ fun p69 k70 k71 =>
br_ ((↑k70 : Int) != (↑k30 : Int)) (K (.bool false)) (lL ⟨k25, 1, none⟩ fun p77 k78 k79 =>
br_ ((↑k78 : Int) != (↑k30 : Int)) (K (.bool false)) (lB ⟨k25, 3, none⟩ fun b85 =>
br_ b85 (lB ⟨k25, 4, none⟩ fun b90 =>
br_ b90 (K (.bool false)) (J33 ())) (J33 ()))))) fun x95 =>
lL ⟨k25, 1, none⟩ fun p99 k100 k101 =>
cB 194 [(.slice p99 k100 k101), (.bool true)] fun b105 =>
jn_ (X := Unit) (fun J107 =>
lB ⟨k25, 3, none⟩ fun b111 =>
br_ b111 (lL ⟨k25, 0, none⟩ fun p116 k117 k118 =>
cB 194 [(.slice p116 k117 k118), (.bool false)] fun b122 =>
br_ b122 (K (.bool false)) (br_ b105 (K (.bool false)) (lB ⟨k25, 2, none⟩ fun b130 =>
br_ (!b130) (K (.bool false)) (jn_ (X := Bool × Unit) (fun J134 =>
br_ b105 (lB ⟨k25, 4, none⟩ fun b139 =>
br_ (!b139) (J134 (true, ())) (lB ⟨k25, 7, none⟩ fun b145 =>
br_ b145 (lB ⟨k25, 3, none⟩ fun b150 =>
J134 (!b150, ())) (J134 (false, ())))) (lB ⟨k25, 7, none⟩ fun b156 =>
br_ b156 (lB ⟨k25, 3, none⟩ fun b161 =>
J134 (!b161, ())) (J134 (false, ())))) fun x164 =>
br_ x164.fst (K (.bool false)) (lB ⟨k25, 5, none⟩ fun b170 =>
lB ⟨k25, 6, none⟩ fun b174 =>
cB 195 [(.agg #[(.bool b170), (.bool b174)])] fun b178 =>
br_ b178 (lB ⟨k25, 3, none⟩ fun b183 =>
br_ (!b183) (lB ⟨k25, 4, none⟩ fun b188 =>
br_ (!b188) (K (.bool false)) (J107 ())) (J107 ())) (lB ⟨k25, 8, none⟩ fun b196 =>
lB ⟨k25, 9, none⟩ fun b200 =>
cB 195 [(.agg #[(.bool b196), (.bool b200)])] fun b204 =>
br_ b204 (lB ⟨k25, 3, none⟩ fun b209 =>
br_ (!b209) (lB ⟨k25, 4, none⟩ fun b214 =>
br_ (!b214) (K (.bool false)) (J107 ())) (J107 ())) (J107 ()))))))) (jn_ (X := Bool × Unit) (fun J221 =>
br_ b105 (lB ⟨k25, 4, none⟩ fun b226 =>
br_ (!b226) (J221 (true, ())) (lB ⟨k25, 7, none⟩ fun b232 =>
br_ b232 (lB ⟨k25, 3, none⟩ fun b237 =>
J221 (!b237, ())) (J221 (false, ())))) (lB ⟨k25, 7, none⟩ fun b243 =>
br_ b243 (lB ⟨k25, 3, none⟩ fun b248 =>
J221 (!b248, ())) (J221 (false, ())))) fun x251 =>
br_ x251.fst (K (.bool false)) (lB ⟨k25, 5, none⟩ fun b257 =>
lB ⟨k25, 6, none⟩ fun b261 =>
cB 195 [(.agg #[(.bool b257), (.bool b261)])] fun b265 =>
br_ b265 (lB ⟨k25, 3, none⟩ fun b270 =>
br_ (!b270) (lB ⟨k25, 4, none⟩ fun b275 =>
br_ (!b275) (K (.bool false)) (J107 ())) (J107 ())) (lB ⟨k25, 8, none⟩ fun b283 =>
lB ⟨k25, 9, none⟩ fun b287 =>
cB 195 [(.agg #[(.bool b283), (.bool b287)])] fun b291 =>
br_ b291 (lB ⟨k25, 3, none⟩ fun b296 =>
br_ (!b296) (lB ⟨k25, 4, none⟩ fun b301 =>
br_ (!b301) (K (.bool false)) (J107 ())) (J107 ())) (J107 ()))))) fun x307 =>
lL ⟨k25, 0, none⟩ fun p311 k312 k313 =>
cB 196 [(.slice p311 k312 k313)] fun b317 =>
br_ b317 (lL ⟨k25, 1, none⟩ fun p322 k323 k324 =>
cB 197 [(.slice p322 k323 k324)] fun b328 =>
K (.bool b328)) (lB ⟨k25, 4, none⟩ fun b333 =>
br_ b333 (lL ⟨k25, 1, none⟩ fun p338 k339 k340 =>
cB 197 [(.slice p338 k339 k340)] fun b344 =>
K (.bool b344)) (K (.bool false)))
theorem F94_go {x0 x1 x2 x3 x4 a5 n5 c5 a6 n6 c6 a7 n7 c7 b8 b9 b10 b11 b12 b13 b14 b15 b16 K w} : F94 x0 x1 x2 x3 x4 a5 n5 c5 a6 n6 c6 a7 n7 c7 b8 b9 b10 b11 b12 b13 b14 b15 b16 K w → c_ 94 [(.agg #[(I x0), (I x1), (I x2), (I x3), (I x4), (.slice a5 n5 c5)]), (.agg #[(.slice a6 n6 c6), (.slice a7 n7 c7), (.bool b8), (.bool b9), (.bool b10), (.bool b11), (.bool b12), (.bool b13), (.bool b14), (.bool b15), (.bool b16)])] K w := goT (T := [(4000004, []), (4000012, []), (4000009, [54, 1])]) Tryz.func94 (by kernel_rfl)
def F99 (p0 : Option Addr) (K : KV) : World → Prop :=
nw_ (.map #[] 0) fun k1 =>
nn_ p0 fun a3 =>
lI (a3.o 2) fun n7 =>
cP 198 [(I n7)] fun p11 =>
nn_ p0 fun a13 =>
st_ (a13.o 4) (I 0) (nn_ p0 fun a16 =>
st_ (a16.o 5) (.map (some k1)) (nn_ p0 fun a19 =>
st_ (a19.o 6) (.pointer p11) (K (.tuple #[]))))
theorem F99_go {p0 K w} : F99 p0 K w → c_ 99 [(.pointer p0)] K w := goF Tryz.func99 (by kernel_rfl)
def F101 (p0 : Option Addr) (K : KV) : World → Prop :=
nn_ p0 fun a1 =>
lM (a1.o 5) fun p5 =>
mrng_ 133 (.map p5) fun v7 =>
lp_ (X := Int × Unit) (0, ()) fun x9 rec10 =>
mnxt_ v7 false 0 fun v12 =>
aB1 v12 fun b14 l15 =>
br_ b14 (mtry_ v7 fun v18 =>
aT 2 v18 fun f20 =>
aP (f20 1) fun p22 =>
cB 117 [(.pointer p22)] fun b26 =>
br_ (!b26) (rec10 (IntKind.i64.wrap (x9.fst + 1), ())) (rec10 (x9.fst, ()))) (K (I x9.fst))
theorem F101_go {p0 K w} : F101 p0 K w → c_ 101 [(.pointer p0)] K w := goF Tryz.func101 (by kernel_rfl)
def F102 (s0 : ByteArray) (x1 : Int) (a2 : Option Addr) (n2 : Nat) (c2 : Nat) (K : KV) : World → Prop :=
nw_ (.cells #[(.string ({data := #[]})), (I 0), (.slice none 0 0)] 139 (0, 0)) fun k5 =>
st_ ⟨k5, 0, none⟩ (.string s0) (st_ ⟨k5, 1, none⟩ (I x1) (st_ ⟨k5, 2, none⟩ (.slice a2 n2 c2) (lT ⟨k5, 0, none⟩ fun s12 =>
lI ⟨k5, 1, none⟩ fun n16 =>
lL ⟨k5, 2, none⟩ fun p20 k21 k22 =>
K (.agg #[(.string s12), (I n16), (.slice p20 k21 k22)]))))
theorem F102_go {s0 x1 a2 n2 c2 K w} : F102 s0 x1 a2 n2 c2 K w → c_ 102 [(.string s0), (I x1), (.slice a2 n2 c2)] K w := goF Tryz.func102 (by kernel_rfl)
def F103 (p0 : Option Addr) (a1 : Option Addr) (n1 : Nat) (c1 : Nat) (K : KV) : World → Prop :=
cB 110 [(.pointer p0), (.slice a1 n1 c1)] fun b6 =>
br_ b6 (nn_ p0 fun a9 =>
lP (a9.o 3) fun p13 =>
cI 202 [(.pointer p13)] fun n17 =>
K (.bool b6)) (K (.bool b6))
theorem F103_go {p0 a1 n1 c1 K w} : F103 p0 a1 n1 c1 K w → c_ 103 [(.pointer p0), (.slice a1 n1 c1)] K w := goF Tryz.func103 (by kernel_rfl)
def F104 (p0 : Option Addr) (x1 : Int) (K : KV) : World → Prop :=
br_ p0.isNone (K (.bool false)) (br_ (decide (x1 < 1)) (K (.bool false)) (br_ (decide (x1 > 999)) (K (.bool false)) (cB 203 [(.pointer p0), (I x1)] fun b10 =>
br_ b10 (K (.bool false)) (drw (nn_ p0 fun a14 =>
lM (a14.o 1) fun p18 =>
nn_ p0 fun a20 =>
lI a20 fun n24 =>
mset_ 176 (.map p18) (I x1) (I n24) (K (.bool true)))))))
theorem F104_go {p0 x1 K w} : F104 p0 x1 K w → c_ 104 [(.pointer p0), (I x1)] K w := goF Tryz.func104 (by kernel_rfl)
def F105 (p0 : Option Addr) (p1 : Option Addr) (K : KV) : World → Prop :=
drw (nn_ p0 fun a2 =>
lP (a2.o 6) fun p6 =>
nn_ p1 fun a8 =>
lI a8 fun n12 =>
cB 115 [(.pointer p6), (I n12)] fun b16 =>
cB 117 [(.pointer p1)] fun b20 =>
br_ b20 (drw (nn_ p0 fun a23 =>
lP (a23.o 6) fun p27 =>
nn_ p1 fun a29 =>
lI a29 fun n33 =>
cB 118 [(.pointer p27), (I n33)] fun b37 =>
K (.slice none 0 0))) (cL 116 [(.pointer p0), (.pointer p1)] fun p42 k43 k44 =>
K (.slice p42 k43 k44)))
theorem F105_go {p0 p1 K w} : F105 p0 p1 K w → c_ 105 [(.pointer p0), (.pointer p1)] K w := goF Tryz.func105 (by kernel_rfl)
def F106 (p0 : Option Addr) (p1 : Option Addr) (x2 : Int) (x3 : Int) (x4 : Int) (x5 : Int) (x6 : Int) (x7 : Int) (x8 : Int) (K : KV) : World → Prop :=
nw_ (.cells #[(I x2), (I x3), (I x4), (I x5), (I x6), (I x7), (I x8)] 35 (0, 0)) fun k9 =>
lI ⟨k9, 1, none⟩ fun n13 =>
c_ 204 [(I n13)] fun v15 =>
aT 2 v15 fun f17 =>
aI (f17 0) fun n19 =>
aB (f17 1) fun b21 =>
br_ (!b21) (K (.slice none 0 0)) (lI ⟨k9, 1, none⟩ fun n27 =>
lI ⟨k9, 3, none⟩ fun n31 =>
nw_ (.cells #[(I 0), (I 0), (I 0), (I 0), (I 0), (I 0), (I 0)] 35 (0, 0)) fun k33 =>
st_ ⟨k33, 0, none⟩ (I 0) (st_ ⟨k33, 1, none⟩ (I 0) (st_ ⟨k33, 2, none⟩ (I n27) (st_ ⟨k33, 3, none⟩ (I n31) (st_ ⟨k33, 4, none⟩ (I 0) (st_ ⟨k33, 5, none⟩ (I 0) (st_ ⟨k33, 6, none⟩ (I 0) (br_ p1.isNone (st_ ⟨k33, 0, none⟩ (I 14) (lI ⟨k33, 0, none⟩ fun n46 =>
lI ⟨k33, 1, none⟩ fun n50 =>
lI ⟨k33, 2, none⟩ fun n54 =>
lI ⟨k33, 3, none⟩ fun n58 =>
lI ⟨k33, 4, none⟩ fun n62 =>
lI ⟨k33, 5, none⟩ fun n66 =>
lI ⟨k33, 6, none⟩ fun n70 =>
nw_ (.cells #[(I n46), (I n50), (I n54), (I n58), (I n62), (I n66), (I n70)] 35 (0, 0)) fun k72 =>
K (.slice (some ⟨k72, 0, none⟩) 1 1))) (nn_ p1 fun a75 =>
lB (a75.o 10) fun b79 =>
br_ b79 (st_ ⟨k33, 0, none⟩ (I 14) (lI ⟨k33, 0, none⟩ fun n85 =>
lI ⟨k33, 1, none⟩ fun n89 =>
lI ⟨k33, 2, none⟩ fun n93 =>
lI ⟨k33, 3, none⟩ fun n97 =>
lI ⟨k33, 4, none⟩ fun n101 =>
lI ⟨k33, 5, none⟩ fun n105 =>
lI ⟨k33, 6, none⟩ fun n109 =>
nw_ (.cells #[(I n85), (I n89), (I n93), (I n97), (I n101), (I n105), (I n109)] 35 (0, 0)) fun k111 =>
K (.slice (some ⟨k111, 0, none⟩) 1 1))) (nn_ p1 fun a114 =>
lB (a114.o 9) fun b118 =>
br_ b118 (st_ ⟨k33, 0, none⟩ (I 13) (lI ⟨k33, 0, none⟩ fun n124 =>
lI ⟨k33, 1, none⟩ fun n128 =>
lI ⟨k33, 2, none⟩ fun n132 =>
lI ⟨k33, 3, none⟩ fun n136 =>
lI ⟨k33, 4, none⟩ fun n140 =>
lI ⟨k33, 5, none⟩ fun n144 =>
lI ⟨k33, 6, none⟩ fun n148 =>
nw_ (.cells #[(I n124), (I n128), (I n132), (I n136), (I n140), (I n144), (I n148)] 35 (0, 0)) fun k150 =>
K (.slice (some ⟨k150, 0, none⟩) 1 1))) (K (.slice none 0 0))))))))))))
theorem F106_go {p0 p1 x2 x3 x4 x5 x6 x7 x8 K w} : F106 p0 p1 x2 x3 x4 x5 x6 x7 x8 K w → c_ 106 [(.pointer p0), (.pointer p1), (.agg #[(I x2), (I x3), (I x4), (I x5), (I x6), (I x7), (I x8)])] K w := goF Tryz.func106 (by kernel_rfl)
def F107 (p0 : Option Addr) (p1 : Option Addr) (x2 : Int) (x3 : Int) (x4 : Int) (x5 : Int) (x6 : Int) (x7 : Int) (x8 : Int) (K : KV) : World → Prop :=
nw_ (.cells #[(I x2), (I x3), (I x4), (I x5), (I x6), (I x7), (I x8)] 35 (0, 0)) fun k9 =>
lI ⟨k9, 0, none⟩ fun n13 =>
lI ⟨k9, 1, none⟩ fun n17 =>
lI ⟨k9, 2, none⟩ fun n21 =>
lI ⟨k9, 3, none⟩ fun n25 =>
lI ⟨k9, 4, none⟩ fun n29 =>
lI ⟨k9, 5, none⟩ fun n33 =>
lI ⟨k9, 6, none⟩ fun n37 =>
cB 205 [(.pointer p1), (.agg #[(I n13), (I n17), (I n21), (I n25), (I n29), (I n33), (I n37)])] fun b41 =>
br_ (!b41) (K (.slice none 0 0)) (lI ⟨k9, 0, none⟩ fun n47 =>
br_ (n47 == 3) (cB 113 [(.pointer p1)] fun b52 =>
br_ (!b52) (c_ 114 [(.pointer p0), (.pointer p1)] fun v55 =>
aT 2 v55 fun f57 =>
aL (f57 0) fun p59 k60 k61 =>
aI (f57 1) fun n63 =>
K (.slice p59 k60 k61)) (lI ⟨k9, 0, none⟩ fun n68 =>
br_ (n68 == 2) (drw (kps fun S71 =>
nn_ p1 fun a73 =>
ldS_ S71 (a73.o 8) fun v75 =>
aB v75 fun b77 =>
br_ (!b77) (cB 113 [(.pointer p1)] fun b82 =>
kp_ S71 (br_ (!b82) (nn_ p1 fun a86 =>
ldS_ S71 (a86.o 6) fun v88 =>
aL v88 fun p90 k91 k92 =>
ldS_ S71 ⟨k9, 4, none⟩ fun v94 =>
aI v94 fun n96 =>
cI 206 [(.slice p90 k91 k92), (.bool false)] fun n100 =>
kp_ S71 (br_ (n100 == n96) (ldS_ S71 ⟨k9, 3, none⟩ fun v104 =>
aI v104 fun n106 =>
ldS_ S71 ⟨k9, 4, none⟩ fun v108 =>
aI v108 fun n110 =>
nw_ (.cells #[(I n110)] 3 (0, 0)) fun k112 =>
kp_ S71 (c_ 102 [(.string ({data := #[100, 111, 110, 101]})), (I n106), (.slice (some ⟨k112, 0, none⟩) 1 1)] fun v115 =>
aN 3 v115 fun f117 =>
aS (f117 0) fun s119 =>
aI (f117 1) fun n121 =>
aL (f117 2) fun p123 k124 k125 =>
nw_ (.cells #[(.string s119), (I n121), (.slice p123 k124 k125)] 139 (0, 0)) fun k127 =>
cB 110 [(.pointer p0), (.slice (some ⟨k127, 0, none⟩) 1 1)] fun b131 =>
br_ (!b131) (K (.slice none 0 0)) (cL 105 [(.pointer p0), (.pointer p1)] fun p137 k138 k139 =>
K (.slice p137 k138 k139)))) (K (.slice none 0 0)))) (K (.slice none 0 0)))) (K (.slice none 0 0)))) (lI ⟨k9, 0, none⟩ fun n147 =>
br_ (n147 == 5) (drw (kps fun S150 =>
nn_ p1 fun a152 =>
ldS_ S150 (a152.o 10) fun v154 =>
aB v154 fun b156 =>
br_ b156 (nn_ p1 fun a159 =>
ldS_ S150 (a159.o 7) fun v161 =>
aL v161 fun p163 k164 k165 =>
ldS_ S150 ⟨k9, 4, none⟩ fun v167 =>
aI v167 fun n169 =>
cI 207 [(.slice p163 k164 k165)] fun n173 =>
kp_ S150 (br_ (n173 == n169) (ldS_ S150 ⟨k9, 3, none⟩ fun v177 =>
aI v177 fun n179 =>
ldS_ S150 ⟨k9, 4, none⟩ fun v181 =>
aI v181 fun n183 =>
nw_ (.cells #[(I n183)] 3 (0, 0)) fun k185 =>
kp_ S150 (c_ 102 [(.string ({data := #[117, 110, 100, 111, 110, 101]})), (I n179), (.slice (some ⟨k185, 0, none⟩) 1 1)] fun v188 =>
aN 3 v188 fun f190 =>
aS (f190 0) fun s192 =>
aI (f190 1) fun n194 =>
aL (f190 2) fun p196 k197 k198 =>
nw_ (.cells #[(.string s192), (I n194), (.slice p196 k197 k198)] 139 (0, 0)) fun k200 =>
cB 110 [(.pointer p0), (.slice (some ⟨k200, 0, none⟩) 1 1)] fun b204 =>
br_ (!b204) (K (.slice none 0 0)) (cL 105 [(.pointer p0), (.pointer p1)] fun p210 k211 k212 =>
K (.slice p210 k211 k212)))) (K (.slice none 0 0)))) (K (.slice none 0 0)))) (K (.slice none 0 0))))) (lI ⟨k9, 0, none⟩ fun n220 =>
br_ (n220 == 2) (drw (kps fun S223 =>
nn_ p1 fun a225 =>
ldS_ S223 (a225.o 8) fun v227 =>
aB v227 fun b229 =>
br_ (!b229) (cB 113 [(.pointer p1)] fun b234 =>
kp_ S223 (br_ (!b234) (nn_ p1 fun a238 =>
ldS_ S223 (a238.o 6) fun v240 =>
aL v240 fun p242 k243 k244 =>
ldS_ S223 ⟨k9, 4, none⟩ fun v246 =>
aI v246 fun n248 =>
cI 206 [(.slice p242 k243 k244), (.bool false)] fun n252 =>
kp_ S223 (br_ (n252 == n248) (ldS_ S223 ⟨k9, 3, none⟩ fun v256 =>
aI v256 fun n258 =>
ldS_ S223 ⟨k9, 4, none⟩ fun v260 =>
aI v260 fun n262 =>
nw_ (.cells #[(I n262)] 3 (0, 0)) fun k264 =>
kp_ S223 (c_ 102 [(.string ({data := #[100, 111, 110, 101]})), (I n258), (.slice (some ⟨k264, 0, none⟩) 1 1)] fun v267 =>
aN 3 v267 fun f269 =>
aS (f269 0) fun s271 =>
aI (f269 1) fun n273 =>
aL (f269 2) fun p275 k276 k277 =>
nw_ (.cells #[(.string s271), (I n273), (.slice p275 k276 k277)] 139 (0, 0)) fun k279 =>
cB 110 [(.pointer p0), (.slice (some ⟨k279, 0, none⟩) 1 1)] fun b283 =>
br_ (!b283) (K (.slice none 0 0)) (cL 105 [(.pointer p0), (.pointer p1)] fun p289 k290 k291 =>
K (.slice p289 k290 k291)))) (K (.slice none 0 0)))) (K (.slice none 0 0)))) (K (.slice none 0 0)))) (lI ⟨k9, 0, none⟩ fun n299 =>
br_ (n299 == 5) (drw (kps fun S302 =>
nn_ p1 fun a304 =>
ldS_ S302 (a304.o 10) fun v306 =>
aB v306 fun b308 =>
br_ b308 (nn_ p1 fun a311 =>
ldS_ S302 (a311.o 7) fun v313 =>
aL v313 fun p315 k316 k317 =>
ldS_ S302 ⟨k9, 4, none⟩ fun v319 =>
aI v319 fun n321 =>
cI 207 [(.slice p315 k316 k317)] fun n325 =>
kp_ S302 (br_ (n325 == n321) (ldS_ S302 ⟨k9, 3, none⟩ fun v329 =>
aI v329 fun n331 =>
ldS_ S302 ⟨k9, 4, none⟩ fun v333 =>
aI v333 fun n335 =>
nw_ (.cells #[(I n335)] 3 (0, 0)) fun k337 =>
kp_ S302 (c_ 102 [(.string ({data := #[117, 110, 100, 111, 110, 101]})), (I n331), (.slice (some ⟨k337, 0, none⟩) 1 1)] fun v340 =>
aN 3 v340 fun f342 =>
aS (f342 0) fun s344 =>
aI (f342 1) fun n346 =>
aL (f342 2) fun p348 k349 k350 =>
nw_ (.cells #[(.string s344), (I n346), (.slice p348 k349 k350)] 139 (0, 0)) fun k352 =>
cB 110 [(.pointer p0), (.slice (some ⟨k352, 0, none⟩) 1 1)] fun b356 =>
br_ (!b356) (K (.slice none 0 0)) (cL 105 [(.pointer p0), (.pointer p1)] fun p362 k363 k364 =>
K (.slice p362 k363 k364)))) (K (.slice none 0 0)))) (K (.slice none 0 0)))) (K (.slice none 0 0)))))
theorem F107_go {p0 p1 x2 x3 x4 x5 x6 x7 x8 K w} : F107 p0 p1 x2 x3 x4 x5 x6 x7 x8 K w → c_ 107 [(.pointer p0), (.pointer p1), (.agg #[(I x2), (I x3), (I x4), (I x5), (I x6), (I x7), (I x8)])] K w := goT (T := [(7, [0, 1, 2, 3, 4, 5, 6, 7, 8, 9, 10, 11, 12, 13, 14, 15, 16, 18, 19, 17, 20, 21, 22, 23, 24, 25, 26, 27, 28, 29, 30, 31, 32, 33]), (9, [0, 1, 2, 3, 4, 5, 6, 7, 8, 9, 10, 12, 13, 11, 14, 15, 16, 17, 18, 19, 20, 21, 22, 23, 24, 25, 26, 27])]) Tryz.func107 (by kernel_rfl)
def F108 (p0 : Option Addr) (p1 : Option Addr) (x2 : Int) (x3 : Int) (x4 : Int) (x5 : Int) (x6 : Int) (x7 : Int) (x8 : Int) (K : KV) : World → Prop :=
nw_ (.cells #[(I x2), (I x3), (I x4), (I x5), (I x6), (I x7), (I x8)] 35 (0, 0)) fun k9 =>
lI ⟨k9, 1, none⟩ fun n13 =>
c_ 204 [(I n13)] fun v15 =>
aT 2 v15 fun f17 =>
aI (f17 0) fun n19 =>
aB (f17 1) fun b21 =>
br_ (!b21) (K (.slice none 0 0)) (nn_ p1 fun a25 =>
lP (a25.o 17) fun p29 =>
br_ p29.isNone (K (.slice none 0 0)) (lI ⟨k9, 0, none⟩ fun n35 =>
nn_ p1 fun a37 =>
lP (a37.o 17) fun p41 =>
cL 208 [(.pointer p41)] fun p45 k46 k47 =>
br_ (!n35 == 7) (lI ⟨k9, 3, none⟩ fun n52 =>
c_ 102 [(.string ({data := #[116, 117, 114, 110]})), (I n52), (.slice none 0 0)] fun v54 =>
aN 3 v54 fun f56 =>
aS (f56 0) fun s58 =>
aI (f56 1) fun n60 =>
aL (f56 2) fun p62 k63 k64 =>
nw_ (.cells #[(.string s58), (I n60), (.slice p62 k63 k64)] 139 (0, 0)) fun k66 =>
cB 103 [(.pointer p0), (.slice (some ⟨k66, 0, none⟩) 1 1)] fun b70 =>
br_ (!b70) (K (.slice none 0 0)) (cL 105 [(.pointer p0), (.pointer p1)] fun p76 k77 k78 =>
K (.slice p76 k77 k78))) (br_ (n35 == 7) (nw_ (.cells #[(I n19)] 3 (0, 0)) fun k82 =>
cB 209 [(.slice p45 k46 k47), (.slice (some ⟨k82, 0, none⟩) 1 1)] fun b86 =>
br_ b86 (lI ⟨k9, 3, none⟩ fun n91 =>
c_ 102 [(.string ({data := #[121, 101, 115]})), (I n91), (.slice none 0 0)] fun v93 =>
aN 3 v93 fun f95 =>
aS (f95 0) fun s97 =>
aI (f95 1) fun n99 =>
aL (f95 2) fun p101 k102 k103 =>
nw_ (.cells #[(.string s97), (I n99), (.slice p101 k102 k103)] 139 (0, 0)) fun k105 =>
cB 103 [(.pointer p0), (.slice (some ⟨k105, 0, none⟩) 1 1)] fun b109 =>
br_ (!b109) (K (.slice none 0 0)) (cL 105 [(.pointer p0), (.pointer p1)] fun p115 k116 k117 =>
K (.slice p115 k116 k117))) (nn_ p1 fun a120 =>
lP (a120.o 17) fun p124 =>
cB 210 [(.pointer p124), (I n19), (.bool (n35 == 7))] fun b128 =>
K (.slice none 0 0))) (nn_ p1 fun a131 =>
lP (a131.o 17) fun p135 =>
cB 210 [(.pointer p135), (I n19), (.bool (n35 == 7))] fun b139 =>
K (.slice none 0 0)))))
theorem F108_go {p0 p1 x2 x3 x4 x5 x6 x7 x8 K w} : F108 p0 p1 x2 x3 x4 x5 x6 x7 x8 K w → c_ 108 [(.pointer p0), (.pointer p1), (.agg #[(I x2), (I x3), (I x4), (I x5), (I x6), (I x7), (I x8)])] K w := goF Tryz.func108 (by kernel_rfl)
def F109 (p0 : Option Addr) (p1 : Option Addr) (x2 : Int) (x3 : Int) (x4 : Int) (x5 : Int) (x6 : Int) (x7 : Int) (x8 : Int) (K : KV) : World → Prop :=
nw_ (.cells #[(I x2), (I x3), (I x4), (I x5), (I x6), (I x7), (I x8)] 35 (0, 0)) fun k9 =>
lI ⟨k9, 1, none⟩ fun n13 =>
c_ 204 [(I n13)] fun v15 =>
aT 2 v15 fun f17 =>
aI (f17 0) fun n19 =>
aB (f17 1) fun b21 =>
br_ (!b21) (K (.slice none 0 0)) (cB 113 [(.pointer p1)] fun b27 =>
br_ (!b27) (K (.slice none 0 0)) (lI ⟨k9, 0, none⟩ fun n33 =>
br_ (n33 == 11) (nn_ p1 fun a36 =>
ra_ (a36.o 11) 2 n19 1 fun a38 =>
lB a38 fun b42 =>
br_ b42 (K (.slice none 0 0)) (lI ⟨k9, 3, none⟩ fun n48 =>
lI ⟨k9, 1, none⟩ fun n52 =>
nw_ (.cells #[(I n52)] 3 (0, 0)) fun k54 =>
c_ 102 [(.string ({data := #[97, 99, 107]})), (I n48), (.slice (some ⟨k54, 0, none⟩) 1 1)] fun v56 =>
aN 3 v56 fun f58 =>
aS (f58 0) fun s60 =>
aI (f58 1) fun n62 =>
aL (f58 2) fun p64 k65 k66 =>
nw_ (.cells #[(.string s60), (I n62), (.slice p64 k65 k66)] 139 (0, 0)) fun k68 =>
cB 110 [(.pointer p0), (.slice (some ⟨k68, 0, none⟩) 1 1)] fun b72 =>
br_ (!b72) (K (.slice none 0 0)) (cL 105 [(.pointer p0), (.pointer p1)] fun p78 k79 k80 =>
K (.slice p78 k79 k80)))) (lI ⟨k9, 1, none⟩ fun n85 =>
lI ⟨k9, 3, none⟩ fun n89 =>
nw_ (.cells #[(I 0), (I 0), (I 0), (I 0), (I 0), (I 0), (I 0)] 35 (0, 0)) fun k91 =>
st_ ⟨k91, 0, none⟩ (I 18) (st_ ⟨k91, 1, none⟩ (I 0) (st_ ⟨k91, 2, none⟩ (I n85) (st_ ⟨k91, 3, none⟩ (I n89) (st_ ⟨k91, 4, none⟩ (I 0) (st_ ⟨k91, 5, none⟩ (I 0) (st_ ⟨k91, 6, none⟩ (I 0) (nn_ p1 fun a100 =>
ra_ (a100.o 14) 2 n19 1 fun a102 =>
lB a102 fun b106 =>
br_ b106 (lI ⟨k91, 0, none⟩ fun n111 =>
lI ⟨k91, 1, none⟩ fun n115 =>
lI ⟨k91, 2, none⟩ fun n119 =>
lI ⟨k91, 3, none⟩ fun n123 =>
lI ⟨k91, 4, none⟩ fun n127 =>
lI ⟨k91, 5, none⟩ fun n131 =>
lI ⟨k91, 6, none⟩ fun n135 =>
nw_ (.cells #[(I n111), (I n115), (I n119), (I n123), (I n127), (I n131), (I n135)] 35 (0, 0)) fun k137 =>
K (.slice (some ⟨k137, 0, none⟩) 1 1)) (lI ⟨k9, 3, none⟩ fun n142 =>
lI ⟨k9, 1, none⟩ fun n146 =>
nw_ (.cells #[(I n146)] 3 (0, 0)) fun k148 =>
c_ 102 [(.string ({data := #[100, 97, 109, 97, 103, 101]})), (I n142), (.slice (some ⟨k148, 0, none⟩) 1 1)] fun v150 =>
aN 3 v150 fun f152 =>
aS (f152 0) fun s154 =>
aI (f152 1) fun n156 =>
aL (f152 2) fun p158 k159 k160 =>
nw_ (.cells #[(.string s154), (I n156), (.slice p158 k159 k160)] 139 (0, 0)) fun k162 =>
cB 103 [(.pointer p0), (.slice (some ⟨k162, 0, none⟩) 1 1)] fun b166 =>
br_ (!b166) (K (.slice none 0 0)) (drw (kps fun S170 =>
ldS_ S170 ⟨k91, 0, none⟩ fun v172 =>
aI v172 fun n174 =>
ldS_ S170 ⟨k91, 1, none⟩ fun v176 =>
aI v176 fun n178 =>
ldS_ S170 ⟨k91, 2, none⟩ fun v180 =>
aI v180 fun n182 =>
ldS_ S170 ⟨k91, 3, none⟩ fun v184 =>
aI v184 fun n186 =>
ldS_ S170 ⟨k91, 4, none⟩ fun v188 =>
aI v188 fun n190 =>
ldS_ S170 ⟨k91, 5, none⟩ fun v192 =>
aI v192 fun n194 =>
ldS_ S170 ⟨k91, 6, none⟩ fun v196 =>
aI v196 fun n198 =>
bo_ (nw_ (.cells #[(I n174), (I n178), (I n182), (I n186), (I n190), (I n194), (I n198)] 35 (0, 0)) fun k201 =>
cL 105 [(.pointer p0), (.pointer p1)] fun p205 k206 k207 =>
kp_ S170 (bapp_ #[30, 30] 30 (.slice (some ⟨k201, 0, none⟩) 1 1) (.slice p205 k206 k207) fun v210 =>
aL v210 fun p212 k213 k214 =>
K (.slice p212 k213 k214))) (cL 105 [(.pointer p0), (.pointer p1)] fun p219 k220 k221 =>
kp_ S170 (nw_ (.cells #[(I n174), (I n178), (I n182), (I n186), (I n190), (I n194), (I n198)] 35 (0, 0)) fun k224 =>
bapp_ #[30, 30] 30 (.slice (some ⟨k224, 0, none⟩) 1 1) (.slice p219 k220 k221) fun v226 =>
aL v226 fun p228 k229 k230 =>
K (.slice p228 k229 k230))))))))))))))))
theorem F109_go {p0 p1 x2 x3 x4 x5 x6 x7 x8 K w} : F109 p0 p1 x2 x3 x4 x5 x6 x7 x8 K w → c_ 109 [(.pointer p0), (.pointer p1), (.agg #[(I x2), (I x3), (I x4), (I x5), (I x6), (I x7), (I x8)])] K w := goT (T := [(13, [0, 2, 3, 5004, 1, 4, 5, 6, 4, 1, 5, 6])]) Tryz.func109 (by kernel_rfl)
def F110 (p0 : Option Addr) (a1 : Option Addr) (n1 : Nat) (c1 : Nat) (K : KV) : World → Prop :=
drw (nn_ p0 fun a4 =>
lI (a4.o 4) fun n8 =>
nn_ p0 fun a10 =>
lI (a10.o 1) fun n14 =>
br_ (decide (IntKind.i64.wrap (n8 + (↑n1 : Int)) > n14)) (K (.bool false)) (lp_ (X := Int × Unit) (0, ()) fun x18 rec19 =>
br_ (decide (x18.fst < (↑n1 : Int))) (sa_ a1 n1 x18.fst 3 fun a22 =>
lT a22 fun s26 =>
lI (a22.o 1) fun n30 =>
lL (a22.o 2) fun p34 k35 k36 =>
nw_ (.cells #[(.string ({data := #[]})), (I 0), (.slice none 0 0)] 139 (0, 0)) fun k38 =>
st_ ⟨k38, 0, none⟩ (.string s26) (st_ ⟨k38, 1, none⟩ (I n30) (st_ ⟨k38, 2, none⟩ (.slice p34 k35 k36) (drw (nn_ p0 fun a43 =>
lP (a43.o 3) fun p47 =>
lT ⟨k38, 0, none⟩ fun s51 =>
lI ⟨k38, 1, none⟩ fun n55 =>
lL ⟨k38, 2, none⟩ fun p59 k60 k61 =>
cI 211 [(.pointer p47), (.agg #[(.string s51), (I n55), (.slice p59 k60 k61)])] fun n65 =>
lT ⟨k38, 0, none⟩ fun s69 =>
lI ⟨k38, 1, none⟩ fun n73 =>
lL ⟨k38, 2, none⟩ fun p77 k78 k79 =>
c_ 166 [(.pointer p0), (.agg #[(.string s69), (I n73), (.slice p77 k78 k79)])] fun v81 =>
aT 0 v81 fun f83 =>
rec19 (IntKind.i64.wrap (x18.fst + 1), ())))))) (K (.bool true))))
theorem F110_go {p0 a1 n1 c1 K w} : F110 p0 a1 n1 c1 K w → c_ 110 [(.pointer p0), (.slice a1 n1 c1)] K w := goF Tryz.func110 (by kernel_rfl)
def F111 (x0 : Int) (x1 : Int) (x2 : Int) (x3 : Int) (x4 : Int) (a5 : Option Addr) (n5 : Nat) (c5 : Nat) (a6 : Option Addr) (n6 : Nat) (c6 : Nat) (a7 : Option Addr) (n7 : Nat) (c7 : Nat) (b8 : Bool) (b9 : Bool) (b10 : Bool) (b11 : Bool) (b12 : Bool) (b13 : Bool) (b14 : Bool) (b15 : Bool) (b16 : Bool) (K : KV) : World → Prop :=
nw_ (.cells #[(I x0), (I x1), (I x2), (I x3), (I x4), (.slice a5 n5 c5)] 24 (0, 0)) fun k23 =>
nw_ (.cells #[(.slice a6 n6 c6), (.slice a7 n7 c7), (.bool b8), (.bool b9), (.bool b10), (.bool b11), (.bool b12), (.bool b13), (.bool b14), (.bool b15), (.bool b16)] 124 (0, 0)) fun k25 =>
jn_ (X := Unit) (fun J27 =>
lI ⟨k23, 0, none⟩ fun n31 =>
lI ⟨k23, 1, none⟩ fun n35 =>
lI ⟨k23, 2, none⟩ fun n39 =>
lI ⟨k23, 3, none⟩ fun n43 =>
lI ⟨k23, 4, none⟩ fun n47 =>
lL ⟨k23, 5, none⟩ fun p51 k52 k53 =>
lL ⟨k25, 0, none⟩ fun p57 k58 k59 =>
lL ⟨k25, 1, none⟩ fun p63 k64 k65 =>
lB ⟨k25, 2, none⟩ fun b69 =>
lB ⟨k25, 3, none⟩ fun b73 =>
lB ⟨k25, 4, none⟩ fun b77 =>
lB ⟨k25, 5, none⟩ fun b81 =>
lB ⟨k25, 6, none⟩ fun b85 =>
lB ⟨k25, 7, none⟩ fun b89 =>
lB ⟨k25, 8, none⟩ fun b93 =>
lB ⟨k25, 9, none⟩ fun b97 =>
lB ⟨k25, 10, none⟩ fun b101 =>
cB 94 [(.agg #[(I n31), (I n35), (I n39), (I n43), (I n47), (.slice p51 k52 k53)]), (.agg #[(.slice p57 k58 k59), (.slice p63 k64 k65), (.bool b69), (.bool b73), (.bool b77), (.bool b81), (.bool b85), (.bool b89), (.bool b93), (.bool b97), (.bool b101)])] fun b105 =>
br_ (!b105) (K (I 0)) (lB ⟨k25, 8, none⟩ fun b111 =>
lB ⟨k25, 9, none⟩ fun b115 =>
cB 195 [(.agg #[(.bool b111), (.bool b115)])] fun b119 =>
br_ b119 (lB ⟨k25, 10, none⟩ fun b124 =>
br_ (!b124) (K (I 7)) (J27 ())) (J27 ()))) fun x129 =>
lL ⟨k25, 0, none⟩ fun p133 k134 k135 =>
lL ⟨k25, 1, none⟩ fun p139 k140 k141 =>
lB ⟨k25, 2, none⟩ fun b145 =>
lB ⟨k25, 3, none⟩ fun b149 =>
lB ⟨k25, 4, none⟩ fun b153 =>
lB ⟨k25, 5, none⟩ fun b157 =>
lB ⟨k25, 6, none⟩ fun b161 =>
lB ⟨k25, 7, none⟩ fun b165 =>
lB ⟨k25, 8, none⟩ fun b169 =>
lB ⟨k25, 9, none⟩ fun b173 =>
lB ⟨k25, 10, none⟩ fun b177 =>
cI 212 [(.agg #[(.slice p133 k134 k135), (.slice p139 k140 k141), (.bool b145), (.bool b149), (.bool b153), (.bool b157), (.bool b161), (.bool b165), (.bool b169), (.bool b173), (.bool b177)])] fun n181 =>
K (I n181)
theorem F111_go {x0 x1 x2 x3 x4 a5 n5 c5 a6 n6 c6 a7 n7 c7 b8 b9 b10 b11 b12 b13 b14 b15 b16 K w} : F111 x0 x1 x2 x3 x4 a5 n5 c5 a6 n6 c6 a7 n7 c7 b8 b9 b10 b11 b12 b13 b14 b15 b16 K w → c_ 111 [(.agg #[(I x0), (I x1), (I x2), (I x3), (I x4), (.slice a5 n5 c5)]), (.agg #[(.slice a6 n6 c6), (.slice a7 n7 c7), (.bool b8), (.bool b9), (.bool b10), (.bool b11), (.bool b12), (.bool b13), (.bool b14), (.bool b15), (.bool b16)])] K w := goT (T := [(4000005, [])]) Tryz.func111 (by kernel_rfl)
def F112 (p0 : Option Addr) (x1 : Int) (K : KV) : World → Prop :=
cB 203 [(.pointer p0), (I x1)] fun b4 =>
br_ (!b4) (K (.tuple #[(.bool false), (.bool false)])) (nn_ p0 fun a8 =>
lM (a8.o 1) fun p12 =>
mget_ 176 (.map p12) (I x1) false fun v14 =>
aI v14 fun n16 =>
br_ (n16 == 0) (K (.tuple #[(.bool true), (.bool true)])) (nn_ p0 fun a20 =>
lM (a20.o 1) fun p24 =>
mget_ 176 (.map p24) (I x1) false fun v26 =>
aI v26 fun n28 =>
mset_ 176 (.map p24) (I x1) (I (IntKind.i64.wrap (n28 - 1))) (K (.tuple #[(.bool true), (.bool false)]))))
theorem F112_go {p0 x1 K w} : F112 p0 x1 K w → c_ 112 [(.pointer p0), (I x1)] K w := goF Tryz.func112 (by kernel_rfl)
def F113 (p0 : Option Addr) (K : KV) : World → Prop :=
nn_ p0 fun a1 =>
lB (a1.o 9) fun b5 =>
br_ b5 (K (.bool true)) (nn_ p0 fun a9 =>
lB (a9.o 10) fun b13 =>
K (.bool b13))
theorem F113_go {p0 K w} : F113 p0 K w → c_ 113 [(.pointer p0)] K w := goF Tryz.func113 (by kernel_rfl)
def F114 (p0 : Option Addr) (p1 : Option Addr) (K : KV) : World → Prop :=
nn_ p1 fun a2 =>
lI a2 fun n6 =>
c_ 102 [(.string ({data := #[116, 117, 114, 110]})), (I n6), (.slice none 0 0)] fun v8 =>
aN 3 v8 fun f10 =>
aS (f10 0) fun s12 =>
aI (f10 1) fun n14 =>
aL (f10 2) fun p16 k17 k18 =>
nw_ (.cells #[(.string s12), (I n14), (.slice p16 k17 k18)] 139 (0, 0)) fun k20 =>
cB 103 [(.pointer p0), (.slice (some ⟨k20, 0, none⟩) 1 1)] fun b24 =>
br_ (!b24) (K (.tuple #[(.slice none 0 0), (I 5)])) (cL 105 [(.pointer p0), (.pointer p1)] fun p30 k31 k32 =>
K (.tuple #[(.slice p30 k31 k32), (I 0)]))
theorem F114_go {p0 p1 K w} : F114 p0 p1 K w → c_ 114 [(.pointer p0), (.pointer p1)] K w := goF Tryz.func114 (by kernel_rfl)
def F115 (p0 : Option Addr) (x1 : Int) (K : KV) : World → Prop :=
cB 203 [(.pointer p0), (I x1)] fun b4 =>
br_ (!b4) (K (.bool false)) (drw (nn_ p0 fun a8 =>
lM (a8.o 1) fun p12 =>
nn_ p0 fun a14 =>
lI a14 fun n18 =>
mset_ 176 (.map p12) (I x1) (I n18) (K (.bool true))))
theorem F115_go {p0 x1 K w} : F115 p0 x1 K w → c_ 115 [(.pointer p0), (I x1)] K w := goF Tryz.func115 (by kernel_rfl)
def F116 (p0 : Option Addr) (p1 : Option Addr) (K : KV) : World → Prop :=
drw (nn_ p1 fun a2 =>
lI a2 fun n6 =>
lI (a2.o 1) fun n10 =>
lI (a2.o 2) fun n14 =>
lI (a2.o 3) fun n18 =>
lI (a2.o 4) fun n22 =>
lL (a2.o 5) fun p26 k27 k28 =>
nn_ p1 fun a30 =>
lL (a30.o 6) fun p34 k35 k36 =>
lL (a30.o 7) fun p40 k41 k42 =>
lB (a30.o 8) fun b46 =>
lB (a30.o 9) fun b50 =>
lB (a30.o 10) fun b54 =>
lB (a30.o 11) fun b58 =>
lB (a30.o 12) fun b62 =>
lB (a30.o 13) fun b66 =>
lB (a30.o 14) fun b70 =>
lB (a30.o 15) fun b74 =>
lB (a30.o 16) fun b78 =>
cL 213 [(.agg #[(I n6), (I n10), (I n14), (I n18), (I n22), (.slice p26 k27 k28)]), (.agg #[(.slice p34 k35 k36), (.slice p40 k41 k42), (.bool b46), (.bool b50), (.bool b54), (.bool b58), (.bool b62), (.bool b66), (.bool b70), (.bool b74), (.bool b78)])] fun p82 k83 k84 =>
br_ (decide ((↑k83 : Int) > 0)) (sa_ p82 k83 0 7 fun a87 =>
lI a87 fun n91 =>
br_ (n91 == 6) (nn_ p1 fun a94 =>
lB (a94.o 8) fun b98 =>
br_ (!b98) (nn_ p1 fun a101 =>
lI a101 fun n105 =>
c_ 102 [(.string ({data := #[97, 115, 107, 101, 100]})), (I n105), (.slice none 0 0)] fun v107 =>
aN 3 v107 fun f109 =>
aS (f109 0) fun s111 =>
aI (f109 1) fun n113 =>
aL (f109 2) fun p115 k116 k117 =>
nw_ (.cells #[(.string s111), (I n113), (.slice p115 k116 k117)] 139 (0, 0)) fun k119 =>
cB 110 [(.pointer p0), (.slice (some ⟨k119, 0, none⟩) 1 1)] fun b123 =>
br_ (!b123) (K (.slice none 0 0)) (K (.slice p82 k83 k84))) (K (.slice p82 k83 k84))) (K (.slice p82 k83 k84))) (K (.slice p82 k83 k84)))
theorem F116_go {p0 p1 K w} : F116 p0 p1 K w → c_ 116 [(.pointer p0), (.pointer p1)] K w := goF Tryz.func116 (by kernel_rfl)
def F117 (p0 : Option Addr) (K : KV) : World → Prop :=
drw (nn_ p0 fun a1 =>
lI a1 fun n5 =>
lI (a1.o 1) fun n9 =>
lI (a1.o 2) fun n13 =>
lI (a1.o 3) fun n17 =>
lI (a1.o 4) fun n21 =>
lL (a1.o 5) fun p25 k26 k27 =>
nn_ p0 fun a29 =>
lL (a29.o 6) fun p33 k34 k35 =>
lL (a29.o 7) fun p39 k40 k41 =>
lB (a29.o 8) fun b45 =>
lB (a29.o 9) fun b49 =>
lB (a29.o 10) fun b53 =>
lB (a29.o 11) fun b57 =>
lB (a29.o 12) fun b61 =>
lB (a29.o 13) fun b65 =>
lB (a29.o 14) fun b69 =>
lB (a29.o 15) fun b73 =>
lB (a29.o 16) fun b77 =>
cB 214 [(.agg #[(I n5), (I n9), (I n13), (I n17), (I n21), (.slice p25 k26 k27)]), (.agg #[(.slice p33 k34 k35), (.slice p39 k40 k41), (.bool b45), (.bool b49), (.bool b53), (.bool b57), (.bool b61), (.bool b65), (.bool b69), (.bool b73), (.bool b77)])] fun b81 =>
K (.bool b81))
theorem F117_go {p0 K w} : F117 p0 K w → c_ 117 [(.pointer p0)] K w := goF Tryz.func117 (by kernel_rfl)
def F118 (p0 : Option Addr) (x1 : Int) (K : KV) : World → Prop :=
cB 203 [(.pointer p0), (I x1)] fun b4 =>
br_ (!b4) (K (.bool false)) (nn_ p0 fun a8 =>
lM (a8.o 1) fun p12 =>
bdel_ #[176, 3] 0 (.map p12) (I x1) fun v14 =>
K (.bool true))
theorem F118_go {p0 x1 K w} : F118 p0 x1 K w → c_ 118 [(.pointer p0), (I x1)] K w := goF Tryz.func118 (by kernel_rfl)
def F166 (p0 : Option Addr) (s1 : ByteArray) (x2 : Int) (a3 : Option Addr) (n3 : Nat) (c3 : Nat) (K : KV) : World → Prop :=
nw_ (.cells #[(.string s1), (I x2), (.slice a3 n3 c3)] 139 (0, 0)) fun k6 =>
nn_ p0 fun a8 =>
lI (a8.o 4) fun n12 =>
nn_ p0 fun a14 =>
st_ (a14.o 4) (I (IntKind.i64.wrap (n12 + 1))) (drw (nn_ p0 fun a17 =>
lM (a17.o 5) fun p21 =>
lI ⟨k6, 1, none⟩ fun n25 =>
mget Md.see Tryz.prog 133 (.map p21) (I n25) false fun v27 =>
aP v27 fun p29 =>
jn_ (X := Int × Unit) (fun J31 =>
lL ⟨k6, 2, none⟩ fun p35 k36 k37 =>
br_ (decide ((↑k36 : Int) > 0)) (lL ⟨k6, 2, none⟩ fun p42 k43 k44 =>
sa_ p42 k43 0 1 fun a46 =>
lI a46 fun n50 =>
J31 (n50, ())) (J31 (0, ()))) fun x53 =>
lT ⟨k6, 0, none⟩ fun s57 =>
br_ (strEq s57 {data := #[98, 101, 103, 105, 110]}) (lT ⟨k6, 0, none⟩ fun s62 =>
lI ⟨k6, 1, none⟩ fun n66 =>
lL ⟨k6, 2, none⟩ fun p70 k71 k72 =>
c_ 254 [(.pointer p0), (.agg #[(.string s62), (I n66), (.slice p70 k71 k72)])] fun v74 =>
aT 0 v74 fun f76 =>
K (.tuple #[])) (br_ p29.isNone (K (.tuple #[])) (lT ⟨k6, 0, none⟩ fun s83 =>
br_ (strEq s83 {data := #[115, 116, 101, 112]}) (lL ⟨k6, 2, none⟩ fun p88 k89 k90 =>
br_ ((↑k89 : Int) == 3) (drw (kps fun S93 =>
nn_ p29 fun a95 =>
ldS_ S93 (a95.o 5) fun v97 =>
aL v97 fun p99 k100 k101 =>
ldS_ S93 ⟨k6, 2, none⟩ fun v103 =>
aL v103 fun p105 k106 k107 =>
sa_ p105 k106 1 1 fun a109 =>
ldS_ S93 a109 fun v111 =>
aI v111 fun n113 =>
ldS_ S93 ⟨k6, 2, none⟩ fun v115 =>
aL v115 fun p117 k118 k119 =>
sa_ p117 k118 2 1 fun a121 =>
ldS_ S93 a121 fun v123 =>
aI v123 fun n125 =>
nw_ (.cells #[(I n113), (I n125)] 81 (0, 0)) fun k127 =>
kp_ S93 (bapp_ #[22, 22] 22 (.slice p99 k100 k101) (.slice (some ⟨k127, 0, none⟩) 1 1) fun v130 =>
aL v130 fun p132 k133 k134 =>
nn_ p29 fun a136 =>
st_ (a136.o 5) (.slice p132 k133 k134) (drw (kps fun S139 =>
nn_ p29 fun a141 =>
ldS_ S139 (a141.o 6) fun v143 =>
aL v143 fun p145 k146 k147 =>
nn_ p29 fun a149 =>
ldS_ S139 (a149.o 7) fun v151 =>
aL v151 fun p153 k154 k155 =>
bo_ (nw_ (.cells #[(.bool false)] 4 (0, 0)) fun k158 =>
kp_ S139 (bo_ (bapp_ #[121, 121] 121 (.slice p145 k146 k147) (.slice (some ⟨k158, 0, none⟩) 1 1) fun v162 =>
aL v162 fun p164 k165 k166 =>
kp_ S139 (nw_ (.cells #[(.bool false)] 4 (0, 0)) fun k169 =>
kp_ S139 (bapp_ #[121, 121] 121 (.slice p153 k154 k155) (.slice (some ⟨k169, 0, none⟩) 1 1) fun v172 =>
aL v172 fun p174 k175 k176 =>
nn_ p29 fun a178 =>
st_ (a178.o 6) (.slice p164 k165 k166) (nn_ p29 fun a181 =>
st_ (a181.o 7) (.slice p174 k175 k176) (K (.tuple #[])))))) (nw_ (.cells #[(.bool false)] 4 (0, 0)) fun k185 =>
kp_ S139 (bapp_ #[121, 121] 121 (.slice p145 k146 k147) (.slice (some ⟨k158, 0, none⟩) 1 1) fun v188 =>
aL v188 fun p190 k191 k192 =>
kp_ S139 (bapp_ #[121, 121] 121 (.slice p153 k154 k155) (.slice (some ⟨k185, 0, none⟩) 1 1) fun v195 =>
aL v195 fun p197 k198 k199 =>
nn_ p29 fun a201 =>
st_ (a201.o 6) (.slice p190 k191 k192) (nn_ p29 fun a204 =>
st_ (a204.o 7) (.slice p197 k198 k199) (K (.tuple #[])))))))) (nw_ (.cells #[(.bool false)] 4 (0, 0)) fun k208 =>
kp_ S139 (nw_ (.cells #[(.bool false)] 4 (0, 0)) fun k211 =>
kp_ S139 (bapp_ #[121, 121] 121 (.slice p145 k146 k147) (.slice (some ⟨k211, 0, none⟩) 1 1) fun v214 =>
aL v214 fun p216 k217 k218 =>
kp_ S139 (bapp_ #[121, 121] 121 (.slice p153 k154 k155) (.slice (some ⟨k208, 0, none⟩) 1 1) fun v221 =>
aL v221 fun p223 k224 k225 =>
nn_ p29 fun a227 =>
st_ (a227.o 6) (.slice p216 k217 k218) (nn_ p29 fun a230 =>
st_ (a230.o 7) (.slice p223 k224 k225) (K (.tuple #[])))))))))))) (lT ⟨k6, 0, none⟩ fun s236 =>
c_ 255 [(.pointer p29), (.string s236), (I x53.fst)] fun v238 =>
aT 0 v238 fun f240 =>
K (.tuple #[]))) (lT ⟨k6, 0, none⟩ fun s245 =>
c_ 255 [(.pointer p29), (.string s245), (I x53.fst)] fun v247 =>
aT 0 v247 fun f249 =>
K (.tuple #[]))))))
theorem F166_go {p0 s1 x2 a3 n3 c3 K w} : F166 p0 s1 x2 a3 n3 c3 K w → c_ 166 [(.pointer p0), (.agg #[(.string s1), (I x2), (.slice a3 n3 c3)])] K w := goT (T := [(10, [0, 1, 2, 3, 4, 5, 6, 7, 8, 9, 10, 11, 12, 13, 14, 15, 16, 17, 18, 19, 20]), (11, [0, 1, 2, 3, 4, 5, 6, 9, 10, 11, 12, 13, 5024, 7, 5011, 8, 14, 15, 16, 17, 18, 19, 20, 21, 22, 23, 14, 8, 15, 16, 17, 18, 19, 20, 21, 22, 23, 14, 7, 8, 15, 16, 17, 18, 19, 20, 21, 22, 23]), (4000006, [5, 0])]) Tryz.func166 (by kernel_rfl)
end Go.Proofs.YtcfmnoimehcfnaaGreatDoor
