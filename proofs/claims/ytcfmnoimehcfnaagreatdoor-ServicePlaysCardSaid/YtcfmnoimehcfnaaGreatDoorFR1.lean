/- The shallow readings of some functions of the program (printed by a program of ours out of the model's own evaluation) and, for each, the proof that it is one. Conditions: none. -/
import Derived.Test.YtcfmnoimehcfnaaGreatDoorFR0
set_option maxRecDepth 100000
set_option linter.unusedVariables false
namespace Go.Proofs.YtcfmnoimehcfnaaGreatDoor
open Go Go.Sh
def F120 (x0 : Int) (K : KV) : World → Prop :=
nw_ (.cells #[(I (if (if 4096 < x0 then 4096 else x0) > 1 then if 4096 < x0 then 4096 else x0 else 1)), (.slice none 0 0), (I 0), (.bool false)] 64 (0, 0)) fun k1 =>
K (pk k1)
theorem F120_go {x0 K w} : F120 x0 K w → c_ 120 [(I x0)] K w := goF Tryz.func120 (by kernel_rfl)
def F122 (p0 : Option Addr) (x1 : Int) (x2 : Int) (K : KV) : World → Prop :=
nn_ p0 fun a3 =>
lB (a3.o 3) fun b7 =>
br_ b7 (K (.tuple #[])) (nn_ p0 fun a11 =>
st_ (a11.o 3) (.bool true) (drw (nn_ p0 fun a14 =>
lI (a14.o 2) fun n18 =>
nn_ p0 fun a20 =>
lL (a20.o 1) fun p24 k25 k26 =>
nn_ p0 fun a28 =>
lI (a28.o 2) fun n32 =>
nn_ p0 fun a34 =>
lL (a34.o 1) fun p38 k39 k40 =>
ss_ p38 k40 0 (IntKind.i64.wrap (n18 + if (if IntKind.i64.wrap ((↑k25 : Int) - n32) < x1 then IntKind.i64.wrap ((↑k25 : Int) - n32) else x1) > 0 then if IntKind.i64.wrap ((↑k25 : Int) - n32) < x1 then IntKind.i64.wrap ((↑k25 : Int) - n32) else x1 else 0)) 1 fun p42 k43 k44 =>
bapp_ #[62, 62] 62 (.slice none 0 0) (.slice p42 k43 k44) fun v46 =>
aL v46 fun p48 k49 k50 =>
nn_ p0 fun a52 =>
lL (a52.o 1) fun p56 k57 k58 =>
br_ (decide (IntKind.i64.wrap (n18 + if (if IntKind.i64.wrap ((↑k25 : Int) - n32) < x1 then IntKind.i64.wrap ((↑k25 : Int) - n32) else x1) > 0 then if IntKind.i64.wrap ((↑k25 : Int) - n32) < x1 then IntKind.i64.wrap ((↑k25 : Int) - n32) else x1 else 0) < (↑k57 : Int))) (br_ (decide (x2 > 0)) (nn_ p0 fun a62 =>
lL (a62.o 1) fun p66 k67 k68 =>
sa_ p66 k67 (IntKind.i64.wrap (n18 + if (if IntKind.i64.wrap ((↑k25 : Int) - n32) < x1 then IntKind.i64.wrap ((↑k25 : Int) - n32) else x1) > 0 then if IntKind.i64.wrap ((↑k25 : Int) - n32) < x1 then IntKind.i64.wrap ((↑k25 : Int) - n32) else x1 else 0)) 1 fun a70 =>
lT a70 fun s74 =>
ts_ s74 0 (if IntKind.i64.wrap ((↑s74.size : Int) - 1) < x2 then IntKind.i64.wrap ((↑s74.size : Int) - 1) else x2) fun s76 =>
nw_ (.cells #[(.string s76)] 9 (0, 0)) fun k78 =>
bapp_ #[62, 62] 62 (.slice p48 k49 k50) (.slice (some ⟨k78, 0, none⟩) 1 1) fun v80 =>
aL v80 fun p82 k83 k84 =>
nn_ p0 fun a86 =>
st_ (a86.o 1) (.slice p82 k83 k84) (K (.tuple #[]))) (nn_ p0 fun a90 =>
st_ (a90.o 1) (.slice p48 k49 k50) (K (.tuple #[])))) (nn_ p0 fun a94 =>
st_ (a94.o 1) (.slice p48 k49 k50) (K (.tuple #[]))))))
theorem F122_go {p0 x1 x2 K w} : F122 p0 x1 x2 K w → c_ 122 [(.pointer p0), (I x1), (I x2)] K w := goF Tryz.func122 (by kernel_rfl)
def F126 (p0 : Option Addr) (K : KV) : World → Prop :=
nn_ p0 fun a1 =>
lB (a1.o 3) fun b5 =>
br_ (!b5) (K (I 0)) (cL 127 [(.pointer p0)] fun p11 k12 k13 =>
nn_ p0 fun a15 =>
lL (a15.o 1) fun p19 k20 k21 =>
nn_ p0 fun a23 =>
lL (a23.o 1) fun p27 k28 k29 =>
ss_ p27 k29 0 (↑k12 : Int) 1 fun p31 k32 k33 =>
nn_ p0 fun a35 =>
st_ (a35.o 1) (.slice p31 k32 k33) (nn_ p0 fun a38 =>
st_ (a38.o 2) (I (↑k12 : Int)) (nn_ p0 fun a41 =>
st_ (a41.o 3) (.bool false) (K (I (IntKind.i64.wrap ((↑k20 : Int) - (↑k12 : Int))))))))
theorem F126_go {p0 K w} : F126 p0 K w → c_ 126 [(.pointer p0)] K w := goF Tryz.func126 (by kernel_rfl)
def F127 (p0 : Option Addr) (K : KV) : World → Prop :=
nn_ p0 fun a1 =>
lL (a1.o 1) fun p5 k6 k7 =>
lp_ (X := Int × ((Option Addr) × Nat × Nat) × ((Option Addr) × Nat × Nat) × Unit) (0, ((none, 0, 0), ((none, 0, 0), ()))) fun x9 rec10 =>
br_ (decide (x9.fst < (↑k6 : Int))) (sa_ p5 k6 x9.fst 1 fun a13 =>
lT a13 fun s17 =>
c_ 220 [(.string s17)] fun v19 =>
aT 2 v19 fun f21 =>
aN 3 (f21 0) fun f23 =>
aS (f23 0) fun s25 =>
aI (f23 1) fun n27 =>
aL (f23 2) fun p29 k30 k31 =>
aI (f21 1) fun n33 =>
nw_ (.cells #[(.string ({data := #[]})), (I 0), (.slice none 0 0)] 139 (0, 0)) fun k35 =>
st_ ⟨k35, 0, none⟩ (.string s25) (st_ ⟨k35, 1, none⟩ (I n27) (st_ ⟨k35, 2, none⟩ (.slice p29 k30 k31) (br_ (n33 != 0) (K (.slice x9.snd.fst.1 x9.snd.fst.snd.fst x9.snd.fst.snd.snd)) (lT ⟨k35, 0, none⟩ fun s44 =>
lI ⟨k35, 1, none⟩ fun n48 =>
lL ⟨k35, 2, none⟩ fun p52 k53 k54 =>
nw_ (.cells #[(.string s44), (I n48), (.slice p52 k53 k54)] 139 (0, 0)) fun k56 =>
bapp_ #[141, 141] 141 (.slice x9.snd.fst.1 x9.snd.fst.snd.fst x9.snd.fst.snd.snd) (.slice (some ⟨k56, 0, none⟩) 1 1) fun v58 =>
aL v58 fun p60 k61 k62 =>
rec10 (IntKind.i64.wrap (x9.fst + 1), ((p60, k61, k62), ((x9.snd.snd.fst.1, x9.snd.snd.fst.snd.fst, x9.snd.snd.fst.snd.snd), ())))))))) (K (.slice x9.snd.fst.1 x9.snd.fst.snd.fst x9.snd.fst.snd.snd))
theorem F127_go {p0 K w} : F127 p0 K w → c_ 127 [(.pointer p0)] K w := goF Tryz.func127 (by kernel_rfl)
def F131 (p0 : Option Addr) (b1 : Bool) (a2 : Option Addr) (n2 : Nat) (c2 : Nat) (K : KV) : World → Prop :=
drw (nn_ p0 fun a5 =>
lB (a5.o 3) fun b9 =>
br_ b9 (K (.bool false)) (nn_ p0 fun a13 =>
lL (a13.o 1) fun p17 k18 k19 =>
nn_ p0 fun a21 =>
lI a21 fun n25 =>
br_ (decide (IntKind.i64.wrap ((↑k18 : Int) + (↑n2 : Int)) > n25)) (K (.bool false)) (lp_ (X := Int × Unit) (0, ()) fun x29 rec30 =>
br_ (decide (x29.fst < (↑n2 : Int))) (sa_ a2 n2 x29.fst 3 fun a33 =>
lT a33 fun s37 =>
lI (a33.o 1) fun n41 =>
lL (a33.o 2) fun p45 k46 k47 =>
nw_ (.cells #[(.string ({data := #[]})), (I 0), (.slice none 0 0)] 139 (0, 0)) fun k49 =>
st_ ⟨k49, 0, none⟩ (.string s37) (st_ ⟨k49, 1, none⟩ (I n41) (st_ ⟨k49, 2, none⟩ (.slice p45 k46 k47) (lT ⟨k49, 0, none⟩ fun s56 =>
lI ⟨k49, 1, none⟩ fun n60 =>
lL ⟨k49, 2, none⟩ fun p64 k65 k66 =>
cI 224 [(.pointer p0), (.agg #[(.string s56), (I n60), (.slice p64 k65 k66)])] fun n70 =>
rec30 (IntKind.i64.wrap (x29.fst + 1), ()))))) (br_ b1 (cI 225 [(.pointer p0)] fun n76 =>
K (.bool true)) (K (.bool true))))))
theorem F131_go {p0 b1 a2 n2 c2 K w} : F131 p0 b1 a2 n2 c2 K w → c_ 131 [(.pointer p0), (.bool b1), (.slice a2 n2 c2)] K w := goF Tryz.func131 (by kernel_rfl)
def F132 (s0 : ByteArray) (x1 : Int) (a2 : Option Addr) (n2 : Nat) (c2 : Nat) (K : KV) : World → Prop :=
nw_ (.cells #[(.string ({data := #[]})), (I 0), (.slice none 0 0)] 139 (0, 0)) fun k5 =>
st_ ⟨k5, 0, none⟩ (.string s0) (st_ ⟨k5, 1, none⟩ (I x1) (st_ ⟨k5, 2, none⟩ (.slice a2 n2 c2) (lT ⟨k5, 0, none⟩ fun s12 =>
lI ⟨k5, 1, none⟩ fun n16 =>
lL ⟨k5, 2, none⟩ fun p20 k21 k22 =>
K (.agg #[(.string s12), (I n16), (.slice p20 k21 k22)]))))
theorem F132_go {s0 x1 a2 n2 c2 K w} : F132 s0 x1 a2 n2 c2 K w → c_ 132 [(.string s0), (I x1), (.slice a2 n2 c2)] K w := goF Tryz.func132 (by kernel_rfl)
def F220 (s0 : ByteArray) (K : KV) : World → Prop :=
nw_ (.cells #[(.string ({data := #[]})), (I 0), (.slice none 0 0)] 139 (0, 0)) fun k1 =>
nw_ (.cells #[(.string ({data := #[]})), (I 0), (.slice none 0 0)] 139 (0, 0)) fun k3 =>
st_ ⟨k3, 0, none⟩ (.string ({data := #[]})) (st_ ⟨k3, 1, none⟩ (I 0) (st_ ⟨k3, 2, none⟩ (.slice none 0 0) (br_ (decide ((↑s0.size : Int) > 80)) (lT ⟨k3, 0, none⟩ fun s11 =>
lI ⟨k3, 1, none⟩ fun n15 =>
lL ⟨k3, 2, none⟩ fun p19 k20 k21 =>
st_ ⟨k1, 0, none⟩ (.string s11) (st_ ⟨k1, 1, none⟩ (I n15) (st_ ⟨k1, 2, none⟩ (.slice p19 k20 k21) (lT ⟨k1, 0, none⟩ fun s28 =>
lI ⟨k1, 1, none⟩ fun n32 =>
lL ⟨k1, 2, none⟩ fun p36 k37 k38 =>
K (.tuple #[(.agg #[(.string s28), (I n32), (.slice p36 k37 k38)]), (I 2)]))))) (c_ 282 [(.string s0)] fun v41 =>
aT 2 v41 fun f43 =>
aS (f43 0) fun s45 =>
aB (f43 1) fun b47 =>
br_ (!b47) (lT ⟨k3, 0, none⟩ fun s52 =>
lI ⟨k3, 1, none⟩ fun n56 =>
lL ⟨k3, 2, none⟩ fun p60 k61 k62 =>
st_ ⟨k1, 0, none⟩ (.string s52) (st_ ⟨k1, 1, none⟩ (I n56) (st_ ⟨k1, 2, none⟩ (.slice p60 k61 k62) (lT ⟨k1, 0, none⟩ fun s69 =>
lI ⟨k1, 1, none⟩ fun n73 =>
lL ⟨k1, 2, none⟩ fun p77 k78 k79 =>
K (.tuple #[(.agg #[(.string s69), (I n73), (.slice p77 k78 k79)]), (I 3)]))))) (cL 283 [(.string s45), (.int IntKind.u8 32)] fun p84 k85 k86 =>
br_ (decide ((↑k85 : Int) < 2)) (lT ⟨k3, 0, none⟩ fun s91 =>
lI ⟨k3, 1, none⟩ fun n95 =>
lL ⟨k3, 2, none⟩ fun p99 k100 k101 =>
st_ ⟨k1, 0, none⟩ (.string s91) (st_ ⟨k1, 1, none⟩ (I n95) (st_ ⟨k1, 2, none⟩ (.slice p99 k100 k101) (lT ⟨k1, 0, none⟩ fun s108 =>
lI ⟨k1, 1, none⟩ fun n112 =>
lL ⟨k1, 2, none⟩ fun p116 k117 k118 =>
K (.tuple #[(.agg #[(.string s108), (I n112), (.slice p116 k117 k118)]), (I 2)]))))) (br_ (decide ((↑k85 : Int) > 6)) (lT ⟨k3, 0, none⟩ fun s124 =>
lI ⟨k3, 1, none⟩ fun n128 =>
lL ⟨k3, 2, none⟩ fun p132 k133 k134 =>
st_ ⟨k1, 0, none⟩ (.string s124) (st_ ⟨k1, 1, none⟩ (I n128) (st_ ⟨k1, 2, none⟩ (.slice p132 k133 k134) (lT ⟨k1, 0, none⟩ fun s141 =>
lI ⟨k1, 1, none⟩ fun n145 =>
lL ⟨k1, 2, none⟩ fun p149 k150 k151 =>
K (.tuple #[(.agg #[(.string s141), (I n145), (.slice p149 k150 k151)]), (I 2)]))))) (sa_ p84 k85 0 1 fun a154 =>
lT a154 fun s158 =>
nw_ (.cells #[(.string ({data := #[]})), (I 0), (.slice none 0 0)] 139 (0, 0)) fun k160 =>
st_ ⟨k160, 0, none⟩ (.string s158) (st_ ⟨k160, 1, none⟩ (I 0) (st_ ⟨k160, 2, none⟩ (.slice none 0 0) (ss_ p84 k86 1 (↑k85 : Int) 1 fun p165 k166 k167 =>
lp_ (X := Int × Int × Unit) (0, (0, ())) fun x169 rec170 =>
br_ (decide (x169.fst < (↑k166 : Int))) (sa_ p165 k166 x169.fst 1 fun a173 =>
lT a173 fun s177 =>
c_ 284 [(.string s177)] fun v179 =>
aT 2 v179 fun f181 =>
aI (f181 0) fun n183 =>
aB (f181 1) fun b185 =>
br_ (!b185) (lT ⟨k3, 0, none⟩ fun s190 =>
lI ⟨k3, 1, none⟩ fun n194 =>
lL ⟨k3, 2, none⟩ fun p198 k199 k200 =>
st_ ⟨k1, 0, none⟩ (.string s190) (st_ ⟨k1, 1, none⟩ (I n194) (st_ ⟨k1, 2, none⟩ (.slice p198 k199 k200) (lT ⟨k1, 0, none⟩ fun s207 =>
lI ⟨k1, 1, none⟩ fun n211 =>
lL ⟨k1, 2, none⟩ fun p215 k216 k217 =>
K (.tuple #[(.agg #[(.string s207), (I n211), (.slice p215 k216 k217)]), (I 2)]))))) (br_ (x169.fst == 0) (st_ ⟨k160, 1, none⟩ (I n183) (rec170 (IntKind.i64.wrap (x169.fst + 1), (x169.snd.fst, ())))) (lL ⟨k160, 2, none⟩ fun p225 k226 k227 =>
nw_ (.cells #[(I n183)] 3 (0, 0)) fun k229 =>
bapp_ #[56, 56] 56 (.slice p225 k226 k227) (.slice (some ⟨k229, 0, none⟩) 1 1) fun v231 =>
aL v231 fun p233 k234 k235 =>
st_ ⟨k160, 2, none⟩ (.slice p233 k234 k235) (rec170 (IntKind.i64.wrap (x169.fst + 1), (x169.snd.fst, ())))))) (lT ⟨k160, 0, none⟩ fun s241 =>
lI ⟨k160, 1, none⟩ fun n245 =>
lL ⟨k160, 2, none⟩ fun p249 k250 k251 =>
cB 285 [(.agg #[(.string s241), (I n245), (.slice p249 k250 k251)])] fun b255 =>
br_ (!b255) (lT ⟨k3, 0, none⟩ fun s260 =>
lI ⟨k3, 1, none⟩ fun n264 =>
lL ⟨k3, 2, none⟩ fun p268 k269 k270 =>
st_ ⟨k1, 0, none⟩ (.string s260) (st_ ⟨k1, 1, none⟩ (I n264) (st_ ⟨k1, 2, none⟩ (.slice p268 k269 k270) (lT ⟨k1, 0, none⟩ fun s277 =>
lI ⟨k1, 1, none⟩ fun n281 =>
lL ⟨k1, 2, none⟩ fun p285 k286 k287 =>
K (.tuple #[(.agg #[(.string s277), (I n281), (.slice p285 k286 k287)]), (I 2)]))))) (lT ⟨k160, 0, none⟩ fun s292 =>
lI ⟨k160, 1, none⟩ fun n296 =>
lL ⟨k160, 2, none⟩ fun p300 k301 k302 =>
st_ ⟨k1, 0, none⟩ (.string s292) (st_ ⟨k1, 1, none⟩ (I n296) (st_ ⟨k1, 2, none⟩ (.slice p300 k301 k302) (lT ⟨k1, 0, none⟩ fun s309 =>
lI ⟨k1, 1, none⟩ fun n313 =>
lL ⟨k1, 2, none⟩ fun p317 k318 k319 =>
K (.tuple #[(.agg #[(.string s309), (I n313), (.slice p317 k318 k319)]), (I 0)]))))))))))))))))
theorem F220_go {s0 K w} : F220 s0 K w → c_ 220 [(.string s0)] K w := goF Tryz.func220 (by kernel_rfl)
def F224 (p0 : Option Addr) (s1 : ByteArray) (x2 : Int) (a3 : Option Addr) (n3 : Nat) (c3 : Nat) (K : KV) : World → Prop :=
nw_ (.cells #[(.string s1), (I x2), (.slice a3 n3 c3)] 139 (0, 0)) fun k6 =>
nn_ p0 fun a8 =>
lB (a8.o 3) fun b12 =>
br_ b12 (K (I 10)) (lT ⟨k6, 0, none⟩ fun s18 =>
lI ⟨k6, 1, none⟩ fun n22 =>
lL ⟨k6, 2, none⟩ fun p26 k27 k28 =>
c_ 286 [(.agg #[(.string s18), (I n22), (.slice p26 k27 k28)])] fun v30 =>
aT 2 v30 fun f32 =>
aS (f32 0) fun s34 =>
aI (f32 1) fun n36 =>
br_ (n36 != 0) (K (I n36)) (drw (nn_ p0 fun a40 =>
lL (a40.o 1) fun p44 k45 k46 =>
nn_ p0 fun a48 =>
lI a48 fun n52 =>
br_ (decide ((↑k45 : Int) ≥ n52)) (K (I 5)) (nn_ p0 fun a56 =>
lL (a56.o 1) fun p60 k61 k62 =>
nw_ (.cells #[(.string s34)] 9 (0, 0)) fun k64 =>
bapp_ #[62, 62] 62 (.slice p60 k61 k62) (.slice (some ⟨k64, 0, none⟩) 1 1) fun v66 =>
aL v66 fun p68 k69 k70 =>
nn_ p0 fun a72 =>
st_ (a72.o 1) (.slice p68 k69 k70) (K (I 0))))))
theorem F224_go {p0 s1 x2 a3 n3 c3 K w} : F224 p0 s1 x2 a3 n3 c3 K w → c_ 224 [(.pointer p0), (.agg #[(.string s1), (I x2), (.slice a3 n3 c3)])] K w := goF Tryz.func224 (by kernel_rfl)
def F225 (p0 : Option Addr) (K : KV) : World → Prop :=
nn_ p0 fun a1 =>
lB (a1.o 3) fun b5 =>
br_ b5 (K (I 10)) (nn_ p0 fun a9 =>
lL (a9.o 1) fun p13 k14 k15 =>
nn_ p0 fun a17 =>
st_ (a17.o 2) (I (↑k14 : Int)) (K (I 0)))
theorem F225_go {p0 K w} : F225 p0 K w → c_ 225 [(.pointer p0)] K w := goF Tryz.func225 (by kernel_rfl)
def F282 (s0 : ByteArray) (K : KV) : World → Prop :=
br_ (decide (IntKind.i64.wrap ((↑s0.size : Int) - 3) < 0)) (K (.tuple #[(.string ({data := #[]})), (.bool false)])) (ts_ s0 0 (IntKind.i64.wrap ((↑s0.size : Int) - 3)) fun s3 =>
cT 308 [(.string s3)] fun s7 =>
br_ (!strEq s7 s0) (K (.tuple #[(.string ({data := #[]})), (.bool false)])) (ts_ s0 0 (IntKind.i64.wrap ((↑s0.size : Int) - 3)) fun s11 =>
K (.tuple #[(.string s11), (.bool true)])))
theorem F282_go {s0 K w} : F282 s0 K w → c_ 282 [(.string s0)] K w := goF Tryz.func282 (by kernel_rfl)
def F283 (s0 : ByteArray) (x1 : Int) (K : KV) : World → Prop :=
lp_ (X := Int × Int × ((Option Addr) × Nat × Nat) × Unit) (0, (0, ((none, 0, 0), ()))) fun x2 rec3 =>
br_ (decide (x2.fst ≤ (↑s0.size : Int))) (br_ (x2.fst == (↑s0.size : Int)) (ts_ s0 x2.snd.fst x2.fst fun s7 =>
nw_ (.cells #[(.string s7)] 9 (0, 0)) fun k9 =>
bapp_ #[62, 62] 62 (.slice x2.snd.snd.fst.1 x2.snd.snd.fst.snd.fst x2.snd.snd.fst.snd.snd) (.slice (some ⟨k9, 0, none⟩) 1 1) fun v11 =>
aL v11 fun p13 k14 k15 =>
rec3 (IntKind.i64.wrap (x2.fst + 1), (IntKind.i64.wrap (x2.fst + 1), ((p13, k14, k15), ())))) (ta_ s0 x2.fst fun x18 =>
br_ ((↑x18.toNat : Int) == x1) (ts_ s0 x2.snd.fst x2.fst fun s21 =>
nw_ (.cells #[(.string s21)] 9 (0, 0)) fun k23 =>
bapp_ #[62, 62] 62 (.slice x2.snd.snd.fst.1 x2.snd.snd.fst.snd.fst x2.snd.snd.fst.snd.snd) (.slice (some ⟨k23, 0, none⟩) 1 1) fun v25 =>
aL v25 fun p27 k28 k29 =>
rec3 (IntKind.i64.wrap (x2.fst + 1), (IntKind.i64.wrap (x2.fst + 1), ((p27, k28, k29), ())))) (rec3 (IntKind.i64.wrap (x2.fst + 1), (x2.snd.fst, ((x2.snd.snd.fst.1, x2.snd.snd.fst.snd.fst, x2.snd.snd.fst.snd.snd), ())))))) (K (.slice x2.snd.snd.fst.1 x2.snd.snd.fst.snd.fst x2.snd.snd.fst.snd.snd))
theorem F283_go {s0 x1 K w} : F283 s0 x1 K w → c_ 283 [(.string s0), (.int IntKind.u8 x1)] K w := goF Tryz.func283 (by kernel_rfl)
def F284 (s0 : ByteArray) (K : KV) : World → Prop :=
br_ (decide ((↑s0.size : Int) > 0)) (ta_ s0 0 fun x2 =>
br_ ((↑x2.toNat : Int) == 45) (ts_ s0 1 (↑s0.size : Int) fun s5 =>
lp_ (X := Int × Int × Bool × Int × Unit) (0, (0, (false, (0, ())))) fun x7 rec8 =>
br_ (decide (x7.fst < (↑s5.size : Int))) (ta_ s5 x7.fst fun x11 =>
br_ (decide ((↑x11.toNat : Int) < 48)) (K (.tuple #[(I 0), (.bool false)])) (ta_ s5 x7.fst fun x15 =>
br_ (decide ((↑x15.toNat : Int) > 57)) (K (.tuple #[(I 0), (.bool false)])) (br_ (decide (x7.snd.fst > 1099511627776)) (K (.tuple #[(I 0), (.bool false)])) (ta_ s5 x7.fst fun x21 =>
rec8 (IntKind.i64.wrap (x7.fst + 1), (IntKind.i64.wrap (IntKind.i64.wrap (10 * x7.snd.fst) + IntKind.i64.wrap (IntKind.u8.wrap ((↑x21.toNat : Int) - 48))), (x7.snd.snd.fst, (x7.snd.snd.snd.fst, ())))))))) (br_ (!strEq s5 {data := #[]}) (cT 279 [(I (IntKind.i64.wrap (x7.snd.fst * -1)))] fun s27 =>
K (.tuple #[(I (IntKind.i64.wrap (x7.snd.fst * -1))), (.bool (strEq s27 s0))])) (K (.tuple #[(I (IntKind.i64.wrap (x7.snd.fst * -1))), (.bool false)])))) (lp_ (X := Int × Int × Bool × Int × Unit) (0, (0, (false, (0, ())))) fun x31 rec32 =>
br_ (decide (x31.fst < (↑s0.size : Int))) (ta_ s0 x31.fst fun x35 =>
br_ (decide ((↑x35.toNat : Int) < 48)) (K (.tuple #[(I 0), (.bool false)])) (ta_ s0 x31.fst fun x39 =>
br_ (decide ((↑x39.toNat : Int) > 57)) (K (.tuple #[(I 0), (.bool false)])) (br_ (decide (x31.snd.fst > 1099511627776)) (K (.tuple #[(I 0), (.bool false)])) (ta_ s0 x31.fst fun x45 =>
rec32 (IntKind.i64.wrap (x31.fst + 1), (IntKind.i64.wrap (IntKind.i64.wrap (10 * x31.snd.fst) + IntKind.i64.wrap (IntKind.u8.wrap ((↑x45.toNat : Int) - 48))), (x31.snd.snd.fst, (x31.snd.snd.snd.fst, ())))))))) (br_ (!strEq s0 {data := #[]}) (cT 279 [(I (IntKind.i64.wrap (x31.snd.fst * 1)))] fun s51 =>
K (.tuple #[(I (IntKind.i64.wrap (x31.snd.fst * 1))), (.bool (strEq s51 s0))])) (K (.tuple #[(I (IntKind.i64.wrap (x31.snd.fst * 1))), (.bool false)]))))) (lp_ (X := Int × Int × Bool × Int × Unit) (0, (0, (false, (0, ())))) fun x55 rec56 =>
br_ (decide (x55.fst < (↑s0.size : Int))) (ta_ s0 x55.fst fun x59 =>
br_ (decide ((↑x59.toNat : Int) < 48)) (K (.tuple #[(I 0), (.bool false)])) (ta_ s0 x55.fst fun x63 =>
br_ (decide ((↑x63.toNat : Int) > 57)) (K (.tuple #[(I 0), (.bool false)])) (br_ (decide (x55.snd.fst > 1099511627776)) (K (.tuple #[(I 0), (.bool false)])) (ta_ s0 x55.fst fun x69 =>
rec56 (IntKind.i64.wrap (x55.fst + 1), (IntKind.i64.wrap (IntKind.i64.wrap (10 * x55.snd.fst) + IntKind.i64.wrap (IntKind.u8.wrap ((↑x69.toNat : Int) - 48))), (x55.snd.snd.fst, (x55.snd.snd.snd.fst, ())))))))) (br_ (!strEq s0 {data := #[]}) (cT 279 [(I (IntKind.i64.wrap (x55.snd.fst * 1)))] fun s75 =>
K (.tuple #[(I (IntKind.i64.wrap (x55.snd.fst * 1))), (.bool (strEq s75 s0))])) (K (.tuple #[(I (IntKind.i64.wrap (x55.snd.fst * 1))), (.bool false)]))))
theorem F284_go {s0 K w} : F284 s0 K w → c_ 284 [(.string s0)] K w := goF Tryz.func284 (by kernel_rfl)
def F285 (s0 : ByteArray) (x1 : Int) (a2 : Option Addr) (n2 : Nat) (c2 : Nat) (K : KV) : World → Prop :=
nw_ (.cells #[(.string s0), (I x1), (.slice a2 n2 c2)] 139 (0, 0)) fun k5 =>
lT ⟨k5, 0, none⟩ fun s9 =>
br_ (decide ((↑s9.size : Int) < 1)) (K (.bool false)) (lT ⟨k5, 0, none⟩ fun s15 =>
br_ (decide ((↑s15.size : Int) > 8)) (K (.bool false)) (lI ⟨k5, 1, none⟩ fun n21 =>
br_ (decide (n21 < 0)) (K (.bool false)) (lI ⟨k5, 1, none⟩ fun n27 =>
br_ (decide (n27 > 999)) (K (.bool false)) (lL ⟨k5, 2, none⟩ fun p33 k34 k35 =>
br_ (decide ((↑k34 : Int) > 4)) (K (.bool false)) (lT ⟨k5, 0, none⟩ fun s41 =>
lp_ (X := Int × Bool × Unit) (0, (false, ())) fun x43 rec44 =>
br_ (decide (x43.fst < (↑s41.size : Int))) (lT ⟨k5, 0, none⟩ fun s49 =>
ta_ s49 x43.fst fun x51 =>
br_ (decide ((↑x51.toNat : Int) < 97)) (K (.bool false)) (lT ⟨k5, 0, none⟩ fun s57 =>
ta_ s57 x43.fst fun x59 =>
br_ (decide ((↑x59.toNat : Int) > 122)) (K (.bool false)) (rec44 (IntKind.i64.wrap (x43.fst + 1), (x43.snd.fst, ()))))) (lL ⟨k5, 2, none⟩ fun p66 k67 k68 =>
lp_ (X := Int × Bool × Unit) (0, (x43.snd.fst, ())) fun x70 rec71 =>
br_ (decide (x70.fst < (↑k67 : Int))) (sa_ p66 k67 x70.fst 1 fun a74 =>
lI a74 fun n78 =>
br_ (decide (n78 < -1000000000)) (K (.bool false)) (br_ (decide (n78 > 1000000000)) (K (.bool false)) (rec71 (IntKind.i64.wrap (x70.fst + 1), (x70.snd.fst, ()))))) (K (.bool true))))))))
theorem F285_go {s0 x1 a2 n2 c2 K w} : F285 s0 x1 a2 n2 c2 K w → c_ 285 [(.agg #[(.string s0), (I x1), (.slice a2 n2 c2)])] K w := goF Tryz.func285 (by kernel_rfl)
def F286 (s0 : ByteArray) (x1 : Int) (a2 : Option Addr) (n2 : Nat) (c2 : Nat) (K : KV) : World → Prop :=
nw_ (.cells #[(.string s0), (I x1), (.slice a2 n2 c2)] 139 (0, 0)) fun k5 =>
lT ⟨k5, 0, none⟩ fun s9 =>
lI ⟨k5, 1, none⟩ fun n13 =>
lL ⟨k5, 2, none⟩ fun p17 k18 k19 =>
cB 285 [(.agg #[(.string s9), (I n13), (.slice p17 k18 k19)])] fun b23 =>
br_ (!b23) (K (.tuple #[(.string ({data := #[]})), (I 1)])) (drw (kps fun S27 =>
ldS_ S27 ⟨k5, 0, none⟩ fun v29 =>
aS v29 fun s31 =>
tc_ s31 ({data := #[32]}) fun s33 =>
ldS_ S27 ⟨k5, 1, none⟩ fun v35 =>
aI v35 fun n37 =>
cT 279 [(I n37)] fun s41 =>
kp_ S27 (tc_ s33 s41 fun s44 =>
lL ⟨k5, 2, none⟩ fun p48 k49 k50 =>
lp_ (X := Int × ByteArray × Unit) (0, (s44, ())) fun x52 rec53 =>
br_ (decide (x52.fst < (↑k49 : Int))) (sa_ p48 k49 x52.fst 1 fun a56 =>
lI a56 fun n60 =>
cT 279 [(I n60)] fun s64 =>
tc_ ({data := #[32]}) s64 fun s66 =>
tc_ x52.snd.fst s66 fun s68 =>
rec53 (IntKind.i64.wrap (x52.fst + 1), (s68, ()))) (cT 308 [(.string x52.snd.fst)] fun s73 =>
K (.tuple #[(.string s73), (I 0)])))))
theorem F286_go {s0 x1 a2 n2 c2 K w} : F286 s0 x1 a2 n2 c2 K w → c_ 286 [(.agg #[(.string s0), (I x1), (.slice a2 n2 c2)])] K w := goT (T := [(3, [0, 1, 2, 3, 4, 5, 6, 7])]) Tryz.func286 (by kernel_rfl)
def F308 (s0 : ByteArray) (K : KV) : World → Prop :=
tc_ s0 ({data := #[124]}) fun s1 =>
cT 326 [(.string s0)] fun s5 =>
tc_ s1 s5 fun s7 =>
K (.string s7)
theorem F308_go {s0 K w} : F308 s0 K w → c_ 308 [(.string s0)] K w := goF Tryz.func308 (by kernel_rfl)
def F326 (s0 : ByteArray) (K : KV) : World → Prop :=
lp_ (X := Int × Int × Int × Unit) (0, (1, (0, ()))) fun x1 rec2 =>
br_ (decide (x1.fst < (↑s0.size : Int))) (ta_ s0 x1.fst fun x5 =>
divW_ 673 (divW_ 673 (rec2 (IntKind.i64.wrap (x1.fst + 1), ((IntKind.i64.wrap (x1.snd.fst * 3)).tmod 673, ((IntKind.i64.wrap (x1.snd.snd.fst + IntKind.i64.wrap (IntKind.i64.wrap (↑x5.toNat : Int) * x1.snd.fst))).tmod 673, ())))))) (divW_ 26 (divW_ 26 (nw_ (.cells #[(.int IntKind.u8 (IntKind.u8.wrap (IntKind.i64.wrap (97 + IntKind.i64.wrap (Int.tdiv x1.snd.snd.fst 26))))), (.int IntKind.u8 (IntKind.u8.wrap (IntKind.i64.wrap (97 + Int.tmod x1.snd.snd.fst 26))))] 5 (0, 0)) fun k12 =>
cnv_ 340 9 (.slice (some ⟨k12, 0, none⟩) 2 2) fun v14 =>
aS v14 fun s16 =>
K (.string s16))))
theorem F326_go {s0 K w} : F326 s0 K w → c_ 326 [(.string s0)] K w := goF Tryz.func326 (by kernel_rfl)
def F35 (a0 : Option Addr) (n0 : Nat) (c0 : Nat) (a1 : Option Addr) (n1 : Nat) (c1 : Nat) (K : KV) : World → Prop :=
br_ ((↑n0 : Int) != (↑n1 : Int)) (K (.bool false)) (lp_ (X := Int × Bool × Unit) (0, (false, ())) fun x8 rec9 =>
br_ (decide (x8.fst < (↑n0 : Int))) (drw (sa_ a0 n0 x8.fst 1 fun a12 =>
lI a12 fun n16 =>
sa_ a1 n1 x8.fst 1 fun a18 =>
lI a18 fun n22 =>
br_ (n16 != n22) (K (.bool false)) (rec9 (IntKind.i64.wrap (x8.fst + 1), (x8.snd.fst, ()))))) (K (.bool true)))
theorem F35_go {a0 n0 c0 a1 n1 c1 K w} : F35 a0 n0 c0 a1 n1 c1 K w → c_ 35 [(.slice a0 n0 c0), (.slice a1 n1 c1)] K w := goF Tryz.func35 (by kernel_rfl)
def F31 (a0 : Option Addr) (n0 : Nat) (c0 : Nat) (a1 : Option Addr) (n1 : Nat) (c1 : Nat) (K : KV) : World → Prop :=
br_ ((↑n0 : Int) != (↑n1 : Int)) (K (.bool false)) (lp_ (X := Int × Bool × Unit) (0, (false, ())) fun x8 rec9 =>
br_ (decide (x8.fst < (↑n0 : Int))) (drw (sa_ a0 n0 x8.fst 7 fun a12 =>
lI a12 fun n16 =>
lI (a12.o 1) fun n20 =>
lI (a12.o 2) fun n24 =>
lI (a12.o 3) fun n28 =>
lI (a12.o 4) fun n32 =>
lI (a12.o 5) fun n36 =>
lI (a12.o 6) fun n40 =>
sa_ a1 n1 x8.fst 7 fun a42 =>
lI a42 fun n46 =>
lI (a42.o 1) fun n50 =>
lI (a42.o 2) fun n54 =>
lI (a42.o 3) fun n58 =>
lI (a42.o 4) fun n62 =>
lI (a42.o 5) fun n66 =>
lI (a42.o 6) fun n70 =>
chk_ (structIntsB Tryz.prog 35 (([] ++ [I n16] ++ [I n20] ++ [I n24] ++ [I n28] ++ [I n32] ++ [I n36] ++ [I n40]).toArray.toList.length)) (br_ (! (n16 == n46 && (n20 == n50 && (n24 == n54 && (n28 == n58 && (n32 == n62 && (n36 == n66 && (n40 == n70 && true)))))))) (K (.bool false)) (rec9 (IntKind.i64.wrap (x8.fst + 1), (x8.snd.fst, ())))))) (K (.bool true)))
theorem F31_go {a0 n0 c0 a1 n1 c1 K w} : F31 a0 n0 c0 a1 n1 c1 K w → c_ 31 [(.slice a0 n0 c0), (.slice a1 n1 c1)] K w := goF Tryz.func31 (by kernel_rfl)
end Go.Proofs.YtcfmnoimehcfnaaGreatDoor
