/- The shallow readings of some functions of the program (printed by a program of ours out of the model's own evaluation) and, for each, the proof that it is one. Conditions: none. -/
import Derived.Test.YtcfmnoimehcfnaaGreatDoorSh
import Derived.Test.YtcfmnoimehcfnaaGreatDoorProg
set_option maxRecDepth 100000
set_option linter.unusedVariables false
namespace Go.Proofs.YtcfmnoimehcfnaaGreatDoor
open Go Go.Sh
theorem mixed : Tryz.prog.follows .mixedOrders = true := by kernel_rfl
def F36 (p0 : Option Addr) (K : KV) (w : World) : Prop :=
br (p0.isNone) (fun w1 =>
K (.slice none (0) (0)) (w1)) (fun w2 =>
nn (p0) (fun a3 w4 =>
ld (a3) (fun v5 w6 =>
asSl (v5) (fun p7 k8 k9 w10 =>
loop (X := (Int) × ((Option Addr) × (Nat) × Nat) × Unit) (0, ((none, 0, 0), ())) (fun x11 rec12 w13 =>
br (decide (x11.fst < (↑k8 : Int))) (fun w14 =>
slAt (p7) (k8) (x11.fst) (3) (fun a15 w16 =>
ld (a15) (fun v17 w18 =>
asI .i64 (v17) (fun n19 w20 =>
ld (⟨a15.block, a15.off + 1, none⟩) (fun v21 w22 =>
asI .i64 (v21) (fun n23 w24 =>
ld (⟨a15.block, a15.off + 2, none⟩) (fun v25 w26 =>
asI .i64 (v25) (fun n27 w28 =>
nw (Obj.cells #[(Value.int .i64 (0)), (Value.int .i64 (0)), (Value.int .i64 (0))] 174 (0, 0)) (fun k29 w30 =>
st (⟨k29, 0, none⟩) (Value.int .i64 (n19)) (fun w31 =>
st (⟨k29, 1, none⟩) (Value.int .i64 (n23)) (fun w32 =>
st (⟨k29, 2, none⟩) (Value.int .i64 (n27)) (fun w33 =>
ld (⟨k29, 0, none⟩) (fun v34 w35 =>
asI .i64 (v34) (fun n36 w37 =>
nw (Obj.cells #[(Value.int .i64 (n36))] 3 (0, 0)) (fun k38 w39 =>
bapp (Md.full) Tryz.prog (#[56, 56]) (56) (.slice x11.snd.fst.1 (x11.snd.fst.snd.fst) (x11.snd.fst.snd.snd)) (.slice (some ⟨k38, 0, none⟩) (1) (1)) (fun v40 w41 =>
asSl (v40) (fun p42 k43 k44 w45 =>
rec12 (IntKind.i64.wrap (x11.fst + 1), ((p42, k43, k44), ())) (w45)) (w41)) (w39)) (w37)) (w35)) (w33)) (w32)) (w31)) (w30)) (w28)) (w26)) (w24)) (w22)) (w20)) (w18)) (w16)) (w14)) (fun w46 =>
K (.slice x11.snd.fst.1 (x11.snd.fst.snd.fst) (x11.snd.fst.snd.snd)) (w46)) (w13)) (w10)) (w6)) (w4)) (w2)) (w)
theorem F36_eq (p0 : Option Addr) : sBody Tryz.prog [] Tryz.f36 [(Value.pointer p0)] = F36 p0 := by kernel_rfl
theorem F36_go (p0 : Option Addr) {K : KV} {w : World} (h : F36 p0 K w) : gocall Tryz.prog 36 [(Value.pointer p0)] K w :=
⟨by kernel_rfl, calls_of_sBody (T := []) mixed Tryz.func36 (by kernel_rfl) (by rw [F36_eq]; exact h)⟩
def F38 (p0 : Option Addr) (x1 : Int) (K : KV) (w : World) : Prop :=
br (p0.isNone) (fun w2 =>
K (Value.int .i64 (0)) (w2)) (fun w3 =>
nn (p0) (fun a4 w5 =>
ld (a4) (fun v6 w7 =>
asSl (v6) (fun p8 k9 k10 w11 =>
loop (X := (Int) × (Int) × Unit) (0, (0, ())) (fun x12 rec13 w14 =>
br (decide (x12.fst < (↑k9 : Int))) (fun w15 =>
slAt (p8) (k9) (x12.fst) (3) (fun a16 w17 =>
ld (a16) (fun v18 w19 =>
asI .i64 (v18) (fun n20 w21 =>
ld (⟨a16.block, a16.off + 1, none⟩) (fun v22 w23 =>
asI .i64 (v22) (fun n24 w25 =>
ld (⟨a16.block, a16.off + 2, none⟩) (fun v26 w27 =>
asI .i64 (v26) (fun n28 w29 =>
nw (Obj.cells #[(Value.int .i64 (0)), (Value.int .i64 (0)), (Value.int .i64 (0))] 174 (0, 0)) (fun k30 w31 =>
st (⟨k30, 0, none⟩) (Value.int .i64 (n20)) (fun w32 =>
st (⟨k30, 1, none⟩) (Value.int .i64 (n24)) (fun w33 =>
st (⟨k30, 2, none⟩) (Value.int .i64 (n28)) (fun w34 =>
ld (⟨k30, 1, none⟩) (fun v35 w36 =>
asI .i64 (v35) (fun n37 w38 =>
br (n37 == x1) (fun w39 =>
ld (⟨k30, 2, none⟩) (fun v40 w41 =>
asI .i64 (v40) (fun n42 w43 =>
rec13 (IntKind.i64.wrap (x12.fst + 1), (IntKind.i64.wrap (x12.snd.fst + n42), ())) (w43)) (w41)) (w39)) (fun w44 =>
rec13 (IntKind.i64.wrap (x12.fst + 1), (x12.snd.fst, ())) (w44)) (w38)) (w36)) (w34)) (w33)) (w32)) (w31)) (w29)) (w27)) (w25)) (w23)) (w21)) (w19)) (w17)) (w15)) (fun w45 =>
K (Value.int .i64 (x12.snd.fst)) (w45)) (w14)) (w11)) (w7)) (w5)) (w3)) (w)
theorem F38_eq (p0 : Option Addr) (x1 : Int) : sBody Tryz.prog [] Tryz.f38 [(Value.pointer p0), (Value.int .i64 x1)] = F38 p0 x1 := by kernel_rfl
theorem F38_go (p0 : Option Addr) (x1 : Int) {K : KV} {w : World} (h : F38 p0 x1 K w) : gocall Tryz.prog 38 [(Value.pointer p0), (Value.int .i64 x1)] K w :=
⟨by kernel_rfl, calls_of_sBody (T := []) mixed Tryz.func38 (by kernel_rfl) (by rw [F38_eq]; exact h)⟩
def F98 (x0 : Int) (K : KV) (w : World) : Prop :=
nw (Obj.cells #[(Value.int .i64 (if (if 4096 < x0 then 4096 else x0) > 1 then if 4096 < x0 then 4096 else x0 else 1)), (.slice none (0) (0)), (Value.int .i64 (0)), (.bool (false))] 235 (0, 0)) (fun k1 w2 =>
K (Value.pointer (some ⟨k1, 0, none⟩)) (w2)) (w)
theorem F98_eq (x0 : Int) : sBody Tryz.prog [] Tryz.f98 [(Value.int .i64 x0)] = F98 x0 := by kernel_rfl
theorem F98_go (x0 : Int) {K : KV} {w : World} (h : F98 x0 K w) : gocall Tryz.prog 98 [(Value.int .i64 x0)] K w :=
⟨by kernel_rfl, calls_of_sBody (T := []) mixed Tryz.func98 (by kernel_rfl) (by rw [F98_eq]; exact h)⟩
def F100 (x0 : Int) (x1 : Int) (x2 : Int) (x3 : Int) (x4 : Int) (a5 : Option Addr) (n5 : Nat) (c5 : Nat) (K : KV) (w : World) : Prop :=
nw (Obj.cells #[(Value.int .i64 (x0)), (Value.int .i64 (x1)), (Value.int .i64 (x2)), (Value.int .i64 (x3)), (Value.int .i64 (x4)), (.slice a5 (n5) (c5))] 24 (0, 0)) (fun k8 w9 =>
ld (⟨k8, 5, none⟩) (fun v10 w11 =>
asSl (v10) (fun p12 k13 k14 w15 =>
loop (X := (Int) × (Bool) × Unit) (0, (false, ())) (fun x16 rec17 w18 =>
br (decide (x16.fst < (↑k13 : Int))) (fun w19 =>
slAt (p12) (k13) (x16.fst) (2) (fun a20 w21 =>
ld (a20) (fun v22 w23 =>
asI .i64 (v22) (fun n24 w25 =>
ld (⟨a20.block, a20.off + 1, none⟩) (fun v26 w27 =>
asI .i64 (v26) (fun n28 w29 =>
nw (Obj.cells #[(Value.int .i64 (0)), (Value.int .i64 (0))] 81 (0, 0)) (fun k30 w31 =>
st (⟨k30, 0, none⟩) (Value.int .i64 (n24)) (fun w32 =>
st (⟨k30, 1, none⟩) (Value.int .i64 (n28)) (fun w33 =>
ld (⟨k30, 0, none⟩) (fun v34 w35 =>
asI .i64 (v34) (fun n36 w37 =>
gocall Tryz.prog (199) [(Value.int .i64 (n36)), (Value.int .i64 (4)), (Value.int .i64 (6))] (fun v38 w39 =>
asBoo (v38) (fun b40 w41 =>
br (!b40) (fun w42 =>
K (.bool (false)) (w42)) (fun w43 =>
ld (⟨k30, 1, none⟩) (fun v44 w45 =>
asI .i64 (v44) (fun n46 w47 =>
gocall Tryz.prog (200) [(Value.int .i64 (n46))] (fun v48 w49 =>
asBoo (v48) (fun b50 w51 =>
br (!b50) (fun w52 =>
K (.bool (false)) (w52)) (fun w53 =>
ld (⟨k8, 0, none⟩) (fun v54 w55 =>
asI .i64 (v54) (fun n56 w57 =>
ld (⟨k8, 1, none⟩) (fun v58 w59 =>
asI .i64 (v58) (fun n60 w61 =>
ld (⟨k8, 2, none⟩) (fun v62 w63 =>
asI .i64 (v62) (fun n64 w65 =>
ld (⟨k8, 3, none⟩) (fun v66 w67 =>
asI .i64 (v66) (fun n68 w69 =>
ld (⟨k8, 4, none⟩) (fun v70 w71 =>
asI .i64 (v70) (fun n72 w73 =>
ld (⟨k8, 5, none⟩) (fun v74 w75 =>
asSl (v74) (fun p76 k77 k78 w79 =>
ld (⟨k30, 0, none⟩) (fun v80 w81 =>
asI .i64 (v80) (fun n82 w83 =>
gocall Tryz.prog (201) [(Value.agg #[(Value.int .i64 (n56)), (Value.int .i64 (n60)), (Value.int .i64 (n64)), (Value.int .i64 (n68)), (Value.int .i64 (n72)), (.slice p76 (k77) (k78))]), (Value.int .i64 (n82))] (fun v84 w85 =>
asI .i64 (v84) (fun n86 w87 =>
br (n86 != x16.fst) (fun w88 =>
K (.bool (false)) (w88)) (fun w89 =>
rec17 (IntKind.i64.wrap (x16.fst + 1), (x16.snd.fst, ())) (w89)) (w87)) (w85)) (w83)) (w81)) (w79)) (w75)) (w73)) (w71)) (w69)) (w67)) (w65)) (w63)) (w61)) (w59)) (w57)) (w55)) (w53)) (w51)) (w49)) (w47)) (w45)) (w43)) (w41)) (w39)) (w37)) (w35)) (w33)) (w32)) (w31)) (w29)) (w27)) (w25)) (w23)) (w21)) (w19)) (fun w90 =>
ld (⟨k8, 5, none⟩) (fun v91 w92 =>
asSl (v91) (fun p93 k94 k95 w96 =>
br (decide ((↑k94 : Int) ≤ 3)) (fun w97 =>
ld (⟨k8, 0, none⟩) (fun v98 w99 =>
asI .i64 (v98) (fun n100 w101 =>
gocall Tryz.prog (199) [(Value.int .i64 (n100)), (Value.int .i64 (1)), (Value.int .i64 (999))] (fun v102 w103 =>
asBoo (v102) (fun b104 w105 =>
br (b104) (fun w106 =>
ld (⟨k8, 1, none⟩) (fun v107 w108 =>
asI .i64 (v107) (fun n109 w110 =>
gocall Tryz.prog (199) [(Value.int .i64 (n109)), (Value.int .i64 (0)), (Value.int .i64 (7))] (fun v111 w112 =>
asBoo (v111) (fun b113 w114 =>
br (b113) (fun w115 =>
ld (⟨k8, 3, none⟩) (fun v116 w117 =>
asI .i64 (v116) (fun n118 w119 =>
gocall Tryz.prog (199) [(Value.int .i64 (n118)), (Value.int .i64 (0)), (Value.int .i64 (7))] (fun v120 w121 =>
asBoo (v120) (fun b122 w123 =>
br (b122) (fun w124 =>
ld (⟨k8, 2, none⟩) (fun v125 w126 =>
asI .i64 (v125) (fun n127 w128 =>
gocall Tryz.prog (200) [(Value.int .i64 (n127))] (fun v129 w130 =>
asBoo (v129) (fun b131 w132 =>
br (b131) (fun w133 =>
ld (⟨k8, 4, none⟩) (fun v134 w135 =>
asI .i64 (v134) (fun n136 w137 =>
gocall Tryz.prog (200) [(Value.int .i64 (n136))] (fun v138 w139 =>
asBoo (v138) (fun b140 w141 =>
K (.bool (b140)) (w141)) (w139)) (w137)) (w135)) (w133)) (fun w142 =>
K (.bool (false)) (w142)) (w132)) (w130)) (w128)) (w126)) (w124)) (fun w143 =>
K (.bool (false)) (w143)) (w123)) (w121)) (w119)) (w117)) (w115)) (fun w144 =>
K (.bool (false)) (w144)) (w114)) (w112)) (w110)) (w108)) (w106)) (fun w145 =>
K (.bool (false)) (w145)) (w105)) (w103)) (w101)) (w99)) (w97)) (fun w146 =>
K (.bool (false)) (w146)) (w96)) (w92)) (w90)) (w18)) (w15)) (w11)) (w9)) (w)
theorem F100_eq (x0 : Int) (x1 : Int) (x2 : Int) (x3 : Int) (x4 : Int) (a5 : Option Addr) (n5 : Nat) (c5 : Nat) : sBody Tryz.prog [] Tryz.f100 [(Value.agg #[(Value.int .i64 x0), (Value.int .i64 x1), (Value.int .i64 x2), (Value.int .i64 x3), (Value.int .i64 x4), (.slice a5 n5 c5)])] = F100 x0 x1 x2 x3 x4 a5 n5 c5 := by kernel_rfl
theorem F100_go (x0 : Int) (x1 : Int) (x2 : Int) (x3 : Int) (x4 : Int) (a5 : Option Addr) (n5 : Nat) (c5 : Nat) {K : KV} {w : World} (h : F100 x0 x1 x2 x3 x4 a5 n5 c5 K w) : gocall Tryz.prog 100 [(Value.agg #[(Value.int .i64 x0), (Value.int .i64 x1), (Value.int .i64 x2), (Value.int .i64 x3), (Value.int .i64 x4), (.slice a5 n5 c5)])] K w :=
⟨by kernel_rfl, calls_of_sBody (T := []) mixed Tryz.func100 (by kernel_rfl) (by rw [F100_eq]; exact h)⟩
def F119  (K : KV) (w : World) : Prop :=
nw (Obj.cells #[(.slice none (0) (0))] 172 (0, 0)) (fun k0 w1 =>
K (Value.pointer (some ⟨k0, 0, none⟩)) (w1)) (w)
theorem F119_eq  : sBody Tryz.prog [] Tryz.f119 [] = F119  := by kernel_rfl
theorem F119_go  {K : KV} {w : World} (h : F119  K w) : gocall Tryz.prog 119 [] K w :=
⟨by kernel_rfl, calls_of_sBody (T := []) mixed Tryz.func119 (by kernel_rfl) (by rw [F119_eq]; exact h)⟩
def F121 (p0 : Option Addr) (x1 : Int) (x2 : Int) (K : KV) (w : World) : Prop :=
br (p0.isNone) (fun w3 =>
K (Value.tuple #[]) (w3)) (fun w4 =>
nn (p0) (fun a5 w6 =>
ld (⟨a5.block, a5.off + 3, none⟩) (fun v7 w8 =>
asBoo (v7) (fun b9 w10 =>
br (b9) (fun w11 =>
K (Value.tuple #[]) (w11)) (fun w12 =>
nn (p0) (fun a13 w14 =>
st (⟨a13.block, a13.off + 3, none⟩) (.bool (true)) (fun w15 =>
nn (p0) (fun a16 w17 =>
ld (⟨a16.block, a16.off + 2, none⟩) (fun v18 w19 =>
asI .i64 (v18) (fun n20 w21 =>
nn (p0) (fun a22 w23 =>
ld (⟨a22.block, a22.off + 1, none⟩) (fun v24 w25 =>
asSl (v24) (fun p26 k27 k28 w29 =>
nn (p0) (fun a30 w31 =>
ld (⟨a30.block, a30.off + 2, none⟩) (fun v32 w33 =>
asI .i64 (v32) (fun n34 w35 =>
nn (p0) (fun a36 w37 =>
ld (⟨a36.block, a36.off + 1, none⟩) (fun v38 w39 =>
asSl (v38) (fun p40 k41 k42 w43 =>
br (IntKind.i64.wrap (n20 + if (if IntKind.i64.wrap ((↑k27 : Int) - n34) < x1 then IntKind.i64.wrap ((↑k27 : Int) - n34) else x1) > 0 then if IntKind.i64.wrap ((↑k27 : Int) - n34) < x1 then IntKind.i64.wrap ((↑k27 : Int) - n34) else x1 else 0) == (↑k41 : Int)) (fun w44 =>
K (Value.tuple #[]) (w44)) (fun w45 =>
nn (p0) (fun a46 w47 =>
ld (⟨a46.block, a46.off + 1, none⟩) (fun v48 w49 =>
asSl (v48) (fun p50 k51 k52 w53 =>
slAt (p50) (k51) (IntKind.i64.wrap (n20 + if (if IntKind.i64.wrap ((↑k27 : Int) - n34) < x1 then IntKind.i64.wrap ((↑k27 : Int) - n34) else x1) > 0 then if IntKind.i64.wrap ((↑k27 : Int) - n34) < x1 then IntKind.i64.wrap ((↑k27 : Int) - n34) else x1 else 0)) (1) (fun a54 w55 =>
ld (a54) (fun v56 w57 =>
asStr (v56) (fun s58 w59 =>
gocall Tryz.prog (215) [(Value.string (s58)), (Value.int .i64 (x2))] (fun v60 w61 =>
asStr (v60) (fun s62 w63 =>
nn (p0) (fun a64 w65 =>
ld (⟨a64.block, a64.off + 1, none⟩) (fun v66 w67 =>
asSl (v66) (fun p68 k69 k70 w71 =>
slSl (p68) (k70) (0) (IntKind.i64.wrap (n20 + if (if IntKind.i64.wrap ((↑k27 : Int) - n34) < x1 then IntKind.i64.wrap ((↑k27 : Int) - n34) else x1) > 0 then if IntKind.i64.wrap ((↑k27 : Int) - n34) < x1 then IntKind.i64.wrap ((↑k27 : Int) - n34) else x1 else 0)) (1) (fun p72 k73 k74 w75 =>
nn (p0) (fun a76 w77 =>
st (⟨a76.block, a76.off + 1, none⟩) (.slice p72 (k73) (k74)) (fun w78 =>
br (!strEq s62 { data := #[] }) (fun w79 =>
nn (p0) (fun a80 w81 =>
ld (⟨a80.block, a80.off + 1, none⟩) (fun v82 w83 =>
asSl (v82) (fun p84 k85 k86 w87 =>
nw (Obj.cells #[(Value.string (s62))] 9 (0, 0)) (fun k88 w89 =>
bapp (Md.full) Tryz.prog (#[62, 62]) (62) (.slice p84 (k85) (k86)) (.slice (some ⟨k88, 0, none⟩) (1) (1)) (fun v90 w91 =>
asSl (v90) (fun p92 k93 k94 w95 =>
nn (p0) (fun a96 w97 =>
st (⟨a96.block, a96.off + 1, none⟩) (.slice p92 (k93) (k94)) (fun w98 =>
K (Value.tuple #[]) (w98)) (w97)) (w95)) (w91)) (w89)) (w87)) (w83)) (w81)) (w79)) (fun w99 =>
K (Value.tuple #[]) (w99)) (w78)) (w77)) (w75)) (w71)) (w67)) (w65)) (w63)) (w61)) (w59)) (w57)) (w55)) (w53)) (w49)) (w47)) (w45)) (w43)) (w39)) (w37)) (w35)) (w33)) (w31)) (w29)) (w25)) (w23)) (w21)) (w19)) (w17)) (w15.drew)) (w14)) (w12)) (w10)) (w8)) (w6)) (w4)) (w)
theorem F121_eq (p0 : Option Addr) (x1 : Int) (x2 : Int) : sBody Tryz.prog [] Tryz.f121 [(Value.pointer p0), (Value.int .i64 x1), (Value.int .i64 x2)] = F121 p0 x1 x2 := by kernel_rfl
theorem F121_go (p0 : Option Addr) (x1 : Int) (x2 : Int) {K : KV} {w : World} (h : F121 p0 x1 x2 K w) : gocall Tryz.prog 121 [(Value.pointer p0), (Value.int .i64 x1), (Value.int .i64 x2)] K w :=
⟨by kernel_rfl, calls_of_sBody (T := []) mixed Tryz.func121 (by kernel_rfl) (by rw [F121_eq]; exact h)⟩
def F123 (p0 : Option Addr) (K : KV) (w : World) : Prop :=
br (p0.isNone) (fun w1 =>
K (Value.int .i64 (0)) (w1)) (fun w2 =>
nn (p0) (fun a3 w4 =>
ld (⟨a3.block, a3.off + 3, none⟩) (fun v5 w6 =>
asBoo (v5) (fun b7 w8 =>
br (!b7) (fun w9 =>
K (Value.int .i64 (0)) (w9)) (fun w10 =>
nw (Obj.cells #[(Value.int .i64 (0))] 3 (0, 0)) (fun k11 w12 =>
st (⟨k11, 0, none⟩) (Value.int .i64 (0)) (fun w13 =>
gocall Tryz.prog (124) [(Value.pointer p0)] (fun v14 w15 =>
asFn (v14) (fun k16 x17 w18 =>
rfn Tryz.prog (fun k19 k20 f21 w22 =>
gocall Tryz.prog (k16) ((Value.func (Fn.yield k20) #[] #[]) :: x17.1) (fun v23 w24 =>
rfe (k20) (f21) (fun p25 w26 =>
rfj (fun w27 =>
nn (p0) (fun a28 w29 =>
ld (⟨a28.block, a28.off + 1, none⟩) (fun v30 w31 =>
asSl (v30) (fun p32 k33 k34 w35 =>
ld (⟨k11, 0, none⟩) (fun v36 w37 =>
asI .i64 (v36) (fun n38 w39 =>
keeps (fun S40 w41 =>
nn (p0) (fun a42 w43 =>
ld (⟨a42.block, a42.off + 1, none⟩) (fun v44 w45 =>
asSl (v44) (fun p46 k47 k48 w49 =>
ld (⟨k11, 0, none⟩) (fun v50 w51 =>
asI .i64 (v50) (fun n52 w53 =>
slSl (p46) (k48) (0) (n52) (1) (fun p54 k55 k56 w57 =>
ldS (S40) (⟨k11, 0, none⟩) (fun v58 w59 =>
asI .i64 (v58) (fun n60 w61 =>
nn (p0) (fun a62 w63 =>
st (⟨a62.block, a62.off + 1, none⟩) (.slice p54 (k55) (k56)) (fun w64 =>
kp (S40) (fun w65 =>
nn (p0) (fun a66 w67 =>
st (⟨a66.block, a66.off + 2, none⟩) (Value.int .i64 (n60)) (fun w68 =>
kp (S40) (fun w69 =>
nn (p0) (fun a70 w71 =>
st (⟨a70.block, a70.off + 3, none⟩) (.bool (false)) (fun w72 =>
dfr (k19) (fun w73 =>
K (Value.int .i64 (IntKind.i64.wrap ((↑k33 : Int) - n38))) (w73)) (w72)) (w71)) (w69)) (w68)) (w67)) (w65)) (w64)) (w63)) (w61)) (w59)) (w57)) (w53)) (w51)) (w49)) (w45)) (w43)) (w41)) (w39.drew)) (w37)) (w35)) (w31)) (w29)) (w27.drew)) (fun w74 =>
dfr (k19) (fun w75 =>
K (Value.int .i64 (0)) (w75)) (w74)) [] (p25) (w26)) (w24)) (w22)) (fun k76 f77 l78 f79 w80 =>
asT (1) (Value.tuple l78.toArray) (fun f81 w82 =>
asN (3) (f81 0) (fun f83 w84 =>
asStr (f83 0) (fun s85 w86 =>
asI .i64 (f83 1) (fun n87 w88 =>
asSl (f83 2) (fun p89 k90 k91 w92 =>
rfb (k76) (f77) (fun w93 =>
ld (⟨k11, 0, none⟩) (fun v94 w95 =>
asI .i64 (v94) (fun n96 w97 =>
st (⟨k11, 0, none⟩) (Value.int .i64 (IntKind.i64.wrap (n96 + 1))) (fun w98 =>
rfy (k76) (f77) (fun v99 w100 =>
f79 (v99) (w100)) (w98)) (w97)) (w95)) (w93)) (w92)) (w88)) (w86)) (w84)) (w82)) (w80)) (w18)) (w15)) (w13)) (w12)) (w10)) (w8)) (w6)) (w4)) (w2)) (w)
theorem F123_eq (p0 : Option Addr) : sBody Tryz.prog [(7, [0, 1, 2, 3, 4, 5, 6, 7, 8, 9, 10, 11, 12, 13, 14, 15, 16, 17, 18]), (1000016, [139])] Tryz.f123 [(Value.pointer p0)] = F123 p0 := by kernel_rfl
theorem F123_go (p0 : Option Addr) {K : KV} {w : World} (h : F123 p0 K w) : gocall Tryz.prog 123 [(Value.pointer p0)] K w :=
⟨by kernel_rfl, calls_of_sBody (T := [(7, [0, 1, 2, 3, 4, 5, 6, 7, 8, 9, 10, 11, 12, 13, 14, 15, 16, 17, 18]), (1000016, [139])]) mixed Tryz.func123 (by kernel_rfl) (by rw [F123_eq]; exact h)⟩
def F124 (p0 : Option Addr) (K : KV) (w : World) : Prop :=
nw (Obj.cells #[(Value.pointer p0)] 131 (0, 0)) (fun k1 w2 =>
K (Value.func (Fn.func 216) #[] #[(Value.pointer (some ⟨k1, 0, none⟩))]) (w2)) (w)
theorem F124_eq (p0 : Option Addr) : sBody Tryz.prog [] Tryz.f124 [(Value.pointer p0)] = F124 p0 := by kernel_rfl
theorem F124_go (p0 : Option Addr) {K : KV} {w : World} (h : F124 p0 K w) : gocall Tryz.prog 124 [(Value.pointer p0)] K w :=
⟨by kernel_rfl, calls_of_sBody (T := []) mixed Tryz.func124 (by kernel_rfl) (by rw [F124_eq]; exact h)⟩
def F133 (p0 : Option Addr) (K : KV) (w : World) : Prop :=
br (p0.isSome) (fun w1 =>
nn (p0) (fun a2 w3 =>
ld (⟨a2.block, a2.off + 3, none⟩) (fun v4 w5 =>
asBoo (v4) (fun b6 w7 =>
K (.bool (b6)) (w7)) (w5)) (w3)) (w1)) (fun w8 =>
K (.bool (false)) (w8)) (w)
theorem F133_eq (p0 : Option Addr) : sBody Tryz.prog [] Tryz.f133 [(Value.pointer p0)] = F133 p0 := by kernel_rfl
theorem F133_go (p0 : Option Addr) {K : KV} {w : World} (h : F133 p0 K w) : gocall Tryz.prog 133 [(Value.pointer p0)] K w :=
⟨by kernel_rfl, calls_of_sBody (T := []) mixed Tryz.func133 (by kernel_rfl) (by rw [F133_eq]; exact h)⟩
def F199 (x0 : Int) (x1 : Int) (x2 : Int) (K : KV) (w : World) : Prop :=
br (decide (x0 ≥ x1)) (fun w3 =>
K (.bool (decide (x0 ≤ x2))) (w3)) (fun w4 =>
K (.bool (false)) (w4)) (w)
theorem F199_eq (x0 : Int) (x1 : Int) (x2 : Int) : sBody Tryz.prog [] Tryz.f199 [(Value.int .i64 x0), (Value.int .i64 x1), (Value.int .i64 x2)] = F199 x0 x1 x2 := by kernel_rfl
theorem F199_go (x0 : Int) (x1 : Int) (x2 : Int) {K : KV} {w : World} (h : F199 x0 x1 x2 K w) : gocall Tryz.prog 199 [(Value.int .i64 x0), (Value.int .i64 x1), (Value.int .i64 x2)] K w :=
⟨by kernel_rfl, calls_of_sBody (T := []) mixed Tryz.func199 (by kernel_rfl) (by rw [F199_eq]; exact h)⟩
def F200 (x0 : Int) (K : KV) (w : World) : Prop :=
br (decide (x0 > 0)) (fun w1 =>
gocall Tryz.prog (265) [(Value.int .i64 (x0))] (fun v2 w3 =>
asBoo (v2) (fun b4 w5 =>
K (.bool (b4)) (w5)) (w3)) (w1)) (fun w6 =>
K (.bool (false)) (w6)) (w)
theorem F200_eq (x0 : Int) : sBody Tryz.prog [] Tryz.f200 [(Value.int .i64 x0)] = F200 x0 := by kernel_rfl
theorem F200_go (x0 : Int) {K : KV} {w : World} (h : F200 x0 K w) : gocall Tryz.prog 200 [(Value.int .i64 x0)] K w :=
⟨by kernel_rfl, calls_of_sBody (T := []) mixed Tryz.func200 (by kernel_rfl) (by rw [F200_eq]; exact h)⟩
def F201 (x0 : Int) (x1 : Int) (x2 : Int) (x3 : Int) (x4 : Int) (a5 : Option Addr) (n5 : Nat) (c5 : Nat) (x6 : Int) (K : KV) (w : World) : Prop :=
nw (Obj.cells #[(Value.int .i64 (x0)), (Value.int .i64 (x1)), (Value.int .i64 (x2)), (Value.int .i64 (x3)), (Value.int .i64 (x4)), (.slice a5 (n5) (c5))] 24 (0, 0)) (fun k9 w10 =>
nw (Obj.cells #[(Value.int .i64 (x6))] 3 (0, 0)) (fun k11 w12 =>
ld (⟨k9, 5, none⟩) (fun v13 w14 =>
asSl (v13) (fun p15 k16 k17 w18 =>
gocall Tryz.prog (266) [(.slice p15 (k16) (k17)), (Value.func (Fn.func 267) #[] #[(Value.pointer (some ⟨k11, 0, none⟩))])] (fun v19 w20 =>
asI .i64 (v19) (fun n21 w22 =>
K (Value.int .i64 (n21)) (w22)) (w20)) (w18)) (w14)) (w12)) (w10)) (w)
theorem F201_eq (x0 : Int) (x1 : Int) (x2 : Int) (x3 : Int) (x4 : Int) (a5 : Option Addr) (n5 : Nat) (c5 : Nat) (x6 : Int) : sBody Tryz.prog [] Tryz.f201 [(Value.agg #[(Value.int .i64 x0), (Value.int .i64 x1), (Value.int .i64 x2), (Value.int .i64 x3), (Value.int .i64 x4), (.slice a5 n5 c5)]), (Value.int .i64 x6)] = F201 x0 x1 x2 x3 x4 a5 n5 c5 x6 := by kernel_rfl
theorem F201_go (x0 : Int) (x1 : Int) (x2 : Int) (x3 : Int) (x4 : Int) (a5 : Option Addr) (n5 : Nat) (c5 : Nat) (x6 : Int) {K : KV} {w : World} (h : F201 x0 x1 x2 x3 x4 a5 n5 c5 x6 K w) : gocall Tryz.prog 201 [(Value.agg #[(Value.int .i64 x0), (Value.int .i64 x1), (Value.int .i64 x2), (Value.int .i64 x3), (Value.int .i64 x4), (.slice a5 n5 c5)]), (Value.int .i64 x6)] K w :=
⟨by kernel_rfl, calls_of_sBody (T := []) mixed Tryz.func201 (by kernel_rfl) (by rw [F201_eq]; exact h)⟩
def F202 (p0 : Option Addr) (K : KV) (w : World) : Prop :=
br (p0.isNone) (fun w1 =>
K (Value.int .i64 (1)) (w1)) (fun w2 =>
nn (p0) (fun a3 w4 =>
ld (⟨a3.block, a3.off + 3, none⟩) (fun v5 w6 =>
asBoo (v5) (fun b7 w8 =>
br (b7) (fun w9 =>
K (Value.int .i64 (10)) (w9)) (fun w10 =>
nn (p0) (fun a11 w12 =>
ld (⟨a11.block, a11.off + 1, none⟩) (fun v13 w14 =>
asSl (v13) (fun p15 k16 k17 w18 =>
nn (p0) (fun a19 w20 =>
st (⟨a19.block, a19.off + 2, none⟩) (Value.int .i64 ((↑k16 : Int))) (fun w21 =>
K (Value.int .i64 (0)) (w21)) (w20)) (w18)) (w14)) (w12)) (w10)) (w8)) (w6)) (w4)) (w2)) (w)
theorem F202_eq (p0 : Option Addr) : sBody Tryz.prog [] Tryz.f202 [(Value.pointer p0)] = F202 p0 := by kernel_rfl
theorem F202_go (p0 : Option Addr) {K : KV} {w : World} (h : F202 p0 K w) : gocall Tryz.prog 202 [(Value.pointer p0)] K w :=
⟨by kernel_rfl, calls_of_sBody (T := []) mixed Tryz.func202 (by kernel_rfl) (by rw [F202_eq]; exact h)⟩
def F211 (p0 : Option Addr) (s1 : ByteArray) (x2 : Int) (a3 : Option Addr) (n3 : Nat) (c3 : Nat) (K : KV) (w : World) : Prop :=
nw (Obj.cells #[(Value.string (s1)), (Value.int .i64 (x2)), (.slice a3 (n3) (c3))] 139 (0, 0)) (fun k6 w7 =>
br (p0.isNone) (fun w8 =>
K (Value.int .i64 (1)) (w8)) (fun w9 =>
nn (p0) (fun a10 w11 =>
ld (⟨a10.block, a10.off + 3, none⟩) (fun v12 w13 =>
asBoo (v12) (fun b14 w15 =>
br (b14) (fun w16 =>
K (Value.int .i64 (10)) (w16)) (fun w17 =>
ld (⟨k6, 0, none⟩) (fun v18 w19 =>
asStr (v18) (fun s20 w21 =>
ld (⟨k6, 1, none⟩) (fun v22 w23 =>
asI .i64 (v22) (fun n24 w25 =>
ld (⟨k6, 2, none⟩) (fun v26 w27 =>
asSl (v26) (fun p28 k29 k30 w31 =>
gocall Tryz.prog (269) [(Value.agg #[(Value.string (s20)), (Value.int .i64 (n24)), (.slice p28 (k29) (k30))])] (fun v32 w33 =>
asT (2) (v32) (fun f34 w35 =>
asStr (f34 0) (fun s36 w37 =>
asI .i64 (f34 1) (fun n38 w39 =>
br (n38 != 0) (fun w40 =>
K (Value.int .i64 (n38)) (w40)) (fun w41 =>
nn (p0) (fun a42 w43 =>
ld (⟨a42.block, a42.off + 1, none⟩) (fun v44 w45 =>
asSl (v44) (fun p46 k47 k48 w49 =>
nn (p0) (fun a50 w51 =>
ld (a50) (fun v52 w53 =>
asI .i64 (v52) (fun n54 w55 =>
br (decide ((↑k47 : Int) ≥ n54)) (fun w56 =>
K (Value.int .i64 (5)) (w56)) (fun w57 =>
nn (p0) (fun a58 w59 =>
ld (⟨a58.block, a58.off + 1, none⟩) (fun v60 w61 =>
asSl (v60) (fun p62 k63 k64 w65 =>
nw (Obj.cells #[(Value.string (s36))] 9 (0, 0)) (fun k66 w67 =>
bapp (Md.full) Tryz.prog (#[62, 62]) (62) (.slice p62 (k63) (k64)) (.slice (some ⟨k66, 0, none⟩) (1) (1)) (fun v68 w69 =>
asSl (v68) (fun p70 k71 k72 w73 =>
nn (p0) (fun a74 w75 =>
st (⟨a74.block, a74.off + 1, none⟩) (.slice p70 (k71) (k72)) (fun w76 =>
K (Value.int .i64 (0)) (w76)) (w75)) (w73)) (w69)) (w67)) (w65)) (w61)) (w59)) (w57)) (w55)) (w53)) (w51)) (w49)) (w45)) (w43)) (w41.drew)) (w39)) (w37)) (w35)) (w33)) (w31)) (w27)) (w25)) (w23)) (w21)) (w19)) (w17)) (w15)) (w13)) (w11)) (w9)) (w7)) (w)
theorem F211_eq (p0 : Option Addr) (s1 : ByteArray) (x2 : Int) (a3 : Option Addr) (n3 : Nat) (c3 : Nat) : sBody Tryz.prog [] Tryz.f211 [(Value.pointer p0), (Value.agg #[(Value.string s1), (Value.int .i64 x2), (.slice a3 n3 c3)])] = F211 p0 s1 x2 a3 n3 c3 := by kernel_rfl
theorem F211_go (p0 : Option Addr) (s1 : ByteArray) (x2 : Int) (a3 : Option Addr) (n3 : Nat) (c3 : Nat) {K : KV} {w : World} (h : F211 p0 s1 x2 a3 n3 c3 K w) : gocall Tryz.prog 211 [(Value.pointer p0), (Value.agg #[(Value.string s1), (Value.int .i64 x2), (.slice a3 n3 c3)])] K w :=
⟨by kernel_rfl, calls_of_sBody (T := []) mixed Tryz.func211 (by kernel_rfl) (by rw [F211_eq]; exact h)⟩
def F215 (s0 : ByteArray) (x1 : Int) (K : KV) (w : World) : Prop :=
strSl (s0) (0) (if (if IntKind.i64.wrap ((↑s0.size : Int) - 1) < x1 then IntKind.i64.wrap ((↑s0.size : Int) - 1) else x1) > 0 then if IntKind.i64.wrap ((↑s0.size : Int) - 1) < x1 then IntKind.i64.wrap ((↑s0.size : Int) - 1) else x1 else 0) (fun s2 w3 =>
K (Value.string (s2)) (w3)) (w)
theorem F215_eq (s0 : ByteArray) (x1 : Int) : sBody Tryz.prog [] Tryz.f215 [(Value.string s0), (Value.int .i64 x1)] = F215 s0 x1 := by kernel_rfl
theorem F215_go (s0 : ByteArray) (x1 : Int) {K : KV} {w : World} (h : F215 s0 x1 K w) : gocall Tryz.prog 215 [(Value.string s0), (Value.int .i64 x1)] K w :=
⟨by kernel_rfl, calls_of_sBody (T := []) mixed Tryz.func215 (by kernel_rfl) (by rw [F215_eq]; exact h)⟩
def F216 (y0 : Nat) (r1 : Addr) (K : KV) (w : World) : Prop :=
ld (r1) (fun v2 w3 =>
asPtr (v2) (fun p4 w5 =>
gocall Tryz.prog (217) [(Value.pointer p4)] (fun v6 w7 =>
asSl (v6) (fun p8 k9 k10 w11 =>
loop (X := (Int) × Unit) (0, ()) (fun x12 rec13 w14 =>
br (decide (x12.fst < (↑k9 : Int))) (fun w15 =>
slAt (p8) (k9) (x12.fst) (1) (fun a16 w17 =>
ld (a16) (fun v18 w19 =>
asStr (v18) (fun s20 w21 =>
gocall Tryz.prog (218) [(Value.string (s20))] (fun v22 w23 =>
asT (2) (v22) (fun f24 w25 =>
asN (3) (f24 0) (fun f26 w27 =>
asStr (f26 0) (fun s28 w29 =>
asI .i64 (f26 1) (fun n30 w31 =>
asSl (f26 2) (fun p32 k33 k34 w35 =>
asI .i64 (f24 1) (fun n36 w37 =>
nw (Obj.cells #[(Value.string ({ data := #[] })), (Value.int .i64 (0)), (.slice none (0) (0))] 139 (0, 0)) (fun k38 w39 =>
st (⟨k38, 0, none⟩) (Value.string (s28)) (fun w40 =>
st (⟨k38, 1, none⟩) (Value.int .i64 (n30)) (fun w41 =>
st (⟨k38, 2, none⟩) (.slice p32 (k33) (k34)) (fun w42 =>
br (n36 != 0) (fun w43 =>
K (Value.tuple #[]) (w43)) (fun w44 =>
ld (⟨k38, 0, none⟩) (fun v45 w46 =>
asStr (v45) (fun s47 w48 =>
ld (⟨k38, 1, none⟩) (fun v49 w50 =>
asI .i64 (v49) (fun n51 w52 =>
ld (⟨k38, 2, none⟩) (fun v53 w54 =>
asSl (v53) (fun p55 k56 k57 w58 =>
goyield Tryz.prog (y0) [(Value.agg #[(Value.string (s47)), (Value.int .i64 (n51)), (.slice p55 (k56) (k57))])] (fun v59 w60 =>
asBoo (v59) (fun b61 w62 =>
br (!b61) (fun w63 =>
K (Value.tuple #[]) (w63)) (fun w64 =>
rec13 (IntKind.i64.wrap (x12.fst + 1), ()) (w64)) (w62)) (w60)) (w58)) (w54)) (w52)) (w50)) (w48)) (w46)) (w44)) (w42)) (w41)) (w40)) (w39)) (w37)) (w35)) (w31)) (w29)) (w27)) (w25)) (w23)) (w21)) (w19)) (w17)) (w15)) (fun w65 =>
K (Value.tuple #[]) (w65)) (w14)) (w11)) (w7)) (w5)) (w3)) (w)
theorem F216_eq (y0 : Nat) (r1 : Addr) : sBody Tryz.prog [] Tryz.f216 [(yv y0), (Value.pointer (some r1))] = F216 y0 r1 := by kernel_rfl
theorem F216_go (y0 : Nat) (r1 : Addr) {K : KV} {w : World} (h : F216 y0 r1 K w) : gocall Tryz.prog 216 [(yv y0), (Value.pointer (some r1))] K w :=
⟨by kernel_rfl, calls_of_sBody (T := []) mixed Tryz.func216 (by kernel_rfl) (by rw [F216_eq]; exact h)⟩
def F217 (p0 : Option Addr) (K : KV) (w : World) : Prop :=
br (p0.isNone) (fun w1 =>
K (.slice none (0) (0)) (w1)) (fun w2 =>
nn (p0) (fun a3 w4 =>
ld (⟨a3.block, a3.off + 1, none⟩) (fun v5 w6 =>
asSl (v5) (fun p7 k8 k9 w10 =>
gocall Tryz.prog (275) [(.slice p7 (k8) (k9))] (fun v11 w12 =>
asSl (v11) (fun p13 k14 k15 w16 =>
K (.slice p13 (k14) (k15)) (w16)) (w12)) (w10)) (w6)) (w4)) (w2)) (w)
theorem F217_eq (p0 : Option Addr) : sBody Tryz.prog [] Tryz.f217 [(Value.pointer p0)] = F217 p0 := by kernel_rfl
theorem F217_go (p0 : Option Addr) {K : KV} {w : World} (h : F217 p0 K w) : gocall Tryz.prog 217 [(Value.pointer p0)] K w :=
⟨by kernel_rfl, calls_of_sBody (T := []) mixed Tryz.func217 (by kernel_rfl) (by rw [F217_eq]; exact h)⟩
def F218 (s0 : ByteArray) (K : KV) (w : World) : Prop :=
nw (Obj.cells #[(Value.string ({ data := #[] })), (Value.int .i64 (0)), (.slice none (0) (0))] 139 (0, 0)) (fun k1 w2 =>
br (decide ((↑s0.size : Int) > 80)) (fun w3 =>
st (⟨k1, 0, none⟩) (Value.string ({ data := #[] })) (fun w4 =>
st (⟨k1, 1, none⟩) (Value.int .i64 (0)) (fun w5 =>
st (⟨k1, 2, none⟩) (.slice none (0) (0)) (fun w6 =>
ld (⟨k1, 0, none⟩) (fun v7 w8 =>
asStr (v7) (fun s9 w10 =>
ld (⟨k1, 1, none⟩) (fun v11 w12 =>
asI .i64 (v11) (fun n13 w14 =>
ld (⟨k1, 2, none⟩) (fun v15 w16 =>
asSl (v15) (fun p17 k18 k19 w20 =>
K (Value.tuple #[(Value.agg #[(Value.string (s9)), (Value.int .i64 (n13)), (.slice p17 (k18) (k19))]), (Value.int .i64 (2))]) (w20)) (w16)) (w14)) (w12)) (w10)) (w8)) (w6)) (w5)) (w4)) (w3)) (fun w21 =>
gocall Tryz.prog (276) [(Value.string (s0))] (fun v22 w23 =>
asT (2) (v22) (fun f24 w25 =>
asStr (f24 0) (fun s26 w27 =>
asBoo (f24 1) (fun b28 w29 =>
br (!b28) (fun w30 =>
st (⟨k1, 0, none⟩) (Value.string ({ data := #[] })) (fun w31 =>
st (⟨k1, 1, none⟩) (Value.int .i64 (0)) (fun w32 =>
st (⟨k1, 2, none⟩) (.slice none (0) (0)) (fun w33 =>
ld (⟨k1, 0, none⟩) (fun v34 w35 =>
asStr (v34) (fun s36 w37 =>
ld (⟨k1, 1, none⟩) (fun v38 w39 =>
asI .i64 (v38) (fun n40 w41 =>
ld (⟨k1, 2, none⟩) (fun v42 w43 =>
asSl (v42) (fun p44 k45 k46 w47 =>
K (Value.tuple #[(Value.agg #[(Value.string (s36)), (Value.int .i64 (n40)), (.slice p44 (k45) (k46))]), (Value.int .i64 (3))]) (w47)) (w43)) (w41)) (w39)) (w37)) (w35)) (w33)) (w32)) (w31)) (w30)) (fun w48 =>
nw (Obj.cells #[(Value.string ({ data := #[] })), (Value.int .i64 (0)), (.slice none (0) (0))] 139 (0, 0)) (fun k49 w50 =>
nw (Obj.cells #[(Value.int .i64 (0))] 3 (0, 0)) (fun k51 w52 =>
st (⟨k51, 0, none⟩) (Value.int .i64 (0)) (fun w53 =>
gocall Tryz.prog (277) [(Value.string (s26)), (Value.string ({ data := #[32] }))] (fun v54 w55 =>
asFn (v54) (fun k56 x57 w58 =>
rfn Tryz.prog (fun k59 k60 f61 w62 =>
gocall Tryz.prog (k56) ((Value.func (Fn.yield k60) #[] #[]) :: x57.1) (fun v63 w64 =>
rfe (k60) (f61) (fun p65 w66 =>
rfj (fun w67 =>
ld (⟨k51, 0, none⟩) (fun v68 w69 =>
asI .i64 (v68) (fun n70 w71 =>
br (decide (n70 < 2)) (fun w72 =>
st (⟨k1, 0, none⟩) (Value.string ({ data := #[] })) (fun w73 =>
st (⟨k1, 1, none⟩) (Value.int .i64 (0)) (fun w74 =>
st (⟨k1, 2, none⟩) (.slice none (0) (0)) (fun w75 =>
dfr (k59) (fun w76 =>
ld (⟨k1, 0, none⟩) (fun v77 w78 =>
asStr (v77) (fun s79 w80 =>
ld (⟨k1, 1, none⟩) (fun v81 w82 =>
asI .i64 (v81) (fun n83 w84 =>
ld (⟨k1, 2, none⟩) (fun v85 w86 =>
asSl (v85) (fun p87 k88 k89 w90 =>
K (Value.tuple #[(Value.agg #[(Value.string (s79)), (Value.int .i64 (n83)), (.slice p87 (k88) (k89))]), (Value.int .i64 (2))]) (w90)) (w86)) (w84)) (w82)) (w80)) (w78)) (w76)) (w75)) (w74)) (w73)) (w72)) (fun w91 =>
ld (⟨k49, 0, none⟩) (fun v92 w93 =>
asStr (v92) (fun s94 w95 =>
ld (⟨k49, 1, none⟩) (fun v96 w97 =>
asI .i64 (v96) (fun n98 w99 =>
ld (⟨k49, 2, none⟩) (fun v100 w101 =>
asSl (v100) (fun p102 k103 k104 w105 =>
gocall Tryz.prog (280) [(Value.agg #[(Value.string (s94)), (Value.int .i64 (n98)), (.slice p102 (k103) (k104))])] (fun v106 w107 =>
asBoo (v106) (fun b108 w109 =>
br (!b108) (fun w110 =>
st (⟨k1, 0, none⟩) (Value.string ({ data := #[] })) (fun w111 =>
st (⟨k1, 1, none⟩) (Value.int .i64 (0)) (fun w112 =>
st (⟨k1, 2, none⟩) (.slice none (0) (0)) (fun w113 =>
dfr (k59) (fun w114 =>
ld (⟨k1, 0, none⟩) (fun v115 w116 =>
asStr (v115) (fun s117 w118 =>
ld (⟨k1, 1, none⟩) (fun v119 w120 =>
asI .i64 (v119) (fun n121 w122 =>
ld (⟨k1, 2, none⟩) (fun v123 w124 =>
asSl (v123) (fun p125 k126 k127 w128 =>
K (Value.tuple #[(Value.agg #[(Value.string (s117)), (Value.int .i64 (n121)), (.slice p125 (k126) (k127))]), (Value.int .i64 (2))]) (w128)) (w124)) (w122)) (w120)) (w118)) (w116)) (w114)) (w113)) (w112)) (w111)) (w110)) (fun w129 =>
ld (⟨k49, 0, none⟩) (fun v130 w131 =>
asStr (v130) (fun s132 w133 =>
ld (⟨k49, 1, none⟩) (fun v134 w135 =>
asI .i64 (v134) (fun n136 w137 =>
ld (⟨k49, 2, none⟩) (fun v138 w139 =>
asSl (v138) (fun p140 k141 k142 w143 =>
st (⟨k1, 0, none⟩) (Value.string (s132)) (fun w144 =>
st (⟨k1, 1, none⟩) (Value.int .i64 (n136)) (fun w145 =>
st (⟨k1, 2, none⟩) (.slice p140 (k141) (k142)) (fun w146 =>
dfr (k59) (fun w147 =>
ld (⟨k1, 0, none⟩) (fun v148 w149 =>
asStr (v148) (fun s150 w151 =>
ld (⟨k1, 1, none⟩) (fun v152 w153 =>
asI .i64 (v152) (fun n154 w155 =>
ld (⟨k1, 2, none⟩) (fun v156 w157 =>
asSl (v156) (fun p158 k159 k160 w161 =>
K (Value.tuple #[(Value.agg #[(Value.string (s150)), (Value.int .i64 (n154)), (.slice p158 (k159) (k160))]), (Value.int .i64 (0))]) (w161)) (w157)) (w155)) (w153)) (w151)) (w149)) (w147)) (w146)) (w145)) (w144)) (w143)) (w139)) (w137)) (w135)) (w133)) (w131)) (w129)) (w109)) (w107)) (w105)) (w101)) (w99)) (w97)) (w95)) (w93)) (w91)) (w71)) (w69)) (w67)) (fun w162 =>
dfr (k59) (fun w163 =>
ld (⟨k1, 0, none⟩) (fun v164 w165 =>
asStr (v164) (fun s166 w167 =>
ld (⟨k1, 1, none⟩) (fun v168 w169 =>
asI .i64 (v168) (fun n170 w171 =>
ld (⟨k1, 2, none⟩) (fun v172 w173 =>
asSl (v172) (fun p174 k175 k176 w177 =>
K (Value.tuple #[(Value.agg #[(Value.string (s166)), (Value.int .i64 (n170)), (.slice p174 (k175) (k176))]), (Value.int .i64 (0))]) (w177)) (w173)) (w171)) (w169)) (w167)) (w165)) (w163)) (w162)) [(0, (fun w178 =>
ld (⟨k51, 0, none⟩) (fun v179 w180 =>
asI .i64 (v179) (fun n181 w182 =>
br (decide (n181 < 2)) (fun w183 =>
st (⟨k1, 0, none⟩) (Value.string ({ data := #[] })) (fun w184 =>
st (⟨k1, 1, none⟩) (Value.int .i64 (0)) (fun w185 =>
st (⟨k1, 2, none⟩) (.slice none (0) (0)) (fun w186 =>
dfr (k59) (fun w187 =>
ld (⟨k1, 0, none⟩) (fun v188 w189 =>
asStr (v188) (fun s190 w191 =>
ld (⟨k1, 1, none⟩) (fun v192 w193 =>
asI .i64 (v192) (fun n194 w195 =>
ld (⟨k1, 2, none⟩) (fun v196 w197 =>
asSl (v196) (fun p198 k199 k200 w201 =>
K (Value.tuple #[(Value.agg #[(Value.string (s190)), (Value.int .i64 (n194)), (.slice p198 (k199) (k200))]), (Value.int .i64 (2))]) (w201)) (w197)) (w195)) (w193)) (w191)) (w189)) (w187)) (w186)) (w185)) (w184)) (w183)) (fun w202 =>
ld (⟨k49, 0, none⟩) (fun v203 w204 =>
asStr (v203) (fun s205 w206 =>
ld (⟨k49, 1, none⟩) (fun v207 w208 =>
asI .i64 (v207) (fun n209 w210 =>
ld (⟨k49, 2, none⟩) (fun v211 w212 =>
asSl (v211) (fun p213 k214 k215 w216 =>
gocall Tryz.prog (280) [(Value.agg #[(Value.string (s205)), (Value.int .i64 (n209)), (.slice p213 (k214) (k215))])] (fun v217 w218 =>
asBoo (v217) (fun b219 w220 =>
br (!b219) (fun w221 =>
st (⟨k1, 0, none⟩) (Value.string ({ data := #[] })) (fun w222 =>
st (⟨k1, 1, none⟩) (Value.int .i64 (0)) (fun w223 =>
st (⟨k1, 2, none⟩) (.slice none (0) (0)) (fun w224 =>
dfr (k59) (fun w225 =>
ld (⟨k1, 0, none⟩) (fun v226 w227 =>
asStr (v226) (fun s228 w229 =>
ld (⟨k1, 1, none⟩) (fun v230 w231 =>
asI .i64 (v230) (fun n232 w233 =>
ld (⟨k1, 2, none⟩) (fun v234 w235 =>
asSl (v234) (fun p236 k237 k238 w239 =>
K (Value.tuple #[(Value.agg #[(Value.string (s228)), (Value.int .i64 (n232)), (.slice p236 (k237) (k238))]), (Value.int .i64 (2))]) (w239)) (w235)) (w233)) (w231)) (w229)) (w227)) (w225)) (w224)) (w223)) (w222)) (w221)) (fun w240 =>
ld (⟨k49, 0, none⟩) (fun v241 w242 =>
asStr (v241) (fun s243 w244 =>
ld (⟨k49, 1, none⟩) (fun v245 w246 =>
asI .i64 (v245) (fun n247 w248 =>
ld (⟨k49, 2, none⟩) (fun v249 w250 =>
asSl (v249) (fun p251 k252 k253 w254 =>
st (⟨k1, 0, none⟩) (Value.string (s243)) (fun w255 =>
st (⟨k1, 1, none⟩) (Value.int .i64 (n247)) (fun w256 =>
st (⟨k1, 2, none⟩) (.slice p251 (k252) (k253)) (fun w257 =>
dfr (k59) (fun w258 =>
ld (⟨k1, 0, none⟩) (fun v259 w260 =>
asStr (v259) (fun s261 w262 =>
ld (⟨k1, 1, none⟩) (fun v263 w264 =>
asI .i64 (v263) (fun n265 w266 =>
ld (⟨k1, 2, none⟩) (fun v267 w268 =>
asSl (v267) (fun p269 k270 k271 w272 =>
K (Value.tuple #[(Value.agg #[(Value.string (s261)), (Value.int .i64 (n265)), (.slice p269 (k270) (k271))]), (Value.int .i64 (0))]) (w272)) (w268)) (w266)) (w264)) (w262)) (w260)) (w258)) (w257)) (w256)) (w255)) (w254)) (w250)) (w248)) (w246)) (w244)) (w242)) (w240)) (w220)) (w218)) (w216)) (w212)) (w210)) (w208)) (w206)) (w204)) (w202)) (w182)) (w180)) (w178)))] (p65) (w66)) (w64)) (w62)) (fun k273 f274 l275 f276 w277 =>
asT (1) (Value.tuple l275.toArray) (fun f278 w279 =>
asStr (f278 0) (fun s280 w281 =>
rfb (k273) (f274) (fun w282 =>
ld (⟨k51, 0, none⟩) (fun v283 w284 =>
asI .i64 (v283) (fun n285 w286 =>
br (n285 == 0) (fun w287 =>
st (⟨k49, 0, none⟩) (Value.string (s280)) (fun w288 =>
ld (⟨k51, 0, none⟩) (fun v289 w290 =>
asI .i64 (v289) (fun n291 w292 =>
st (⟨k51, 0, none⟩) (Value.int .i64 (IntKind.i64.wrap (n291 + 1))) (fun w293 =>
rfy (k273) (f274) (fun v294 w295 =>
f276 (v294) (w295)) (w293)) (w292)) (w290)) (w288)) (w287)) (fun w296 =>
gocall Tryz.prog (278) [(Value.string (s280))] (fun v297 w298 =>
asT (2) (v297) (fun f299 w300 =>
asI .i64 (f299 0) (fun n301 w302 =>
isnil (f299 1) (fun b303 w304 =>
br (!b303) (fun w305 =>
st (⟨k51, 0, none⟩) (Value.int .i64 (0)) (fun w306 =>
rfx (k273) (f274) (Code.exit 0) (fun v307 w308 =>
f276 (v307) (w308)) (w306)) (w305)) (fun w309 =>
gocall Tryz.prog (279) [(Value.int .i64 (n301))] (fun v310 w311 =>
asStr (v310) (fun s312 w313 =>
br (!strEq s312 s280) (fun w314 =>
st (⟨k51, 0, none⟩) (Value.int .i64 (0)) (fun w315 =>
rfx (k273) (f274) (Code.exit 0) (fun v316 w317 =>
f276 (v316) (w317)) (w315)) (w314)) (fun w318 =>
ld (⟨k51, 0, none⟩) (fun v319 w320 =>
asI .i64 (v319) (fun n321 w322 =>
br (n321 == 1) (fun w323 =>
st (⟨k49, 1, none⟩) (Value.int .i64 (n301)) (fun w324 =>
ld (⟨k51, 0, none⟩) (fun v325 w326 =>
asI .i64 (v325) (fun n327 w328 =>
st (⟨k51, 0, none⟩) (Value.int .i64 (IntKind.i64.wrap (n327 + 1))) (fun w329 =>
rfy (k273) (f274) (fun v330 w331 =>
f276 (v330) (w331)) (w329)) (w328)) (w326)) (w324)) (w323)) (fun w332 =>
ld (⟨k49, 2, none⟩) (fun v333 w334 =>
asSl (v333) (fun p335 k336 k337 w338 =>
nw (Obj.cells #[(Value.int .i64 (n301))] 3 (0, 0)) (fun k339 w340 =>
bapp (Md.full) Tryz.prog (#[56, 56]) (56) (.slice p335 (k336) (k337)) (.slice (some ⟨k339, 0, none⟩) (1) (1)) (fun v341 w342 =>
asSl (v341) (fun p343 k344 k345 w346 =>
st (⟨k49, 2, none⟩) (.slice p343 (k344) (k345)) (fun w347 =>
ld (⟨k51, 0, none⟩) (fun v348 w349 =>
asI .i64 (v348) (fun n350 w351 =>
st (⟨k51, 0, none⟩) (Value.int .i64 (IntKind.i64.wrap (n350 + 1))) (fun w352 =>
rfy (k273) (f274) (fun v353 w354 =>
f276 (v353) (w354)) (w352)) (w351)) (w349)) (w347)) (w346)) (w342)) (w340)) (w338)) (w334)) (w332)) (w322)) (w320)) (w318)) (w313)) (w311)) (w309)) (w304)) (w302)) (w300)) (w298)) (w296)) (w286)) (w284)) (w282)) (w281)) (w279)) (w277)) (w58)) (w55)) (w53)) (w52)) (w50)) (w48)) (w29)) (w27)) (w25)) (w23)) (w21)) (w2)) (w)
theorem F218_eq (s0 : ByteArray) : sBody Tryz.prog [(1000025, [9])] Tryz.f218 [(Value.string s0)] = F218 s0 := by kernel_rfl
theorem F218_go (s0 : ByteArray) {K : KV} {w : World} (h : F218 s0 K w) : gocall Tryz.prog 218 [(Value.string s0)] K w :=
⟨by kernel_rfl, calls_of_sBody (T := [(1000025, [9])]) mixed Tryz.func218 (by kernel_rfl) (by rw [F218_eq]; exact h)⟩
def F219 (p0 : Option Addr) (x1 : Int) (x2 : Int) (x3 : Int) (K : KV) (w : World) : Prop :=
br (p0.isNone) (fun w4 =>
K (Value.int .i64 (1)) (w4)) (fun w5 =>
br (decide (x1 < 1)) (fun w6 =>
K (Value.int .i64 (1)) (w6)) (fun w7 =>
br (decide (x1 > 999)) (fun w8 =>
K (Value.int .i64 (1)) (w8)) (fun w9 =>
br (decide (x2 < 0)) (fun w10 =>
K (Value.int .i64 (1)) (w10)) (fun w11 =>
br (decide (x2 ≥ 8)) (fun w12 =>
K (Value.int .i64 (1)) (w12)) (fun w13 =>
br (x3 == 0) (fun w14 =>
K (Value.int .i64 (1)) (w14)) (fun w15 =>
gocall Tryz.prog (265) [(Value.int .i64 (x3))] (fun v16 w17 =>
asBoo (v16) (fun b18 w19 =>
br (!b18) (fun w20 =>
K (Value.int .i64 (1)) (w20)) (fun w21 =>
gocall Tryz.prog (281) [(Value.pointer p0), (Value.int .i64 (x1))] (fun v22 w23 =>
asI .i64 (v22) (fun n24 w25 =>
br (decide (n24 ≥ 0)) (fun w26 =>
K (Value.int .i64 (8)) (w26)) (fun w27 =>
nn (p0) (fun a28 w29 =>
ld (a28) (fun v30 w31 =>
asSl (v30) (fun p32 k33 k34 w35 =>
nw (Obj.cells #[(Value.int .i64 (x1)), (Value.int .i64 (x2)), (Value.int .i64 (x3))] 174 (0, 0)) (fun k36 w37 =>
bapp (Md.full) Tryz.prog (#[170, 170]) (170) (.slice p32 (k33) (k34)) (.slice (some ⟨k36, 0, none⟩) (1) (1)) (fun v38 w39 =>
asSl (v38) (fun p40 k41 k42 w43 =>
nn (p0) (fun a44 w45 =>
st (a44) (.slice p40 (k41) (k42)) (fun w46 =>
K (Value.int .i64 (0)) (w46)) (w45)) (w43)) (w39)) (w37)) (w35)) (w31)) (w29)) (w27)) (w25)) (w23)) (w21)) (w19)) (w17)) (w15)) (w13)) (w11)) (w9)) (w7)) (w5)) (w)
theorem F219_eq (p0 : Option Addr) (x1 : Int) (x2 : Int) (x3 : Int) : sBody Tryz.prog [] Tryz.f219 [(Value.pointer p0), (Value.int .i64 x1), (Value.int .i64 x2), (Value.int .i64 x3)] = F219 p0 x1 x2 x3 := by kernel_rfl
theorem F219_go (p0 : Option Addr) (x1 : Int) (x2 : Int) (x3 : Int) {K : KV} {w : World} (h : F219 p0 x1 x2 x3 K w) : gocall Tryz.prog 219 [(Value.pointer p0), (Value.int .i64 x1), (Value.int .i64 x2), (Value.int .i64 x3)] K w :=
⟨by kernel_rfl, calls_of_sBody (T := []) mixed Tryz.func219 (by kernel_rfl) (by rw [F219_eq]; exact h)⟩
def F223 (p0 : Option Addr) (x1 : Int) (K : KV) (w : World) : Prop :=
br (p0.isNone) (fun w2 =>
K (Value.tuple #[(Value.int .i64 (0)), (Value.int .i64 (0)), (.bool (false))]) (w2)) (fun w3 =>
gocall Tryz.prog (281) [(Value.pointer p0), (Value.int .i64 (x1))] (fun v4 w5 =>
asI .i64 (v4) (fun n6 w7 =>
br (decide (n6 < 0)) (fun w8 =>
K (Value.tuple #[(Value.int .i64 (0)), (Value.int .i64 (0)), (.bool (false))]) (w8)) (fun w9 =>
nn (p0) (fun a10 w11 =>
ld (a10) (fun v12 w13 =>
asSl (v12) (fun p14 k15 k16 w17 =>
slAt (p14) (k15) (n6) (3) (fun a18 w19 =>
ld (⟨a18.block, a18.off + 1, none⟩) (fun v20 w21 =>
asI .i64 (v20) (fun n22 w23 =>
nn (p0) (fun a24 w25 =>
ld (a24) (fun v26 w27 =>
asSl (v26) (fun p28 k29 k30 w31 =>
slAt (p28) (k29) (n6) (3) (fun a32 w33 =>
ld (⟨a32.block, a32.off + 2, none⟩) (fun v34 w35 =>
asI .i64 (v34) (fun n36 w37 =>
K (Value.tuple #[(Value.int .i64 (n22)), (Value.int .i64 (n36)), (.bool (true))]) (w37)) (w35)) (w33)) (w31)) (w27)) (w25)) (w23)) (w21)) (w19)) (w17)) (w13)) (w11)) (w9.drew)) (w7)) (w5)) (w3)) (w)
theorem F223_eq (p0 : Option Addr) (x1 : Int) : sBody Tryz.prog [] Tryz.f223 [(Value.pointer p0), (Value.int .i64 x1)] = F223 p0 x1 := by kernel_rfl
theorem F223_go (p0 : Option Addr) (x1 : Int) {K : KV} {w : World} (h : F223 p0 x1 K w) : gocall Tryz.prog 223 [(Value.pointer p0), (Value.int .i64 x1)] K w :=
⟨by kernel_rfl, calls_of_sBody (T := []) mixed Tryz.func223 (by kernel_rfl) (by rw [F223_eq]; exact h)⟩
def F265 (x0 : Int) (K : KV) (w : World) : Prop :=
br (decide (x0 ≥ 0)) (fun w1 =>
K (.bool (decide (x0 ≤ 1000000000))) (w1)) (fun w2 =>
K (.bool (false)) (w2)) (w)
theorem F265_eq (x0 : Int) : sBody Tryz.prog [] Tryz.f265 [(Value.int .i64 x0)] = F265 x0 := by kernel_rfl
theorem F265_go (x0 : Int) {K : KV} {w : World} (h : F265 x0 K w) : gocall Tryz.prog 265 [(Value.int .i64 x0)] K w :=
⟨by kernel_rfl, calls_of_sBody (T := []) mixed Tryz.func265 (by kernel_rfl) (by rw [F265_eq]; exact h)⟩
def F266 (a0 : Option Addr) (n0 : Nat) (c0 : Nat) (g1 : FuncId) (cap1 : Array Value) (K : KV) (w : World) : Prop :=
loop (X := (Int) × (Int) × Unit) (0, (0, ())) (fun x5 rec6 w7 =>
br (decide (x5.fst < (↑n0 : Int))) (fun w8 =>
slAt (a0) (n0) (x5.fst) (2) (fun a9 w10 =>
ld (a9) (fun v11 w12 =>
asI .i64 (v11) (fun n13 w14 =>
ld (⟨a9.block, a9.off + 1, none⟩) (fun v15 w16 =>
asI .i64 (v15) (fun n17 w18 =>
gocall Tryz.prog (g1) ((Value.agg #[(Value.int .i64 (n13)), (Value.int .i64 (n17))]) :: cap1.1) (fun v19 w20 =>
asBoo (v19) (fun b21 w22 =>
br (b21) (fun w23 =>
K (Value.int .i64 (x5.fst)) (w23)) (fun w24 =>
rec6 (IntKind.i64.wrap (x5.fst + 1), (x5.snd.fst, ())) (w24)) (w22)) (w20)) (w18)) (w16)) (w14)) (w12)) (w10)) (w8)) (fun w25 =>
K (Value.int .i64 (-1)) (w25)) (w7)) (w)
theorem F266_eq (a0 : Option Addr) (n0 : Nat) (c0 : Nat) (g1 : FuncId) (cap1 : Array Value) : sBody Tryz.prog [] Tryz.f266 [(.slice a0 n0 c0), (Value.func (.func g1) #[] cap1)] = F266 a0 n0 c0 g1 cap1 := by kernel_rfl
theorem F266_go (a0 : Option Addr) (n0 : Nat) (c0 : Nat) (g1 : FuncId) (cap1 : Array Value) {K : KV} {w : World} (h : F266 a0 n0 c0 g1 cap1 K w) : gocall Tryz.prog 266 [(.slice a0 n0 c0), (Value.func (.func g1) #[] cap1)] K w :=
⟨by kernel_rfl, calls_of_sBody (T := []) mixed Tryz.func266 (by kernel_rfl) (by rw [F266_eq]; exact h)⟩
def F267 (x0 : Int) (x1 : Int) (r2 : Addr) (K : KV) (w : World) : Prop :=
nw (Obj.cells #[(Value.int .i64 (x0)), (Value.int .i64 (x1))] 81 (0, 0)) (fun k3 w4 =>
ld (⟨k3, 0, none⟩) (fun v5 w6 =>
asI .i64 (v5) (fun n7 w8 =>
ld (r2) (fun v9 w10 =>
asI .i64 (v9) (fun n11 w12 =>
K (.bool (n7 == n11)) (w12)) (w10)) (w8)) (w6)) (w4)) (w)
theorem F267_eq (x0 : Int) (x1 : Int) (r2 : Addr) : sBody Tryz.prog [] Tryz.f267 [(Value.agg #[(Value.int .i64 x0), (Value.int .i64 x1)]), (Value.pointer (some r2))] = F267 x0 x1 r2 := by kernel_rfl
theorem F267_go (x0 : Int) (x1 : Int) (r2 : Addr) {K : KV} {w : World} (h : F267 x0 x1 r2 K w) : gocall Tryz.prog 267 [(Value.agg #[(Value.int .i64 x0), (Value.int .i64 x1)]), (Value.pointer (some r2))] K w :=
⟨by kernel_rfl, calls_of_sBody (T := []) mixed Tryz.func267 (by kernel_rfl) (by rw [F267_eq]; exact h)⟩
def F269 (s0 : ByteArray) (x1 : Int) (a2 : Option Addr) (n2 : Nat) (c2 : Nat) (K : KV) (w : World) : Prop :=
nw (Obj.cells #[(Value.string (s0)), (Value.int .i64 (x1)), (.slice a2 (n2) (c2))] 139 (0, 0)) (fun k5 w6 =>
ld (⟨k5, 0, none⟩) (fun v7 w8 =>
asStr (v7) (fun s9 w10 =>
ld (⟨k5, 1, none⟩) (fun v11 w12 =>
asI .i64 (v11) (fun n13 w14 =>
ld (⟨k5, 2, none⟩) (fun v15 w16 =>
asSl (v15) (fun p17 k18 k19 w20 =>
gocall Tryz.prog (280) [(Value.agg #[(Value.string (s9)), (Value.int .i64 (n13)), (.slice p17 (k18) (k19))])] (fun v21 w22 =>
asBoo (v21) (fun b23 w24 =>
br (!b23) (fun w25 =>
K (Value.tuple #[(Value.string ({ data := #[] })), (Value.int .i64 (1))]) (w25)) (fun w26 =>
ld (⟨k5, 0, none⟩) (fun v27 w28 =>
asStr (v27) (fun s29 w30 =>
ld (⟨k5, 1, none⟩) (fun v31 w32 =>
asI .i64 (v31) (fun n33 w34 =>
nw (Obj.cells #[(Value.int .i64 (n33))] 3 (0, 0)) (fun k35 w36 =>
ld (⟨k5, 2, none⟩) (fun v37 w38 =>
asSl (v37) (fun p39 k40 k41 w42 =>
bapp (Md.full) Tryz.prog (#[56, 56]) (56) (.slice (some ⟨k35, 0, none⟩) (1) (1)) (.slice p39 (k40) (k41)) (fun v43 w44 =>
asSl (v43) (fun p45 k46 k47 w48 =>
loop (X := (Int) × (ByteArray) × Unit) (0, (s29, ())) (fun x49 rec50 w51 =>
br (decide (x49.fst < (↑k46 : Int))) (fun w52 =>
slAt (p45) (k46) (x49.fst) (1) (fun a53 w54 =>
ld (a53) (fun v55 w56 =>
asI .i64 (v55) (fun n57 w58 =>
gocall Tryz.prog (279) [(Value.int .i64 (n57))] (fun v59 w60 =>
asStr (v59) (fun s61 w62 =>
strCat ({ data := #[32] }) (s61) (fun s63 w64 =>
strCat (x49.snd.fst) (s63) (fun s65 w66 =>
rec50 (IntKind.i64.wrap (x49.fst + 1), (s65, ())) (w66)) (w64)) (w62)) (w60)) (w58)) (w56)) (w54)) (w52)) (fun w67 =>
gocall Tryz.prog (298) [(Value.string (x49.snd.fst))] (fun v68 w69 =>
asStr (v68) (fun s70 w71 =>
K (Value.tuple #[(Value.string (s70)), (Value.int .i64 (0))]) (w71)) (w69)) (w67)) (w51)) (w48)) (w44)) (w42)) (w38)) (w36)) (w34)) (w32)) (w30)) (w28)) (w26)) (w24)) (w22)) (w20)) (w16)) (w14)) (w12)) (w10)) (w8)) (w6)) (w)
theorem F269_eq (s0 : ByteArray) (x1 : Int) (a2 : Option Addr) (n2 : Nat) (c2 : Nat) : sBody Tryz.prog [] Tryz.f269 [(Value.agg #[(Value.string s0), (Value.int .i64 x1), (.slice a2 n2 c2)])] = F269 s0 x1 a2 n2 c2 := by kernel_rfl
theorem F269_go (s0 : ByteArray) (x1 : Int) (a2 : Option Addr) (n2 : Nat) (c2 : Nat) {K : KV} {w : World} (h : F269 s0 x1 a2 n2 c2 K w) : gocall Tryz.prog 269 [(Value.agg #[(Value.string s0), (Value.int .i64 x1), (.slice a2 n2 c2)])] K w :=
⟨by kernel_rfl, calls_of_sBody (T := []) mixed Tryz.func269 (by kernel_rfl) (by rw [F269_eq]; exact h)⟩
def F275 (a0 : Option Addr) (n0 : Nat) (c0 : Nat) (K : KV) (w : World) : Prop :=
br (a0.isNone) (fun w3 =>
K (.slice none (0) (0)) (w3)) (fun w4 =>
nw (Obj.cells #[] 9 (0, 0)) (fun k5 w6 =>
bapp (Md.full) Tryz.prog (#[62, 62]) (62) (.slice (some ⟨k5, 0, none⟩) (0) (0)) (.slice a0 (n0) (c0)) (fun v7 w8 =>
asSl (v7) (fun p9 k10 k11 w12 =>
K (.slice p9 (k10) (k11)) (w12)) (w8)) (w6)) (w4)) (w)
theorem F275_eq (a0 : Option Addr) (n0 : Nat) (c0 : Nat) : sBody Tryz.prog [] Tryz.f275 [(.slice a0 n0 c0)] = F275 a0 n0 c0 := by kernel_rfl
theorem F275_go (a0 : Option Addr) (n0 : Nat) (c0 : Nat) {K : KV} {w : World} (h : F275 a0 n0 c0 K w) : gocall Tryz.prog 275 [(.slice a0 n0 c0)] K w :=
⟨by kernel_rfl, calls_of_sBody (T := []) mixed Tryz.func275 (by kernel_rfl) (by rw [F275_eq]; exact h)⟩
def F276 (s0 : ByteArray) (K : KV) (w : World) : Prop :=
br (decide (IntKind.i64.wrap ((↑s0.size : Int) - 3) < 0)) (fun w1 =>
K (Value.tuple #[(Value.string ({ data := #[] })), (.bool (false))]) (w1)) (fun w2 =>
strSl (s0) (0) (IntKind.i64.wrap ((↑s0.size : Int) - 3)) (fun s3 w4 =>
gocall Tryz.prog (298) [(Value.string (s3))] (fun v5 w6 =>
asStr (v5) (fun s7 w8 =>
br (!strEq s7 s0) (fun w9 =>
K (Value.tuple #[(Value.string ({ data := #[] })), (.bool (false))]) (w9)) (fun w10 =>
strSl (s0) (0) (IntKind.i64.wrap ((↑s0.size : Int) - 3)) (fun s11 w12 =>
K (Value.tuple #[(Value.string (s11)), (.bool (true))]) (w12)) (w10)) (w8)) (w6)) (w4)) (w2)) (w)
theorem F276_eq (s0 : ByteArray) : sBody Tryz.prog [] Tryz.f276 [(Value.string s0)] = F276 s0 := by kernel_rfl
theorem F276_go (s0 : ByteArray) {K : KV} {w : World} (h : F276 s0 K w) : gocall Tryz.prog 276 [(Value.string s0)] K w :=
⟨by kernel_rfl, calls_of_sBody (T := []) mixed Tryz.func276 (by kernel_rfl) (by rw [F276_eq]; exact h)⟩
def F277 (s0 : ByteArray) (s1 : ByteArray) (K : KV) (w : World) : Prop :=
gocall Tryz.prog (300) [(Value.string (s0)), (Value.string (s1)), (Value.int .i64 (0))] (fun v2 w3 =>
K (v2) (w3)) (w)
theorem F277_eq (s0 : ByteArray) (s1 : ByteArray) : sBody Tryz.prog [] Tryz.f277 [(Value.string s0), (Value.string s1)] = F277 s0 s1 := by kernel_rfl
theorem F277_go (s0 : ByteArray) (s1 : ByteArray) {K : KV} {w : World} (h : F277 s0 s1 K w) : gocall Tryz.prog 277 [(Value.string s0), (Value.string s1)] K w :=
⟨by kernel_rfl, calls_of_sBody (T := []) mixed Tryz.func277 (by kernel_rfl) (by rw [F277_eq]; exact h)⟩
def F280 (s0 : ByteArray) (x1 : Int) (a2 : Option Addr) (n2 : Nat) (c2 : Nat) (K : KV) (w : World) : Prop :=
nw (Obj.cells #[(Value.string (s0)), (Value.int .i64 (x1)), (.slice a2 (n2) (c2))] 139 (0, 0)) (fun k5 w6 =>
ld (⟨k5, 0, none⟩) (fun v7 w8 =>
asStr (v7) (fun s9 w10 =>
gocall Tryz.prog (304) [(Value.string (s9))] (fun v11 w12 =>
asBoo (v11) (fun b13 w14 =>
br (b13) (fun w15 =>
ld (⟨k5, 1, none⟩) (fun v16 w17 =>
asI .i64 (v16) (fun n18 w19 =>
br (decide (n18 ≥ 0)) (fun w20 =>
ld (⟨k5, 1, none⟩) (fun v21 w22 =>
asI .i64 (v21) (fun n23 w24 =>
br (decide (n23 ≤ 999)) (fun w25 =>
ld (⟨k5, 2, none⟩) (fun v26 w27 =>
asSl (v26) (fun p28 k29 k30 w31 =>
gocall Tryz.prog (305) [(.slice p28 (k29) (k30))] (fun v32 w33 =>
asBoo (v32) (fun b34 w35 =>
K (.bool (b34)) (w35)) (w33)) (w31)) (w27)) (w25)) (fun w36 =>
K (.bool (false)) (w36)) (w24)) (w22)) (w20)) (fun w37 =>
K (.bool (false)) (w37)) (w19)) (w17)) (w15)) (fun w38 =>
K (.bool (false)) (w38)) (w14)) (w12)) (w10)) (w8)) (w6)) (w)
theorem F280_eq (s0 : ByteArray) (x1 : Int) (a2 : Option Addr) (n2 : Nat) (c2 : Nat) : sBody Tryz.prog [] Tryz.f280 [(Value.agg #[(Value.string s0), (Value.int .i64 x1), (.slice a2 n2 c2)])] = F280 s0 x1 a2 n2 c2 := by kernel_rfl
theorem F280_go (s0 : ByteArray) (x1 : Int) (a2 : Option Addr) (n2 : Nat) (c2 : Nat) {K : KV} {w : World} (h : F280 s0 x1 a2 n2 c2 K w) : gocall Tryz.prog 280 [(Value.agg #[(Value.string s0), (Value.int .i64 x1), (.slice a2 n2 c2)])] K w :=
⟨by kernel_rfl, calls_of_sBody (T := []) mixed Tryz.func280 (by kernel_rfl) (by rw [F280_eq]; exact h)⟩
def F281 (p0 : Option Addr) (x1 : Int) (K : KV) (w : World) : Prop :=
nw (Obj.cells #[(Value.int .i64 (x1))] 3 (0, 0)) (fun k2 w3 =>
nn (p0) (fun a4 w5 =>
ld (a4) (fun v6 w7 =>
asSl (v6) (fun p8 k9 k10 w11 =>
gocall Tryz.prog (306) [(.slice p8 (k9) (k10)), (Value.func (Fn.func 307) #[] #[(Value.pointer (some ⟨k2, 0, none⟩))])] (fun v12 w13 =>
asI .i64 (v12) (fun n14 w15 =>
K (Value.int .i64 (n14)) (w15)) (w13)) (w11)) (w7)) (w5)) (w3)) (w)
theorem F281_eq (p0 : Option Addr) (x1 : Int) : sBody Tryz.prog [] Tryz.f281 [(Value.pointer p0), (Value.int .i64 x1)] = F281 p0 x1 := by kernel_rfl
theorem F281_go (p0 : Option Addr) (x1 : Int) {K : KV} {w : World} (h : F281 p0 x1 K w) : gocall Tryz.prog 281 [(Value.pointer p0), (Value.int .i64 x1)] K w :=
⟨by kernel_rfl, calls_of_sBody (T := []) mixed Tryz.func281 (by kernel_rfl) (by rw [F281_eq]; exact h)⟩
def F298 (s0 : ByteArray) (K : KV) (w : World) : Prop :=
strCat (s0) ({ data := #[124] }) (fun s1 w2 =>
gocall Tryz.prog (313) [(Value.string (s0))] (fun v3 w4 =>
asStr (v3) (fun s5 w6 =>
strCat (s1) (s5) (fun s7 w8 =>
K (Value.string (s7)) (w8)) (w6)) (w4)) (w2)) (w)
theorem F298_eq (s0 : ByteArray) : sBody Tryz.prog [] Tryz.f298 [(Value.string s0)] = F298 s0 := by kernel_rfl
theorem F298_go (s0 : ByteArray) {K : KV} {w : World} (h : F298 s0 K w) : gocall Tryz.prog 298 [(Value.string s0)] K w :=
⟨by kernel_rfl, calls_of_sBody (T := []) mixed Tryz.func298 (by kernel_rfl) (by rw [F298_eq]; exact h)⟩
def F300 (s0 : ByteArray) (s1 : ByteArray) (x2 : Int) (K : KV) (w : World) : Prop :=
nw (Obj.cells #[(Value.string (s0))] 9 (0, 0)) (fun k3 w4 =>
nw (Obj.cells #[(Value.string (s1))] 9 (0, 0)) (fun k5 w6 =>
nw (Obj.cells #[(Value.int .i64 (x2))] 3 (0, 0)) (fun k7 w8 =>
K (Value.func (Fn.func 315) #[] #[(Value.pointer (some ⟨k5, 0, none⟩)), (Value.pointer (some ⟨k3, 0, none⟩)), (Value.pointer (some ⟨k7, 0, none⟩))]) (w8)) (w6)) (w4)) (w)
theorem F300_eq (s0 : ByteArray) (s1 : ByteArray) (x2 : Int) : sBody Tryz.prog [] Tryz.f300 [(Value.string s0), (Value.string s1), (Value.int .i64 x2)] = F300 s0 s1 x2 := by kernel_rfl
theorem F300_go (s0 : ByteArray) (s1 : ByteArray) (x2 : Int) {K : KV} {w : World} (h : F300 s0 s1 x2 K w) : gocall Tryz.prog 300 [(Value.string s0), (Value.string s1), (Value.int .i64 x2)] K w :=
⟨by kernel_rfl, calls_of_sBody (T := []) mixed Tryz.func300 (by kernel_rfl) (by rw [F300_eq]; exact h)⟩
def F304 (s0 : ByteArray) (K : KV) (w : World) : Prop :=
loop (X := (Int) × (Bool) × Unit) (0, (false, ())) (fun x1 rec2 w3 =>
br (decide (x1.fst < (↑s0.size : Int))) (fun w4 =>
strAt (s0) (x1.fst) (fun x5 w6 =>
br (decide ((↑x5.toNat : Int) < 97)) (fun w7 =>
K (.bool (false)) (w7)) (fun w8 =>
strAt (s0) (x1.fst) (fun x9 w10 =>
br (decide ((↑x9.toNat : Int) > 122)) (fun w11 =>
K (.bool (false)) (w11)) (fun w12 =>
rec2 (IntKind.i64.wrap (x1.fst + 1), (x1.snd.fst, ())) (w12)) (w10)) (w8)) (w6)) (w4)) (fun w13 =>
br (decide ((↑s0.size : Int) ≥ 1)) (fun w14 =>
K (.bool (decide ((↑s0.size : Int) ≤ 8))) (w14)) (fun w15 =>
K (.bool (false)) (w15)) (w13)) (w3)) (w)
theorem F304_eq (s0 : ByteArray) : sBody Tryz.prog [] Tryz.f304 [(Value.string s0)] = F304 s0 := by kernel_rfl
theorem F304_go (s0 : ByteArray) {K : KV} {w : World} (h : F304 s0 K w) : gocall Tryz.prog 304 [(Value.string s0)] K w :=
⟨by kernel_rfl, calls_of_sBody (T := []) mixed Tryz.func304 (by kernel_rfl) (by rw [F304_eq]; exact h)⟩
def F305 (a0 : Option Addr) (n0 : Nat) (c0 : Nat) (K : KV) (w : World) : Prop :=
br (decide ((↑n0 : Int) ≤ 4)) (fun w3 =>
gocall Tryz.prog (324) [(.slice a0 (n0) (c0)), (Value.func (Fn.func 325) #[] #[])] (fun v4 w5 =>
asBoo (v4) (fun b6 w7 =>
K (.bool (!b6)) (w7)) (w5)) (w3)) (fun w8 =>
K (.bool (false)) (w8)) (w)
theorem F305_eq (a0 : Option Addr) (n0 : Nat) (c0 : Nat) : sBody Tryz.prog [] Tryz.f305 [(.slice a0 n0 c0)] = F305 a0 n0 c0 := by kernel_rfl
theorem F305_go (a0 : Option Addr) (n0 : Nat) (c0 : Nat) {K : KV} {w : World} (h : F305 a0 n0 c0 K w) : gocall Tryz.prog 305 [(.slice a0 n0 c0)] K w :=
⟨by kernel_rfl, calls_of_sBody (T := []) mixed Tryz.func305 (by kernel_rfl) (by rw [F305_eq]; exact h)⟩
def F306 (a0 : Option Addr) (n0 : Nat) (c0 : Nat) (g1 : FuncId) (cap1 : Array Value) (K : KV) (w : World) : Prop :=
loop (X := (Int) × (Int) × Unit) (0, (0, ())) (fun x5 rec6 w7 =>
br (decide (x5.fst < (↑n0 : Int))) (fun w8 =>
slAt (a0) (n0) (x5.fst) (3) (fun a9 w10 =>
ld (a9) (fun v11 w12 =>
asI .i64 (v11) (fun n13 w14 =>
ld (⟨a9.block, a9.off + 1, none⟩) (fun v15 w16 =>
asI .i64 (v15) (fun n17 w18 =>
ld (⟨a9.block, a9.off + 2, none⟩) (fun v19 w20 =>
asI .i64 (v19) (fun n21 w22 =>
gocall Tryz.prog (g1) ((Value.agg #[(Value.int .i64 (n13)), (Value.int .i64 (n17)), (Value.int .i64 (n21))]) :: cap1.1) (fun v23 w24 =>
asBoo (v23) (fun b25 w26 =>
br (b25) (fun w27 =>
K (Value.int .i64 (x5.fst)) (w27)) (fun w28 =>
rec6 (IntKind.i64.wrap (x5.fst + 1), (x5.snd.fst, ())) (w28)) (w26)) (w24)) (w22)) (w20)) (w18)) (w16)) (w14)) (w12)) (w10)) (w8)) (fun w29 =>
K (Value.int .i64 (-1)) (w29)) (w7)) (w)
theorem F306_eq (a0 : Option Addr) (n0 : Nat) (c0 : Nat) (g1 : FuncId) (cap1 : Array Value) : sBody Tryz.prog [] Tryz.f306 [(.slice a0 n0 c0), (Value.func (.func g1) #[] cap1)] = F306 a0 n0 c0 g1 cap1 := by kernel_rfl
theorem F306_go (a0 : Option Addr) (n0 : Nat) (c0 : Nat) (g1 : FuncId) (cap1 : Array Value) {K : KV} {w : World} (h : F306 a0 n0 c0 g1 cap1 K w) : gocall Tryz.prog 306 [(.slice a0 n0 c0), (Value.func (.func g1) #[] cap1)] K w :=
⟨by kernel_rfl, calls_of_sBody (T := []) mixed Tryz.func306 (by kernel_rfl) (by rw [F306_eq]; exact h)⟩
def F307 (x0 : Int) (x1 : Int) (x2 : Int) (r3 : Addr) (K : KV) (w : World) : Prop :=
nw (Obj.cells #[(Value.int .i64 (x0)), (Value.int .i64 (x1)), (Value.int .i64 (x2))] 174 (0, 0)) (fun k4 w5 =>
ld (⟨k4, 0, none⟩) (fun v6 w7 =>
asI .i64 (v6) (fun n8 w9 =>
ld (r3) (fun v10 w11 =>
asI .i64 (v10) (fun n12 w13 =>
K (.bool (n8 == n12)) (w13)) (w11)) (w9)) (w7)) (w5)) (w)
theorem F307_eq (x0 : Int) (x1 : Int) (x2 : Int) (r3 : Addr) : sBody Tryz.prog [] Tryz.f307 [(Value.agg #[(Value.int .i64 x0), (Value.int .i64 x1), (Value.int .i64 x2)]), (Value.pointer (some r3))] = F307 x0 x1 x2 r3 := by kernel_rfl
theorem F307_go (x0 : Int) (x1 : Int) (x2 : Int) (r3 : Addr) {K : KV} {w : World} (h : F307 x0 x1 x2 r3 K w) : gocall Tryz.prog 307 [(Value.agg #[(Value.int .i64 x0), (Value.int .i64 x1), (Value.int .i64 x2)]), (Value.pointer (some r3))] K w :=
⟨by kernel_rfl, calls_of_sBody (T := []) mixed Tryz.func307 (by kernel_rfl) (by rw [F307_eq]; exact h)⟩
def F313 (s0 : ByteArray) (K : KV) (w : World) : Prop :=
loop (X := (Int) × (Int) × (Int) × Unit) (0, (1, (0, ()))) (fun x1 rec2 w3 =>
br (decide (x1.fst < (↑s0.size : Int))) (fun w4 =>
strAt (s0) (x1.fst) (fun x5 w6 =>
divW (673) (fun w7 =>
divW (673) (fun w8 =>
rec2 (IntKind.i64.wrap (x1.fst + 1), ((IntKind.i64.wrap (x1.snd.fst * 3)).tmod 673, ((IntKind.i64.wrap (x1.snd.snd.fst + IntKind.i64.wrap (IntKind.i64.wrap (↑x5.toNat : Int) * x1.snd.fst))).tmod 673, ()))) (w8)) (w7)) (w6)) (w4)) (fun w9 =>
divW (26) (fun w10 =>
divW (26) (fun w11 =>
nw (Obj.cells #[(Value.int IntKind.u8 (IntKind.u8.wrap (IntKind.i64.wrap (97 + IntKind.i64.wrap (Int.tdiv x1.snd.snd.fst 26))))), (Value.int IntKind.u8 (IntKind.u8.wrap (IntKind.i64.wrap (97 + Int.tmod x1.snd.snd.fst 26))))] 5 (0, 0)) (fun k12 w13 =>
cnv (Md.full) Tryz.prog (340) (9) (.slice (some ⟨k12, 0, none⟩) (2) (2)) (fun v14 w15 =>
asStr (v14) (fun s16 w17 =>
K (Value.string (s16)) (w17)) (w15)) (w13)) (w11)) (w10)) (w9)) (w3)) (w)
theorem F313_eq (s0 : ByteArray) : sBody Tryz.prog [] Tryz.f313 [(Value.string s0)] = F313 s0 := by kernel_rfl
theorem F313_go (s0 : ByteArray) {K : KV} {w : World} (h : F313 s0 K w) : gocall Tryz.prog 313 [(Value.string s0)] K w :=
⟨by kernel_rfl, calls_of_sBody (T := []) mixed Tryz.func313 (by kernel_rfl) (by rw [F313_eq]; exact h)⟩
def F315 (y0 : Nat) (r1 : Addr) (r2 : Addr) (r3 : Addr) (K : KV) (w : World) : Prop :=
ld (r1) (fun v4 w5 =>
asStr (v4) (fun s6 w7 =>
br ((↑s6.size : Int) == 0) (fun w8 =>
loop (X := Unit) () (fun x9 rec10 w11 =>
ld (r2) (fun v12 w13 =>
asStr (v12) (fun s14 w15 =>
br (decide ((↑s14.size : Int) > 0)) (fun w16 =>
ld (r2) (fun v17 w18 =>
asStr (v17) (fun s19 w20 =>
gocall Tryz.prog (316) [(Value.string (s19))] (fun v21 w22 =>
asT (2) (v21) (fun f23 w24 =>
asI (IntKind.i32) (f23 0) (fun n25 w26 =>
asI .i64 (f23 1) (fun n27 w28 =>
ld (r2) (fun v29 w30 =>
asStr (v29) (fun s31 w32 =>
strSl (s31) (0) (n27) (fun s33 w34 =>
goyield Tryz.prog (y0) [(Value.string (s33))] (fun v35 w36 =>
asBoo (v35) (fun b37 w38 =>
br (!b37) (fun w39 =>
K (Value.tuple #[]) (w39)) (fun w40 =>
ld (r2) (fun v41 w42 =>
asStr (v41) (fun s43 w44 =>
strSl (s43) (n27) ((↑s43.size : Int)) (fun s45 w46 =>
st (r2) (Value.string (s45)) (fun w47 =>
rec10 () (w47)) (w46)) (w44)) (w42)) (w40)) (w38)) (w36)) (w34)) (w32)) (w30)) (w28)) (w26)) (w24)) (w22)) (w20)) (w18)) (w16)) (fun w48 =>
K (Value.tuple #[]) (w48)) (w15)) (w13)) (w11)) (w8)) (fun w49 =>
loop (X := Unit) () (fun x50 rec51 w52 =>
ld (r2) (fun v53 w54 =>
asStr (v53) (fun s55 w56 =>
ld (r1) (fun v57 w58 =>
asStr (v57) (fun s59 w60 =>
gocall Tryz.prog (317) [(Value.string (s55)), (Value.string (s59))] (fun v61 w62 =>
asI .i64 (v61) (fun n63 w64 =>
br (decide (n63 < 0)) (fun w65 =>
ld (r2) (fun v66 w67 =>
asStr (v66) (fun s68 w69 =>
goyield Tryz.prog (y0) [(Value.string (s68))] (fun v70 w71 =>
asBoo (v70) (fun b72 w73 =>
K (Value.tuple #[]) (w73)) (w71)) (w69)) (w67)) (w65)) (fun w74 =>
ld (r2) (fun v75 w76 =>
asStr (v75) (fun s77 w78 =>
ld (r3) (fun v79 w80 =>
asI .i64 (v79) (fun n81 w82 =>
strSl (s77) (0) (IntKind.i64.wrap (n63 + n81)) (fun s83 w84 =>
goyield Tryz.prog (y0) [(Value.string (s83))] (fun v85 w86 =>
asBoo (v85) (fun b87 w88 =>
br (!b87) (fun w89 =>
K (Value.tuple #[]) (w89)) (fun w90 =>
ld (r2) (fun v91 w92 =>
asStr (v91) (fun s93 w94 =>
ld (r1) (fun v95 w96 =>
asStr (v95) (fun s97 w98 =>
strSl (s93) (IntKind.i64.wrap (n63 + (↑s97.size : Int))) ((↑s93.size : Int)) (fun s99 w100 =>
st (r2) (Value.string (s99)) (fun w101 =>
rec51 () (w101)) (w100)) (w98)) (w96)) (w94)) (w92)) (w90)) (w88)) (w86)) (w84)) (w82)) (w80)) (w78)) (w76)) (w74)) (w64)) (w62)) (w60)) (w58)) (w56)) (w54)) (w52)) (w49)) (w7)) (w5)) (w)
theorem F315_eq (y0 : Nat) (r1 : Addr) (r2 : Addr) (r3 : Addr) : sBody Tryz.prog [] Tryz.f315 [(yv y0), (Value.pointer (some r1)), (Value.pointer (some r2)), (Value.pointer (some r3))] = F315 y0 r1 r2 r3 := by kernel_rfl
theorem F315_go (y0 : Nat) (r1 : Addr) (r2 : Addr) (r3 : Addr) {K : KV} {w : World} (h : F315 y0 r1 r2 r3 K w) : gocall Tryz.prog 315 [(yv y0), (Value.pointer (some r1)), (Value.pointer (some r2)), (Value.pointer (some r3))] K w :=
⟨by kernel_rfl, calls_of_sBody (T := []) mixed Tryz.func315 (by kernel_rfl) (by rw [F315_eq]; exact h)⟩
def F317 (s0 : ByteArray) (s1 : ByteArray) (K : KV) (w : World) : Prop :=
gocall Tryz.prog (339) [(Value.string (s0)), (Value.string (s1))] (fun v2 w3 =>
asI .i64 (v2) (fun n4 w5 =>
K (Value.int .i64 (n4)) (w5)) (w3)) (w)
theorem F317_eq (s0 : ByteArray) (s1 : ByteArray) : sBody Tryz.prog [] Tryz.f317 [(Value.string s0), (Value.string s1)] = F317 s0 s1 := by kernel_rfl
theorem F317_go (s0 : ByteArray) (s1 : ByteArray) {K : KV} {w : World} (h : F317 s0 s1 K w) : gocall Tryz.prog 317 [(Value.string s0), (Value.string s1)] K w :=
⟨by kernel_rfl, calls_of_sBody (T := []) mixed Tryz.func317 (by kernel_rfl) (by rw [F317_eq]; exact h)⟩
def F324 (a0 : Option Addr) (n0 : Nat) (c0 : Nat) (g1 : FuncId) (cap1 : Array Value) (K : KV) (w : World) : Prop :=
gocall Tryz.prog (347) [(.slice a0 (n0) (c0)), (Value.func (Fn.func g1) #[] cap1)] (fun v5 w6 =>
asI .i64 (v5) (fun n7 w8 =>
K (.bool (decide (n7 ≥ 0))) (w8)) (w6)) (w)
theorem F324_eq (a0 : Option Addr) (n0 : Nat) (c0 : Nat) (g1 : FuncId) (cap1 : Array Value) : sBody Tryz.prog [] Tryz.f324 [(.slice a0 n0 c0), (Value.func (.func g1) #[] cap1)] = F324 a0 n0 c0 g1 cap1 := by kernel_rfl
theorem F324_go (a0 : Option Addr) (n0 : Nat) (c0 : Nat) (g1 : FuncId) (cap1 : Array Value) {K : KV} {w : World} (h : F324 a0 n0 c0 g1 cap1 K w) : gocall Tryz.prog 324 [(.slice a0 n0 c0), (Value.func (.func g1) #[] cap1)] K w :=
⟨by kernel_rfl, calls_of_sBody (T := []) mixed Tryz.func324 (by kernel_rfl) (by rw [F324_eq]; exact h)⟩
def F325 (x0 : Int) (K : KV) (w : World) : Prop :=
br (decide (x0 < -1000000000)) (fun w1 =>
K (.bool (true)) (w1)) (fun w2 =>
K (.bool (decide (x0 > 1000000000))) (w2)) (w)
theorem F325_eq (x0 : Int) : sBody Tryz.prog [] Tryz.f325 [(Value.int .i64 x0)] = F325 x0 := by kernel_rfl
theorem F325_go (x0 : Int) {K : KV} {w : World} (h : F325 x0 K w) : gocall Tryz.prog 325 [(Value.int .i64 x0)] K w :=
⟨by kernel_rfl, calls_of_sBody (T := []) mixed Tryz.func325 (by kernel_rfl) (by rw [F325_eq]; exact h)⟩
def F339 (s0 : ByteArray) (s1 : ByteArray) (K : KV) (w : World) : Prop :=
br ((↑s1.size : Int) == 0) (fun w2 =>
K (Value.int .i64 (0)) (w2)) (fun w3 =>
br (strEq s1 s0) (fun w4 =>
K (Value.int .i64 (0)) (w4)) (fun w5 =>
br ((↑s1.size : Int) == 1) (fun w6 =>
strAt (s1) (0) (fun x7 w8 =>
gocall Tryz.prog (354) [(Value.string (s0)), (Value.int IntKind.u8 ((↑x7.toNat : Int)))] (fun v9 w10 =>
asI .i64 (v9) (fun n11 w12 =>
K (Value.int .i64 (n11)) (w12)) (w10)) (w8)) (w6)) (fun w13 =>
br (decide ((↑s1.size : Int) ≥ (↑s0.size : Int))) (fun w14 =>
K (Value.int .i64 (-1)) (w14)) (fun w15 =>
ld (⟨4, 0, none⟩) (fun v16 w17 =>
asI .i64 (v16) (fun n18 w19 =>
br (decide ((↑s1.size : Int) ≤ n18)) (fun w20 =>
br (decide ((↑s0.size : Int) ≤ 64)) (fun w21 =>
gocall Tryz.prog (355) [(Value.string (s0)), (Value.string (s1))] (fun v22 w23 =>
asI .i64 (v22) (fun n24 w25 =>
K (Value.int .i64 (n24)) (w25)) (w23)) (w21)) (fun w26 =>
strAt (s1) (0) (fun x27 w28 =>
strAt (s1) (1) (fun x29 w30 =>
loop (X := (Int) × (Int) × (Int) × Unit) (0, (0, (0, ()))) (fun x31 rec32 w33 =>
br (decide (x31.snd.fst < IntKind.i64.wrap (IntKind.i64.wrap ((↑s0.size : Int) - (↑s1.size : Int)) + 1))) (fun w34 =>
strAt (s0) (x31.snd.fst) (fun x35 w36 =>
br ((↑x35.toNat : Int) != (↑x27.toNat : Int)) (fun w37 =>
strSl (s0) (IntKind.i64.wrap (x31.snd.fst + 1)) (IntKind.i64.wrap (IntKind.i64.wrap ((↑s0.size : Int) - (↑s1.size : Int)) + 1)) (fun s38 w39 =>
gocall Tryz.prog (354) [(Value.string (s38)), (Value.int IntKind.u8 ((↑x27.toNat : Int)))] (fun v40 w41 =>
asI .i64 (v40) (fun n42 w43 =>
br (decide (n42 < 0)) (fun w44 =>
K (Value.int .i64 (-1)) (w44)) (fun w45 =>
strAt (s0) (IntKind.i64.wrap (IntKind.i64.wrap (x31.snd.fst + IntKind.i64.wrap (n42 + 1)) + 1)) (fun x46 w47 =>
br ((↑x46.toNat : Int) == (↑x29.toNat : Int)) (fun w48 =>
strSl (s0) (IntKind.i64.wrap (x31.snd.fst + IntKind.i64.wrap (n42 + 1))) (IntKind.i64.wrap (IntKind.i64.wrap (x31.snd.fst + IntKind.i64.wrap (n42 + 1)) + (↑s1.size : Int))) (fun s49 w50 =>
br (strEq s49 s1) (fun w51 =>
K (Value.int .i64 (IntKind.i64.wrap (x31.snd.fst + IntKind.i64.wrap (n42 + 1)))) (w51)) (fun w52 =>
ld (⟨4, 0, none⟩) (fun v53 w54 =>
asI .i64 (v53) (fun n55 w56 =>
br (decide ((↑s1.size : Int) ≤ n55)) (fun w57 =>
gocall Tryz.prog (356) [(Value.int .i64 (IntKind.i64.wrap (IntKind.i64.wrap (x31.snd.fst + IntKind.i64.wrap (n42 + 1)) + 1)))] (fun v58 w59 =>
asI .i64 (v58) (fun n60 w61 =>
br (decide (IntKind.i64.wrap (x31.fst + 1) > n60)) (fun w62 =>
strSl (s0) (IntKind.i64.wrap (IntKind.i64.wrap (x31.snd.fst + IntKind.i64.wrap (n42 + 1)) + 1)) ((↑s0.size : Int)) (fun s63 w64 =>
gocall Tryz.prog (355) [(Value.string (s63)), (Value.string (s1))] (fun v65 w66 =>
asI .i64 (v65) (fun n67 w68 =>
br (decide (n67 ≥ 0)) (fun w69 =>
K (Value.int .i64 (IntKind.i64.wrap (n67 + IntKind.i64.wrap (IntKind.i64.wrap (x31.snd.fst + IntKind.i64.wrap (n42 + 1)) + 1)))) (w69)) (fun w70 =>
K (Value.int .i64 (-1)) (w70)) (w68)) (w66)) (w64)) (w62)) (fun w71 =>
ld (⟨4, 0, none⟩) (fun v72 w73 =>
asI .i64 (v72) (fun n74 w75 =>
br (decide ((↑s1.size : Int) > n74)) (fun w76 =>
br (decide (IntKind.i64.wrap (x31.fst + 1) ≥ IntKind.i64.wrap (4 + (IntKind.i64.wrap (IntKind.i64.wrap (x31.snd.fst + IntKind.i64.wrap (n42 + 1)) + 1)).fdiv (2 ^ min (Int.toNat 4) IntKind.i64.bits)))) (fun w77 =>
br (decide (IntKind.i64.wrap (IntKind.i64.wrap (x31.snd.fst + IntKind.i64.wrap (n42 + 1)) + 1) < IntKind.i64.wrap (IntKind.i64.wrap ((↑s0.size : Int) - (↑s1.size : Int)) + 1))) (fun w78 =>
strSl (s0) (IntKind.i64.wrap (IntKind.i64.wrap (x31.snd.fst + IntKind.i64.wrap (n42 + 1)) + 1)) ((↑s0.size : Int)) (fun s79 w80 =>
gocall Tryz.prog (357) [(Value.string (s79)), (Value.string (s1))] (fun v81 w82 =>
asI .i64 (v81) (fun n83 w84 =>
br (decide (n83 < 0)) (fun w85 =>
K (Value.int .i64 (-1)) (w85)) (fun w86 =>
K (Value.int .i64 (IntKind.i64.wrap (IntKind.i64.wrap (IntKind.i64.wrap (x31.snd.fst + IntKind.i64.wrap (n42 + 1)) + 1) + n83))) (w86)) (w84)) (w82)) (w80)) (w78)) (fun w87 =>
rec32 (IntKind.i64.wrap (x31.fst + 1), (IntKind.i64.wrap (IntKind.i64.wrap (x31.snd.fst + IntKind.i64.wrap (n42 + 1)) + 1), (x31.snd.snd.fst, ()))) (w87)) (w77)) (fun w88 =>
rec32 (IntKind.i64.wrap (x31.fst + 1), (IntKind.i64.wrap (IntKind.i64.wrap (x31.snd.fst + IntKind.i64.wrap (n42 + 1)) + 1), (x31.snd.snd.fst, ()))) (w88)) (w76)) (fun w89 =>
rec32 (IntKind.i64.wrap (x31.fst + 1), (IntKind.i64.wrap (IntKind.i64.wrap (x31.snd.fst + IntKind.i64.wrap (n42 + 1)) + 1), (x31.snd.snd.fst, ()))) (w89)) (w75)) (w73)) (w71)) (w61)) (w59)) (w57)) (fun w90 =>
ld (⟨4, 0, none⟩) (fun v91 w92 =>
asI .i64 (v91) (fun n93 w94 =>
br (decide ((↑s1.size : Int) > n93)) (fun w95 =>
br (decide (IntKind.i64.wrap (x31.fst + 1) ≥ IntKind.i64.wrap (4 + (IntKind.i64.wrap (IntKind.i64.wrap (x31.snd.fst + IntKind.i64.wrap (n42 + 1)) + 1)).fdiv (2 ^ min (Int.toNat 4) IntKind.i64.bits)))) (fun w96 =>
br (decide (IntKind.i64.wrap (IntKind.i64.wrap (x31.snd.fst + IntKind.i64.wrap (n42 + 1)) + 1) < IntKind.i64.wrap (IntKind.i64.wrap ((↑s0.size : Int) - (↑s1.size : Int)) + 1))) (fun w97 =>
strSl (s0) (IntKind.i64.wrap (IntKind.i64.wrap (x31.snd.fst + IntKind.i64.wrap (n42 + 1)) + 1)) ((↑s0.size : Int)) (fun s98 w99 =>
gocall Tryz.prog (357) [(Value.string (s98)), (Value.string (s1))] (fun v100 w101 =>
asI .i64 (v100) (fun n102 w103 =>
br (decide (n102 < 0)) (fun w104 =>
K (Value.int .i64 (-1)) (w104)) (fun w105 =>
K (Value.int .i64 (IntKind.i64.wrap (IntKind.i64.wrap (IntKind.i64.wrap (x31.snd.fst + IntKind.i64.wrap (n42 + 1)) + 1) + n102))) (w105)) (w103)) (w101)) (w99)) (w97)) (fun w106 =>
rec32 (IntKind.i64.wrap (x31.fst + 1), (IntKind.i64.wrap (IntKind.i64.wrap (x31.snd.fst + IntKind.i64.wrap (n42 + 1)) + 1), (x31.snd.snd.fst, ()))) (w106)) (w96)) (fun w107 =>
rec32 (IntKind.i64.wrap (x31.fst + 1), (IntKind.i64.wrap (IntKind.i64.wrap (x31.snd.fst + IntKind.i64.wrap (n42 + 1)) + 1), (x31.snd.snd.fst, ()))) (w107)) (w95)) (fun w108 =>
rec32 (IntKind.i64.wrap (x31.fst + 1), (IntKind.i64.wrap (IntKind.i64.wrap (x31.snd.fst + IntKind.i64.wrap (n42 + 1)) + 1), (x31.snd.snd.fst, ()))) (w108)) (w94)) (w92)) (w90)) (w56)) (w54)) (w52)) (w50)) (w48)) (fun w109 =>
ld (⟨4, 0, none⟩) (fun v110 w111 =>
asI .i64 (v110) (fun n112 w113 =>
br (decide ((↑s1.size : Int) ≤ n112)) (fun w114 =>
gocall Tryz.prog (356) [(Value.int .i64 (IntKind.i64.wrap (IntKind.i64.wrap (x31.snd.fst + IntKind.i64.wrap (n42 + 1)) + 1)))] (fun v115 w116 =>
asI .i64 (v115) (fun n117 w118 =>
br (decide (IntKind.i64.wrap (x31.fst + 1) > n117)) (fun w119 =>
strSl (s0) (IntKind.i64.wrap (IntKind.i64.wrap (x31.snd.fst + IntKind.i64.wrap (n42 + 1)) + 1)) ((↑s0.size : Int)) (fun s120 w121 =>
gocall Tryz.prog (355) [(Value.string (s120)), (Value.string (s1))] (fun v122 w123 =>
asI .i64 (v122) (fun n124 w125 =>
br (decide (n124 ≥ 0)) (fun w126 =>
K (Value.int .i64 (IntKind.i64.wrap (n124 + IntKind.i64.wrap (IntKind.i64.wrap (x31.snd.fst + IntKind.i64.wrap (n42 + 1)) + 1)))) (w126)) (fun w127 =>
K (Value.int .i64 (-1)) (w127)) (w125)) (w123)) (w121)) (w119)) (fun w128 =>
ld (⟨4, 0, none⟩) (fun v129 w130 =>
asI .i64 (v129) (fun n131 w132 =>
br (decide ((↑s1.size : Int) > n131)) (fun w133 =>
br (decide (IntKind.i64.wrap (x31.fst + 1) ≥ IntKind.i64.wrap (4 + (IntKind.i64.wrap (IntKind.i64.wrap (x31.snd.fst + IntKind.i64.wrap (n42 + 1)) + 1)).fdiv (2 ^ min (Int.toNat 4) IntKind.i64.bits)))) (fun w134 =>
br (decide (IntKind.i64.wrap (IntKind.i64.wrap (x31.snd.fst + IntKind.i64.wrap (n42 + 1)) + 1) < IntKind.i64.wrap (IntKind.i64.wrap ((↑s0.size : Int) - (↑s1.size : Int)) + 1))) (fun w135 =>
strSl (s0) (IntKind.i64.wrap (IntKind.i64.wrap (x31.snd.fst + IntKind.i64.wrap (n42 + 1)) + 1)) ((↑s0.size : Int)) (fun s136 w137 =>
gocall Tryz.prog (357) [(Value.string (s136)), (Value.string (s1))] (fun v138 w139 =>
asI .i64 (v138) (fun n140 w141 =>
br (decide (n140 < 0)) (fun w142 =>
K (Value.int .i64 (-1)) (w142)) (fun w143 =>
K (Value.int .i64 (IntKind.i64.wrap (IntKind.i64.wrap (IntKind.i64.wrap (x31.snd.fst + IntKind.i64.wrap (n42 + 1)) + 1) + n140))) (w143)) (w141)) (w139)) (w137)) (w135)) (fun w144 =>
rec32 (IntKind.i64.wrap (x31.fst + 1), (IntKind.i64.wrap (IntKind.i64.wrap (x31.snd.fst + IntKind.i64.wrap (n42 + 1)) + 1), (x31.snd.snd.fst, ()))) (w144)) (w134)) (fun w145 =>
rec32 (IntKind.i64.wrap (x31.fst + 1), (IntKind.i64.wrap (IntKind.i64.wrap (x31.snd.fst + IntKind.i64.wrap (n42 + 1)) + 1), (x31.snd.snd.fst, ()))) (w145)) (w133)) (fun w146 =>
rec32 (IntKind.i64.wrap (x31.fst + 1), (IntKind.i64.wrap (IntKind.i64.wrap (x31.snd.fst + IntKind.i64.wrap (n42 + 1)) + 1), (x31.snd.snd.fst, ()))) (w146)) (w132)) (w130)) (w128)) (w118)) (w116)) (w114)) (fun w147 =>
ld (⟨4, 0, none⟩) (fun v148 w149 =>
asI .i64 (v148) (fun n150 w151 =>
br (decide ((↑s1.size : Int) > n150)) (fun w152 =>
br (decide (IntKind.i64.wrap (x31.fst + 1) ≥ IntKind.i64.wrap (4 + (IntKind.i64.wrap (IntKind.i64.wrap (x31.snd.fst + IntKind.i64.wrap (n42 + 1)) + 1)).fdiv (2 ^ min (Int.toNat 4) IntKind.i64.bits)))) (fun w153 =>
br (decide (IntKind.i64.wrap (IntKind.i64.wrap (x31.snd.fst + IntKind.i64.wrap (n42 + 1)) + 1) < IntKind.i64.wrap (IntKind.i64.wrap ((↑s0.size : Int) - (↑s1.size : Int)) + 1))) (fun w154 =>
strSl (s0) (IntKind.i64.wrap (IntKind.i64.wrap (x31.snd.fst + IntKind.i64.wrap (n42 + 1)) + 1)) ((↑s0.size : Int)) (fun s155 w156 =>
gocall Tryz.prog (357) [(Value.string (s155)), (Value.string (s1))] (fun v157 w158 =>
asI .i64 (v157) (fun n159 w160 =>
br (decide (n159 < 0)) (fun w161 =>
K (Value.int .i64 (-1)) (w161)) (fun w162 =>
K (Value.int .i64 (IntKind.i64.wrap (IntKind.i64.wrap (IntKind.i64.wrap (x31.snd.fst + IntKind.i64.wrap (n42 + 1)) + 1) + n159))) (w162)) (w160)) (w158)) (w156)) (w154)) (fun w163 =>
rec32 (IntKind.i64.wrap (x31.fst + 1), (IntKind.i64.wrap (IntKind.i64.wrap (x31.snd.fst + IntKind.i64.wrap (n42 + 1)) + 1), (x31.snd.snd.fst, ()))) (w163)) (w153)) (fun w164 =>
rec32 (IntKind.i64.wrap (x31.fst + 1), (IntKind.i64.wrap (IntKind.i64.wrap (x31.snd.fst + IntKind.i64.wrap (n42 + 1)) + 1), (x31.snd.snd.fst, ()))) (w164)) (w152)) (fun w165 =>
rec32 (IntKind.i64.wrap (x31.fst + 1), (IntKind.i64.wrap (IntKind.i64.wrap (x31.snd.fst + IntKind.i64.wrap (n42 + 1)) + 1), (x31.snd.snd.fst, ()))) (w165)) (w151)) (w149)) (w147)) (w113)) (w111)) (w109)) (w47)) (w45)) (w43)) (w41)) (w39)) (w37)) (fun w166 =>
strAt (s0) (IntKind.i64.wrap (x31.snd.fst + 1)) (fun x167 w168 =>
br ((↑x167.toNat : Int) == (↑x29.toNat : Int)) (fun w169 =>
strSl (s0) (x31.snd.fst) (IntKind.i64.wrap (x31.snd.fst + (↑s1.size : Int))) (fun s170 w171 =>
br (strEq s170 s1) (fun w172 =>
K (Value.int .i64 (x31.snd.fst)) (w172)) (fun w173 =>
ld (⟨4, 0, none⟩) (fun v174 w175 =>
asI .i64 (v174) (fun n176 w177 =>
br (decide ((↑s1.size : Int) ≤ n176)) (fun w178 =>
gocall Tryz.prog (356) [(Value.int .i64 (IntKind.i64.wrap (x31.snd.fst + 1)))] (fun v179 w180 =>
asI .i64 (v179) (fun n181 w182 =>
br (decide (IntKind.i64.wrap (x31.fst + 1) > n181)) (fun w183 =>
strSl (s0) (IntKind.i64.wrap (x31.snd.fst + 1)) ((↑s0.size : Int)) (fun s184 w185 =>
gocall Tryz.prog (355) [(Value.string (s184)), (Value.string (s1))] (fun v186 w187 =>
asI .i64 (v186) (fun n188 w189 =>
br (decide (n188 ≥ 0)) (fun w190 =>
K (Value.int .i64 (IntKind.i64.wrap (n188 + IntKind.i64.wrap (x31.snd.fst + 1)))) (w190)) (fun w191 =>
K (Value.int .i64 (-1)) (w191)) (w189)) (w187)) (w185)) (w183)) (fun w192 =>
ld (⟨4, 0, none⟩) (fun v193 w194 =>
asI .i64 (v193) (fun n195 w196 =>
br (decide ((↑s1.size : Int) > n195)) (fun w197 =>
br (decide (IntKind.i64.wrap (x31.fst + 1) ≥ IntKind.i64.wrap (4 + (IntKind.i64.wrap (x31.snd.fst + 1)).fdiv (2 ^ min (Int.toNat 4) IntKind.i64.bits)))) (fun w198 =>
br (decide (IntKind.i64.wrap (x31.snd.fst + 1) < IntKind.i64.wrap (IntKind.i64.wrap ((↑s0.size : Int) - (↑s1.size : Int)) + 1))) (fun w199 =>
strSl (s0) (IntKind.i64.wrap (x31.snd.fst + 1)) ((↑s0.size : Int)) (fun s200 w201 =>
gocall Tryz.prog (357) [(Value.string (s200)), (Value.string (s1))] (fun v202 w203 =>
asI .i64 (v202) (fun n204 w205 =>
br (decide (n204 < 0)) (fun w206 =>
K (Value.int .i64 (-1)) (w206)) (fun w207 =>
K (Value.int .i64 (IntKind.i64.wrap (IntKind.i64.wrap (x31.snd.fst + 1) + n204))) (w207)) (w205)) (w203)) (w201)) (w199)) (fun w208 =>
rec32 (IntKind.i64.wrap (x31.fst + 1), (IntKind.i64.wrap (x31.snd.fst + 1), (x31.snd.snd.fst, ()))) (w208)) (w198)) (fun w209 =>
rec32 (IntKind.i64.wrap (x31.fst + 1), (IntKind.i64.wrap (x31.snd.fst + 1), (x31.snd.snd.fst, ()))) (w209)) (w197)) (fun w210 =>
rec32 (IntKind.i64.wrap (x31.fst + 1), (IntKind.i64.wrap (x31.snd.fst + 1), (x31.snd.snd.fst, ()))) (w210)) (w196)) (w194)) (w192)) (w182)) (w180)) (w178)) (fun w211 =>
ld (⟨4, 0, none⟩) (fun v212 w213 =>
asI .i64 (v212) (fun n214 w215 =>
br (decide ((↑s1.size : Int) > n214)) (fun w216 =>
br (decide (IntKind.i64.wrap (x31.fst + 1) ≥ IntKind.i64.wrap (4 + (IntKind.i64.wrap (x31.snd.fst + 1)).fdiv (2 ^ min (Int.toNat 4) IntKind.i64.bits)))) (fun w217 =>
br (decide (IntKind.i64.wrap (x31.snd.fst + 1) < IntKind.i64.wrap (IntKind.i64.wrap ((↑s0.size : Int) - (↑s1.size : Int)) + 1))) (fun w218 =>
strSl (s0) (IntKind.i64.wrap (x31.snd.fst + 1)) ((↑s0.size : Int)) (fun s219 w220 =>
gocall Tryz.prog (357) [(Value.string (s219)), (Value.string (s1))] (fun v221 w222 =>
asI .i64 (v221) (fun n223 w224 =>
br (decide (n223 < 0)) (fun w225 =>
K (Value.int .i64 (-1)) (w225)) (fun w226 =>
K (Value.int .i64 (IntKind.i64.wrap (IntKind.i64.wrap (x31.snd.fst + 1) + n223))) (w226)) (w224)) (w222)) (w220)) (w218)) (fun w227 =>
rec32 (IntKind.i64.wrap (x31.fst + 1), (IntKind.i64.wrap (x31.snd.fst + 1), (x31.snd.snd.fst, ()))) (w227)) (w217)) (fun w228 =>
rec32 (IntKind.i64.wrap (x31.fst + 1), (IntKind.i64.wrap (x31.snd.fst + 1), (x31.snd.snd.fst, ()))) (w228)) (w216)) (fun w229 =>
rec32 (IntKind.i64.wrap (x31.fst + 1), (IntKind.i64.wrap (x31.snd.fst + 1), (x31.snd.snd.fst, ()))) (w229)) (w215)) (w213)) (w211)) (w177)) (w175)) (w173)) (w171)) (w169)) (fun w230 =>
ld (⟨4, 0, none⟩) (fun v231 w232 =>
asI .i64 (v231) (fun n233 w234 =>
br (decide ((↑s1.size : Int) ≤ n233)) (fun w235 =>
gocall Tryz.prog (356) [(Value.int .i64 (IntKind.i64.wrap (x31.snd.fst + 1)))] (fun v236 w237 =>
asI .i64 (v236) (fun n238 w239 =>
br (decide (IntKind.i64.wrap (x31.fst + 1) > n238)) (fun w240 =>
strSl (s0) (IntKind.i64.wrap (x31.snd.fst + 1)) ((↑s0.size : Int)) (fun s241 w242 =>
gocall Tryz.prog (355) [(Value.string (s241)), (Value.string (s1))] (fun v243 w244 =>
asI .i64 (v243) (fun n245 w246 =>
br (decide (n245 ≥ 0)) (fun w247 =>
K (Value.int .i64 (IntKind.i64.wrap (n245 + IntKind.i64.wrap (x31.snd.fst + 1)))) (w247)) (fun w248 =>
K (Value.int .i64 (-1)) (w248)) (w246)) (w244)) (w242)) (w240)) (fun w249 =>
ld (⟨4, 0, none⟩) (fun v250 w251 =>
asI .i64 (v250) (fun n252 w253 =>
br (decide ((↑s1.size : Int) > n252)) (fun w254 =>
br (decide (IntKind.i64.wrap (x31.fst + 1) ≥ IntKind.i64.wrap (4 + (IntKind.i64.wrap (x31.snd.fst + 1)).fdiv (2 ^ min (Int.toNat 4) IntKind.i64.bits)))) (fun w255 =>
br (decide (IntKind.i64.wrap (x31.snd.fst + 1) < IntKind.i64.wrap (IntKind.i64.wrap ((↑s0.size : Int) - (↑s1.size : Int)) + 1))) (fun w256 =>
strSl (s0) (IntKind.i64.wrap (x31.snd.fst + 1)) ((↑s0.size : Int)) (fun s257 w258 =>
gocall Tryz.prog (357) [(Value.string (s257)), (Value.string (s1))] (fun v259 w260 =>
asI .i64 (v259) (fun n261 w262 =>
br (decide (n261 < 0)) (fun w263 =>
K (Value.int .i64 (-1)) (w263)) (fun w264 =>
K (Value.int .i64 (IntKind.i64.wrap (IntKind.i64.wrap (x31.snd.fst + 1) + n261))) (w264)) (w262)) (w260)) (w258)) (w256)) (fun w265 =>
rec32 (IntKind.i64.wrap (x31.fst + 1), (IntKind.i64.wrap (x31.snd.fst + 1), (x31.snd.snd.fst, ()))) (w265)) (w255)) (fun w266 =>
rec32 (IntKind.i64.wrap (x31.fst + 1), (IntKind.i64.wrap (x31.snd.fst + 1), (x31.snd.snd.fst, ()))) (w266)) (w254)) (fun w267 =>
rec32 (IntKind.i64.wrap (x31.fst + 1), (IntKind.i64.wrap (x31.snd.fst + 1), (x31.snd.snd.fst, ()))) (w267)) (w253)) (w251)) (w249)) (w239)) (w237)) (w235)) (fun w268 =>
ld (⟨4, 0, none⟩) (fun v269 w270 =>
asI .i64 (v269) (fun n271 w272 =>
br (decide ((↑s1.size : Int) > n271)) (fun w273 =>
br (decide (IntKind.i64.wrap (x31.fst + 1) ≥ IntKind.i64.wrap (4 + (IntKind.i64.wrap (x31.snd.fst + 1)).fdiv (2 ^ min (Int.toNat 4) IntKind.i64.bits)))) (fun w274 =>
br (decide (IntKind.i64.wrap (x31.snd.fst + 1) < IntKind.i64.wrap (IntKind.i64.wrap ((↑s0.size : Int) - (↑s1.size : Int)) + 1))) (fun w275 =>
strSl (s0) (IntKind.i64.wrap (x31.snd.fst + 1)) ((↑s0.size : Int)) (fun s276 w277 =>
gocall Tryz.prog (357) [(Value.string (s276)), (Value.string (s1))] (fun v278 w279 =>
asI .i64 (v278) (fun n280 w281 =>
br (decide (n280 < 0)) (fun w282 =>
K (Value.int .i64 (-1)) (w282)) (fun w283 =>
K (Value.int .i64 (IntKind.i64.wrap (IntKind.i64.wrap (x31.snd.fst + 1) + n280))) (w283)) (w281)) (w279)) (w277)) (w275)) (fun w284 =>
rec32 (IntKind.i64.wrap (x31.fst + 1), (IntKind.i64.wrap (x31.snd.fst + 1), (x31.snd.snd.fst, ()))) (w284)) (w274)) (fun w285 =>
rec32 (IntKind.i64.wrap (x31.fst + 1), (IntKind.i64.wrap (x31.snd.fst + 1), (x31.snd.snd.fst, ()))) (w285)) (w273)) (fun w286 =>
rec32 (IntKind.i64.wrap (x31.fst + 1), (IntKind.i64.wrap (x31.snd.fst + 1), (x31.snd.snd.fst, ()))) (w286)) (w272)) (w270)) (w268)) (w234)) (w232)) (w230)) (w168)) (w166)) (w36)) (w34)) (fun w287 =>
K (Value.int .i64 (-1)) (w287)) (w33)) (w30)) (w28)) (w26)) (w20)) (fun w288 =>
strAt (s1) (0) (fun x289 w290 =>
strAt (s1) (1) (fun x291 w292 =>
loop (X := (Int) × (Int) × (Int) × Unit) (0, (0, (0, ()))) (fun x293 rec294 w295 =>
br (decide (x293.snd.fst < IntKind.i64.wrap (IntKind.i64.wrap ((↑s0.size : Int) - (↑s1.size : Int)) + 1))) (fun w296 =>
strAt (s0) (x293.snd.fst) (fun x297 w298 =>
br ((↑x297.toNat : Int) != (↑x289.toNat : Int)) (fun w299 =>
strSl (s0) (IntKind.i64.wrap (x293.snd.fst + 1)) (IntKind.i64.wrap (IntKind.i64.wrap ((↑s0.size : Int) - (↑s1.size : Int)) + 1)) (fun s300 w301 =>
gocall Tryz.prog (354) [(Value.string (s300)), (Value.int IntKind.u8 ((↑x289.toNat : Int)))] (fun v302 w303 =>
asI .i64 (v302) (fun n304 w305 =>
br (decide (n304 < 0)) (fun w306 =>
K (Value.int .i64 (-1)) (w306)) (fun w307 =>
strAt (s0) (IntKind.i64.wrap (IntKind.i64.wrap (x293.snd.fst + IntKind.i64.wrap (n304 + 1)) + 1)) (fun x308 w309 =>
br ((↑x308.toNat : Int) == (↑x291.toNat : Int)) (fun w310 =>
strSl (s0) (IntKind.i64.wrap (x293.snd.fst + IntKind.i64.wrap (n304 + 1))) (IntKind.i64.wrap (IntKind.i64.wrap (x293.snd.fst + IntKind.i64.wrap (n304 + 1)) + (↑s1.size : Int))) (fun s311 w312 =>
br (strEq s311 s1) (fun w313 =>
K (Value.int .i64 (IntKind.i64.wrap (x293.snd.fst + IntKind.i64.wrap (n304 + 1)))) (w313)) (fun w314 =>
ld (⟨4, 0, none⟩) (fun v315 w316 =>
asI .i64 (v315) (fun n317 w318 =>
br (decide ((↑s1.size : Int) ≤ n317)) (fun w319 =>
gocall Tryz.prog (356) [(Value.int .i64 (IntKind.i64.wrap (IntKind.i64.wrap (x293.snd.fst + IntKind.i64.wrap (n304 + 1)) + 1)))] (fun v320 w321 =>
asI .i64 (v320) (fun n322 w323 =>
br (decide (IntKind.i64.wrap (x293.fst + 1) > n322)) (fun w324 =>
strSl (s0) (IntKind.i64.wrap (IntKind.i64.wrap (x293.snd.fst + IntKind.i64.wrap (n304 + 1)) + 1)) ((↑s0.size : Int)) (fun s325 w326 =>
gocall Tryz.prog (355) [(Value.string (s325)), (Value.string (s1))] (fun v327 w328 =>
asI .i64 (v327) (fun n329 w330 =>
br (decide (n329 ≥ 0)) (fun w331 =>
K (Value.int .i64 (IntKind.i64.wrap (n329 + IntKind.i64.wrap (IntKind.i64.wrap (x293.snd.fst + IntKind.i64.wrap (n304 + 1)) + 1)))) (w331)) (fun w332 =>
K (Value.int .i64 (-1)) (w332)) (w330)) (w328)) (w326)) (w324)) (fun w333 =>
ld (⟨4, 0, none⟩) (fun v334 w335 =>
asI .i64 (v334) (fun n336 w337 =>
br (decide ((↑s1.size : Int) > n336)) (fun w338 =>
br (decide (IntKind.i64.wrap (x293.fst + 1) ≥ IntKind.i64.wrap (4 + (IntKind.i64.wrap (IntKind.i64.wrap (x293.snd.fst + IntKind.i64.wrap (n304 + 1)) + 1)).fdiv (2 ^ min (Int.toNat 4) IntKind.i64.bits)))) (fun w339 =>
br (decide (IntKind.i64.wrap (IntKind.i64.wrap (x293.snd.fst + IntKind.i64.wrap (n304 + 1)) + 1) < IntKind.i64.wrap (IntKind.i64.wrap ((↑s0.size : Int) - (↑s1.size : Int)) + 1))) (fun w340 =>
strSl (s0) (IntKind.i64.wrap (IntKind.i64.wrap (x293.snd.fst + IntKind.i64.wrap (n304 + 1)) + 1)) ((↑s0.size : Int)) (fun s341 w342 =>
gocall Tryz.prog (357) [(Value.string (s341)), (Value.string (s1))] (fun v343 w344 =>
asI .i64 (v343) (fun n345 w346 =>
br (decide (n345 < 0)) (fun w347 =>
K (Value.int .i64 (-1)) (w347)) (fun w348 =>
K (Value.int .i64 (IntKind.i64.wrap (IntKind.i64.wrap (IntKind.i64.wrap (x293.snd.fst + IntKind.i64.wrap (n304 + 1)) + 1) + n345))) (w348)) (w346)) (w344)) (w342)) (w340)) (fun w349 =>
rec294 (IntKind.i64.wrap (x293.fst + 1), (IntKind.i64.wrap (IntKind.i64.wrap (x293.snd.fst + IntKind.i64.wrap (n304 + 1)) + 1), (x293.snd.snd.fst, ()))) (w349)) (w339)) (fun w350 =>
rec294 (IntKind.i64.wrap (x293.fst + 1), (IntKind.i64.wrap (IntKind.i64.wrap (x293.snd.fst + IntKind.i64.wrap (n304 + 1)) + 1), (x293.snd.snd.fst, ()))) (w350)) (w338)) (fun w351 =>
rec294 (IntKind.i64.wrap (x293.fst + 1), (IntKind.i64.wrap (IntKind.i64.wrap (x293.snd.fst + IntKind.i64.wrap (n304 + 1)) + 1), (x293.snd.snd.fst, ()))) (w351)) (w337)) (w335)) (w333)) (w323)) (w321)) (w319)) (fun w352 =>
ld (⟨4, 0, none⟩) (fun v353 w354 =>
asI .i64 (v353) (fun n355 w356 =>
br (decide ((↑s1.size : Int) > n355)) (fun w357 =>
br (decide (IntKind.i64.wrap (x293.fst + 1) ≥ IntKind.i64.wrap (4 + (IntKind.i64.wrap (IntKind.i64.wrap (x293.snd.fst + IntKind.i64.wrap (n304 + 1)) + 1)).fdiv (2 ^ min (Int.toNat 4) IntKind.i64.bits)))) (fun w358 =>
br (decide (IntKind.i64.wrap (IntKind.i64.wrap (x293.snd.fst + IntKind.i64.wrap (n304 + 1)) + 1) < IntKind.i64.wrap (IntKind.i64.wrap ((↑s0.size : Int) - (↑s1.size : Int)) + 1))) (fun w359 =>
strSl (s0) (IntKind.i64.wrap (IntKind.i64.wrap (x293.snd.fst + IntKind.i64.wrap (n304 + 1)) + 1)) ((↑s0.size : Int)) (fun s360 w361 =>
gocall Tryz.prog (357) [(Value.string (s360)), (Value.string (s1))] (fun v362 w363 =>
asI .i64 (v362) (fun n364 w365 =>
br (decide (n364 < 0)) (fun w366 =>
K (Value.int .i64 (-1)) (w366)) (fun w367 =>
K (Value.int .i64 (IntKind.i64.wrap (IntKind.i64.wrap (IntKind.i64.wrap (x293.snd.fst + IntKind.i64.wrap (n304 + 1)) + 1) + n364))) (w367)) (w365)) (w363)) (w361)) (w359)) (fun w368 =>
rec294 (IntKind.i64.wrap (x293.fst + 1), (IntKind.i64.wrap (IntKind.i64.wrap (x293.snd.fst + IntKind.i64.wrap (n304 + 1)) + 1), (x293.snd.snd.fst, ()))) (w368)) (w358)) (fun w369 =>
rec294 (IntKind.i64.wrap (x293.fst + 1), (IntKind.i64.wrap (IntKind.i64.wrap (x293.snd.fst + IntKind.i64.wrap (n304 + 1)) + 1), (x293.snd.snd.fst, ()))) (w369)) (w357)) (fun w370 =>
rec294 (IntKind.i64.wrap (x293.fst + 1), (IntKind.i64.wrap (IntKind.i64.wrap (x293.snd.fst + IntKind.i64.wrap (n304 + 1)) + 1), (x293.snd.snd.fst, ()))) (w370)) (w356)) (w354)) (w352)) (w318)) (w316)) (w314)) (w312)) (w310)) (fun w371 =>
ld (⟨4, 0, none⟩) (fun v372 w373 =>
asI .i64 (v372) (fun n374 w375 =>
br (decide ((↑s1.size : Int) ≤ n374)) (fun w376 =>
gocall Tryz.prog (356) [(Value.int .i64 (IntKind.i64.wrap (IntKind.i64.wrap (x293.snd.fst + IntKind.i64.wrap (n304 + 1)) + 1)))] (fun v377 w378 =>
asI .i64 (v377) (fun n379 w380 =>
br (decide (IntKind.i64.wrap (x293.fst + 1) > n379)) (fun w381 =>
strSl (s0) (IntKind.i64.wrap (IntKind.i64.wrap (x293.snd.fst + IntKind.i64.wrap (n304 + 1)) + 1)) ((↑s0.size : Int)) (fun s382 w383 =>
gocall Tryz.prog (355) [(Value.string (s382)), (Value.string (s1))] (fun v384 w385 =>
asI .i64 (v384) (fun n386 w387 =>
br (decide (n386 ≥ 0)) (fun w388 =>
K (Value.int .i64 (IntKind.i64.wrap (n386 + IntKind.i64.wrap (IntKind.i64.wrap (x293.snd.fst + IntKind.i64.wrap (n304 + 1)) + 1)))) (w388)) (fun w389 =>
K (Value.int .i64 (-1)) (w389)) (w387)) (w385)) (w383)) (w381)) (fun w390 =>
ld (⟨4, 0, none⟩) (fun v391 w392 =>
asI .i64 (v391) (fun n393 w394 =>
br (decide ((↑s1.size : Int) > n393)) (fun w395 =>
br (decide (IntKind.i64.wrap (x293.fst + 1) ≥ IntKind.i64.wrap (4 + (IntKind.i64.wrap (IntKind.i64.wrap (x293.snd.fst + IntKind.i64.wrap (n304 + 1)) + 1)).fdiv (2 ^ min (Int.toNat 4) IntKind.i64.bits)))) (fun w396 =>
br (decide (IntKind.i64.wrap (IntKind.i64.wrap (x293.snd.fst + IntKind.i64.wrap (n304 + 1)) + 1) < IntKind.i64.wrap (IntKind.i64.wrap ((↑s0.size : Int) - (↑s1.size : Int)) + 1))) (fun w397 =>
strSl (s0) (IntKind.i64.wrap (IntKind.i64.wrap (x293.snd.fst + IntKind.i64.wrap (n304 + 1)) + 1)) ((↑s0.size : Int)) (fun s398 w399 =>
gocall Tryz.prog (357) [(Value.string (s398)), (Value.string (s1))] (fun v400 w401 =>
asI .i64 (v400) (fun n402 w403 =>
br (decide (n402 < 0)) (fun w404 =>
K (Value.int .i64 (-1)) (w404)) (fun w405 =>
K (Value.int .i64 (IntKind.i64.wrap (IntKind.i64.wrap (IntKind.i64.wrap (x293.snd.fst + IntKind.i64.wrap (n304 + 1)) + 1) + n402))) (w405)) (w403)) (w401)) (w399)) (w397)) (fun w406 =>
rec294 (IntKind.i64.wrap (x293.fst + 1), (IntKind.i64.wrap (IntKind.i64.wrap (x293.snd.fst + IntKind.i64.wrap (n304 + 1)) + 1), (x293.snd.snd.fst, ()))) (w406)) (w396)) (fun w407 =>
rec294 (IntKind.i64.wrap (x293.fst + 1), (IntKind.i64.wrap (IntKind.i64.wrap (x293.snd.fst + IntKind.i64.wrap (n304 + 1)) + 1), (x293.snd.snd.fst, ()))) (w407)) (w395)) (fun w408 =>
rec294 (IntKind.i64.wrap (x293.fst + 1), (IntKind.i64.wrap (IntKind.i64.wrap (x293.snd.fst + IntKind.i64.wrap (n304 + 1)) + 1), (x293.snd.snd.fst, ()))) (w408)) (w394)) (w392)) (w390)) (w380)) (w378)) (w376)) (fun w409 =>
ld (⟨4, 0, none⟩) (fun v410 w411 =>
asI .i64 (v410) (fun n412 w413 =>
br (decide ((↑s1.size : Int) > n412)) (fun w414 =>
br (decide (IntKind.i64.wrap (x293.fst + 1) ≥ IntKind.i64.wrap (4 + (IntKind.i64.wrap (IntKind.i64.wrap (x293.snd.fst + IntKind.i64.wrap (n304 + 1)) + 1)).fdiv (2 ^ min (Int.toNat 4) IntKind.i64.bits)))) (fun w415 =>
br (decide (IntKind.i64.wrap (IntKind.i64.wrap (x293.snd.fst + IntKind.i64.wrap (n304 + 1)) + 1) < IntKind.i64.wrap (IntKind.i64.wrap ((↑s0.size : Int) - (↑s1.size : Int)) + 1))) (fun w416 =>
strSl (s0) (IntKind.i64.wrap (IntKind.i64.wrap (x293.snd.fst + IntKind.i64.wrap (n304 + 1)) + 1)) ((↑s0.size : Int)) (fun s417 w418 =>
gocall Tryz.prog (357) [(Value.string (s417)), (Value.string (s1))] (fun v419 w420 =>
asI .i64 (v419) (fun n421 w422 =>
br (decide (n421 < 0)) (fun w423 =>
K (Value.int .i64 (-1)) (w423)) (fun w424 =>
K (Value.int .i64 (IntKind.i64.wrap (IntKind.i64.wrap (IntKind.i64.wrap (x293.snd.fst + IntKind.i64.wrap (n304 + 1)) + 1) + n421))) (w424)) (w422)) (w420)) (w418)) (w416)) (fun w425 =>
rec294 (IntKind.i64.wrap (x293.fst + 1), (IntKind.i64.wrap (IntKind.i64.wrap (x293.snd.fst + IntKind.i64.wrap (n304 + 1)) + 1), (x293.snd.snd.fst, ()))) (w425)) (w415)) (fun w426 =>
rec294 (IntKind.i64.wrap (x293.fst + 1), (IntKind.i64.wrap (IntKind.i64.wrap (x293.snd.fst + IntKind.i64.wrap (n304 + 1)) + 1), (x293.snd.snd.fst, ()))) (w426)) (w414)) (fun w427 =>
rec294 (IntKind.i64.wrap (x293.fst + 1), (IntKind.i64.wrap (IntKind.i64.wrap (x293.snd.fst + IntKind.i64.wrap (n304 + 1)) + 1), (x293.snd.snd.fst, ()))) (w427)) (w413)) (w411)) (w409)) (w375)) (w373)) (w371)) (w309)) (w307)) (w305)) (w303)) (w301)) (w299)) (fun w428 =>
strAt (s0) (IntKind.i64.wrap (x293.snd.fst + 1)) (fun x429 w430 =>
br ((↑x429.toNat : Int) == (↑x291.toNat : Int)) (fun w431 =>
strSl (s0) (x293.snd.fst) (IntKind.i64.wrap (x293.snd.fst + (↑s1.size : Int))) (fun s432 w433 =>
br (strEq s432 s1) (fun w434 =>
K (Value.int .i64 (x293.snd.fst)) (w434)) (fun w435 =>
ld (⟨4, 0, none⟩) (fun v436 w437 =>
asI .i64 (v436) (fun n438 w439 =>
br (decide ((↑s1.size : Int) ≤ n438)) (fun w440 =>
gocall Tryz.prog (356) [(Value.int .i64 (IntKind.i64.wrap (x293.snd.fst + 1)))] (fun v441 w442 =>
asI .i64 (v441) (fun n443 w444 =>
br (decide (IntKind.i64.wrap (x293.fst + 1) > n443)) (fun w445 =>
strSl (s0) (IntKind.i64.wrap (x293.snd.fst + 1)) ((↑s0.size : Int)) (fun s446 w447 =>
gocall Tryz.prog (355) [(Value.string (s446)), (Value.string (s1))] (fun v448 w449 =>
asI .i64 (v448) (fun n450 w451 =>
br (decide (n450 ≥ 0)) (fun w452 =>
K (Value.int .i64 (IntKind.i64.wrap (n450 + IntKind.i64.wrap (x293.snd.fst + 1)))) (w452)) (fun w453 =>
K (Value.int .i64 (-1)) (w453)) (w451)) (w449)) (w447)) (w445)) (fun w454 =>
ld (⟨4, 0, none⟩) (fun v455 w456 =>
asI .i64 (v455) (fun n457 w458 =>
br (decide ((↑s1.size : Int) > n457)) (fun w459 =>
br (decide (IntKind.i64.wrap (x293.fst + 1) ≥ IntKind.i64.wrap (4 + (IntKind.i64.wrap (x293.snd.fst + 1)).fdiv (2 ^ min (Int.toNat 4) IntKind.i64.bits)))) (fun w460 =>
br (decide (IntKind.i64.wrap (x293.snd.fst + 1) < IntKind.i64.wrap (IntKind.i64.wrap ((↑s0.size : Int) - (↑s1.size : Int)) + 1))) (fun w461 =>
strSl (s0) (IntKind.i64.wrap (x293.snd.fst + 1)) ((↑s0.size : Int)) (fun s462 w463 =>
gocall Tryz.prog (357) [(Value.string (s462)), (Value.string (s1))] (fun v464 w465 =>
asI .i64 (v464) (fun n466 w467 =>
br (decide (n466 < 0)) (fun w468 =>
K (Value.int .i64 (-1)) (w468)) (fun w469 =>
K (Value.int .i64 (IntKind.i64.wrap (IntKind.i64.wrap (x293.snd.fst + 1) + n466))) (w469)) (w467)) (w465)) (w463)) (w461)) (fun w470 =>
rec294 (IntKind.i64.wrap (x293.fst + 1), (IntKind.i64.wrap (x293.snd.fst + 1), (x293.snd.snd.fst, ()))) (w470)) (w460)) (fun w471 =>
rec294 (IntKind.i64.wrap (x293.fst + 1), (IntKind.i64.wrap (x293.snd.fst + 1), (x293.snd.snd.fst, ()))) (w471)) (w459)) (fun w472 =>
rec294 (IntKind.i64.wrap (x293.fst + 1), (IntKind.i64.wrap (x293.snd.fst + 1), (x293.snd.snd.fst, ()))) (w472)) (w458)) (w456)) (w454)) (w444)) (w442)) (w440)) (fun w473 =>
ld (⟨4, 0, none⟩) (fun v474 w475 =>
asI .i64 (v474) (fun n476 w477 =>
br (decide ((↑s1.size : Int) > n476)) (fun w478 =>
br (decide (IntKind.i64.wrap (x293.fst + 1) ≥ IntKind.i64.wrap (4 + (IntKind.i64.wrap (x293.snd.fst + 1)).fdiv (2 ^ min (Int.toNat 4) IntKind.i64.bits)))) (fun w479 =>
br (decide (IntKind.i64.wrap (x293.snd.fst + 1) < IntKind.i64.wrap (IntKind.i64.wrap ((↑s0.size : Int) - (↑s1.size : Int)) + 1))) (fun w480 =>
strSl (s0) (IntKind.i64.wrap (x293.snd.fst + 1)) ((↑s0.size : Int)) (fun s481 w482 =>
gocall Tryz.prog (357) [(Value.string (s481)), (Value.string (s1))] (fun v483 w484 =>
asI .i64 (v483) (fun n485 w486 =>
br (decide (n485 < 0)) (fun w487 =>
K (Value.int .i64 (-1)) (w487)) (fun w488 =>
K (Value.int .i64 (IntKind.i64.wrap (IntKind.i64.wrap (x293.snd.fst + 1) + n485))) (w488)) (w486)) (w484)) (w482)) (w480)) (fun w489 =>
rec294 (IntKind.i64.wrap (x293.fst + 1), (IntKind.i64.wrap (x293.snd.fst + 1), (x293.snd.snd.fst, ()))) (w489)) (w479)) (fun w490 =>
rec294 (IntKind.i64.wrap (x293.fst + 1), (IntKind.i64.wrap (x293.snd.fst + 1), (x293.snd.snd.fst, ()))) (w490)) (w478)) (fun w491 =>
rec294 (IntKind.i64.wrap (x293.fst + 1), (IntKind.i64.wrap (x293.snd.fst + 1), (x293.snd.snd.fst, ()))) (w491)) (w477)) (w475)) (w473)) (w439)) (w437)) (w435)) (w433)) (w431)) (fun w492 =>
ld (⟨4, 0, none⟩) (fun v493 w494 =>
asI .i64 (v493) (fun n495 w496 =>
br (decide ((↑s1.size : Int) ≤ n495)) (fun w497 =>
gocall Tryz.prog (356) [(Value.int .i64 (IntKind.i64.wrap (x293.snd.fst + 1)))] (fun v498 w499 =>
asI .i64 (v498) (fun n500 w501 =>
br (decide (IntKind.i64.wrap (x293.fst + 1) > n500)) (fun w502 =>
strSl (s0) (IntKind.i64.wrap (x293.snd.fst + 1)) ((↑s0.size : Int)) (fun s503 w504 =>
gocall Tryz.prog (355) [(Value.string (s503)), (Value.string (s1))] (fun v505 w506 =>
asI .i64 (v505) (fun n507 w508 =>
br (decide (n507 ≥ 0)) (fun w509 =>
K (Value.int .i64 (IntKind.i64.wrap (n507 + IntKind.i64.wrap (x293.snd.fst + 1)))) (w509)) (fun w510 =>
K (Value.int .i64 (-1)) (w510)) (w508)) (w506)) (w504)) (w502)) (fun w511 =>
ld (⟨4, 0, none⟩) (fun v512 w513 =>
asI .i64 (v512) (fun n514 w515 =>
br (decide ((↑s1.size : Int) > n514)) (fun w516 =>
br (decide (IntKind.i64.wrap (x293.fst + 1) ≥ IntKind.i64.wrap (4 + (IntKind.i64.wrap (x293.snd.fst + 1)).fdiv (2 ^ min (Int.toNat 4) IntKind.i64.bits)))) (fun w517 =>
br (decide (IntKind.i64.wrap (x293.snd.fst + 1) < IntKind.i64.wrap (IntKind.i64.wrap ((↑s0.size : Int) - (↑s1.size : Int)) + 1))) (fun w518 =>
strSl (s0) (IntKind.i64.wrap (x293.snd.fst + 1)) ((↑s0.size : Int)) (fun s519 w520 =>
gocall Tryz.prog (357) [(Value.string (s519)), (Value.string (s1))] (fun v521 w522 =>
asI .i64 (v521) (fun n523 w524 =>
br (decide (n523 < 0)) (fun w525 =>
K (Value.int .i64 (-1)) (w525)) (fun w526 =>
K (Value.int .i64 (IntKind.i64.wrap (IntKind.i64.wrap (x293.snd.fst + 1) + n523))) (w526)) (w524)) (w522)) (w520)) (w518)) (fun w527 =>
rec294 (IntKind.i64.wrap (x293.fst + 1), (IntKind.i64.wrap (x293.snd.fst + 1), (x293.snd.snd.fst, ()))) (w527)) (w517)) (fun w528 =>
rec294 (IntKind.i64.wrap (x293.fst + 1), (IntKind.i64.wrap (x293.snd.fst + 1), (x293.snd.snd.fst, ()))) (w528)) (w516)) (fun w529 =>
rec294 (IntKind.i64.wrap (x293.fst + 1), (IntKind.i64.wrap (x293.snd.fst + 1), (x293.snd.snd.fst, ()))) (w529)) (w515)) (w513)) (w511)) (w501)) (w499)) (w497)) (fun w530 =>
ld (⟨4, 0, none⟩) (fun v531 w532 =>
asI .i64 (v531) (fun n533 w534 =>
br (decide ((↑s1.size : Int) > n533)) (fun w535 =>
br (decide (IntKind.i64.wrap (x293.fst + 1) ≥ IntKind.i64.wrap (4 + (IntKind.i64.wrap (x293.snd.fst + 1)).fdiv (2 ^ min (Int.toNat 4) IntKind.i64.bits)))) (fun w536 =>
br (decide (IntKind.i64.wrap (x293.snd.fst + 1) < IntKind.i64.wrap (IntKind.i64.wrap ((↑s0.size : Int) - (↑s1.size : Int)) + 1))) (fun w537 =>
strSl (s0) (IntKind.i64.wrap (x293.snd.fst + 1)) ((↑s0.size : Int)) (fun s538 w539 =>
gocall Tryz.prog (357) [(Value.string (s538)), (Value.string (s1))] (fun v540 w541 =>
asI .i64 (v540) (fun n542 w543 =>
br (decide (n542 < 0)) (fun w544 =>
K (Value.int .i64 (-1)) (w544)) (fun w545 =>
K (Value.int .i64 (IntKind.i64.wrap (IntKind.i64.wrap (x293.snd.fst + 1) + n542))) (w545)) (w543)) (w541)) (w539)) (w537)) (fun w546 =>
rec294 (IntKind.i64.wrap (x293.fst + 1), (IntKind.i64.wrap (x293.snd.fst + 1), (x293.snd.snd.fst, ()))) (w546)) (w536)) (fun w547 =>
rec294 (IntKind.i64.wrap (x293.fst + 1), (IntKind.i64.wrap (x293.snd.fst + 1), (x293.snd.snd.fst, ()))) (w547)) (w535)) (fun w548 =>
rec294 (IntKind.i64.wrap (x293.fst + 1), (IntKind.i64.wrap (x293.snd.fst + 1), (x293.snd.snd.fst, ()))) (w548)) (w534)) (w532)) (w530)) (w496)) (w494)) (w492)) (w430)) (w428)) (w298)) (w296)) (fun w549 =>
K (Value.int .i64 (-1)) (w549)) (w295)) (w292)) (w290)) (w288)) (w19)) (w17)) (w15)) (w13)) (w5)) (w3)) (w)
theorem F339_eq (s0 : ByteArray) (s1 : ByteArray) : sBody Tryz.prog [] Tryz.f339 [(Value.string s0), (Value.string s1)] = F339 s0 s1 := by kernel_rfl
theorem F339_go (s0 : ByteArray) (s1 : ByteArray) {K : KV} {w : World} (h : F339 s0 s1 K w) : gocall Tryz.prog 339 [(Value.string s0), (Value.string s1)] K w :=
⟨by kernel_rfl, calls_of_sBody (T := []) mixed Tryz.func339 (by kernel_rfl) (by rw [F339_eq]; exact h)⟩
def F347 (a0 : Option Addr) (n0 : Nat) (c0 : Nat) (g1 : FuncId) (cap1 : Array Value) (K : KV) (w : World) : Prop :=
loop (X := (Int) × (Int) × Unit) (0, (0, ())) (fun x5 rec6 w7 =>
br (decide (x5.fst < (↑n0 : Int))) (fun w8 =>
slAt (a0) (n0) (x5.fst) (1) (fun a9 w10 =>
ld (a9) (fun v11 w12 =>
asI .i64 (v11) (fun n13 w14 =>
gocall Tryz.prog (g1) ((Value.int .i64 (n13)) :: cap1.1) (fun v15 w16 =>
asBoo (v15) (fun b17 w18 =>
br (b17) (fun w19 =>
K (Value.int .i64 (x5.fst)) (w19)) (fun w20 =>
rec6 (IntKind.i64.wrap (x5.fst + 1), (x5.snd.fst, ())) (w20)) (w18)) (w16)) (w14)) (w12)) (w10)) (w8)) (fun w21 =>
K (Value.int .i64 (-1)) (w21)) (w7)) (w)
theorem F347_eq (a0 : Option Addr) (n0 : Nat) (c0 : Nat) (g1 : FuncId) (cap1 : Array Value) : sBody Tryz.prog [] Tryz.f347 [(.slice a0 n0 c0), (Value.func (.func g1) #[] cap1)] = F347 a0 n0 c0 g1 cap1 := by kernel_rfl
theorem F347_go (a0 : Option Addr) (n0 : Nat) (c0 : Nat) (g1 : FuncId) (cap1 : Array Value) {K : KV} {w : World} (h : F347 a0 n0 c0 g1 cap1 K w) : gocall Tryz.prog 347 [(.slice a0 n0 c0), (Value.func (.func g1) #[] cap1)] K w :=
⟨by kernel_rfl, calls_of_sBody (T := []) mixed Tryz.func347 (by kernel_rfl) (by rw [F347_eq]; exact h)⟩
end Go.Proofs.YtcfmnoimehcfnaaGreatDoor
