/- The shallow readings of some functions of the program (printed by a program of ours out of the model's own evaluation) and, for each, the proof that it is one. Conditions: none. -/
import Derived.Test.YtcfmnoimehcfnaaGreatDoorFX
import Derived.Test.YtcfmnoimehcfnaaGreatDoorFI
set_option maxRecDepth 100000
set_option linter.unusedVariables false
namespace Go.Proofs.YtcfmnoimehcfnaaGreatDoor
open Go Go.Sh
def F79 (p0 : Option Addr) (x1 : Int) (x2 : Int) (K : KV) : World → Prop :=
br_ p0.isNone (K (.tuple #[])) (cB 91 [(.pointer p0)] fun b7 =>
br_ b7 (K (.tuple #[])) (nn_ p0 fun a11 =>
lP (a11.o 3) fun p15 =>
c_ 121 [(.pointer p15), (I x1), (I x2)] fun v17 =>
aT 0 v17 fun f19 =>
c_ 99 [(.pointer p0)] fun v21 =>
aT 0 v21 fun f23 =>
K (.tuple #[])))
theorem F79_go {p0 x1 x2 K w} : F79 p0 x1 x2 K w → c_ 79 [(.pointer p0), (I x1), (I x2)] K w := goF Tryz.func79 (by kernel_rfl)
def F80 (p0 : Option Addr) (K : KV) : World → Prop :=
nw_ (.cells #[(.pointer p0)] 28 (0, 0)) fun k1 =>
lP ⟨k1, 0, none⟩ fun p5 =>
br_ p5.isNone (K (.tuple #[])) (lP ⟨k1, 0, none⟩ fun p11 =>
cB 91 [(.pointer p11)] fun b15 =>
br_ (!b15) (K (.tuple #[])) (lP ⟨k1, 0, none⟩ fun p21 =>
nn_ p21 fun a23 =>
lP (a23.o 3) fun p27 =>
cI 123 [(.pointer p27)] fun n31 =>
lP ⟨k1, 0, none⟩ fun p35 =>
c_ 99 [(.pointer p35)] fun v37 =>
aT 0 v37 fun f39 =>
lP ⟨k1, 0, none⟩ fun p43 =>
nn_ p43 fun a45 =>
lP (a45.o 3) fun p49 =>
c_ 124 [(.pointer p49)] fun v51 =>
aF v51 fun k53 x54 =>
rfn_ (fun k56 k57 f58 =>
c_ k53 ((.func (Fn.yield k57) #[] #[]) :: x54.1) fun v60 =>
rfe_ k57 f58 (rfj (lP ⟨k1, 0, none⟩ fun p67 =>
c_ 142 [(.pointer p67)] fun v69 =>
aF v69 fun k71 x72 =>
rfn_ (fun k74 k75 f76 =>
c_ k71 ((.func (Fn.yield k75) #[] #[]) :: x72.1) fun v78 =>
rfe_ k75 f76 (rfj (dfr_ k74 (dfr_ k56 (K (.tuple #[])))) (dfr_ k74 (dfr_ k56 (K (.tuple #[])))) [])) fun k88 f89 l90 f91 =>
aT 1 (.tuple l90.toArray) fun f93 =>
aI (f93 0) fun n95 =>
rfb_ k88 f89 (lP ⟨k1, 0, none⟩ fun p100 =>
nn_ p100 fun a102 =>
lM (a102.o 5) fun p106 =>
mget_ 133 (.map p106) (I n95) false fun v108 =>
aP v108 fun p110 =>
cB 117 [(.pointer p110)] fun b114 =>
br_ (!b114) (lP ⟨k1, 0, none⟩ fun p119 =>
nn_ p119 fun a121 =>
lP (a121.o 6) fun p125 =>
cB 104 [(.pointer p125), (I n95)] fun b129 =>
nn_ p110 fun a131 =>
lB (a131.o 8) fun b135 =>
br_ b135 (cB 113 [(.pointer p110)] fun b140 =>
br_ (!b140) (drw (kps fun S143 =>
ldS_ S143 ⟨k1, 0, none⟩ fun v145 =>
aP v145 fun p147 =>
c_ 102 [(.string ({data := #[116, 117, 114, 110]})), (I n95), (.slice none 0 0)] fun v149 =>
aN 3 v149 fun f151 =>
aS (f151 0) fun s153 =>
aI (f151 1) fun n155 =>
aL (f151 2) fun p157 k158 k159 =>
kp_ S143 (nw_ (.cells #[(.string s153), (I n155), (.slice p157 k158 k159)] 139 (0, 0)) fun k162 =>
kp_ S143 (cB 103 [(.pointer p147), (.slice (some ⟨k162, 0, none⟩) 1 1)] fun b167 =>
rfy_ k88 f89 f91)))) (rfy_ k88 f89 f91)) (rfy_ k88 f89 f91)) (nn_ p110 fun a178 =>
lB (a178.o 8) fun b182 =>
br_ b182 (cB 113 [(.pointer p110)] fun b187 =>
br_ (!b187) (drw (kps fun S190 =>
ldS_ S190 ⟨k1, 0, none⟩ fun v192 =>
aP v192 fun p194 =>
c_ 102 [(.string ({data := #[116, 117, 114, 110]})), (I n95), (.slice none 0 0)] fun v196 =>
aN 3 v196 fun f198 =>
aS (f198 0) fun s200 =>
aI (f198 1) fun n202 =>
aL (f198 2) fun p204 k205 k206 =>
kp_ S190 (nw_ (.cells #[(.string s200), (I n202), (.slice p204 k205 k206)] 139 (0, 0)) fun k209 =>
kp_ S190 (cB 103 [(.pointer p194), (.slice (some ⟨k209, 0, none⟩) 1 1)] fun b214 =>
rfy_ k88 f89 f91)))) (rfy_ k88 f89 f91)) (rfy_ k88 f89 f91)))) (dfr_ k56 (K (.tuple #[]))) [])) fun k226 f227 l228 f229 =>
aT 1 (.tuple l228.toArray) fun f231 =>
aN 3 (f231 0) fun f233 =>
aS (f233 0) fun s235 =>
aI (f233 1) fun n237 =>
aL (f233 2) fun p239 k240 k241 =>
nw_ (.cells #[(.string ({data := #[]})), (I 0), (.slice none 0 0)] 139 (0, 0)) fun k243 =>
st_ ⟨k243, 0, none⟩ (.string s235) (st_ ⟨k243, 1, none⟩ (I n237) (st_ ⟨k243, 2, none⟩ (.slice p239 k240 k241) (rfb_ k226 f227 (lP ⟨k1, 0, none⟩ fun p251 =>
lT ⟨k243, 0, none⟩ fun s255 =>
lI ⟨k243, 1, none⟩ fun n259 =>
lL ⟨k243, 2, none⟩ fun p263 k264 k265 =>
c_ 166 [(.pointer p251), (.agg #[(.string s255), (I n259), (.slice p263 k264 k265)])] fun v267 =>
aT 0 v267 fun f269 =>
rfy_ k226 f227 f229))))))
theorem F80_go {p0 K w} : F80 p0 K w → c_ 80 [(.pointer p0)] K w := goT (T := [(13, [0, 1, 2, 3, 4]), (1000024, [139]), (1000030, [3])]) Tryz.func80 (by kernel_rfl)
def F142 (p0 : Option Addr) (K : KV) : World → Prop :=
br_ p0.isNone (c_ 231 [(.slice none 0 0)] K) (nn_ p0 fun a5 =>
lM (a5.o 5) fun p9 =>
c_ 233 [(.map p9)] fun v11 =>
cL 232 [v11] fun p15 k16 k17 =>
c_ 231 [(.slice p15 k16 k17)] K)
theorem F142_go {p0 K w} : F142 p0 K w → c_ 142 [(.pointer p0)] K w := goF Tryz.func142 (by kernel_rfl)
end Go.Proofs.YtcfmnoimehcfnaaGreatDoor
