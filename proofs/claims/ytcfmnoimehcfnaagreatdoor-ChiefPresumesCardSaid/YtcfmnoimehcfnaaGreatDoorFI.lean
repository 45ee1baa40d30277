/- The shallow readings of some functions of the program (printed by a program of ours out of the model's own evaluation) and, for each, the proof that it is one. Conditions: none. -/
import Derived.Test.YtcfmnoimehcfnaaGreatDoorFS
set_option maxRecDepth 100000
set_option linter.unusedVariables false
namespace Go.Proofs.YtcfmnoimehcfnaaGreatDoor
open Go Go.Sh
def F231 (a0 : Option Addr) (n0 : Nat) (c0 : Nat) (K : KV) : World → Prop :=
nw_ (.cells #[(.slice a0 n0 c0)] 56 (0, 0)) fun k3 =>
K (.func (Fn.func 288) #[] #[(pk k3)])
theorem F231_go {a0 n0 c0 K w} : F231 a0 n0 c0 K w → c_ 231 [(.slice a0 n0 c0)] K w := goF Tryz.func231 (by kernel_rfl)
def F232 (g0 : FuncId) (cap0 : Array Value) (K : KV) : World → Prop :=
cL 289 [(.func (Fn.func g0) #[] cap0)] fun p4 k5 k6 =>
c_ 290 [(.slice p4 k5 k6)] fun v8 =>
aT 0 v8 fun f10 =>
K (.slice p4 k5 k6)
theorem F232_go {g0 cap0 K w} : F232 g0 cap0 K w → c_ 232 [(.func (.func g0) #[] cap0)] K w := goF Tryz.func232 (by kernel_rfl)
def F233 (m0 : Option Nat) (K : KV) : World → Prop :=
nw_ (.cells #[(.map m0)] 133 (0, 0)) fun k1 =>
K (.func (Fn.func 291) #[] #[(pk k1)])
theorem F233_go {m0 K w} : F233 m0 K w → c_ 233 [(.map m0)] K w := goF Tryz.func233 (by kernel_rfl)
def F288 (y0 : Nat) (r1 : Addr) (K : KV) : World → Prop :=
lL r1 fun p4 k5 k6 =>
lp_ (X := Int × Unit) (0, ()) fun x8 rec9 =>
br_ (decide (x8.fst < (↑k5 : Int))) (sa_ p4 k5 x8.fst 1 fun a12 =>
lI a12 fun n16 =>
gy_ y0 [(I n16)] fun v18 =>
aB v18 fun b20 =>
br_ (!b20) (K (.tuple #[])) (rec9 (IntKind.i64.wrap (x8.fst + 1), ()))) (K (.tuple #[]))
theorem F288_go {y0 r1 K w} : F288 y0 r1 K w → c_ 288 [(yv y0), (.pointer (some r1))] K w := goF Tryz.func288 (by kernel_rfl)
def F289 (g0 : FuncId) (cap0 : Array Value) (K : KV) : World → Prop :=
cL 310 [(.slice none 0 0), (.func (Fn.func g0) #[] cap0)] fun p4 k5 k6 =>
K (.slice p4 k5 k6)
theorem F289_go {g0 cap0 K w} : F289 g0 cap0 K w → c_ 289 [(.func (.func g0) #[] cap0)] K w := goF Tryz.func289 (by kernel_rfl)
def F291 (y0 : Nat) (r1 : Addr) (K : KV) : World → Prop :=
lM r1 fun p4 =>
mrng_ 133 (.map p4) fun v6 =>
lp_ (X := Unit) () fun x8 rec9 =>
mnxt_ v6 false 0 fun v11 =>
aB1 v11 fun b13 l14 =>
br_ b13 (mtry_ v6 fun v17 =>
aT 2 v17 fun f19 =>
aI (f19 0) fun n21 =>
gy_ y0 [(I n21)] fun v23 =>
aB v23 fun b25 =>
br_ (!b25) (K (.tuple #[])) (rec9 ())) (K (.tuple #[]))
theorem F291_go {y0 r1 K w} : F291 y0 r1 K w → c_ 291 [(yv y0), (.pointer (some r1))] K w := goF Tryz.func291 (by kernel_rfl)
def F310 (a0 : Option Addr) (n0 : Nat) (c0 : Nat) (g1 : FuncId) (cap1 : Array Value) (K : KV) : World → Prop :=
nw_ (.cells #[(.slice a0 n0 c0)] 56 (0, 0)) fun k5 =>
aF (.func (Fn.func g1) #[] cap1) fun k7 x8 =>
rfn_ (fun k10 k11 f12 =>
c_ k7 ((.func (Fn.yield k11) #[] #[]) :: x8.1) fun v14 =>
rfe_ k11 f12 (rfj (lL ⟨k5, 0, none⟩ fun p21 k22 k23 =>
dfr_ k10 (K (.slice p21 k22 k23))) (dfr_ k10 (K (.slice none 0 0))) [])) fun k28 f29 l30 f31 =>
aT 1 (.tuple l30.toArray) fun f33 =>
aI (f33 0) fun n35 =>
rfb_ k28 f29 (lL ⟨k5, 0, none⟩ fun p40 k41 k42 =>
nw_ (.cells #[(I n35)] 3 (0, 0)) fun k44 =>
bapp_ #[56, 56] 56 (.slice p40 k41 k42) (.slice (some ⟨k44, 0, none⟩) 1 1) fun v46 =>
aL v46 fun p48 k49 k50 =>
st_ ⟨k5, 0, none⟩ (.slice p48 k49 k50) (rfy_ k28 f29 f31))
theorem F310_go {a0 n0 c0 g1 cap1 K w} : F310 a0 n0 c0 g1 cap1 K w → c_ 310 [(.slice a0 n0 c0), (.func (.func g1) #[] cap1)] K w := goT (T := [(1000007, [3])]) Tryz.func310 (by kernel_rfl)
end Go.Proofs.YtcfmnoimehcfnaaGreatDoor
