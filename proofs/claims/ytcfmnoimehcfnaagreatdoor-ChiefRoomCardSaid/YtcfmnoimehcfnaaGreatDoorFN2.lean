/- The shallow readings of some functions of the program (printed by a program of ours out of the model's own evaluation) and, for each, the proof that it is one. Conditions: none. -/
import Derived.Test.YtcfmnoimehcfnaaGreatDoorFY
set_option maxRecDepth 100000
set_option linter.unusedVariables false
namespace Go.Proofs.YtcfmnoimehcfnaaGreatDoor
open Go Go.Sh
def F55 (p0 : Option Addr) (x1 : Int) (K : KV) : World → Prop :=
nw_ (.cells #[(I x1)] 3 (0, 0)) fun k2 =>
nw_ (.cells #[(.slice none 0 0)] 56 (0, 0)) fun k4 =>
c_ 142 [(.pointer p0)] fun v6 =>
isfn_ v6 fun b8 =>
br_ b8 (K (.slice none 0 0)) (aF v6 fun k12 x13 =>
rfn_ (fun k15 k16 f17 =>
c_ k12 ((.func (Fn.yield k16) #[] #[]) :: x13.1) fun v19 =>
rfe_ k16 f17 (rfj (lL ⟨k4, 0, none⟩ fun p26 k27 k28 =>
dfr_ k15 (K (.slice p26 k27 k28))) (dfr_ k15 (K (.slice none 0 0))) [(0, (lL ⟨k4, 0, none⟩ fun p36 k37 k38 =>
dfr_ k15 (K (.slice p36 k37 k38))))])) fun k41 f42 l43 f44 =>
aT 1 (.tuple l43.toArray) fun f46 =>
aI (f46 0) fun n48 =>
rfb_ k41 f42 (lL ⟨k4, 0, none⟩ fun p53 k54 k55 =>
lI ⟨k2, 0, none⟩ fun n59 =>
br_ (decide ((↑k54 : Int) ≥ n59)) (rfx_ k41 f42 (Code.exit 0) f44) (lL ⟨k4, 0, none⟩ fun p67 k68 k69 =>
nw_ (.cells #[(I n48)] 3 (0, 0)) fun k71 =>
bapp_ #[56, 56] 56 (.slice p67 k68 k69) (.slice (some ⟨k71, 0, none⟩) 1 1) fun v73 =>
aL v73 fun p75 k76 k77 =>
st_ ⟨k4, 0, none⟩ (.slice p75 k76 k77) (rfy_ k41 f42 f44))))
theorem F55_go {p0 x1 K w} : F55 p0 x1 K w → c_ 55 [(.pointer p0), (I x1)] K w := goT (T := [(1000013, [3])]) Tryz.func55 (by kernel_rfl)
end Go.Proofs.YtcfmnoimehcfnaaGreatDoor
