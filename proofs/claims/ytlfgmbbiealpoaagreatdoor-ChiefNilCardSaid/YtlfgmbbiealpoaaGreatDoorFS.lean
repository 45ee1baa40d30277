/- The shallow readings of some functions of the program (printed by a program of ours out of the model's own evaluation) and, for each, the proof that it is one. Conditions: none. -/
import Derived.Test.YtlfgmbbiealpoaaGreatDoorSh
import Derived.Test.YtlfgmbbiealpoaaGreatDoorProg
set_option maxRecDepth 100000
set_option linter.unusedVariables false
namespace Go.Proofs.YtlfgmbbiealpoaaGreatDoor
open Go Go.Sh
theorem mixed : Tryz.prog.follows .mixedOrders = true := by kernel_rfl
abbrev I (n : Int) : Value := .int IntKind.i64 n
abbrev pk (k : Nat) : Value := .pointer (some ⟨k, 0, none⟩)
abbrev _root_.Go.Addr.o (a : Addr) (n : Nat) : Addr := ⟨a.block, a.off + n, none⟩
abbrev drw (X : World → Prop) (w : World) : Prop := X w.drew
abbrev c_ (n : Nat) (l : List Value) (K : KV) (w : World) : Prop := gocall Tryz.prog n l K w
abbrev cI (n : Nat) (l : List Value) (K : Int → World → Prop) (w : World) : Prop := gocall Tryz.prog n l (fun v w => asI .i64 v K w) w
abbrev cB (n : Nat) (l : List Value) (K : Bool → World → Prop) (w : World) : Prop := gocall Tryz.prog n l (fun v w => asBoo v K w) w
abbrev cT (n : Nat) (l : List Value) (K : ByteArray → World → Prop) (w : World) : Prop := gocall Tryz.prog n l (fun v w => asStr v K w) w
abbrev cL (n : Nat) (l : List Value) (K : Option Addr → Nat → Nat → World → Prop) (w : World) : Prop := gocall Tryz.prog n l (fun v w => asSl v K w) w
abbrev cP (n : Nat) (l : List Value) (K : Option Addr → World → Prop) (w : World) : Prop := gocall Tryz.prog n l (fun v w => asPtr v K w) w
abbrev cM (n : Nat) (l : List Value) (K : Option Nat → World → Prop) (w : World) : Prop := gocall Tryz.prog n l (fun v w => asMap v K w) w
abbrev lI (a : Addr) (K : Int → World → Prop) (w : World) : Prop := ld a (fun v w => asI .i64 v K w) w
abbrev lB (a : Addr) (K : Bool → World → Prop) (w : World) : Prop := ld a (fun v w => asBoo v K w) w
abbrev lT (a : Addr) (K : ByteArray → World → Prop) (w : World) : Prop := ld a (fun v w => asStr v K w) w
abbrev lL (a : Addr) (K : Option Addr → Nat → Nat → World → Prop) (w : World) : Prop := ld a (fun v w => asSl v K w) w
abbrev lP (a : Addr) (K : Option Addr → World → Prop) (w : World) : Prop := ld a (fun v w => asPtr v K w) w
abbrev lM (a : Addr) (K : Option Nat → World → Prop) (w : World) : Prop := ld a (fun v w => asMap v K w) w
abbrev ld_ (a : Addr) (K : KV) (w : World) : Prop := ld a K w
abbrev st_ (a : Addr) (v : Value) (K : World → Prop) (w : World) : Prop := st a v K w
abbrev nw_ (o : Obj) (K : Nat → World → Prop) (w : World) : Prop := nw o K w
abbrev getO_ (r : Nat) (K : Obj → World → Prop) (w : World) : Prop := getO r K w
abbrev setO_ (r : Nat) (o : Obj) (K : World → Prop) (w : World) : Prop := setO r o K w
abbrev chz_ (q : Question) (K : Nat → World → Prop) (w : World) : Prop := chz q K w
abbrev br_ (b : Bool) (X Y : World → Prop) (w : World) : Prop := br b X Y w
abbrev nn_ (p : Option Addr) (K : Addr → World → Prop) (w : World) : Prop := nn p K w
abbrev fls_ (_why : String) (_w : World) : Prop := fls _why _w
abbrev aI (v : Value) (K : Int → World → Prop) (w : World) : Prop := asI .i64 v K w
abbrev asK (k : IntKind) (v : Value) (K : Int → World → Prop) (w : World) : Prop := asI k v K w
abbrev aB (v : Value) (K : Bool → World → Prop) (w : World) : Prop := asBoo v K w
abbrev aS (v : Value) (K : ByteArray → World → Prop) (w : World) : Prop := asStr v K w
abbrev aL (v : Value) (K : Option Addr → Nat → Nat → World → Prop) (w : World) : Prop := asSl v K w
abbrev aP (v : Value) (K : Option Addr → World → Prop) (w : World) : Prop := asPtr v K w
abbrev aM (v : Value) (K : Option Nat → World → Prop) (w : World) : Prop := asMap v K w
abbrev isnil_ (v : Value) (K : Bool → World → Prop) (w : World) : Prop := isnil v K w
abbrev isfn_ (v : Value) (K : Bool → World → Prop) (w : World) : Prop := isfn v K w
abbrev ta_ (s : ByteArray) (i : Int) (K : UInt8 → World → Prop) (w : World) : Prop := strAt s i K w
abbrev ga_ (cs : Array Value) (n : Nat) (i : Int) (z : Nat) (K : KV) (w : World) : Prop := aggAt cs n i z K w
abbrev sa_ (base : Option Addr) (n : Nat) (i : Int) (z : Nat) (K : Addr → World → Prop) (w : World) : Prop := slAt base n i z K w
abbrev ra_ (a : Addr) (n : Nat) (i : Int) (z : Nat) (K : Addr → World → Prop) (w : World) : Prop := arAt a n i z K w
abbrev ts_ (s : ByteArray) (l h : Int) (K : ByteArray → World → Prop) (w : World) : Prop := strSl s l h K w
abbrev ss_ (a : Option Addr) (c : Nat) (l h : Int) (z : Nat) (K : Option Addr → Nat → Nat → World → Prop) (w : World) : Prop := slSl a c l h z K w
abbrev tc_ (x y : ByteArray) (K : ByteArray → World → Prop) (w : World) : Prop := strCat x y K w
abbrev divW_ (b : Int) (X : World → Prop) (w : World) : Prop := divW b X w
abbrev aN (n : Nat) (v : Value) (K : (Nat → Value) → World → Prop) (w : World) : Prop := asN n v K w
abbrev aT (n : Nat) (v : Value) (K : (Nat → Value) → World → Prop) (w : World) : Prop := asT n v K w
abbrev mget_ (t : TypeId) (m k : Value) (ok : Bool) (K : KV) (w : World) : Prop := mget .full Tryz.prog t m k ok K w
abbrev mset_ (t : TypeId) (m k v : Value) (K : World → Prop) (w : World) : Prop := mset .full Tryz.prog t m k v K w
abbrev ment_ (t : TypeId) (m k : Value) (K : KV) (w : World) : Prop := ment .full Tryz.prog t m k K w
abbrev mest_ (t : TypeId) (m s v : Value) (K : World → Prop) (w : World) : Prop := mest .full Tryz.prog t m s v K w
abbrev mrng_ (t : TypeId) (m : Value) (K : KV) (w : World) : Prop := mrng .full Tryz.prog t m K w
abbrev mnxt_ (it : Value) (s : Bool) (ty : TypeId) (K : KV) (w : World) : Prop := mnxt .full Tryz.prog it s ty K w
abbrev mtry_ (it : Value) (K : KV) (w : World) : Prop := mtry .full Tryz.prog it K w
abbrev aB1 (v : Value) (K : Bool → List Value → World → Prop) (w : World) : Prop := asB1 v K w
abbrev nif_ (v : Value) (X : World → Prop) (w : World) : Prop := nif v X w
abbrev cnv_ (s d : TypeId) (v : Value) (K : KV) (w : World) : Prop := cnv .full Tryz.prog s d v K w
abbrev mksl_ (t : TypeId) (l c : Value) (K : KV) (w : World) : Prop := mksl .full Tryz.prog t l c K w
abbrev tyas_ (x : Value) (t u : TypeId) (ok : Bool) (K : KV) (w : World) : Prop := tyas .full Tryz.prog x t u ok K w
abbrev bapp_ (ts : Array TypeId) (t : TypeId) (s x : Value) (K : KV) (w : World) : Prop := bapp .full Tryz.prog ts t s x K w
abbrev bcpy_ (ts : Array TypeId) (t : TypeId) (s x : Value) (K : KV) (w : World) : Prop := bcpy .full Tryz.prog ts t s x K w
abbrev bdel_ (ts : Array TypeId) (t : TypeId) (m k : Value) (K : KV) (w : World) : Prop := bdel .full Tryz.prog ts t m k K w
abbrev bclr_ (ts : Array TypeId) (t : TypeId) (m : Value) (K : KV) (w : World) : Prop := bclr .full Tryz.prog ts t m K w
abbrev chk_ (b : Bool) (X : World → Prop) (w : World) : Prop := chk b X w
abbrev lp_ {X : Type} (x0 : X) (body : X → (X → World → Prop) → World → Prop) (w : World) : Prop := loop x0 body w
abbrev kps (X : (World → Prop) → World → Prop) (w : World) : Prop := keeps X w
abbrev kp_ (S X : World → Prop) (w : World) : Prop := kp S X w
abbrev bo_ (X Y : World → Prop) (w : World) : Prop := both X Y w
abbrev jn_ {X : Type} (A : (X → World → Prop) → World → Prop) (B : X → World → Prop) (w : World) : Prop := join A B w
abbrev ldS_ (S : World → Prop) (a : Addr) (K : KV) (w : World) : Prop := ldS S a K w
abbrev ldN_ (a : Addr) (n : Nat) (K : List Value → World → Prop) (w : World) : Prop := ldN a n K w
abbrev stN_ (a : Addr) (n : Nat) (cs : Array Value) (K : World → Prop) (w : World) : Prop := stN a n cs K w
abbrev ivk_ (recv : Value) (name : String) (args : List Value) (K : KV) (w : World) : Prop := ivk Tryz.prog recv name args K w
abbrev gy_ (l : Nat) (args : List Value) (K : KV) (w : World) : Prop := goyield Tryz.prog l args K w
abbrev rfn_ (X : Nat → Nat → Rt → World → Prop) (Y : Nat → Rt → List Value → KV → World → Prop) (w : World) : Prop := rfn Tryz.prog X Y w
abbrev rfb_ (l : Nat) (R : Rt) (X : World → Prop) (w : World) : Prop := rfb l R X w
abbrev rfy_ (l : Nat) (R : Rt) (K' : KV) (w : World) : Prop := rfy l R K' w
abbrev rfx_ (l : Nat) (R : Rt) (j : Code) (K' : KV) (w : World) : Prop := rfx l R j K' w
abbrev rfe_ (l : Nat) (R : Rt) (J : Option Code → World → Prop) (w : World) : Prop := rfe l R J w
abbrev dfr_ (D : Nat) (X : World → Prop) (w : World) : Prop := dfr D X w
abbrev aF (v : Value) (K : FuncId → Array Value → World → Prop) (w : World) : Prop := asFn v K w
def okF (T : List (Nat × List Nat)) (fn : Func) : Bool := match fn.body with | some c => codeOk T c | none => false
theorem goT {T : List (Nat × List Nat)} {n : Nat} {fn : Func} {l : List Value} {F : KV → World → Prop} {K : KV} {w : World} (hf : Tryz.prog.funcs[n]? = some fn) (e : (isGo Tryz.prog n, okF T fn, sBody Tryz.prog T fn l) = (true, true, F)) (h : F K w) : gocall Tryz.prog n l K w := by
  obtain ⟨h1, h2⟩ := Prod.mk.inj e
  obtain ⟨h2, h3⟩ := Prod.mk.inj h2
  exact ⟨h1, calls_of_sBody mixed hf h2 (by rw [h3]; exact h)⟩
theorem goF {n : Nat} {fn : Func} {l : List Value} {F : KV → World → Prop} {K : KV} {w : World} (hf : Tryz.prog.funcs[n]? = some fn) (e : (isGo Tryz.prog n, okF [] fn, sBody Tryz.prog [] fn l) = (true, true, F)) (h : F K w) : gocall Tryz.prog n l K w := goT hf e h
def F115 (p0 : Option Addr) (x1 : Int) (K : KV) : World → Prop :=
br_ p0.isNone (K (I 0)) (nn_ p0 fun a4 =>
lL a4 fun p8 k9 k10 =>
lp_ (X := Int × Int × Unit) (0, (0, ())) fun x12 rec13 =>
br_ (decide (x12.fst < (↑k9 : Int))) (sa_ p8 k9 x12.fst 3 fun a16 =>
lI a16 fun n20 =>
lI (a16.o 1) fun n24 =>
lI (a16.o 2) fun n28 =>
nw_ (.cells #[(I 0), (I 0), (I 0)] 237 (0, 0)) fun k30 =>
st_ ⟨k30, 0, none⟩ (I n20) (st_ ⟨k30, 1, none⟩ (I n24) (st_ ⟨k30, 2, none⟩ (I n28) (lI ⟨k30, 1, none⟩ fun n37 =>
br_ (n37 == x1) (lI ⟨k30, 2, none⟩ fun n42 =>
rec13 (IntKind.i64.wrap (x12.fst + 1), (IntKind.i64.wrap (x12.snd.fst + n42), ()))) (rec13 (IntKind.i64.wrap (x12.fst + 1), (x12.snd.fst, ()))))))) (K (I x12.snd.fst)))
theorem F115_go {p0 x1 K w} : F115 p0 x1 K w → c_ 115 [(.pointer p0), (I x1)] K w := goF Tryz.func115 (by kernel_rfl)
def F92 (x0 : Int) (K : KV) : World → Prop :=
nw_ (.cells #[(I (if (if 4096 < x0 then 4096 else x0) > 1 then if 4096 < x0 then 4096 else x0 else 1)), (.slice none 0 0), (I 0), (.bool false)] 186 (0, 0)) fun k1 =>
K (pk k1)
theorem F92_go {x0 K w} : F92 x0 K w → c_ 92 [(I x0)] K w := goF Tryz.func92 (by kernel_rfl)
def F86 (x0 : Int) (x1 : Int) (x2 : Int) (x3 : Int) (x4 : Int) (a5 : Option Addr) (n5 : Nat) (c5 : Nat) (K : KV) : World → Prop :=
nw_ (.cells #[(I x0), (I x1), (I x2), (I x3), (I x4), (.slice a5 n5 c5)] 24 (0, 0)) fun k8 =>
lL ⟨k8, 5, none⟩ fun p12 k13 k14 =>
lp_ (X := Int × Bool × Unit) (0, (false, ())) fun x16 rec17 =>
br_ (decide (x16.fst < (↑k13 : Int))) (sa_ p12 k13 x16.fst 2 fun a20 =>
lI a20 fun n24 =>
lI (a20.o 1) fun n28 =>
nw_ (.cells #[(I 0), (I 0)] 42 (0, 0)) fun k30 =>
st_ ⟨k30, 0, none⟩ (I n24) (st_ ⟨k30, 1, none⟩ (I n28) (lI ⟨k30, 0, none⟩ fun n36 =>
cB 147 [(I n36), (I 4), (I 6)] fun b40 =>
br_ (!b40) (K (.bool false)) (lI ⟨k30, 1, none⟩ fun n46 =>
cB 148 [(I n46)] fun b50 =>
br_ (!b50) (K (.bool false)) (lI ⟨k8, 0, none⟩ fun n56 =>
lI ⟨k8, 1, none⟩ fun n60 =>
lI ⟨k8, 2, none⟩ fun n64 =>
lI ⟨k8, 3, none⟩ fun n68 =>
lI ⟨k8, 4, none⟩ fun n72 =>
lL ⟨k8, 5, none⟩ fun p76 k77 k78 =>
lI ⟨k30, 0, none⟩ fun n82 =>
cI 149 [(.agg #[(I n56), (I n60), (I n64), (I n68), (I n72), (.slice p76 k77 k78)]), (I n82)] fun n86 =>
br_ (n86 != x16.fst) (K (.bool false)) (rec17 (IntKind.i64.wrap (x16.fst + 1), (x16.snd.fst, ())))))))) (lL ⟨k8, 5, none⟩ fun p93 k94 k95 =>
br_ (decide ((↑k94 : Int) ≤ 3)) (lI ⟨k8, 0, none⟩ fun n100 =>
cB 147 [(I n100), (I 1), (I 999)] fun b104 =>
br_ b104 (lI ⟨k8, 1, none⟩ fun n109 =>
cB 147 [(I n109), (I 0), (I 7)] fun b113 =>
br_ b113 (lI ⟨k8, 3, none⟩ fun n118 =>
cB 147 [(I n118), (I 0), (I 7)] fun b122 =>
br_ b122 (lI ⟨k8, 2, none⟩ fun n127 =>
cB 148 [(I n127)] fun b131 =>
br_ b131 (lI ⟨k8, 4, none⟩ fun n136 =>
cB 148 [(I n136)] fun b140 =>
K (.bool b140)) (K (.bool false))) (K (.bool false))) (K (.bool false))) (K (.bool false))) (K (.bool false)))
theorem F86_go {x0 x1 x2 x3 x4 a5 n5 c5 K w} : F86 x0 x1 x2 x3 x4 a5 n5 c5 K w → c_ 86 [(.agg #[(I x0), (I x1), (I x2), (I x3), (I x4), (.slice a5 n5 c5)])] K w := goF Tryz.func86 (by kernel_rfl)
def F166 (K : KV) : World → Prop :=
nw_ (.cells #[(.slice none 0 0)] 235 (0, 0)) fun k0 =>
K (pk k0)
theorem F166_go {K w} : F166  K w → c_ 166 [] K w := goF Tryz.func166 (by kernel_rfl)
def F77 (p0 : Option Addr) (x1 : Int) (x2 : Int) (K : KV) : World → Prop :=
br_ p0.isNone (K (.tuple #[])) (nn_ p0 fun a5 =>
lB (a5.o 3) fun b9 =>
br_ b9 (K (.tuple #[])) (nn_ p0 fun a13 =>
st_ (a13.o 3) (.bool true) (drw (nn_ p0 fun a16 =>
lI (a16.o 2) fun n20 =>
nn_ p0 fun a22 =>
lL (a22.o 1) fun p26 k27 k28 =>
nn_ p0 fun a30 =>
lI (a30.o 2) fun n34 =>
nn_ p0 fun a36 =>
lL (a36.o 1) fun p40 k41 k42 =>
br_ (IntKind.i64.wrap (n20 + if (if IntKind.i64.wrap ((↑k27 : Int) - n34) < x1 then IntKind.i64.wrap ((↑k27 : Int) - n34) else x1) > 0 then if IntKind.i64.wrap ((↑k27 : Int) - n34) < x1 then IntKind.i64.wrap ((↑k27 : Int) - n34) else x1 else 0) == (↑k41 : Int)) (K (.tuple #[])) (nn_ p0 fun a46 =>
lL (a46.o 1) fun p50 k51 k52 =>
sa_ p50 k51 (IntKind.i64.wrap (n20 + if (if IntKind.i64.wrap ((↑k27 : Int) - n34) < x1 then IntKind.i64.wrap ((↑k27 : Int) - n34) else x1) > 0 then if IntKind.i64.wrap ((↑k27 : Int) - n34) < x1 then IntKind.i64.wrap ((↑k27 : Int) - n34) else x1 else 0)) 1 fun a54 =>
lT a54 fun s58 =>
cT 139 [(.string s58), (I x2)] fun s62 =>
nn_ p0 fun a64 =>
lL (a64.o 1) fun p68 k69 k70 =>
ss_ p68 k70 0 (IntKind.i64.wrap (n20 + if (if IntKind.i64.wrap ((↑k27 : Int) - n34) < x1 then IntKind.i64.wrap ((↑k27 : Int) - n34) else x1) > 0 then if IntKind.i64.wrap ((↑k27 : Int) - n34) < x1 then IntKind.i64.wrap ((↑k27 : Int) - n34) else x1 else 0)) 1 fun p72 k73 k74 =>
nn_ p0 fun a76 =>
st_ (a76.o 1) (.slice p72 k73 k74) (br_ (!strEq s62 {data := #[]}) (nn_ p0 fun a80 =>
lL (a80.o 1) fun p84 k85 k86 =>
nw_ (.cells #[(.string s62)] 9 (0, 0)) fun k88 =>
bapp_ #[99, 99] 99 (.slice p84 k85 k86) (.slice (some ⟨k88, 0, none⟩) 1 1) fun v90 =>
aL v90 fun p92 k93 k94 =>
nn_ p0 fun a96 =>
st_ (a96.o 1) (.slice p92 k93 k94) (K (.tuple #[]))) (K (.tuple #[]))))))))
theorem F77_go {p0 x1 x2 K w} : F77 p0 x1 x2 K w → c_ 77 [(.pointer p0), (I x1), (I x2)] K w := goF Tryz.func77 (by kernel_rfl)
def F79 (p0 : Option Addr) (K : KV) : World → Prop :=
br_ p0.isNone (K (I 0)) (nn_ p0 fun a3 =>
lB (a3.o 3) fun b7 =>
br_ (!b7) (K (I 0)) (nw_ (.cells #[(I 0)] 3 (0, 0)) fun k11 =>
st_ ⟨k11, 0, none⟩ (I 0) (c_ 80 [(.pointer p0)] fun v14 =>
aF v14 fun k16 x17 =>
rfn_ (fun k19 k20 f21 =>
c_ k16 ((.func (Fn.yield k20) #[] #[]) :: x17.1) fun v23 =>
rfe_ k20 f21 (rfj (drw (nn_ p0 fun a28 =>
lL (a28.o 1) fun p32 k33 k34 =>
lI ⟨k11, 0, none⟩ fun n38 =>
drw (kps fun S40 =>
nn_ p0 fun a42 =>
lL (a42.o 1) fun p46 k47 k48 =>
lI ⟨k11, 0, none⟩ fun n52 =>
ss_ p46 k48 0 n52 1 fun p54 k55 k56 =>
ldS_ S40 ⟨k11, 0, none⟩ fun v58 =>
aI v58 fun n60 =>
nn_ p0 fun a62 =>
st_ (a62.o 1) (.slice p54 k55 k56) (kp_ S40 (nn_ p0 fun a66 =>
st_ (a66.o 2) (I n60) (kp_ S40 (nn_ p0 fun a70 =>
st_ (a70.o 3) (.bool false) (dfr_ k19 (K (I (IntKind.i64.wrap ((↑k33 : Int) - n38)))))))))))) (dfr_ k19 (K (I 0))) [])) fun k76 f77 l78 f79 =>
aT 1 (.tuple l78.toArray) fun f81 =>
aN 3 (f81 0) fun f83 =>
aS (f83 0) fun s85 =>
aI (f83 1) fun n87 =>
aL (f83 2) fun p89 k90 k91 =>
rfb_ k76 f77 (lI ⟨k11, 0, none⟩ fun n96 =>
st_ ⟨k11, 0, none⟩ (I (IntKind.i64.wrap (n96 + 1))) (rfy_ k76 f77 f79)))))
theorem F79_go {p0 K w} : F79 p0 K w → c_ 79 [(.pointer p0)] K w := goT (T := [(7, [0, 1, 2, 3, 4, 5, 6, 7, 8, 9, 10, 11, 12, 13, 14, 15, 16, 17, 18]), (1000016, [130])]) Tryz.func79 (by kernel_rfl)
def F80 (p0 : Option Addr) (K : KV) : World → Prop :=
nw_ (.cells #[(.pointer p0)] 119 (0, 0)) fun k1 =>
K (.func (Fn.func 141) #[] #[(pk k1)])
theorem F80_go {p0 K w} : F80 p0 K w → c_ 80 [(.pointer p0)] K w := goF Tryz.func80 (by kernel_rfl)
def F91 (p0 : Option Addr) (K : KV) : World → Prop :=
br_ p0.isSome (nn_ p0 fun a2 =>
lB (a2.o 3) fun b6 =>
K (.bool b6)) (K (.bool false))
theorem F91_go {p0 K w} : F91 p0 K w → c_ 91 [(.pointer p0)] K w := goF Tryz.func91 (by kernel_rfl)
def F147 (x0 : Int) (x1 : Int) (x2 : Int) (K : KV) : World → Prop :=
br_ (decide (x0 ≥ x1)) (K (.bool (decide (x0 ≤ x2)))) (K (.bool false))
theorem F147_go {x0 x1 x2 K w} : F147 x0 x1 x2 K w → c_ 147 [(I x0), (I x1), (I x2)] K w := goF Tryz.func147 (by kernel_rfl)
def F148 (x0 : Int) (K : KV) : World → Prop :=
br_ (decide (x0 > 0)) (cB 204 [(I x0)] fun b4 =>
K (.bool b4)) (K (.bool false))
theorem F148_go {x0 K w} : F148 x0 K w → c_ 148 [(I x0)] K w := goF Tryz.func148 (by kernel_rfl)
def F149 (x0 : Int) (x1 : Int) (x2 : Int) (x3 : Int) (x4 : Int) (a5 : Option Addr) (n5 : Nat) (c5 : Nat) (x6 : Int) (K : KV) : World → Prop :=
nw_ (.cells #[(I x0), (I x1), (I x2), (I x3), (I x4), (.slice a5 n5 c5)] 24 (0, 0)) fun k9 =>
nw_ (.cells #[(I x6)] 3 (0, 0)) fun k11 =>
lL ⟨k9, 5, none⟩ fun p15 k16 k17 =>
cI 205 [(.slice p15 k16 k17), (.func (Fn.func 206) #[] #[(pk k11)])] fun n21 =>
K (I n21)
theorem F149_go {x0 x1 x2 x3 x4 a5 n5 c5 x6 K w} : F149 x0 x1 x2 x3 x4 a5 n5 c5 x6 K w → c_ 149 [(.agg #[(I x0), (I x1), (I x2), (I x3), (I x4), (.slice a5 n5 c5)]), (I x6)] K w := goF Tryz.func149 (by kernel_rfl)
def F146 (p0 : Option Addr) (K : KV) : World → Prop :=
br_ p0.isNone (K (I 1)) (nn_ p0 fun a3 =>
lB (a3.o 3) fun b7 =>
br_ b7 (K (I 10)) (nn_ p0 fun a11 =>
lL (a11.o 1) fun p15 k16 k17 =>
nn_ p0 fun a19 =>
st_ (a19.o 2) (I (↑k16 : Int)) (K (I 0))))
theorem F146_go {p0 K w} : F146 p0 K w → c_ 146 [(.pointer p0)] K w := goF Tryz.func146 (by kernel_rfl)
def F136 (p0 : Option Addr) (s1 : ByteArray) (x2 : Int) (a3 : Option Addr) (n3 : Nat) (c3 : Nat) (K : KV) : World → Prop :=
nw_ (.cells #[(.string s1), (I x2), (.slice a3 n3 c3)] 130 (0, 0)) fun k6 =>
br_ p0.isNone (K (I 1)) (nn_ p0 fun a10 =>
lB (a10.o 3) fun b14 =>
br_ b14 (K (I 10)) (lT ⟨k6, 0, none⟩ fun s20 =>
lI ⟨k6, 1, none⟩ fun n24 =>
lL ⟨k6, 2, none⟩ fun p28 k29 k30 =>
c_ 191 [(.agg #[(.string s20), (I n24), (.slice p28 k29 k30)])] fun v32 =>
aT 2 v32 fun f34 =>
aS (f34 0) fun s36 =>
aI (f34 1) fun n38 =>
br_ (n38 != 0) (K (I n38)) (drw (nn_ p0 fun a42 =>
lL (a42.o 1) fun p46 k47 k48 =>
nn_ p0 fun a50 =>
lI a50 fun n54 =>
br_ (decide ((↑k47 : Int) ≥ n54)) (K (I 5)) (nn_ p0 fun a58 =>
lL (a58.o 1) fun p62 k63 k64 =>
nw_ (.cells #[(.string s36)] 9 (0, 0)) fun k66 =>
bapp_ #[99, 99] 99 (.slice p62 k63 k64) (.slice (some ⟨k66, 0, none⟩) 1 1) fun v68 =>
aL v68 fun p70 k71 k72 =>
nn_ p0 fun a74 =>
st_ (a74.o 1) (.slice p70 k71 k72) (K (I 0)))))))
theorem F136_go {p0 s1 x2 a3 n3 c3 K w} : F136 p0 s1 x2 a3 n3 c3 K w → c_ 136 [(.pointer p0), (.agg #[(.string s1), (I x2), (.slice a3 n3 c3)])] K w := goF Tryz.func136 (by kernel_rfl)
def F139 (s0 : ByteArray) (x1 : Int) (K : KV) : World → Prop :=
ts_ s0 0 (if (if IntKind.i64.wrap ((↑s0.size : Int) - 1) < x1 then IntKind.i64.wrap ((↑s0.size : Int) - 1) else x1) > 0 then if IntKind.i64.wrap ((↑s0.size : Int) - 1) < x1 then IntKind.i64.wrap ((↑s0.size : Int) - 1) else x1 else 0) fun s2 =>
K (.string s2)
theorem F139_go {s0 x1 K w} : F139 s0 x1 K w → c_ 139 [(.string s0), (I x1)] K w := goF Tryz.func139 (by kernel_rfl)
def F141 (y0 : Nat) (r1 : Addr) (K : KV) : World → Prop :=
lP r1 fun p4 =>
cL 142 [(.pointer p4)] fun p8 k9 k10 =>
lp_ (X := Int × Unit) (0, ()) fun x12 rec13 =>
br_ (decide (x12.fst < (↑k9 : Int))) (sa_ p8 k9 x12.fst 1 fun a16 =>
lT a16 fun s20 =>
c_ 143 [(.string s20)] fun v22 =>
aT 2 v22 fun f24 =>
aN 3 (f24 0) fun f26 =>
aS (f26 0) fun s28 =>
aI (f26 1) fun n30 =>
aL (f26 2) fun p32 k33 k34 =>
aI (f24 1) fun n36 =>
nw_ (.cells #[(.string ({data := #[]})), (I 0), (.slice none 0 0)] 130 (0, 0)) fun k38 =>
st_ ⟨k38, 0, none⟩ (.string s28) (st_ ⟨k38, 1, none⟩ (I n30) (st_ ⟨k38, 2, none⟩ (.slice p32 k33 k34) (br_ (n36 != 0) (K (.tuple #[])) (lT ⟨k38, 0, none⟩ fun s47 =>
lI ⟨k38, 1, none⟩ fun n51 =>
lL ⟨k38, 2, none⟩ fun p55 k56 k57 =>
gy_ y0 [(.agg #[(.string s47), (I n51), (.slice p55 k56 k57)])] fun v59 =>
aB v59 fun b61 =>
br_ (!b61) (K (.tuple #[])) (rec13 (IntKind.i64.wrap (x12.fst + 1), ()))))))) (K (.tuple #[]))
theorem F141_go {y0 r1 K w} : F141 y0 r1 K w → c_ 141 [(yv y0), (.pointer (some r1))] K w := goF Tryz.func141 (by kernel_rfl)
def F142 (p0 : Option Addr) (K : KV) : World → Prop :=
br_ p0.isNone (K (.slice none 0 0)) (nn_ p0 fun a3 =>
lL (a3.o 1) fun p7 k8 k9 =>
cL 198 [(.slice p7 k8 k9)] fun p13 k14 k15 =>
K (.slice p13 k14 k15))
theorem F142_go {p0 K w} : F142 p0 K w → c_ 142 [(.pointer p0)] K w := goF Tryz.func142 (by kernel_rfl)
def F143 (s0 : ByteArray) (K : KV) : World → Prop :=
nw_ (.cells #[(.string ({data := #[]})), (I 0), (.slice none 0 0)] 130 (0, 0)) fun k1 =>
br_ (decide ((↑s0.size : Int) > 80)) (st_ ⟨k1, 0, none⟩ (.string ({data := #[]})) (st_ ⟨k1, 1, none⟩ (I 0) (st_ ⟨k1, 2, none⟩ (.slice none 0 0) (lT ⟨k1, 0, none⟩ fun s9 =>
lI ⟨k1, 1, none⟩ fun n13 =>
lL ⟨k1, 2, none⟩ fun p17 k18 k19 =>
K (.tuple #[(.agg #[(.string s9), (I n13), (.slice p17 k18 k19)]), (I 2)]))))) (c_ 199 [(.string s0)] fun v22 =>
aT 2 v22 fun f24 =>
aS (f24 0) fun s26 =>
aB (f24 1) fun b28 =>
br_ (!b28) (st_ ⟨k1, 0, none⟩ (.string ({data := #[]})) (st_ ⟨k1, 1, none⟩ (I 0) (st_ ⟨k1, 2, none⟩ (.slice none 0 0) (lT ⟨k1, 0, none⟩ fun s36 =>
lI ⟨k1, 1, none⟩ fun n40 =>
lL ⟨k1, 2, none⟩ fun p44 k45 k46 =>
K (.tuple #[(.agg #[(.string s36), (I n40), (.slice p44 k45 k46)]), (I 3)]))))) (nw_ (.cells #[(.string ({data := #[]})), (I 0), (.slice none 0 0)] 130 (0, 0)) fun k49 =>
nw_ (.cells #[(I 0)] 3 (0, 0)) fun k51 =>
st_ ⟨k51, 0, none⟩ (I 0) (c_ 200 [(.string s26), (.string ({data := #[32]}))] fun v54 =>
aF v54 fun k56 x57 =>
rfn_ (fun k59 k60 f61 =>
c_ k56 ((.func (Fn.yield k60) #[] #[]) :: x57.1) fun v63 =>
rfe_ k60 f61 (rfj (lI ⟨k51, 0, none⟩ fun n70 =>
br_ (decide (n70 < 2)) (st_ ⟨k1, 0, none⟩ (.string ({data := #[]})) (st_ ⟨k1, 1, none⟩ (I 0) (st_ ⟨k1, 2, none⟩ (.slice none 0 0) (dfr_ k59 (lT ⟨k1, 0, none⟩ fun s79 =>
lI ⟨k1, 1, none⟩ fun n83 =>
lL ⟨k1, 2, none⟩ fun p87 k88 k89 =>
K (.tuple #[(.agg #[(.string s79), (I n83), (.slice p87 k88 k89)]), (I 2)])))))) (lT ⟨k49, 0, none⟩ fun s94 =>
lI ⟨k49, 1, none⟩ fun n98 =>
lL ⟨k49, 2, none⟩ fun p102 k103 k104 =>
cB 202 [(.agg #[(.string s94), (I n98), (.slice p102 k103 k104)])] fun b108 =>
br_ (!b108) (st_ ⟨k1, 0, none⟩ (.string ({data := #[]})) (st_ ⟨k1, 1, none⟩ (I 0) (st_ ⟨k1, 2, none⟩ (.slice none 0 0) (dfr_ k59 (lT ⟨k1, 0, none⟩ fun s117 =>
lI ⟨k1, 1, none⟩ fun n121 =>
lL ⟨k1, 2, none⟩ fun p125 k126 k127 =>
K (.tuple #[(.agg #[(.string s117), (I n121), (.slice p125 k126 k127)]), (I 2)])))))) (lT ⟨k49, 0, none⟩ fun s132 =>
lI ⟨k49, 1, none⟩ fun n136 =>
lL ⟨k49, 2, none⟩ fun p140 k141 k142 =>
st_ ⟨k1, 0, none⟩ (.string s132) (st_ ⟨k1, 1, none⟩ (I n136) (st_ ⟨k1, 2, none⟩ (.slice p140 k141 k142) (dfr_ k59 (lT ⟨k1, 0, none⟩ fun s150 =>
lI ⟨k1, 1, none⟩ fun n154 =>
lL ⟨k1, 2, none⟩ fun p158 k159 k160 =>
K (.tuple #[(.agg #[(.string s150), (I n154), (.slice p158 k159 k160)]), (I 0)])))))))) (dfr_ k59 (lT ⟨k1, 0, none⟩ fun s166 =>
lI ⟨k1, 1, none⟩ fun n170 =>
lL ⟨k1, 2, none⟩ fun p174 k175 k176 =>
K (.tuple #[(.agg #[(.string s166), (I n170), (.slice p174 k175 k176)]), (I 0)]))) [(0, (lI ⟨k51, 0, none⟩ fun n181 =>
br_ (decide (n181 < 2)) (st_ ⟨k1, 0, none⟩ (.string ({data := #[]})) (st_ ⟨k1, 1, none⟩ (I 0) (st_ ⟨k1, 2, none⟩ (.slice none 0 0) (dfr_ k59 (lT ⟨k1, 0, none⟩ fun s190 =>
lI ⟨k1, 1, none⟩ fun n194 =>
lL ⟨k1, 2, none⟩ fun p198 k199 k200 =>
K (.tuple #[(.agg #[(.string s190), (I n194), (.slice p198 k199 k200)]), (I 2)])))))) (lT ⟨k49, 0, none⟩ fun s205 =>
lI ⟨k49, 1, none⟩ fun n209 =>
lL ⟨k49, 2, none⟩ fun p213 k214 k215 =>
cB 202 [(.agg #[(.string s205), (I n209), (.slice p213 k214 k215)])] fun b219 =>
br_ (!b219) (st_ ⟨k1, 0, none⟩ (.string ({data := #[]})) (st_ ⟨k1, 1, none⟩ (I 0) (st_ ⟨k1, 2, none⟩ (.slice none 0 0) (dfr_ k59 (lT ⟨k1, 0, none⟩ fun s228 =>
lI ⟨k1, 1, none⟩ fun n232 =>
lL ⟨k1, 2, none⟩ fun p236 k237 k238 =>
K (.tuple #[(.agg #[(.string s228), (I n232), (.slice p236 k237 k238)]), (I 2)])))))) (lT ⟨k49, 0, none⟩ fun s243 =>
lI ⟨k49, 1, none⟩ fun n247 =>
lL ⟨k49, 2, none⟩ fun p251 k252 k253 =>
st_ ⟨k1, 0, none⟩ (.string s243) (st_ ⟨k1, 1, none⟩ (I n247) (st_ ⟨k1, 2, none⟩ (.slice p251 k252 k253) (dfr_ k59 (lT ⟨k1, 0, none⟩ fun s261 =>
lI ⟨k1, 1, none⟩ fun n265 =>
lL ⟨k1, 2, none⟩ fun p269 k270 k271 =>
K (.tuple #[(.agg #[(.string s261), (I n265), (.slice p269 k270 k271)]), (I 0)])))))))))])) fun k273 f274 l275 f276 =>
aT 1 (.tuple l275.toArray) fun f278 =>
aS (f278 0) fun s280 =>
rfb_ k273 f274 (lI ⟨k51, 0, none⟩ fun n285 =>
br_ (n285 == 0) (st_ ⟨k49, 0, none⟩ (.string s280) (lI ⟨k51, 0, none⟩ fun n291 =>
st_ ⟨k51, 0, none⟩ (I (IntKind.i64.wrap (n291 + 1))) (rfy_ k273 f274 f276))) (c_ 201 [(.string s280)] fun v297 =>
aT 2 v297 fun f299 =>
aI (f299 0) fun n301 =>
isnil_ (f299 1) fun b303 =>
br_ (!b303) (st_ ⟨k51, 0, none⟩ (I 0) (rfx_ k273 f274 (Code.exit 0) f276)) (cT 59 [(I n301)] fun s312 =>
br_ (!strEq s312 s280) (st_ ⟨k51, 0, none⟩ (I 0) (rfx_ k273 f274 (Code.exit 0) f276)) (lI ⟨k51, 0, none⟩ fun n321 =>
br_ (n321 == 1) (st_ ⟨k49, 1, none⟩ (I n301) (lI ⟨k51, 0, none⟩ fun n327 =>
st_ ⟨k51, 0, none⟩ (I (IntKind.i64.wrap (n327 + 1))) (rfy_ k273 f274 f276))) (lL ⟨k49, 2, none⟩ fun p335 k336 k337 =>
nw_ (.cells #[(I n301)] 3 (0, 0)) fun k339 =>
bapp_ #[30, 30] 30 (.slice p335 k336 k337) (.slice (some ⟨k339, 0, none⟩) 1 1) fun v341 =>
aL v341 fun p343 k344 k345 =>
st_ ⟨k49, 2, none⟩ (.slice p343 k344 k345) (lI ⟨k51, 0, none⟩ fun n350 =>
st_ ⟨k51, 0, none⟩ (I (IntKind.i64.wrap (n350 + 1))) (rfy_ k273 f274 f276))))))))))
theorem F143_go {s0 K w} : F143 s0 K w → c_ 143 [(.string s0)] K w := goT (T := [(1000025, [9])]) Tryz.func143 (by kernel_rfl)
def F337 (p0 : Option Addr) (x1 : Int) (x2 : Int) (x3 : Int) (K : KV) : World → Prop :=
br_ p0.isNone (K (I 1)) (br_ (decide (x1 < 1)) (K (I 1)) (br_ (decide (x1 > 999)) (K (I 1)) (br_ (decide (x2 < 0)) (K (I 1)) (br_ (decide (x2 ≥ 8)) (K (I 1)) (br_ (x3 == 0) (K (I 1)) (cB 204 [(I x3)] fun b18 =>
br_ (!b18) (K (I 1)) (cI 221 [(.pointer p0), (I x1)] fun n24 =>
br_ (decide (n24 ≥ 0)) (K (I 8)) (nn_ p0 fun a28 =>
lL a28 fun p32 k33 k34 =>
nw_ (.cells #[(I x1), (I x2), (I x3)] 237 (0, 0)) fun k36 =>
bapp_ #[233, 233] 233 (.slice p32 k33 k34) (.slice (some ⟨k36, 0, none⟩) 1 1) fun v38 =>
aL v38 fun p40 k41 k42 =>
nn_ p0 fun a44 =>
st_ a44 (.slice p40 k41 k42) (K (I 0))))))))))
theorem F337_go {p0 x1 x2 x3 K w} : F337 p0 x1 x2 x3 K w → c_ 337 [(.pointer p0), (I x1), (I x2), (I x3)] K w := goF Tryz.func337 (by kernel_rfl)
def F175 (p0 : Option Addr) (x1 : Int) (K : KV) : World → Prop :=
br_ p0.isNone (K (.tuple #[(I 0), (I 0), (.bool false)])) (cI 221 [(.pointer p0), (I x1)] fun n6 =>
br_ (decide (n6 < 0)) (K (.tuple #[(I 0), (I 0), (.bool false)])) (drw (nn_ p0 fun a10 =>
lL a10 fun p14 k15 k16 =>
sa_ p14 k15 n6 3 fun a18 =>
lI (a18.o 1) fun n22 =>
nn_ p0 fun a24 =>
lL a24 fun p28 k29 k30 =>
sa_ p28 k29 n6 3 fun a32 =>
lI (a32.o 2) fun n36 =>
K (.tuple #[(I n22), (I n36), (.bool true)]))))
theorem F175_go {p0 x1 K w} : F175 p0 x1 K w → c_ 175 [(.pointer p0), (I x1)] K w := goF Tryz.func175 (by kernel_rfl)
def F204 (x0 : Int) (K : KV) : World → Prop :=
br_ (decide (x0 ≥ 0)) (K (.bool (decide (x0 ≤ 1000000000)))) (K (.bool false))
theorem F204_go {x0 K w} : F204 x0 K w → c_ 204 [(I x0)] K w := goF Tryz.func204 (by kernel_rfl)
def F205 (a0 : Option Addr) (n0 : Nat) (c0 : Nat) (g1 : FuncId) (cap1 : Array Value) (K : KV) : World → Prop :=
lp_ (X := Int × Int × Unit) (0, (0, ())) fun x5 rec6 =>
br_ (decide (x5.fst < (↑n0 : Int))) (sa_ a0 n0 x5.fst 2 fun a9 =>
lI a9 fun n13 =>
lI (a9.o 1) fun n17 =>
cB g1 ((.agg #[(I n13), (I n17)]) :: cap1.1) fun b21 =>
br_ b21 (K (I x5.fst)) (rec6 (IntKind.i64.wrap (x5.fst + 1), (x5.snd.fst, ())))) (K (I (-1)))
theorem F205_go {a0 n0 c0 g1 cap1 K w} : F205 a0 n0 c0 g1 cap1 K w → c_ 205 [(.slice a0 n0 c0), (.func (.func g1) #[] cap1)] K w := goF Tryz.func205 (by kernel_rfl)
def F206 (x0 : Int) (x1 : Int) (r2 : Addr) (K : KV) : World → Prop :=
nw_ (.cells #[(I x0), (I x1)] 42 (0, 0)) fun k3 =>
lI ⟨k3, 0, none⟩ fun n7 =>
lI r2 fun n11 =>
K (.bool (n7 == n11))
theorem F206_go {x0 x1 r2 K w} : F206 x0 x1 r2 K w → c_ 206 [(.agg #[(I x0), (I x1)]), (.pointer (some r2))] K w := goF Tryz.func206 (by kernel_rfl)
def F191 (s0 : ByteArray) (x1 : Int) (a2 : Option Addr) (n2 : Nat) (c2 : Nat) (K : KV) : World → Prop :=
nw_ (.cells #[(.string s0), (I x1), (.slice a2 n2 c2)] 130 (0, 0)) fun k5 =>
lT ⟨k5, 0, none⟩ fun s9 =>
lI ⟨k5, 1, none⟩ fun n13 =>
lL ⟨k5, 2, none⟩ fun p17 k18 k19 =>
cB 202 [(.agg #[(.string s9), (I n13), (.slice p17 k18 k19)])] fun b23 =>
br_ (!b23) (K (.tuple #[(.string ({data := #[]})), (I 1)])) (lT ⟨k5, 0, none⟩ fun s29 =>
lI ⟨k5, 1, none⟩ fun n33 =>
nw_ (.cells #[(I n33)] 3 (0, 0)) fun k35 =>
lL ⟨k5, 2, none⟩ fun p39 k40 k41 =>
bapp_ #[30, 30] 30 (.slice (some ⟨k35, 0, none⟩) 1 1) (.slice p39 k40 k41) fun v43 =>
aL v43 fun p45 k46 k47 =>
lp_ (X := Int × ByteArray × Unit) (0, (s29, ())) fun x49 rec50 =>
br_ (decide (x49.fst < (↑k46 : Int))) (sa_ p45 k46 x49.fst 1 fun a53 =>
lI a53 fun n57 =>
cT 59 [(I n57)] fun s61 =>
tc_ ({data := #[32]}) s61 fun s63 =>
tc_ x49.snd.fst s63 fun s65 =>
rec50 (IntKind.i64.wrap (x49.fst + 1), (s65, ()))) (cT 234 [(.string x49.snd.fst)] fun s70 =>
K (.tuple #[(.string s70), (I 0)])))
theorem F191_go {s0 x1 a2 n2 c2 K w} : F191 s0 x1 a2 n2 c2 K w → c_ 191 [(.agg #[(.string s0), (I x1), (.slice a2 n2 c2)])] K w := goF Tryz.func191 (by kernel_rfl)
def F198 (a0 : Option Addr) (n0 : Nat) (c0 : Nat) (K : KV) : World → Prop :=
br_ a0.isNone (K (.slice none 0 0)) (nw_ (.cells #[] 9 (0, 0)) fun k5 =>
bapp_ #[99, 99] 99 (.slice (some ⟨k5, 0, none⟩) 0 0) (.slice a0 n0 c0) fun v7 =>
aL v7 fun p9 k10 k11 =>
K (.slice p9 k10 k11))
theorem F198_go {a0 n0 c0 K w} : F198 a0 n0 c0 K w → c_ 198 [(.slice a0 n0 c0)] K w := goF Tryz.func198 (by kernel_rfl)
def F199 (s0 : ByteArray) (K : KV) : World → Prop :=
br_ (decide (IntKind.i64.wrap ((↑s0.size : Int) - 3) < 0)) (K (.tuple #[(.string ({data := #[]})), (.bool false)])) (ts_ s0 0 (IntKind.i64.wrap ((↑s0.size : Int) - 3)) fun s3 =>
cT 234 [(.string s3)] fun s7 =>
br_ (!strEq s7 s0) (K (.tuple #[(.string ({data := #[]})), (.bool false)])) (ts_ s0 0 (IntKind.i64.wrap ((↑s0.size : Int) - 3)) fun s11 =>
K (.tuple #[(.string s11), (.bool true)])))
theorem F199_go {s0 K w} : F199 s0 K w → c_ 199 [(.string s0)] K w := goF Tryz.func199 (by kernel_rfl)
def F200 (s0 : ByteArray) (s1 : ByteArray) (K : KV) : World → Prop :=
c_ 236 [(.string s0), (.string s1), (I 0)] K
theorem F200_go {s0 s1 K w} : F200 s0 s1 K w → c_ 200 [(.string s0), (.string s1)] K w := goF Tryz.func200 (by kernel_rfl)
def F202 (s0 : ByteArray) (x1 : Int) (a2 : Option Addr) (n2 : Nat) (c2 : Nat) (K : KV) : World → Prop :=
nw_ (.cells #[(.string s0), (I x1), (.slice a2 n2 c2)] 130 (0, 0)) fun k5 =>
lT ⟨k5, 0, none⟩ fun s9 =>
cB 239 [(.string s9)] fun b13 =>
br_ b13 (lI ⟨k5, 1, none⟩ fun n18 =>
br_ (decide (n18 ≥ 0)) (lI ⟨k5, 1, none⟩ fun n23 =>
br_ (decide (n23 ≤ 999)) (lL ⟨k5, 2, none⟩ fun p28 k29 k30 =>
cB 240 [(.slice p28 k29 k30)] fun b34 =>
K (.bool b34)) (K (.bool false))) (K (.bool false))) (K (.bool false))
theorem F202_go {s0 x1 a2 n2 c2 K w} : F202 s0 x1 a2 n2 c2 K w → c_ 202 [(.agg #[(.string s0), (I x1), (.slice a2 n2 c2)])] K w := goF Tryz.func202 (by kernel_rfl)
def F221 (p0 : Option Addr) (x1 : Int) (K : KV) : World → Prop :=
nw_ (.cells #[(I x1)] 3 (0, 0)) fun k2 =>
nn_ p0 fun a4 =>
lL a4 fun p8 k9 k10 =>
cI 245 [(.slice p8 k9 k10), (.func (Fn.func 246) #[] #[(pk k2)])] fun n14 =>
K (I n14)
theorem F221_go {p0 x1 K w} : F221 p0 x1 K w → c_ 221 [(.pointer p0), (I x1)] K w := goF Tryz.func221 (by kernel_rfl)
def F234 (s0 : ByteArray) (K : KV) : World → Prop :=
tc_ s0 ({data := #[124]}) fun s1 =>
cT 262 [(.string s0)] fun s5 =>
tc_ s1 s5 fun s7 =>
K (.string s7)
theorem F234_go {s0 K w} : F234 s0 K w → c_ 234 [(.string s0)] K w := goF Tryz.func234 (by kernel_rfl)
def F236 (s0 : ByteArray) (s1 : ByteArray) (x2 : Int) (K : KV) : World → Prop :=
nw_ (.cells #[(.string s0)] 9 (0, 0)) fun k3 =>
nw_ (.cells #[(.string s1)] 9 (0, 0)) fun k5 =>
nw_ (.cells #[(I x2)] 3 (0, 0)) fun k7 =>
K (.func (Fn.func 264) #[] #[(pk k5), (pk k3), (pk k7)])
theorem F236_go {s0 s1 x2 K w} : F236 s0 s1 x2 K w → c_ 236 [(.string s0), (.string s1), (I x2)] K w := goF Tryz.func236 (by kernel_rfl)
def F239 (s0 : ByteArray) (K : KV) : World → Prop :=
lp_ (X := Int × Bool × Unit) (0, (false, ())) fun x1 rec2 =>
br_ (decide (x1.fst < (↑s0.size : Int))) (ta_ s0 x1.fst fun x5 =>
br_ (decide ((↑x5.toNat : Int) < 97)) (K (.bool false)) (ta_ s0 x1.fst fun x9 =>
br_ (decide ((↑x9.toNat : Int) > 122)) (K (.bool false)) (rec2 (IntKind.i64.wrap (x1.fst + 1), (x1.snd.fst, ()))))) (br_ (decide ((↑s0.size : Int) ≥ 1)) (K (.bool (decide ((↑s0.size : Int) ≤ 8)))) (K (.bool false)))
theorem F239_go {s0 K w} : F239 s0 K w → c_ 239 [(.string s0)] K w := goF Tryz.func239 (by kernel_rfl)
def F240 (a0 : Option Addr) (n0 : Nat) (c0 : Nat) (K : KV) : World → Prop :=
br_ (decide ((↑n0 : Int) ≤ 4)) (cB 216 [(.slice a0 n0 c0), (.func (Fn.func 272) #[] #[])] fun b6 =>
K (.bool (!b6))) (K (.bool false))
theorem F240_go {a0 n0 c0 K w} : F240 a0 n0 c0 K w → c_ 240 [(.slice a0 n0 c0)] K w := goF Tryz.func240 (by kernel_rfl)
def F245 (a0 : Option Addr) (n0 : Nat) (c0 : Nat) (g1 : FuncId) (cap1 : Array Value) (K : KV) : World → Prop :=
lp_ (X := Int × Int × Unit) (0, (0, ())) fun x5 rec6 =>
br_ (decide (x5.fst < (↑n0 : Int))) (sa_ a0 n0 x5.fst 3 fun a9 =>
lI a9 fun n13 =>
lI (a9.o 1) fun n17 =>
lI (a9.o 2) fun n21 =>
cB g1 ((.agg #[(I n13), (I n17), (I n21)]) :: cap1.1) fun b25 =>
br_ b25 (K (I x5.fst)) (rec6 (IntKind.i64.wrap (x5.fst + 1), (x5.snd.fst, ())))) (K (I (-1)))
theorem F245_go {a0 n0 c0 g1 cap1 K w} : F245 a0 n0 c0 g1 cap1 K w → c_ 245 [(.slice a0 n0 c0), (.func (.func g1) #[] cap1)] K w := goF Tryz.func245 (by kernel_rfl)
def F246 (x0 : Int) (x1 : Int) (x2 : Int) (r3 : Addr) (K : KV) : World → Prop :=
nw_ (.cells #[(I x0), (I x1), (I x2)] 237 (0, 0)) fun k4 =>
lI ⟨k4, 0, none⟩ fun n8 =>
lI r3 fun n12 =>
K (.bool (n8 == n12))
theorem F246_go {x0 x1 x2 r3 K w} : F246 x0 x1 x2 r3 K w → c_ 246 [(.agg #[(I x0), (I x1), (I x2)]), (.pointer (some r3))] K w := goF Tryz.func246 (by kernel_rfl)
def F262 (s0 : ByteArray) (K : KV) : World → Prop :=
lp_ (X := Int × Int × Int × Unit) (0, (1, (0, ()))) fun x1 rec2 =>
br_ (decide (x1.fst < (↑s0.size : Int))) (ta_ s0 x1.fst fun x5 =>
divW_ 673 (divW_ 673 (rec2 (IntKind.i64.wrap (x1.fst + 1), ((IntKind.i64.wrap (x1.snd.fst * 3)).tmod 673, ((IntKind.i64.wrap (x1.snd.snd.fst + IntKind.i64.wrap (IntKind.i64.wrap (↑x5.toNat : Int) * x1.snd.fst))).tmod 673, ())))))) (divW_ 26 (divW_ 26 (nw_ (.cells #[(.int IntKind.u8 (IntKind.u8.wrap (IntKind.i64.wrap (97 + IntKind.i64.wrap (Int.tdiv x1.snd.snd.fst 26))))), (.int IntKind.u8 (IntKind.u8.wrap (IntKind.i64.wrap (97 + Int.tmod x1.snd.snd.fst 26))))] 5 (0, 0)) fun k12 =>
cnv_ 293 9 (.slice (some ⟨k12, 0, none⟩) 2 2) fun v14 =>
aS v14 fun s16 =>
K (.string s16))))
theorem F262_go {s0 K w} : F262 s0 K w → c_ 262 [(.string s0)] K w := goF Tryz.func262 (by kernel_rfl)
def F264 (y0 : Nat) (r1 : Addr) (r2 : Addr) (r3 : Addr) (K : KV) : World → Prop :=
lT r1 fun s6 =>
br_ ((↑s6.size : Int) == 0) (lp_ (X := Unit) () fun x9 rec10 =>
lT r2 fun s14 =>
br_ (decide ((↑s14.size : Int) > 0)) (lT r2 fun s19 =>
c_ 265 [(.string s19)] fun v21 =>
aT 2 v21 fun f23 =>
asK IntKind.i32 (f23 0) fun n25 =>
aI (f23 1) fun n27 =>
lT r2 fun s31 =>
ts_ s31 0 n27 fun s33 =>
gy_ y0 [(.string s33)] fun v35 =>
aB v35 fun b37 =>
br_ (!b37) (K (.tuple #[])) (lT r2 fun s43 =>
ts_ s43 n27 (↑s43.size : Int) fun s45 =>
st_ r2 (.string s45) (rec10 ()))) (K (.tuple #[]))) (lp_ (X := Unit) () fun x50 rec51 =>
lT r2 fun s55 =>
lT r1 fun s59 =>
cI 266 [(.string s55), (.string s59)] fun n63 =>
br_ (decide (n63 < 0)) (lT r2 fun s68 =>
gy_ y0 [(.string s68)] fun v70 =>
aB v70 fun b72 =>
K (.tuple #[])) (lT r2 fun s77 =>
lI r3 fun n81 =>
ts_ s77 0 (IntKind.i64.wrap (n63 + n81)) fun s83 =>
gy_ y0 [(.string s83)] fun v85 =>
aB v85 fun b87 =>
br_ (!b87) (K (.tuple #[])) (lT r2 fun s93 =>
lT r1 fun s97 =>
ts_ s93 (IntKind.i64.wrap (n63 + (↑s97.size : Int))) (↑s93.size : Int) fun s99 =>
st_ r2 (.string s99) (rec51 ()))))
theorem F264_go {y0 r1 r2 r3 K w} : F264 y0 r1 r2 r3 K w → c_ 264 [(yv y0), (.pointer (some r1)), (.pointer (some r2)), (.pointer (some r3))] K w := goF Tryz.func264 (by kernel_rfl)
def F266 (s0 : ByteArray) (s1 : ByteArray) (K : KV) : World → Prop :=
cI 284 [(.string s0), (.string s1)] fun n4 =>
K (I n4)
theorem F266_go {s0 s1 K w} : F266 s0 s1 K w → c_ 266 [(.string s0), (.string s1)] K w := goF Tryz.func266 (by kernel_rfl)
def F216 (a0 : Option Addr) (n0 : Nat) (c0 : Nat) (g1 : FuncId) (cap1 : Array Value) (K : KV) : World → Prop :=
cI 244 [(.slice a0 n0 c0), (.func (Fn.func g1) #[] cap1)] fun n7 =>
K (.bool (decide (n7 ≥ 0)))
theorem F216_go {a0 n0 c0 g1 cap1 K w} : F216 a0 n0 c0 g1 cap1 K w → c_ 216 [(.slice a0 n0 c0), (.func (.func g1) #[] cap1)] K w := goF Tryz.func216 (by kernel_rfl)
def F272 (x0 : Int) (K : KV) : World → Prop :=
br_ (decide (x0 < -1000000000)) (K (.bool true)) (K (.bool (decide (x0 > 1000000000))))
theorem F272_go {x0 K w} : F272 x0 K w → c_ 272 [(I x0)] K w := goF Tryz.func272 (by kernel_rfl)
def F284 (s0 : ByteArray) (s1 : ByteArray) (K : KV) : World → Prop :=
br_ ((↑s1.size : Int) == 0) (K (I 0)) (br_ (strEq s1 s0) (K (I 0)) (br_ ((↑s1.size : Int) == 1) (ta_ s1 0 fun x7 =>
cI 289 [(.string s0), (.int IntKind.u8 (↑x7.toNat : Int))] fun n11 =>
K (I n11)) (br_ (decide ((↑s1.size : Int) ≥ (↑s0.size : Int))) (K (I (-1))) (lI ⟨7, 0, none⟩ fun n18 =>
br_ (decide ((↑s1.size : Int) ≤ n18)) (br_ (decide ((↑s0.size : Int) ≤ 64)) (cI 290 [(.string s0), (.string s1)] fun n24 =>
K (I n24)) (ta_ s1 0 fun x27 =>
ta_ s1 1 fun x29 =>
lp_ (X := Int × Int × Int × Unit) (0, (0, (0, ()))) fun x31 rec32 =>
br_ (decide (x31.snd.fst < IntKind.i64.wrap (IntKind.i64.wrap ((↑s0.size : Int) - (↑s1.size : Int)) + 1))) (ta_ s0 x31.snd.fst fun x35 =>
br_ ((↑x35.toNat : Int) != (↑x27.toNat : Int)) (ts_ s0 (IntKind.i64.wrap (x31.snd.fst + 1)) (IntKind.i64.wrap (IntKind.i64.wrap ((↑s0.size : Int) - (↑s1.size : Int)) + 1)) fun s38 =>
cI 289 [(.string s38), (.int IntKind.u8 (↑x27.toNat : Int))] fun n42 =>
br_ (decide (n42 < 0)) (K (I (-1))) (ta_ s0 (IntKind.i64.wrap (IntKind.i64.wrap (x31.snd.fst + IntKind.i64.wrap (n42 + 1)) + 1)) fun x46 =>
br_ ((↑x46.toNat : Int) == (↑x29.toNat : Int)) (ts_ s0 (IntKind.i64.wrap (x31.snd.fst + IntKind.i64.wrap (n42 + 1))) (IntKind.i64.wrap (IntKind.i64.wrap (x31.snd.fst + IntKind.i64.wrap (n42 + 1)) + (↑s1.size : Int))) fun s49 =>
br_ (strEq s49 s1) (K (I (IntKind.i64.wrap (x31.snd.fst + IntKind.i64.wrap (n42 + 1))))) (lI ⟨7, 0, none⟩ fun n55 =>
br_ (decide ((↑s1.size : Int) ≤ n55)) (cI 291 [(I (IntKind.i64.wrap (IntKind.i64.wrap (x31.snd.fst + IntKind.i64.wrap (n42 + 1)) + 1)))] fun n60 =>
br_ (decide (IntKind.i64.wrap (x31.fst + 1) > n60)) (ts_ s0 (IntKind.i64.wrap (IntKind.i64.wrap (x31.snd.fst + IntKind.i64.wrap (n42 + 1)) + 1)) (↑s0.size : Int) fun s63 =>
cI 290 [(.string s63), (.string s1)] fun n67 =>
br_ (decide (n67 ≥ 0)) (K (I (IntKind.i64.wrap (n67 + IntKind.i64.wrap (IntKind.i64.wrap (x31.snd.fst + IntKind.i64.wrap (n42 + 1)) + 1))))) (K (I (-1)))) (lI ⟨7, 0, none⟩ fun n74 =>
br_ (decide ((↑s1.size : Int) > n74)) (br_ (decide (IntKind.i64.wrap (x31.fst + 1) ≥ IntKind.i64.wrap (4 + (IntKind.i64.wrap (IntKind.i64.wrap (x31.snd.fst + IntKind.i64.wrap (n42 + 1)) + 1)).fdiv (2 ^ min (Int.toNat 4) IntKind.i64.bits)))) (br_ (decide (IntKind.i64.wrap (IntKind.i64.wrap (x31.snd.fst + IntKind.i64.wrap (n42 + 1)) + 1) < IntKind.i64.wrap (IntKind.i64.wrap ((↑s0.size : Int) - (↑s1.size : Int)) + 1))) (ts_ s0 (IntKind.i64.wrap (IntKind.i64.wrap (x31.snd.fst + IntKind.i64.wrap (n42 + 1)) + 1)) (↑s0.size : Int) fun s79 =>
cI 292 [(.string s79), (.string s1)] fun n83 =>
br_ (decide (n83 < 0)) (K (I (-1))) (K (I (IntKind.i64.wrap (IntKind.i64.wrap (IntKind.i64.wrap (x31.snd.fst + IntKind.i64.wrap (n42 + 1)) + 1) + n83))))) (rec32 (IntKind.i64.wrap (x31.fst + 1), (IntKind.i64.wrap (IntKind.i64.wrap (x31.snd.fst + IntKind.i64.wrap (n42 + 1)) + 1), (x31.snd.snd.fst, ()))))) (rec32 (IntKind.i64.wrap (x31.fst + 1), (IntKind.i64.wrap (IntKind.i64.wrap (x31.snd.fst + IntKind.i64.wrap (n42 + 1)) + 1), (x31.snd.snd.fst, ()))))) (rec32 (IntKind.i64.wrap (x31.fst + 1), (IntKind.i64.wrap (IntKind.i64.wrap (x31.snd.fst + IntKind.i64.wrap (n42 + 1)) + 1), (x31.snd.snd.fst, ())))))) (lI ⟨7, 0, none⟩ fun n93 =>
br_ (decide ((↑s1.size : Int) > n93)) (br_ (decide (IntKind.i64.wrap (x31.fst + 1) ≥ IntKind.i64.wrap (4 + (IntKind.i64.wrap (IntKind.i64.wrap (x31.snd.fst + IntKind.i64.wrap (n42 + 1)) + 1)).fdiv (2 ^ min (Int.toNat 4) IntKind.i64.bits)))) (br_ (decide (IntKind.i64.wrap (IntKind.i64.wrap (x31.snd.fst + IntKind.i64.wrap (n42 + 1)) + 1) < IntKind.i64.wrap (IntKind.i64.wrap ((↑s0.size : Int) - (↑s1.size : Int)) + 1))) (ts_ s0 (IntKind.i64.wrap (IntKind.i64.wrap (x31.snd.fst + IntKind.i64.wrap (n42 + 1)) + 1)) (↑s0.size : Int) fun s98 =>
cI 292 [(.string s98), (.string s1)] fun n102 =>
br_ (decide (n102 < 0)) (K (I (-1))) (K (I (IntKind.i64.wrap (IntKind.i64.wrap (IntKind.i64.wrap (x31.snd.fst + IntKind.i64.wrap (n42 + 1)) + 1) + n102))))) (rec32 (IntKind.i64.wrap (x31.fst + 1), (IntKind.i64.wrap (IntKind.i64.wrap (x31.snd.fst + IntKind.i64.wrap (n42 + 1)) + 1), (x31.snd.snd.fst, ()))))) (rec32 (IntKind.i64.wrap (x31.fst + 1), (IntKind.i64.wrap (IntKind.i64.wrap (x31.snd.fst + IntKind.i64.wrap (n42 + 1)) + 1), (x31.snd.snd.fst, ()))))) (rec32 (IntKind.i64.wrap (x31.fst + 1), (IntKind.i64.wrap (IntKind.i64.wrap (x31.snd.fst + IntKind.i64.wrap (n42 + 1)) + 1), (x31.snd.snd.fst, ()))))))) (lI ⟨7, 0, none⟩ fun n112 =>
br_ (decide ((↑s1.size : Int) ≤ n112)) (cI 291 [(I (IntKind.i64.wrap (IntKind.i64.wrap (x31.snd.fst + IntKind.i64.wrap (n42 + 1)) + 1)))] fun n117 =>
br_ (decide (IntKind.i64.wrap (x31.fst + 1) > n117)) (ts_ s0 (IntKind.i64.wrap (IntKind.i64.wrap (x31.snd.fst + IntKind.i64.wrap (n42 + 1)) + 1)) (↑s0.size : Int) fun s120 =>
cI 290 [(.string s120), (.string s1)] fun n124 =>
br_ (decide (n124 ≥ 0)) (K (I (IntKind.i64.wrap (n124 + IntKind.i64.wrap (IntKind.i64.wrap (x31.snd.fst + IntKind.i64.wrap (n42 + 1)) + 1))))) (K (I (-1)))) (lI ⟨7, 0, none⟩ fun n131 =>
br_ (decide ((↑s1.size : Int) > n131)) (br_ (decide (IntKind.i64.wrap (x31.fst + 1) ≥ IntKind.i64.wrap (4 + (IntKind.i64.wrap (IntKind.i64.wrap (x31.snd.fst + IntKind.i64.wrap (n42 + 1)) + 1)).fdiv (2 ^ min (Int.toNat 4) IntKind.i64.bits)))) (br_ (decide (IntKind.i64.wrap (IntKind.i64.wrap (x31.snd.fst + IntKind.i64.wrap (n42 + 1)) + 1) < IntKind.i64.wrap (IntKind.i64.wrap ((↑s0.size : Int) - (↑s1.size : Int)) + 1))) (ts_ s0 (IntKind.i64.wrap (IntKind.i64.wrap (x31.snd.fst + IntKind.i64.wrap (n42 + 1)) + 1)) (↑s0.size : Int) fun s136 =>
cI 292 [(.string s136), (.string s1)] fun n140 =>
br_ (decide (n140 < 0)) (K (I (-1))) (K (I (IntKind.i64.wrap (IntKind.i64.wrap (IntKind.i64.wrap (x31.snd.fst + IntKind.i64.wrap (n42 + 1)) + 1) + n140))))) (rec32 (IntKind.i64.wrap (x31.fst + 1), (IntKind.i64.wrap (IntKind.i64.wrap (x31.snd.fst + IntKind.i64.wrap (n42 + 1)) + 1), (x31.snd.snd.fst, ()))))) (rec32 (IntKind.i64.wrap (x31.fst + 1), (IntKind.i64.wrap (IntKind.i64.wrap (x31.snd.fst + IntKind.i64.wrap (n42 + 1)) + 1), (x31.snd.snd.fst, ()))))) (rec32 (IntKind.i64.wrap (x31.fst + 1), (IntKind.i64.wrap (IntKind.i64.wrap (x31.snd.fst + IntKind.i64.wrap (n42 + 1)) + 1), (x31.snd.snd.fst, ())))))) (lI ⟨7, 0, none⟩ fun n150 =>
br_ (decide ((↑s1.size : Int) > n150)) (br_ (decide (IntKind.i64.wrap (x31.fst + 1) ≥ IntKind.i64.wrap (4 + (IntKind.i64.wrap (IntKind.i64.wrap (x31.snd.fst + IntKind.i64.wrap (n42 + 1)) + 1)).fdiv (2 ^ min (Int.toNat 4) IntKind.i64.bits)))) (br_ (decide (IntKind.i64.wrap (IntKind.i64.wrap (x31.snd.fst + IntKind.i64.wrap (n42 + 1)) + 1) < IntKind.i64.wrap (IntKind.i64.wrap ((↑s0.size : Int) - (↑s1.size : Int)) + 1))) (ts_ s0 (IntKind.i64.wrap (IntKind.i64.wrap (x31.snd.fst + IntKind.i64.wrap (n42 + 1)) + 1)) (↑s0.size : Int) fun s155 =>
cI 292 [(.string s155), (.string s1)] fun n159 =>
br_ (decide (n159 < 0)) (K (I (-1))) (K (I (IntKind.i64.wrap (IntKind.i64.wrap (IntKind.i64.wrap (x31.snd.fst + IntKind.i64.wrap (n42 + 1)) + 1) + n159))))) (rec32 (IntKind.i64.wrap (x31.fst + 1), (IntKind.i64.wrap (IntKind.i64.wrap (x31.snd.fst + IntKind.i64.wrap (n42 + 1)) + 1), (x31.snd.snd.fst, ()))))) (rec32 (IntKind.i64.wrap (x31.fst + 1), (IntKind.i64.wrap (IntKind.i64.wrap (x31.snd.fst + IntKind.i64.wrap (n42 + 1)) + 1), (x31.snd.snd.fst, ()))))) (rec32 (IntKind.i64.wrap (x31.fst + 1), (IntKind.i64.wrap (IntKind.i64.wrap (x31.snd.fst + IntKind.i64.wrap (n42 + 1)) + 1), (x31.snd.snd.fst, ())))))))) (ta_ s0 (IntKind.i64.wrap (x31.snd.fst + 1)) fun x167 =>
br_ ((↑x167.toNat : Int) == (↑x29.toNat : Int)) (ts_ s0 x31.snd.fst (IntKind.i64.wrap (x31.snd.fst + (↑s1.size : Int))) fun s170 =>
br_ (strEq s170 s1) (K (I x31.snd.fst)) (lI ⟨7, 0, none⟩ fun n176 =>
br_ (decide ((↑s1.size : Int) ≤ n176)) (cI 291 [(I (IntKind.i64.wrap (x31.snd.fst + 1)))] fun n181 =>
br_ (decide (IntKind.i64.wrap (x31.fst + 1) > n181)) (ts_ s0 (IntKind.i64.wrap (x31.snd.fst + 1)) (↑s0.size : Int) fun s184 =>
cI 290 [(.string s184), (.string s1)] fun n188 =>
br_ (decide (n188 ≥ 0)) (K (I (IntKind.i64.wrap (n188 + IntKind.i64.wrap (x31.snd.fst + 1))))) (K (I (-1)))) (lI ⟨7, 0, none⟩ fun n195 =>
br_ (decide ((↑s1.size : Int) > n195)) (br_ (decide (IntKind.i64.wrap (x31.fst + 1) ≥ IntKind.i64.wrap (4 + (IntKind.i64.wrap (x31.snd.fst + 1)).fdiv (2 ^ min (Int.toNat 4) IntKind.i64.bits)))) (br_ (decide (IntKind.i64.wrap (x31.snd.fst + 1) < IntKind.i64.wrap (IntKind.i64.wrap ((↑s0.size : Int) - (↑s1.size : Int)) + 1))) (ts_ s0 (IntKind.i64.wrap (x31.snd.fst + 1)) (↑s0.size : Int) fun s200 =>
cI 292 [(.string s200), (.string s1)] fun n204 =>
br_ (decide (n204 < 0)) (K (I (-1))) (K (I (IntKind.i64.wrap (IntKind.i64.wrap (x31.snd.fst + 1) + n204))))) (rec32 (IntKind.i64.wrap (x31.fst + 1), (IntKind.i64.wrap (x31.snd.fst + 1), (x31.snd.snd.fst, ()))))) (rec32 (IntKind.i64.wrap (x31.fst + 1), (IntKind.i64.wrap (x31.snd.fst + 1), (x31.snd.snd.fst, ()))))) (rec32 (IntKind.i64.wrap (x31.fst + 1), (IntKind.i64.wrap (x31.snd.fst + 1), (x31.snd.snd.fst, ())))))) (lI ⟨7, 0, none⟩ fun n214 =>
br_ (decide ((↑s1.size : Int) > n214)) (br_ (decide (IntKind.i64.wrap (x31.fst + 1) ≥ IntKind.i64.wrap (4 + (IntKind.i64.wrap (x31.snd.fst + 1)).fdiv (2 ^ min (Int.toNat 4) IntKind.i64.bits)))) (br_ (decide (IntKind.i64.wrap (x31.snd.fst + 1) < IntKind.i64.wrap (IntKind.i64.wrap ((↑s0.size : Int) - (↑s1.size : Int)) + 1))) (ts_ s0 (IntKind.i64.wrap (x31.snd.fst + 1)) (↑s0.size : Int) fun s219 =>
cI 292 [(.string s219), (.string s1)] fun n223 =>
br_ (decide (n223 < 0)) (K (I (-1))) (K (I (IntKind.i64.wrap (IntKind.i64.wrap (x31.snd.fst + 1) + n223))))) (rec32 (IntKind.i64.wrap (x31.fst + 1), (IntKind.i64.wrap (x31.snd.fst + 1), (x31.snd.snd.fst, ()))))) (rec32 (IntKind.i64.wrap (x31.fst + 1), (IntKind.i64.wrap (x31.snd.fst + 1), (x31.snd.snd.fst, ()))))) (rec32 (IntKind.i64.wrap (x31.fst + 1), (IntKind.i64.wrap (x31.snd.fst + 1), (x31.snd.snd.fst, ()))))))) (lI ⟨7, 0, none⟩ fun n233 =>
br_ (decide ((↑s1.size : Int) ≤ n233)) (cI 291 [(I (IntKind.i64.wrap (x31.snd.fst + 1)))] fun n238 =>
br_ (decide (IntKind.i64.wrap (x31.fst + 1) > n238)) (ts_ s0 (IntKind.i64.wrap (x31.snd.fst + 1)) (↑s0.size : Int) fun s241 =>
cI 290 [(.string s241), (.string s1)] fun n245 =>
br_ (decide (n245 ≥ 0)) (K (I (IntKind.i64.wrap (n245 + IntKind.i64.wrap (x31.snd.fst + 1))))) (K (I (-1)))) (lI ⟨7, 0, none⟩ fun n252 =>
br_ (decide ((↑s1.size : Int) > n252)) (br_ (decide (IntKind.i64.wrap (x31.fst + 1) ≥ IntKind.i64.wrap (4 + (IntKind.i64.wrap (x31.snd.fst + 1)).fdiv (2 ^ min (Int.toNat 4) IntKind.i64.bits)))) (br_ (decide (IntKind.i64.wrap (x31.snd.fst + 1) < IntKind.i64.wrap (IntKind.i64.wrap ((↑s0.size : Int) - (↑s1.size : Int)) + 1))) (ts_ s0 (IntKind.i64.wrap (x31.snd.fst + 1)) (↑s0.size : Int) fun s257 =>
cI 292 [(.string s257), (.string s1)] fun n261 =>
br_ (decide (n261 < 0)) (K (I (-1))) (K (I (IntKind.i64.wrap (IntKind.i64.wrap (x31.snd.fst + 1) + n261))))) (rec32 (IntKind.i64.wrap (x31.fst + 1), (IntKind.i64.wrap (x31.snd.fst + 1), (x31.snd.snd.fst, ()))))) (rec32 (IntKind.i64.wrap (x31.fst + 1), (IntKind.i64.wrap (x31.snd.fst + 1), (x31.snd.snd.fst, ()))))) (rec32 (IntKind.i64.wrap (x31.fst + 1), (IntKind.i64.wrap (x31.snd.fst + 1), (x31.snd.snd.fst, ())))))) (lI ⟨7, 0, none⟩ fun n271 =>
br_ (decide ((↑s1.size : Int) > n271)) (br_ (decide (IntKind.i64.wrap (x31.fst + 1) ≥ IntKind.i64.wrap (4 + (IntKind.i64.wrap (x31.snd.fst + 1)).fdiv (2 ^ min (Int.toNat 4) IntKind.i64.bits)))) (br_ (decide (IntKind.i64.wrap (x31.snd.fst + 1) < IntKind.i64.wrap (IntKind.i64.wrap ((↑s0.size : Int) - (↑s1.size : Int)) + 1))) (ts_ s0 (IntKind.i64.wrap (x31.snd.fst + 1)) (↑s0.size : Int) fun s276 =>
cI 292 [(.string s276), (.string s1)] fun n280 =>
br_ (decide (n280 < 0)) (K (I (-1))) (K (I (IntKind.i64.wrap (IntKind.i64.wrap (x31.snd.fst + 1) + n280))))) (rec32 (IntKind.i64.wrap (x31.fst + 1), (IntKind.i64.wrap (x31.snd.fst + 1), (x31.snd.snd.fst, ()))))) (rec32 (IntKind.i64.wrap (x31.fst + 1), (IntKind.i64.wrap (x31.snd.fst + 1), (x31.snd.snd.fst, ()))))) (rec32 (IntKind.i64.wrap (x31.fst + 1), (IntKind.i64.wrap (x31.snd.fst + 1), (x31.snd.snd.fst, ())))))))) (K (I (-1))))) (ta_ s1 0 fun x289 =>
ta_ s1 1 fun x291 =>
lp_ (X := Int × Int × Int × Unit) (0, (0, (0, ()))) fun x293 rec294 =>
br_ (decide (x293.snd.fst < IntKind.i64.wrap (IntKind.i64.wrap ((↑s0.size : Int) - (↑s1.size : Int)) + 1))) (ta_ s0 x293.snd.fst fun x297 =>
br_ ((↑x297.toNat : Int) != (↑x289.toNat : Int)) (ts_ s0 (IntKind.i64.wrap (x293.snd.fst + 1)) (IntKind.i64.wrap (IntKind.i64.wrap ((↑s0.size : Int) - (↑s1.size : Int)) + 1)) fun s300 =>
cI 289 [(.string s300), (.int IntKind.u8 (↑x289.toNat : Int))] fun n304 =>
br_ (decide (n304 < 0)) (K (I (-1))) (ta_ s0 (IntKind.i64.wrap (IntKind.i64.wrap (x293.snd.fst + IntKind.i64.wrap (n304 + 1)) + 1)) fun x308 =>
br_ ((↑x308.toNat : Int) == (↑x291.toNat : Int)) (ts_ s0 (IntKind.i64.wrap (x293.snd.fst + IntKind.i64.wrap (n304 + 1))) (IntKind.i64.wrap (IntKind.i64.wrap (x293.snd.fst + IntKind.i64.wrap (n304 + 1)) + (↑s1.size : Int))) fun s311 =>
br_ (strEq s311 s1) (K (I (IntKind.i64.wrap (x293.snd.fst + IntKind.i64.wrap (n304 + 1))))) (lI ⟨7, 0, none⟩ fun n317 =>
br_ (decide ((↑s1.size : Int) ≤ n317)) (cI 291 [(I (IntKind.i64.wrap (IntKind.i64.wrap (x293.snd.fst + IntKind.i64.wrap (n304 + 1)) + 1)))] fun n322 =>
br_ (decide (IntKind.i64.wrap (x293.fst + 1) > n322)) (ts_ s0 (IntKind.i64.wrap (IntKind.i64.wrap (x293.snd.fst + IntKind.i64.wrap (n304 + 1)) + 1)) (↑s0.size : Int) fun s325 =>
cI 290 [(.string s325), (.string s1)] fun n329 =>
br_ (decide (n329 ≥ 0)) (K (I (IntKind.i64.wrap (n329 + IntKind.i64.wrap (IntKind.i64.wrap (x293.snd.fst + IntKind.i64.wrap (n304 + 1)) + 1))))) (K (I (-1)))) (lI ⟨7, 0, none⟩ fun n336 =>
br_ (decide ((↑s1.size : Int) > n336)) (br_ (decide (IntKind.i64.wrap (x293.fst + 1) ≥ IntKind.i64.wrap (4 + (IntKind.i64.wrap (IntKind.i64.wrap (x293.snd.fst + IntKind.i64.wrap (n304 + 1)) + 1)).fdiv (2 ^ min (Int.toNat 4) IntKind.i64.bits)))) (br_ (decide (IntKind.i64.wrap (IntKind.i64.wrap (x293.snd.fst + IntKind.i64.wrap (n304 + 1)) + 1) < IntKind.i64.wrap (IntKind.i64.wrap ((↑s0.size : Int) - (↑s1.size : Int)) + 1))) (ts_ s0 (IntKind.i64.wrap (IntKind.i64.wrap (x293.snd.fst + IntKind.i64.wrap (n304 + 1)) + 1)) (↑s0.size : Int) fun s341 =>
cI 292 [(.string s341), (.string s1)] fun n345 =>
br_ (decide (n345 < 0)) (K (I (-1))) (K (I (IntKind.i64.wrap (IntKind.i64.wrap (IntKind.i64.wrap (x293.snd.fst + IntKind.i64.wrap (n304 + 1)) + 1) + n345))))) (rec294 (IntKind.i64.wrap (x293.fst + 1), (IntKind.i64.wrap (IntKind.i64.wrap (x293.snd.fst + IntKind.i64.wrap (n304 + 1)) + 1), (x293.snd.snd.fst, ()))))) (rec294 (IntKind.i64.wrap (x293.fst + 1), (IntKind.i64.wrap (IntKind.i64.wrap (x293.snd.fst + IntKind.i64.wrap (n304 + 1)) + 1), (x293.snd.snd.fst, ()))))) (rec294 (IntKind.i64.wrap (x293.fst + 1), (IntKind.i64.wrap (IntKind.i64.wrap (x293.snd.fst + IntKind.i64.wrap (n304 + 1)) + 1), (x293.snd.snd.fst, ())))))) (lI ⟨7, 0, none⟩ fun n355 =>
br_ (decide ((↑s1.size : Int) > n355)) (br_ (decide (IntKind.i64.wrap (x293.fst + 1) ≥ IntKind.i64.wrap (4 + (IntKind.i64.wrap (IntKind.i64.wrap (x293.snd.fst + IntKind.i64.wrap (n304 + 1)) + 1)).fdiv (2 ^ min (Int.toNat 4) IntKind.i64.bits)))) (br_ (decide (IntKind.i64.wrap (IntKind.i64.wrap (x293.snd.fst + IntKind.i64.wrap (n304 + 1)) + 1) < IntKind.i64.wrap (IntKind.i64.wrap ((↑s0.size : Int) - (↑s1.size : Int)) + 1))) (ts_ s0 (IntKind.i64.wrap (IntKind.i64.wrap (x293.snd.fst + IntKind.i64.wrap (n304 + 1)) + 1)) (↑s0.size : Int) fun s360 =>
cI 292 [(.string s360), (.string s1)] fun n364 =>
br_ (decide (n364 < 0)) (K (I (-1))) (K (I (IntKind.i64.wrap (IntKind.i64.wrap (IntKind.i64.wrap (x293.snd.fst + IntKind.i64.wrap (n304 + 1)) + 1) + n364))))) (rec294 (IntKind.i64.wrap (x293.fst + 1), (IntKind.i64.wrap (IntKind.i64.wrap (x293.snd.fst + IntKind.i64.wrap (n304 + 1)) + 1), (x293.snd.snd.fst, ()))))) (rec294 (IntKind.i64.wrap (x293.fst + 1), (IntKind.i64.wrap (IntKind.i64.wrap (x293.snd.fst + IntKind.i64.wrap (n304 + 1)) + 1), (x293.snd.snd.fst, ()))))) (rec294 (IntKind.i64.wrap (x293.fst + 1), (IntKind.i64.wrap (IntKind.i64.wrap (x293.snd.fst + IntKind.i64.wrap (n304 + 1)) + 1), (x293.snd.snd.fst, ()))))))) (lI ⟨7, 0, none⟩ fun n374 =>
br_ (decide ((↑s1.size : Int) ≤ n374)) (cI 291 [(I (IntKind.i64.wrap (IntKind.i64.wrap (x293.snd.fst + IntKind.i64.wrap (n304 + 1)) + 1)))] fun n379 =>
br_ (decide (IntKind.i64.wrap (x293.fst + 1) > n379)) (ts_ s0 (IntKind.i64.wrap (IntKind.i64.wrap (x293.snd.fst + IntKind.i64.wrap (n304 + 1)) + 1)) (↑s0.size : Int) fun s382 =>
cI 290 [(.string s382), (.string s1)] fun n386 =>
br_ (decide (n386 ≥ 0)) (K (I (IntKind.i64.wrap (n386 + IntKind.i64.wrap (IntKind.i64.wrap (x293.snd.fst + IntKind.i64.wrap (n304 + 1)) + 1))))) (K (I (-1)))) (lI ⟨7, 0, none⟩ fun n393 =>
br_ (decide ((↑s1.size : Int) > n393)) (br_ (decide (IntKind.i64.wrap (x293.fst + 1) ≥ IntKind.i64.wrap (4 + (IntKind.i64.wrap (IntKind.i64.wrap (x293.snd.fst + IntKind.i64.wrap (n304 + 1)) + 1)).fdiv (2 ^ min (Int.toNat 4) IntKind.i64.bits)))) (br_ (decide (IntKind.i64.wrap (IntKind.i64.wrap (x293.snd.fst + IntKind.i64.wrap (n304 + 1)) + 1) < IntKind.i64.wrap (IntKind.i64.wrap ((↑s0.size : Int) - (↑s1.size : Int)) + 1))) (ts_ s0 (IntKind.i64.wrap (IntKind.i64.wrap (x293.snd.fst + IntKind.i64.wrap (n304 + 1)) + 1)) (↑s0.size : Int) fun s398 =>
cI 292 [(.string s398), (.string s1)] fun n402 =>
br_ (decide (n402 < 0)) (K (I (-1))) (K (I (IntKind.i64.wrap (IntKind.i64.wrap (IntKind.i64.wrap (x293.snd.fst + IntKind.i64.wrap (n304 + 1)) + 1) + n402))))) (rec294 (IntKind.i64.wrap (x293.fst + 1), (IntKind.i64.wrap (IntKind.i64.wrap (x293.snd.fst + IntKind.i64.wrap (n304 + 1)) + 1), (x293.snd.snd.fst, ()))))) (rec294 (IntKind.i64.wrap (x293.fst + 1), (IntKind.i64.wrap (IntKind.i64.wrap (x293.snd.fst + IntKind.i64.wrap (n304 + 1)) + 1), (x293.snd.snd.fst, ()))))) (rec294 (IntKind.i64.wrap (x293.fst + 1), (IntKind.i64.wrap (IntKind.i64.wrap (x293.snd.fst + IntKind.i64.wrap (n304 + 1)) + 1), (x293.snd.snd.fst, ())))))) (lI ⟨7, 0, none⟩ fun n412 =>
br_ (decide ((↑s1.size : Int) > n412)) (br_ (decide (IntKind.i64.wrap (x293.fst + 1) ≥ IntKind.i64.wrap (4 + (IntKind.i64.wrap (IntKind.i64.wrap (x293.snd.fst + IntKind.i64.wrap (n304 + 1)) + 1)).fdiv (2 ^ min (Int.toNat 4) IntKind.i64.bits)))) (br_ (decide (IntKind.i64.wrap (IntKind.i64.wrap (x293.snd.fst + IntKind.i64.wrap (n304 + 1)) + 1) < IntKind.i64.wrap (IntKind.i64.wrap ((↑s0.size : Int) - (↑s1.size : Int)) + 1))) (ts_ s0 (IntKind.i64.wrap (IntKind.i64.wrap (x293.snd.fst + IntKind.i64.wrap (n304 + 1)) + 1)) (↑s0.size : Int) fun s417 =>
cI 292 [(.string s417), (.string s1)] fun n421 =>
br_ (decide (n421 < 0)) (K (I (-1))) (K (I (IntKind.i64.wrap (IntKind.i64.wrap (IntKind.i64.wrap (x293.snd.fst + IntKind.i64.wrap (n304 + 1)) + 1) + n421))))) (rec294 (IntKind.i64.wrap (x293.fst + 1), (IntKind.i64.wrap (IntKind.i64.wrap (x293.snd.fst + IntKind.i64.wrap (n304 + 1)) + 1), (x293.snd.snd.fst, ()))))) (rec294 (IntKind.i64.wrap (x293.fst + 1), (IntKind.i64.wrap (IntKind.i64.wrap (x293.snd.fst + IntKind.i64.wrap (n304 + 1)) + 1), (x293.snd.snd.fst, ()))))) (rec294 (IntKind.i64.wrap (x293.fst + 1), (IntKind.i64.wrap (IntKind.i64.wrap (x293.snd.fst + IntKind.i64.wrap (n304 + 1)) + 1), (x293.snd.snd.fst, ())))))))) (ta_ s0 (IntKind.i64.wrap (x293.snd.fst + 1)) fun x429 =>
br_ ((↑x429.toNat : Int) == (↑x291.toNat : Int)) (ts_ s0 x293.snd.fst (IntKind.i64.wrap (x293.snd.fst + (↑s1.size : Int))) fun s432 =>
br_ (strEq s432 s1) (K (I x293.snd.fst)) (lI ⟨7, 0, none⟩ fun n438 =>
br_ (decide ((↑s1.size : Int) ≤ n438)) (cI 291 [(I (IntKind.i64.wrap (x293.snd.fst + 1)))] fun n443 =>
br_ (decide (IntKind.i64.wrap (x293.fst + 1) > n443)) (ts_ s0 (IntKind.i64.wrap (x293.snd.fst + 1)) (↑s0.size : Int) fun s446 =>
cI 290 [(.string s446), (.string s1)] fun n450 =>
br_ (decide (n450 ≥ 0)) (K (I (IntKind.i64.wrap (n450 + IntKind.i64.wrap (x293.snd.fst + 1))))) (K (I (-1)))) (lI ⟨7, 0, none⟩ fun n457 =>
br_ (decide ((↑s1.size : Int) > n457)) (br_ (decide (IntKind.i64.wrap (x293.fst + 1) ≥ IntKind.i64.wrap (4 + (IntKind.i64.wrap (x293.snd.fst + 1)).fdiv (2 ^ min (Int.toNat 4) IntKind.i64.bits)))) (br_ (decide (IntKind.i64.wrap (x293.snd.fst + 1) < IntKind.i64.wrap (IntKind.i64.wrap ((↑s0.size : Int) - (↑s1.size : Int)) + 1))) (ts_ s0 (IntKind.i64.wrap (x293.snd.fst + 1)) (↑s0.size : Int) fun s462 =>
cI 292 [(.string s462), (.string s1)] fun n466 =>
br_ (decide (n466 < 0)) (K (I (-1))) (K (I (IntKind.i64.wrap (IntKind.i64.wrap (x293.snd.fst + 1) + n466))))) (rec294 (IntKind.i64.wrap (x293.fst + 1), (IntKind.i64.wrap (x293.snd.fst + 1), (x293.snd.snd.fst, ()))))) (rec294 (IntKind.i64.wrap (x293.fst + 1), (IntKind.i64.wrap (x293.snd.fst + 1), (x293.snd.snd.fst, ()))))) (rec294 (IntKind.i64.wrap (x293.fst + 1), (IntKind.i64.wrap (x293.snd.fst + 1), (x293.snd.snd.fst, ())))))) (lI ⟨7, 0, none⟩ fun n476 =>
br_ (decide ((↑s1.size : Int) > n476)) (br_ (decide (IntKind.i64.wrap (x293.fst + 1) ≥ IntKind.i64.wrap (4 + (IntKind.i64.wrap (x293.snd.fst + 1)).fdiv (2 ^ min (Int.toNat 4) IntKind.i64.bits)))) (br_ (decide (IntKind.i64.wrap (x293.snd.fst + 1) < IntKind.i64.wrap (IntKind.i64.wrap ((↑s0.size : Int) - (↑s1.size : Int)) + 1))) (ts_ s0 (IntKind.i64.wrap (x293.snd.fst + 1)) (↑s0.size : Int) fun s481 =>
cI 292 [(.string s481), (.string s1)] fun n485 =>
br_ (decide (n485 < 0)) (K (I (-1))) (K (I (IntKind.i64.wrap (IntKind.i64.wrap (x293.snd.fst + 1) + n485))))) (rec294 (IntKind.i64.wrap (x293.fst + 1), (IntKind.i64.wrap (x293.snd.fst + 1), (x293.snd.snd.fst, ()))))) (rec294 (IntKind.i64.wrap (x293.fst + 1), (IntKind.i64.wrap (x293.snd.fst + 1), (x293.snd.snd.fst, ()))))) (rec294 (IntKind.i64.wrap (x293.fst + 1), (IntKind.i64.wrap (x293.snd.fst + 1), (x293.snd.snd.fst, ()))))))) (lI ⟨7, 0, none⟩ fun n495 =>
br_ (decide ((↑s1.size : Int) ≤ n495)) (cI 291 [(I (IntKind.i64.wrap (x293.snd.fst + 1)))] fun n500 =>
br_ (decide (IntKind.i64.wrap (x293.fst + 1) > n500)) (ts_ s0 (IntKind.i64.wrap (x293.snd.fst + 1)) (↑s0.size : Int) fun s503 =>
cI 290 [(.string s503), (.string s1)] fun n507 =>
br_ (decide (n507 ≥ 0)) (K (I (IntKind.i64.wrap (n507 + IntKind.i64.wrap (x293.snd.fst + 1))))) (K (I (-1)))) (lI ⟨7, 0, none⟩ fun n514 =>
br_ (decide ((↑s1.size : Int) > n514)) (br_ (decide (IntKind.i64.wrap (x293.fst + 1) ≥ IntKind.i64.wrap (4 + (IntKind.i64.wrap (x293.snd.fst + 1)).fdiv (2 ^ min (Int.toNat 4) IntKind.i64.bits)))) (br_ (decide (IntKind.i64.wrap (x293.snd.fst + 1) < IntKind.i64.wrap (IntKind.i64.wrap ((↑s0.size : Int) - (↑s1.size : Int)) + 1))) (ts_ s0 (IntKind.i64.wrap (x293.snd.fst + 1)) (↑s0.size : Int) fun s519 =>
cI 292 [(.string s519), (.string s1)] fun n523 =>
br_ (decide (n523 < 0)) (K (I (-1))) (K (I (IntKind.i64.wrap (IntKind.i64.wrap (x293.snd.fst + 1) + n523))))) (rec294 (IntKind.i64.wrap (x293.fst + 1), (IntKind.i64.wrap (x293.snd.fst + 1), (x293.snd.snd.fst, ()))))) (rec294 (IntKind.i64.wrap (x293.fst + 1), (IntKind.i64.wrap (x293.snd.fst + 1), (x293.snd.snd.fst, ()))))) (rec294 (IntKind.i64.wrap (x293.fst + 1), (IntKind.i64.wrap (x293.snd.fst + 1), (x293.snd.snd.fst, ())))))) (lI ⟨7, 0, none⟩ fun n533 =>
br_ (decide ((↑s1.size : Int) > n533)) (br_ (decide (IntKind.i64.wrap (x293.fst + 1) ≥ IntKind.i64.wrap (4 + (IntKind.i64.wrap (x293.snd.fst + 1)).fdiv (2 ^ min (Int.toNat 4) IntKind.i64.bits)))) (br_ (decide (IntKind.i64.wrap (x293.snd.fst + 1) < IntKind.i64.wrap (IntKind.i64.wrap ((↑s0.size : Int) - (↑s1.size : Int)) + 1))) (ts_ s0 (IntKind.i64.wrap (x293.snd.fst + 1)) (↑s0.size : Int) fun s538 =>
cI 292 [(.string s538), (.string s1)] fun n542 =>
br_ (decide (n542 < 0)) (K (I (-1))) (K (I (IntKind.i64.wrap (IntKind.i64.wrap (x293.snd.fst + 1) + n542))))) (rec294 (IntKind.i64.wrap (x293.fst + 1), (IntKind.i64.wrap (x293.snd.fst + 1), (x293.snd.snd.fst, ()))))) (rec294 (IntKind.i64.wrap (x293.fst + 1), (IntKind.i64.wrap (x293.snd.fst + 1), (x293.snd.snd.fst, ()))))) (rec294 (IntKind.i64.wrap (x293.fst + 1), (IntKind.i64.wrap (x293.snd.fst + 1), (x293.snd.snd.fst, ())))))))) (K (I (-1))))))))
theorem F284_go {s0 s1 K w} : F284 s0 s1 K w → c_ 284 [(.string s0), (.string s1)] K w := goF Tryz.func284 (by kernel_rfl)
def F244 (a0 : Option Addr) (n0 : Nat) (c0 : Nat) (g1 : FuncId) (cap1 : Array Value) (K : KV) : World → Prop :=
lp_ (X := Int × Int × Unit) (0, (0, ())) fun x5 rec6 =>
br_ (decide (x5.fst < (↑n0 : Int))) (sa_ a0 n0 x5.fst 1 fun a9 =>
lI a9 fun n13 =>
cB g1 ((I n13) :: cap1.1) fun b17 =>
br_ b17 (K (I x5.fst)) (rec6 (IntKind.i64.wrap (x5.fst + 1), (x5.snd.fst, ())))) (K (I (-1)))
theorem F244_go {a0 n0 c0 g1 cap1 K w} : F244 a0 n0 c0 g1 cap1 K w → c_ 244 [(.slice a0 n0 c0), (.func (.func g1) #[] cap1)] K w := goF Tryz.func244 (by kernel_rfl)
end Go.Proofs.YtlfgmbbiealpoaaGreatDoor
