/- An executor for the shallow reading: what it computes. Conditions: none. -/
import Derived.Test.YtlfgmbbiealpoaaGreatDoorRg
set_option linter.unusedVariables false
namespace Go.Sh
open Go

/-- a value, with names in place of blocks -/
inductive EV where
  | int (k : IntKind) (n : Int)
  | bool (b : Bool)
  | str (l : List UInt8)
  | nilp
  | ptr (k off : Nat)
  | glob (g off : Nat)
  | nils
  | sl (k off n c : Nat)
  | slo (k off n lb d : Nat)
  | nilm
  | map (k : Nat)
  | nilf
  | fn (f : FuncId) (cs : List EV)
  | yld (l : Nat)
  | nili
  | ifc (t : TypeId) (v : EV)
  | agg (l : List EV)
  | tup (l : List EV)
  | opq (l : Leaf) (i : Nat)
  deriving Inhabited
inductive EObj where
  | cells (l : List EV) (e : TypeId) (z : Nat)
  | map (l : List (Int × EV × Nat)) (c : Nat)
  | it (m since : Nat) (seen : List Nat) (c : Nat)
  | dfr (b : Bool)
  | lp (s : Nat) (j : Option (Option Nat))
inductive Tr where
  | lf
  | nd (l : Tr) (o : Option EObj) (r : Tr)
def Tr.l : Tr → Tr
  | .lf => .lf
  | .nd l _ _ => l
def Tr.o : Tr → Option EObj
  | .lf => none
  | .nd _ o _ => o
def Tr.r : Tr → Tr
  | .lf => .lf
  | .nd _ _ r => r
noncomputable def Tr.get (t : Tr) : Nat → Option EObj :=
  Tr.rec (motive := fun _ => Nat → Option EObj) (fun _ => none)
    (fun _ o _ gl gr k => Nat.rec (motive := fun _ => Option EObj) o (fun k _ => Bool.rec (motive := fun _ => Option EObj) (gr (Nat.div k 2)) (gl (Nat.div k 2)) (Nat.beq (Nat.mod k 2) 0)) k) t
noncomputable def Tr.set (f : Nat) : Tr → Nat → Option EObj → Tr :=
  Nat.rec (motive := fun _ => Tr → Nat → Option EObj → Tr) (fun t _ _ => t)
    (fun _ ih t k o => Nat.rec (motive := fun _ => Tr) (.nd t.l o t.r) (fun k _ => Bool.rec (motive := fun _ => Tr) (.nd t.l t.o (ih t.r (Nat.div k 2) o)) (.nd (ih t.l (Nat.div k 2) o) t.o t.r) (Nat.beq (Nat.mod k 2) 0)) k) f
structure XSt where
  h : Tr
  nx : Nat
  lim : Nat
noncomputable def XSt.get (s : XSt) (k : Nat) : Option EObj := s.h.get k
noncomputable def XSt.put (s : XSt) (k : Nat) (o : EObj) : XSt := ⟨s.h.set 40 k (some o), s.nx, s.lim⟩
noncomputable def XSt.del (s : XSt) (k : Nat) : XSt := ⟨s.h.set 40 k none, s.nx, s.lim⟩
/-- a new block -/
noncomputable def XSt.new (s : XSt) (o : EObj) : Option (Nat × XSt) := match Nat.blt s.nx s.lim with
  | true => some (s.nx, ⟨s.h.set 40 s.nx (some o), s.nx + 1, s.lim⟩)
  | false => none

abbrev XEnv := List (Nat × EV)
noncomputable def xget (e : XEnv) : Nat → Option EV :=
  List.rec (motive := fun _ => Nat → Option EV) (fun _ => none) (fun p _ ih i => Bool.rec (motive := fun _ => Option EV) (ih i) (some p.2) (Nat.beq p.1 i)) e
def ofV1 : Value → Option EV
  | .int k n => some (.int k n)
  | .bool b => some (.bool b)
  | .string s => some (.str s.data.toList)
  | .pointer none => some .nilp
  | .slice none 0 0 => some .nils
  | .map none => some .nilm
  | .nilFunc => some .nilf
  | .nilIface => some .nili
  | _ => none
def ofVL : List Value → Option (List EV)
  | [] => some []
  | v :: r => (match ofV1 v, ofVL r with | some x, some l => some (x :: l) | _, _ => none)
def ofV : Value → Option EV
  | .agg cs => (match ofVL cs.toList with | some l => some (.agg l) | none => none)
  | .tuple cs => (match ofVL cs.toList with | some l => some (.tup l) | none => none)
  | v => ofV1 v
noncomputable def xrho (env : XEnv) : Operand → Option EV
  | .tmp t => xget env t
  | .const v => ofV v
  | .global g => some (.glob g 0)
  | .func f => some (.fn f [])
noncomputable def xrhoL (env : XEnv) (xs : List Operand) : Option (List EV) := List.rec (motive := fun _ => Option (List EV)) (some []) (fun x _ ih => match xrho env x, ih with | some v, some l => some (v :: l) | _, _ => none) xs
noncomputable def xparts (env : XEnv) (xs : List (Nat × Operand)) : Option (List (Nat × EV)) := List.rec (motive := fun _ => Option (List (Nat × EV))) (some []) (fun x _ ih => match xrho env x.2, ih with | some v, some l => some ((x.1, v) :: l) | _, _ => none) xs

/-- what the run leans on: what is known of opaque numbers; blocks that were there; functions by their contracts -/
structure XCx where
  P : Program
  Q : List (Nat × BinOp × Int × Bool)
  G : List (Nat × List EV)
  prim : FuncId → Option (List EV → XSt → Option EV)
noncomputable def xleaf : Leaf → EV → Bool
  | .any, _ => true
  | .int k, .int k' _ => decide (k = k')
  | .bool, .bool _ => true
  | .str, .str _ => true
  | .slice, .nils => true
  | .slice, .sl _ _ _ _ => true
  | .slice, .slo _ _ _ _ _ => true
  | .ptr, .nilp => true
  | .ptr, .ptr _ _ => true
  | .ptr, .glob _ _ => true
  | .map, .nilm => true
  | .map, .map _ => true
  | .int k, .opq (.int k') _ => decide (k = k')
  | .bool, .opq .bool _ => true
  | .str, .opq .str _ => true
  | .slice, .opq .slice _ => true
  | .ptr, .opq .ptr _ => true
  | .map, .opq .map _ => true
  | _, _ => false
noncomputable def xleaves (ls : List Leaf) : List EV → Bool :=
  List.rec (motive := fun _ => List EV → Bool) (fun vs => List.rec (motive := fun _ => Bool) true (fun _ _ _ => false) vs)
    (fun l _ ih vs => List.rec (motive := fun _ => Bool) false (fun v r _ => Bool.rec (motive := fun _ => Bool) false (ih r) (xleaf l v)) vs) ls
noncomputable def xTy (P : Program) (t : TypeId) (v : EV) : Bool := match isAggB P t with
  | true => (match v with | .agg l => xleaves (leavesOf P 20 t) l | _ => false)
  | false => xleaf (leaf1 P t) v
noncomputable def xTys (P : Program) (ts : List TypeId) : List EV → Bool :=
  List.rec (motive := fun _ => List EV → Bool) (fun vs => List.rec (motive := fun _ => Bool) true (fun _ _ _ => false) vs)
    (fun t _ ih vs => List.rec (motive := fun _ => Bool) false (fun v r _ => Bool.rec (motive := fun _ => Bool) false (ih r) (xTy P t v)) vs) ts
noncomputable def xRes (P : Program) (t : TypeId) (v : EV) : Bool := match P.underlying t with
  | some (.tuple ts) => (match v with | .tup l => xTys P ts.toList l | _ => false)
  | _ => xTy P t v
def EV.cells : EV → List EV
  | .agg l => l
  | v => [v]
def EV.one : EV → Bool
  | .agg _ => false
  | .tup _ => false
  | _ => true
noncomputable def allOne (l : List EV) : Bool := List.rec (motive := fun _ => Bool) true (fun v _ ih => Bool.rec (motive := fun _ => Bool) false ih v.one) l
noncomputable def lenX {α : Type} (l : List α) : Nat := List.rec (motive := fun _ => Nat) 0 (fun _ _ ih => Nat.succ ih) l
noncomputable def dropX {α : Type} (l : List α) : Nat → List α := List.rec (motive := fun _ => Nat → List α) (fun _ => []) (fun x r ih n => Nat.rec (motive := fun _ => List α) (x :: r) (fun n _ => ih n) n) l
noncomputable def takeX {α : Type} (l : List α) : Nat → List α := List.rec (motive := fun _ => Nat → List α) (fun _ => []) (fun x r ih n => Nat.rec (motive := fun _ => List α) [] (fun n _ => x :: ih n) n) l
noncomputable def nthX {α : Type} (l : List α) : Nat → Option α := List.rec (motive := fun _ => Nat → Option α) (fun _ => none) (fun x _ ih n => Nat.rec (motive := fun _ => Option α) (some x) (fun n _ => ih n) n) l
noncomputable def xsub (l : List EV) (off n : Nat) : Option (List EV) := match Nat.ble (Nat.add off n) (lenX l) with
  | true => some (takeX (dropX l off) n)
  | false => none
/-- one cell -/
noncomputable def xsub1 (l : List EV) (off : Nat) : Option EV := nthX l off
def assocN {α : Type} : List (Nat × α) → Nat → Option α
  | [], _ => none
  | (i, x) :: r, j => (match Nat.beq i j with | true => some x | false => assocN r j)
noncomputable def xread (cx : XCx) (p : EV) (n : Nat) (s : XSt) : Option (List EV) := match p with
  | .ptr k off => (match s.get k with | some (.cells l _ _) => xsub l off n | _ => none)
  | .glob g off => (match assocN cx.G g with | some l => xsub l off n | none => none)
  | _ => none
noncomputable def xread1 (cx : XCx) (p : EV) (s : XSt) : Option EV := match p with
  | .ptr k off => (match s.get k with | some (.cells l _ _) => nthX l off | _ => none)
  | .glob g off => (match assocN cx.G g with | some l => nthX l off | none => none)
  | _ => none
noncomputable def xload (cx : XCx) (t : TypeId) (p : EV) (s : XSt) : Option EV :=
  match isTyB cx.P t, isAggB cx.P t with
  | true, true => (match bigA cx.P t with
    | some n => (match xread cx p n s with | some cs => some (.agg cs) | none => none)
    | none => (match sizeB cx.P t (leavesOf cx.P 20 t).length, xread cx p (leavesOf cx.P 20 t).length s with
      | true, some cs => (match xleaves (leavesOf cx.P 20 t) cs with | true => some (.agg cs) | false => none)
      | _, _ => none))
  | true, false => (match xread1 cx p s with | some v => (match xleaf (leaf1 cx.P t) v with | true => some v | false => none) | none => none)
  | false, _ => none
noncomputable def put0 {α : Type} (l : List α) : List α → List α :=
  List.rec (motive := fun _ => List α → List α) (fun _ => []) (fun x r ih vs => List.rec (motive := fun _ => List α) (x :: r) (fun v vs _ => v :: ih vs) vs) l
noncomputable def putC {α : Type} (l : List α) : Nat → List α → List α :=
  List.rec (motive := fun _ => Nat → List α → List α) (fun _ _ => []) (fun x r ih n vs => Nat.rec (motive := fun _ => List α) (put0 (x :: r) vs) (fun n _ => x :: ih n vs) n) l
noncomputable def set1 {α : Type} (l : List α) : Nat → α → List α :=
  List.rec (motive := fun _ => Nat → α → List α) (fun _ _ => []) (fun x r ih n v => Nat.rec (motive := fun _ => List α) (v :: r) (fun n _ => x :: ih n v) n) l
noncomputable def xwrite (p : EV) (cs : List EV) (s : XSt) : Option XSt := match p with
  | .ptr k off => (match s.get k with
    | some (.cells l e z) => (match Nat.ble (Nat.add off (lenX cs)) (lenX l), allOne cs with
      | true, true => some (s.put k (.cells (putC l off cs) e z))
      | _, _ => none)
    | _ => none)
  | _ => none
noncomputable def xwrite1 (p v : EV) (s : XSt) : Option XSt := match p with
  | .ptr k off => (match s.get k with
    | some (.cells l e z) => (match Nat.blt off (lenX l), v.one with
      | true, true => some (s.put k (.cells (set1 l off v) e z))
      | _, _ => none)
    | _ => none)
  | _ => none
noncomputable def xstore (cx : XCx) (t : TypeId) (p v : EV) (s : XSt) : Option XSt :=
  match isTyB cx.P t, isAggB cx.P t, sizeB cx.P t 1 with
  | true, false, true => xwrite1 p v s
  | true, true, _ => (match v with
    | .agg cs => (match sizeB cx.P t (lenX cs) with | true => xwrite p cs s | false => none)
    | _ => none)
  | _, _, _ => none

/-! operations that look at no memory -/
def qlook : List (Nat × BinOp × Int × Bool) → Nat → BinOp → Int → Option Bool
  | [], _, _, _ => none
  | (i, op, n, b) :: r, j, op', n' => (match Nat.beq i j, decide (op = op'), decide (n = n') with
    | true, true, true => some b
    | _, _, _ => qlook r j op' n')
noncomputable def xint (op : BinOp) (k : IntKind) (m n : Int) : Option EV := match op with
  | .add => some (.int k (k.wrap (m + n)))
  | .sub => some (.int k (k.wrap (m - n)))
  | .mul => some (.int k (k.wrap (m * n)))
  | .quo => (match decide (n = 0) with | true => none | false => some (.int k (k.wrap (m.tdiv n))))
  | .rem => (match decide (n = 0) with | true => none | false => some (.int k (m.tmod n)))
  | .eql => some (.bool (m == n))
  | .neq => some (.bool (m != n))
  | .lss => some (.bool (decide (m < n)))
  | .leq => some (.bool (decide (m ≤ n)))
  | .gtr => some (.bool (decide (m > n)))
  | .geq => some (.bool (decide (m ≥ n)))
  | .and => some (.int k (k.wrap ((BitVec.ofInt k.bits m) &&& (BitVec.ofInt k.bits n)).toNat))
  | .or => some (.int k (k.wrap ((BitVec.ofInt k.bits m) ||| (BitVec.ofInt k.bits n)).toNat))
  | _ => none
noncomputable def xshift (op : BinOp) (k : IntKind) (m n : Int) : Option EV := match decide (n < 0), op with
  | false, .shl => some (.int k (k.wrap (m * 2 ^ (min n.toNat k.bits))))
  | false, .shr => some (.int k (m.fdiv (2 ^ (min n.toNat k.bits))))
  | _, _ => none
noncomputable def beqS (x : List UInt8) : List UInt8 → Bool :=
  List.rec (motive := fun _ => List UInt8 → Bool) (fun y => List.rec (motive := fun _ => Bool) true (fun _ _ _ => false) y)
    (fun a _ ih y => List.rec (motive := fun _ => Bool) false (fun b q _ => Bool.rec (motive := fun _ => Bool) false (ih q) (Nat.beq a.toNat b.toNat)) y) x
def isShift : BinOp → Bool
  | .shl => true
  | .shr => true
  | _ => false
noncomputable def xintsEq : List EV → List EV → Option Bool
  | [], [] => some true
  | .int k a :: r, .int k' b :: r' => (match decide (k = k'), xintsEq r r' with
    | true, some t => some ((a == b) && t)
    | _, _ => none)
  | _, _ => none
noncomputable def appX {α : Type} (x y : List α) : List α := List.rec (motive := fun _ => List α) y (fun a _ ih => a :: ih) x
noncomputable def xeq (P : Program) (neg : Bool) (t : TypeId) (a b : EV) : Option EV := match a, b with
  | .str s, .str u => some (.bool (match neg with | true => !beqS s u | false => beqS s u))
  | .bool s, .bool u => (match isEqTy P t .bool with | true => some (.bool (match neg with | true => !(s == u) | false => (s == u))) | false => none)
  | .nilp, .nilp => (match isEqTy P t .ptr with | true => some (.bool (!neg)) | false => none)
  | .ptr _ _, .nilp => (match isEqTy P t .ptr with | true => some (.bool neg) | false => none)
  | .glob _ _, .nilp => (match isEqTy P t .ptr with | true => some (.bool neg) | false => none)
  | .nils, .nils => (match isEqTy P t .slice with | true => some (.bool (!neg)) | false => none)
  | .sl _ _ _ _, .nils => (match isEqTy P t .slice with | true => some (.bool neg) | false => none)
  | .slo _ _ _ _ _, .nils => (match isEqTy P t .slice with | true => some (.bool neg) | false => none)
  | .nilm, .nilm => (match isEqTy P t .map with | true => some (.bool (!neg)) | false => none)
  | .map _, .nilm => (match isEqTy P t .map with | true => some (.bool neg) | false => none)
  | .agg xs, .agg ys => (match xintsEq xs ys, structIntsB P t (lenX xs) with
    | some r, true => some (.bool (match neg with | true => !r | false => r))
    | _, _ => none)
  | _, _ => none
noncomputable def xnil (P : Program) (op : BinOp) (t : TypeId) (a : EV) : Option EV := match isIfTy P t, op, a with
  | true, .eql, .nili => some (.bool true)
  | true, .eql, .ifc _ _ => some (.bool false)
  | true, .neq, .nili => some (.bool false)
  | true, .neq, .ifc _ _ => some (.bool true)
  | _, _, _ => none
noncomputable def xnilF (P : Program) (op : BinOp) (t : TypeId) (a : EV) : Option EV := match isFnTy P t, op, a with
  | true, .eql, .nilf => some (.bool true)
  | true, .eql, .fn _ _ => some (.bool false)
  | true, .eql, .yld _ => some (.bool false)
  | true, .neq, .nilf => some (.bool false)
  | true, .neq, .fn _ _ => some (.bool true)
  | true, .neq, .yld _ => some (.bool true)
  | _, _, _ => none
noncomputable def xbin (cx : XCx) (op : BinOp) (t : TypeId) (x y : Operand) (a b : EV) : Option EV :=
  match isNilC y, isNilFC y with
  | true, _ => xnil cx.P op t a
  | false, true => xnilF cx.P op t a
  | false, false => (match a, b with
    | .int k m, .int k' n => (match isShift op with
      | true => xshift op k m n
      | false => (match decide (k = k') with | true => xint op k m n | false => none))
    | .opq (.int .i64) i, .int .i64 n => (match qlook cx.Q i op n with | some r => some (.bool r) | none => none)
    | .str s, .str u => (match op with
      | .add => (match Nat.ble (Nat.add (lenX s) (lenX u)) 9223372036854775807 with | true => some (.str (appX s u)) | false => none)
      | .eql => xeq cx.P false t a b
      | .neq => xeq cx.P true t a b
      | _ => none)
    | a, b => (match op with
      | .eql => xeq cx.P false t a b
      | .neq => xeq cx.P true t a b
      | _ => none))
noncomputable def xfill (place : Nat → Option (Nat × Nat)) (cells : List EV) : List (Nat × EV) → Option (List EV)
  | [] => some cells
  | (i, v) :: rest => (match place i with
    | none => none
    | some (off, size) => (match Nat.beq (lenX v.cells) size, Nat.ble (Nat.add off (lenX v.cells)) (lenX cells) with
      | true, true => xfill place (putC cells off v.cells) rest
      | _, _ => none))
def zeroE (P : Program) (t : TypeId) : Option (List EV) := match P.info? t with
  | some i => (match i.zero with | some z => ofVL (partCells z) | none => none)
  | none => none
noncomputable def xbuild (P : Program) (t : TypeId) (parts : List (Nat × EV)) : Option (List EV) := match zeroE P t with
  | some z => (match P.underlying t with
      | some (.struct fs) => (match fs.toList.all (fun f => (P.info? f.type).isSome) with
        | true => xfill (nth (fieldPlaces P fs.toList)) z parts
        | false => none)
      | some (.array _ e) => (match P.info? e with
        | some j => xfill (fun i => some (i * j.size, j.size)) z parts
        | none => none)
      | _ => none)
  | none => none
noncomputable def xfield (P : Program) (t : TypeId) (f : Nat) (cs : List EV) : Option EV :=
  match P.underlying t with
  | some (.struct fs) => (match nth fs.toList f with
    | some fd => (match isTyB P fd.type, isAggB P fd.type with
      | true, false => nthX cs fd.offset
      | true, true => (match P.info? fd.type with | some j => some (.agg (takeX (dropX cs fd.offset) j.size)) | none => none)
      | false, _ => none)
    | none => none)
  | _ => none
/-- where a field lies (none: it takes no cell) -/
def fieldOff (P : Program) (t : TypeId) (f : Nat) : Option Nat := match P.underlying t with
  | some (.struct fs) => (match fs.toList[f]? with
    | some fd => (match P.info? fd.type with | some j => (match Nat.beq j.size 0 with | true => none | false => some fd.offset) | none => none)
    | none => none)
  | _ => none
noncomputable def xun (op : UnOp) (a : EV) : Option EV := match op, a with
  | .neg, .int k n => some (.int k (k.wrap (0 - n)))
  | .not, .bool b => some (.bool !b)
  | _, _ => none
def idxOk (i : Int) (n : Nat) : Option Nat := match decide (0 ≤ i), decide (i < n) with
  | true, true => some i.toNat
  | _, _ => none
noncomputable def xindexAddr (P : Program) (t : TypeId) (x : EV) (i : Int) : Option EV := match x with
  | .sl k off n _ => (match slElem P t, idxOk i n with | some z, some j => some (.ptr k (off + j * z)) | _, _ => none)
  | .slo k off n _ _ => (match slElem P t, idxOk i n with | some z, some j => some (.ptr k (off + j * z)) | _, _ => none)
  | .ptr k off => (match arElemA P t with | some (n, z) => (match idxOk i n with | some j => some (.ptr k (off + j * z)) | none => none) | none => none)
  | .glob k off => (match arElemA P t with | some (n, z) => (match idxOk i n with | some j => some (.glob k (off + j * z)) | none => none) | none => none)
  | _ => none
def bndE (d : Int) : Option EV → Option Int
  | none => some d
  | some (.int _ n) => some n
  | _ => none
noncomputable def xslice (P : Program) (t : TypeId) (x : EV) (lo hi : Option EV) : Option EV := match x with
  | .str s => (match isStr P t, bndE 0 lo, bndE (lenX s) hi with
    | true, some l, some h => (match decide (0 ≤ l), decide (l ≤ h), decide (h ≤ (lenX s : Nat)) with
      | true, true, true => some (.str (dropX (takeX s h.toNat) l.toNat))
      | _, _, _ => none)
    | _, _, _ => none)
  | .nils => (match slElem P t, bndE 0 lo, bndE 0 hi with
    | some _, some l, some h => (match decide (l = 0), decide (h = 0) with | true, true => some .nils | _, _ => none)
    | _, _, _ => none)
  | .sl k off n c => (match slElem P t, bndE 0 lo, bndE n hi with
    | some z, some l, some h => (match decide (0 ≤ l), decide (l ≤ h), decide (h ≤ c) with
      | true, true, true => some (.sl k (match Nat.beq c l.toNat with | true => off | false => off + l.toNat * z) (h.toNat - l.toNat) (c - l.toNat))
      | _, _, _ => none)
    | _, _, _ => none)
  | .slo k off n lb d => (match slElem P t, bndE 0 lo, bndE n hi with
    | some z, some l, some h => (match decide (0 ≤ l), decide (l ≤ h), decide (h ≤ lb), Nat.beq l.toNat 0 || Nat.blt l.toNat lb with
      | true, true, true, true => some (.slo k (off + l.toNat * z) (h.toNat - l.toNat) (lb - l.toNat) (d + l.toNat))
      | _, _, _, _ => none)
    | _, _, _ => none)
  | _ => none
noncomputable def xslice3 (P : Program) (t : TypeId) (x l h m : EV) : Option EV := match slElem P t, l, h, m with
  | some z, .int _ l, .int _ h, .int _ m => (match decide (0 ≤ l), decide (l ≤ h), decide (h ≤ m) with
    | true, true, true => (match x with
      | .nils => (match decide (m = 0) with | true => some .nils | false => none)
      | .sl k off n c => (match decide (m ≤ c) with | true => some (.sl k (match Nat.beq m.toNat l.toNat with | true => off | false => off + l.toNat * z) (h.toNat - l.toNat) (m.toNat - l.toNat)) | false => none)
      | .slo k off n lb d => (match decide (m ≤ lb) with | true => some (.sl k (match Nat.beq m.toNat l.toNat with | true => off | false => off + l.toNat * z) (h.toNat - l.toNat) (m.toNat - l.toNat)) | false => none)
      | _ => none)
    | _, _, _ => none)
  | _, _, _, _ => none
noncomputable def optE (env : XEnv) : Option Operand → Option (Option EV)
  | none => some none
  | some x => (match xrho env x with | some v => some (some v) | none => none)
noncomputable def lenE (a : EV) : Option Nat := match a with
  | .str s => some (lenX s)
  | .nils => some 0
  | .sl _ _ n _ => some n
  | .slo _ _ n _ _ => some n
  | _ => none
def kindLen (P : Program) (t : TypeId) (a : EV) : Bool := match P.underlying t, a with
  | some .string, .str _ => true
  | some (.slice _), .nils => true
  | some (.slice _), .sl _ _ _ _ => true
  | some (.slice _), .slo _ _ _ _ _ => true
  | _, _ => false
noncomputable def xlen (P : Program) (ts : Array TypeId) (a : EV) : Option EV := match ts[0]? with
  | some t => (match kindLen P t a, lenE a with | true, some n => some (.int .i64 n) | _, _ => none)
  | none => none
noncomputable def xopq (cx : XCx) (op : BinOp) (i : Nat) (b : EV) : Option EV := match b with | .int .i64 n => (match qlook cx.Q i op n with | some r => some (.bool r) | none => none) | _ => none
end Go.Sh
namespace Go.Sh
open Go
/-! operations that touch the store -/
abbrev XTri := Int × EV × Nat
noncomputable def getX (l : List XTri) (k : Int) : Option EV := List.rec (motive := fun _ => Option EV) none (fun t _ ih => Bool.rec (motive := fun _ => Option EV) ih (some t.2.1) (decide (k = t.1))) l
def updX (k : Int) (v : EV) : List XTri → List XTri
  | [] => []
  | t :: r => (match decide (k = t.1) with | true => (k, v, t.2.2) :: r | false => t :: updX k v r)
def delX (k : Int) : List XTri → List XTri
  | [] => []
  | t :: r => (match decide (k = t.1) with | true => r | false => t :: delX k r)
def bornX : List XTri → Int → Nat
  | [], _ => 0
  | t :: r, k => (match decide (k = t.1) with | true => t.2.2 | false => bornX r k)
def stampX (b : Nat) (v : EV) : List XTri → Option (List XTri)
  | [] => none
  | t :: r => (match Nat.beq t.2.2 b with | true => some ((t.1, v, t.2.2) :: r) | false => (match stampX b v r with | some r' => some (t :: r') | none => none))
def atStamp (b : Nat) : List XTri → Option XTri
  | [] => none
  | t :: r => (match Nat.beq t.2.2 b with | true => some t | false => atStamp b r)
def memX (l : List Nat) (i : Nat) : Bool := match l with | [] => false | x :: r => (match Nat.beq i x with | true => true | false => memX r i)
def leftX (seen : List Nat) : List XTri → List XTri
  | [] => []
  | t :: r => (match memX seen t.2.2 with | true => leftX seen r | false => t :: leftX seen r)
def allOld (since : Nat) : List XTri → Bool
  | [] => true
  | t :: r => (match Nat.blt t.2.2 since with | true => allOld since r | false => false)
def mapInt (P : Program) (t : TypeId) : Option TypeId := match P.underlying t with
  | some (.map kt et) => (match intTy P kt with | some .i64 => some et | _ => none)
  | _ => none
def zeroV (P : Program) (t : TypeId) : Option EV := match P.info? t with
  | some i => (match i.zero with | some z => ofV z | none => none)
  | none => none
/-- what a map holds -/
noncomputable def mapL (m : EV) (s : XSt) : Option (List XTri) := match m with | .nilm => some [] | .map r => (match s.get r with | some (.map l _) => some l | _ => none) | _ => none
noncomputable def xlookup (P : Program) (t : TypeId) (m k : EV) (ok : Bool) (s : XSt) : Option EV := match mapInt P t, k with
  | some et, .int .i64 k => (match zeroV P et, mapL m s with
    | some z, some l => some (match ok, getX l k with
      | true, some v => .tup [v, .bool true]
      | true, none => .tup [z, .bool false]
      | false, some v => v
      | false, none => z)
    | _, _ => none)
  | _, _ => none
/-- an opaque key that is known to be none of a map's -/
noncomputable def allNeQ (Q : List (Nat × BinOp × Int × Bool)) (i : Nat) (l : List XTri) : Bool := List.rec (motive := fun _ => Bool) true (fun t _ ih => match qlook Q i .eql t.1 with | some false => ih | _ => false) l
noncomputable def xlookO (cx : XCx) (t : TypeId) (m k : EV) (ok : Bool) (s : XSt) : Option EV := match k with
  | .opq (.int .i64) i => (match mapInt cx.P t with
    | some et => (match zeroV cx.P et, mapL m s with
      | some z, some l => (match allNeQ cx.Q i l with
        | true => some (match ok with | true => .tup [z, .bool false] | false => z)
        | false => none)
      | _, _ => none)
    | none => none)
  | k => xlookup cx.P t m k ok s
noncomputable def xupdate (P : Program) (t : TypeId) (m k v : EV) (s : XSt) : Option XSt := match mapInt P t, m, k with
  | some _, .map r, .int .i64 k => (match s.get r with
    | some (.map l c) => (match getX l k with
      | some _ => some (s.put r (.map (updX k v l) c))
      | none => some (s.put r (.map (appX l [(k, v, c)]) (c + 1))))
    | _ => none)
  | _, _, _ => none
noncomputable def xentry (P : Program) (t : TypeId) (m k : EV) (s : XSt) : Option (EV × XSt) := match mapInt P t, m, k with
  | some et, .map r, .int .i64 k => (match s.get r, zeroV P et with
    | some (.map l c), some z => (match getX l k with
      | some v => some (.tup [v, .int .i64 (bornX l k)], s)
      | none => some (.tup [z, .int .i64 c], s.put r (.map (appX l [(k, z, c)]) (c + 1))))
    | _, _ => none)
  | _, _, _ => none
noncomputable def xestore (m b v : EV) (s : XSt) : Option XSt := match m, b with
  | .map r, .int .i64 (.ofNat b) => (match s.get r with
    | some (.map l c) => (match stampX b v l with | some l' => some (s.put r (.map l' c)) | none => none)
    | _ => none)
  | _, _ => none
noncomputable def xrange (P : Program) (t : TypeId) (m : EV) (s : XSt) : Option (EV × XSt) := match mapInt P t, m with
  | some _, .map r => (match s.get r with
    | some (.map _ c) => (match s.new (.it r c [] c) with | some (k, s') => some (.ptr k 0, s') | none => none)
    | _ => none)
  | _, _ => none
noncomputable def xnext (it : EV) (isStr : Bool) (s : XSt) : Option (EV × XSt) := match it, isStr with
  | .ptr r 0, false => (match s.get r with
    | some (.it m since seen c0) => (match s.get m with
      | some (.map l c) => (match allOld since l, Nat.ble since c0, leftX seen l with
        | true, true, [] => some (.tup [.bool false], s)
        | true, true, [t] => some (.tup [.bool true, .int .i64 t.1, t.2.1], s.put r (.it m since (t.2.2 :: seen) c))
        | _, _, _ => none)
      | _ => none)
    | _ => none)
  | _, _ => none
noncomputable def xent (it : EV) (s : XSt) : Option EV := match it with
  | .ptr r 0 => (match s.get r with
    | some (.it m _ (b :: _) c0) => (match s.get m with
      | some (.map l c) => (match Nat.beq c c0, atStamp b l with
        | true, some t => some (.tup [.int .i64 t.1, t.2.1])
        | _, _ => none)
      | _ => none)
    | _ => none)
  | _ => none
def bytesE : List EV → Option (List UInt8)
  | [] => some []
  | .int .u8 n :: r => (match bytesE r with | some l => some (UInt8.ofNat n.toNat :: l) | none => none)
  | _ => none
def isBytes (P : Program) (t : TypeId) : Bool := match P.underlying t with
  | some (.slice e) => (match intTy P e with | some .u8 => true | _ => false)
  | _ => false
/-- a slice: where it begins, its length -/
def slE : EV → Option (EV × Nat)
  | .nils => some (.nilp, 0)
  | .sl k off n _ => some (.ptr k off, n)
  | .slo k off n _ _ => some (.ptr k off, n)
  | _ => none
noncomputable def xconv (cx : XCx) (src dst : TypeId) (v : EV) (s : XSt) : Option EV := match v with
  | .str l => (match isTyB cx.P src, isStr cx.P dst with | true, true => some (.str l) | _, _ => none)
  | .nils => (match isBytes cx.P src, isStr cx.P dst with | true, true => some (.str []) | _, _ => none)
  | _ => (match isBytes cx.P src, isStr cx.P dst, slE v with
    | true, true, some (p, n) => (match xread cx p n s with
      | some cs => (match bytesE cs with | some l => some (.str l) | none => none)
      | none => none)
    | _, _, _ => none)
def isIfc (P : Program) (t : TypeId) : Bool := match P.underlying t with | some (.interface _) => true | _ => false
noncomputable def xassert (P : Program) (x : EV) (u : TypeId) (ok : Bool) : Option EV := match isTyB P u, isIfc P u, x with
  | true, false, .ifc t v => (match Nat.beq t u, ok with
    | true, true => some (.tup [v, .bool true])
    | true, false => some v
    | false, true => (match zeroV P u with | some z => some (.tup [z, .bool false]) | none => none)
    | false, false => none)
  | true, false, .nili => (match ok with
    | true => (match zeroV P u with | some z => some (.tup [z, .bool false]) | none => none)
    | false => none)
  | _, _, _ => none
def repC {α : Type} : Nat → List α → List α
  | 0, _ => []
  | n + 1, l => l ++ repC n l
noncomputable def xbslice (P : Program) (t : TypeId) (n : Nat) (parts : List (Nat × EV)) : Option (TypeId × List EV) :=
  match P.underlying t with
  | some (.slice e) => (match P.info? e with
    | some j => (match zeroE P e, Nat.beq j.size 0, Nat.ble (n * j.size) 16777216, Nat.beq n 0 with
      | some z, false, true, false => (match Nat.beq (lenX z) j.size with
        | true => (match xfill (fun i => some (i * j.size, j.size)) (repC n z) parts with
          | some cs => some (e, cs)
          | none => none)
        | false => none)
      | some _, false, true, true => (match parts with | [] => some (e, []) | _ => none)
      | _, _, _, _ => none)
    | none => none)
  | _ => none
noncomputable def xmkslice (P : Program) (t : TypeId) (l c : EV) (s : XSt) : Option (EV × XSt) := match P.underlying t, l, c with
  | some (.slice e), .int .i64 (.ofNat l), .int .i64 (.ofNat c) => (match P.info? e, zeroE P e with
    | some j, some z => (match Nat.ble l c, Nat.ble (j.bytes * c) 1000000, Nat.ble c 1000000, Nat.beq (lenX z) j.size, Nat.blt 0 j.size with
      | true, true, true, true, true => (match s.new (.cells (repC c z) e 0) with | some (k, s') => some (.sl k 0 l c, s') | none => none)
      | _, _, _, _, _ => none)
    | _, _ => none)
  | _, _, _ => none
noncomputable def elZ (P : Program) (ts : Array TypeId) : Option (TypeId × Nat × Nat) := match ts.toList with
  | [t, t'] => (match Nat.beq t t', P.underlying t with
    | true, some (.slice e) => (match P.info? e, zeroE P e with
      | some j, some z => (match Nat.blt 0 j.size, Nat.beq (lenX z) j.size with | true, true => some (e, j.size, j.bytes) | _, _ => none)
      | _, _ => none)
    | _, _ => none)
  | _ => none
noncomputable def xsrc (cx : XCx) (x : EV) (z : Nat) (s : XSt) : Option (Nat × List EV) := match slE x with
  | some (p, n) => (match Nat.beq n 0 with
    | true => some (0, [])
    | false => (match xread cx p (Nat.mul n z) s with | some l => some (n, l) | none => none))
  | none => none
/-- a new open row in place of an old one -/
noncomputable def xgrow (k n m z e : Nat) (l new : List EV) (s : XSt) : Option (EV × XSt) := match (s.del k).new (.cells (appX (takeX l (Nat.mul n z)) new) e z) with
  | some (k', s') => some (.slo k' 0 (Nat.add n m) (Nat.add n m) 0, s')
  | none => none
noncomputable def xappend (cx : XCx) (ts : Array TypeId) (a x : EV) (s : XSt) : Option (EV × XSt) := match elZ cx.P ts with
  | some (e, z, by_) => (match xsrc cx x z s with
    | some (m, new) => (match a with
      | .nils => (match Nat.beq m 0 with
        | true => some (.nils, s)
        | false => (match allOne new && (Nat.ble (m * by_) 1000000000 && Nat.ble m 1000000000), s.new (.cells new e z) with
          | true, some (k, s') => some (.slo k 0 m m 0, s')
          | _, _ => none))
      | .sl k off n c => (match Nat.ble (Nat.add n m) c with
        | true => (match xwrite (.ptr k (Nat.add off (Nat.mul n z))) new s with | some s' => some (.sl k off (Nat.add n m) c, s') | none => none)
        | false => (match s.get k with
          | some (.cells l e' 0) => (match Nat.beq off 0 && (allOne new && (Nat.ble ((n + m) * by_) 1000000000 && (Nat.ble (n + m) 1000000000 && (Nat.beq e e' && (Nat.beq (lenX l) (c * z) && Nat.ble n c))))) with
            | true => xgrow k n m z e l new s
            | false => none)
          | _ => none))
      | .slo k off n lb d => (match Nat.ble (Nat.add n m) lb with
        | true => (match xwrite (.ptr k (Nat.add off (Nat.mul n z))) new s with | some s' => some (.slo k off (Nat.add n m) lb d, s') | none => none)
        | false => (match s.get k with
          | some (.cells l e' z') => (match Nat.beq z z' && (Nat.beq off 0 && (Nat.beq d 0 && (Nat.beq e e' && (allOne new && (Nat.ble (n * z) (lenX l) && (Nat.ble n lb && (Nat.ble ((n + m) * by_) 1000000000 && Nat.ble (n + m) 1000000000))))))) with
            | true => xgrow k n m z e l new s
            | false => none)
          | _ => none))
      | _ => none)
    | none => none)
  | none => none
noncomputable def xcopy (cx : XCx) (ts : Array TypeId) (a x : EV) (s : XSt) : Option (EV × XSt) := match elZ cx.P ts, slE a, slE x with
  | some (_, z, _), some (p, n), some (q, m) => (match Nat.beq (Nat.min m n) 0 with
    | true => some (.int .i64 0, s)
    | false => (match xread cx q (Nat.mul (Nat.min m n) z) s with
      | some cs => (match xwrite p cs s with | some s' => some (.int .i64 (Nat.min m n : Nat), s') | none => none)
      | none => none))
  | _, _, _ => none
noncomputable def xclear (cx : XCx) (ts : Array TypeId) (a : EV) (s : XSt) : Option XSt := match ts.toList, slE a with
  | [t], some (p, n) => (match cx.P.underlying t with
    | some (.slice e) => (match zeroE cx.P e with
      | some z => (match Nat.beq n 0 with
        | true => some s
        | false => xwrite p (repC n z) s)
      | none => none)
    | _ => none)
  | _, _ => none
noncomputable def xdelete (P : Program) (ts : Array TypeId) (m k : EV) (s : XSt) : Option XSt := match ts[0]?, m, k with
  | some t, .map r, .int .i64 k => (match mapInt P t, s.get r with
    | some _, some (.map l c) => some (s.put r (.map (delX k l) c))
    | _, _ => none)
  | _, _, _ => none
noncomputable def xaggAt (P : Program) (t : TypeId) (a b : EV) : Option EV := match a, b with
  | .agg cs, .int _ i => (match arElem P t with
    | some (n, z) => (match idxOk i n with | some j => nthX cs (Nat.mul j z) | none => none)
    | none => none)
  | _, _ => none
noncomputable def newE (s : XSt) (l : List EV) (e : TypeId) : Option (EV × XSt) := match allOne l, s.new (.cells l e 0) with
  | true, some (k, s') => some (.ptr k 0, s')
  | _, _ => none
def P_isMap (P : Program) (t : TypeId) : Bool := match P.underlying t with | some (.map _ _) => true | _ => false
def isPtrT (P : Program) (t : TypeId) : Option Bool := match P.underlying t with | some (.pointer _) => some true | some _ => some false | none => none
noncomputable def xmethod (P : Program) (t : TypeId) (v : EV) (name : String) : Option (FuncId × EV) := match P.info? t with
  | some i => (match i.methods.find? (·.name == name) with
    | some m => (match m.path.isEmpty, m.func, isPtrT P t with
      | true, some (f, true), some true => some (f, v)
      | true, some (f, false), some false => some (f, v)
      | _, _, _ => none)
    | none => none)
  | none => none
end Go.Sh
namespace Go.Sh
open Go
/-! equality of what was computed -/
def leafB : Leaf → Leaf → Bool
  | .int k, .int k' => decide (k = k')
  | .bool, .bool => true
  | .str, .str => true
  | .slice, .slice => true
  | .ptr, .ptr => true
  | .map, .map => true
  | .any, .any => true
  | _, _ => false
mutual
noncomputable def EV.beq : EV → EV → Bool
  | .int k n, .int k' n' => decide (k = k') && decide (n = n')
  | .bool a, .bool b => a == b
  | .str a, .str b => beqS a b
  | .nilp, .nilp => true
  | .ptr a b, .ptr a' b' => Nat.beq a a' && Nat.beq b b'
  | .glob a b, .glob a' b' => Nat.beq a a' && Nat.beq b b'
  | .nils, .nils => true
  | .sl a b c d, .sl a' b' c' d' => Nat.beq a a' && (Nat.beq b b' && (Nat.beq c c' && Nat.beq d d'))
  | .slo a b c d e, .slo a' b' c' d' e' => Nat.beq a a' && (Nat.beq b b' && (Nat.beq c c' && (Nat.beq d d' && Nat.beq e e')))
  | .nilm, .nilm => true
  | .map a, .map a' => Nat.beq a a'
  | .nilf, .nilf => true
  | .fn f l, .fn f' l' => Nat.beq f f' && EV.beqL l l'
  | .yld a, .yld a' => Nat.beq a a'
  | .nili, .nili => true
  | .ifc t v, .ifc t' v' => Nat.beq t t' && v.beq v'
  | .agg l, .agg l' => EV.beqL l l'
  | .tup l, .tup l' => EV.beqL l l'
  | .opq l i, .opq l' i' => leafB l l' && Nat.beq i i'
  | _, _ => false
noncomputable def EV.beqL : List EV → List EV → Bool
  | [], [] => true
  | a :: r, b :: q => (match a.beq b with | true => EV.beqL r q | false => false)
  | _, _ => false
end
def beqN : List Nat → List Nat → Bool
  | [], [] => true
  | a :: r, b :: q => (match Nat.beq a b with | true => beqN r q | false => false)
  | _, _ => false
noncomputable def beqX : List XTri → List XTri → Bool
  | [], [] => true
  | (a, v, n) :: r, (b, u, m) :: q => (match decide (a = b), v.beq u, Nat.beq n m with | true, true, true => beqX r q | _, _, _ => false)
  | _, _ => false
def beqJ : Option (Option Nat) → Option (Option Nat) → Bool
  | none, none => true
  | some none, some none => true
  | some (some a), some (some b) => Nat.beq a b
  | _, _ => false
noncomputable def EObj.beq : EObj → EObj → Bool
  | .cells l e z, .cells l' e' z' => EV.beqL l l' && (Nat.beq e e' && Nat.beq z z')
  | .map l c, .map l' c' => beqX l l' && Nat.beq c c'
  | .it m s l c, .it m' s' l' c' => Nat.beq m m' && (Nat.beq s s' && (beqN l l' && Nat.beq c c'))
  | .dfr a, .dfr b => a == b
  | .lp s j, .lp s' j' => Nat.beq s s' && beqJ j j'
  | _, _ => false
noncomputable def Tr.beq : Tr → Tr → Bool
  | .lf, .lf => true
  | .nd l o r, .nd l' o' r' => (match l.beq l', (match o, o' with | none, none => true | some a, some b => a.beq b | _, _ => false), r.beq r' with | true, true, true => true | _, _, _ => false)
  | _, _ => false
noncomputable def XSt.beq (a b : XSt) : Bool := a.h.beq b.h && (Nat.beq a.nx b.nx && Nat.beq a.lim b.lim)
end Go.Sh
namespace Go.Sh
open Go
/-! what is known of the temporaries: a tree of eight arms -/
inductive ET where
  | v (o : Option EV)
  | n (a0 a1 a2 a3 a4 a5 a6 a7 : ET)
/-- made ready (two constructors: so that the kernel brings it to its head first) -/
inductive Cl (α : Type) where
  | mk (f : α)
  | no
abbrev Gt := ET → Option EV
abbrev St_ := ET → EV → ET
noncomputable def etv (e : ET) : Option EV := ET.rec (motive := fun _ => Option EV) (fun o => o) (fun _ _ _ _ _ _ _ _ _ _ _ _ _ _ _ _ => none) e
noncomputable def arm (d : Nat) (f : Gt) : Cl Gt := match d with
  | 0 => .mk fun e => ET.rec (motive := fun _ => Option EV) (fun _ => none) (fun a _ _ _ _ _ _ _ _ _ _ _ _ _ _ _ => f a) e
  | 1 => .mk fun e => ET.rec (motive := fun _ => Option EV) (fun _ => none) (fun _ a _ _ _ _ _ _ _ _ _ _ _ _ _ _ => f a) e
  | 2 => .mk fun e => ET.rec (motive := fun _ => Option EV) (fun _ => none) (fun _ _ a _ _ _ _ _ _ _ _ _ _ _ _ _ => f a) e
  | 3 => .mk fun e => ET.rec (motive := fun _ => Option EV) (fun _ => none) (fun _ _ _ a _ _ _ _ _ _ _ _ _ _ _ _ => f a) e
  | 4 => .mk fun e => ET.rec (motive := fun _ => Option EV) (fun _ => none) (fun _ _ _ _ a _ _ _ _ _ _ _ _ _ _ _ => f a) e
  | 5 => .mk fun e => ET.rec (motive := fun _ => Option EV) (fun _ => none) (fun _ _ _ _ _ a _ _ _ _ _ _ _ _ _ _ => f a) e
  | 6 => .mk fun e => ET.rec (motive := fun _ => Option EV) (fun _ => none) (fun _ _ _ _ _ _ a _ _ _ _ _ _ _ _ _ => f a) e
  | 7 => .mk fun e => ET.rec (motive := fun _ => Option EV) (fun _ => none) (fun _ _ _ _ _ _ _ a _ _ _ _ _ _ _ _ => f a) e
  | _ => .no
abbrev Sv := ET → Option EV → ET
noncomputable def armS (d : Nat) (f : Sv) : Cl Sv := match d with
  | 0 => .mk fun e v => ET.rec (motive := fun _ => ET) (fun o => .v o) (fun a0 a1 a2 a3 a4 a5 a6 a7 _ _ _ _ _ _ _ _ => .n (f a0 v) a1 a2 a3 a4 a5 a6 a7) e
  | 1 => .mk fun e v => ET.rec (motive := fun _ => ET) (fun o => .v o) (fun a0 a1 a2 a3 a4 a5 a6 a7 _ _ _ _ _ _ _ _ => .n a0 (f a1 v) a2 a3 a4 a5 a6 a7) e
  | 2 => .mk fun e v => ET.rec (motive := fun _ => ET) (fun o => .v o) (fun a0 a1 a2 a3 a4 a5 a6 a7 _ _ _ _ _ _ _ _ => .n a0 a1 (f a2 v) a3 a4 a5 a6 a7) e
  | 3 => .mk fun e v => ET.rec (motive := fun _ => ET) (fun o => .v o) (fun a0 a1 a2 a3 a4 a5 a6 a7 _ _ _ _ _ _ _ _ => .n a0 a1 a2 (f a3 v) a4 a5 a6 a7) e
  | 4 => .mk fun e v => ET.rec (motive := fun _ => ET) (fun o => .v o) (fun a0 a1 a2 a3 a4 a5 a6 a7 _ _ _ _ _ _ _ _ => .n a0 a1 a2 a3 (f a4 v) a5 a6 a7) e
  | 5 => .mk fun e v => ET.rec (motive := fun _ => ET) (fun o => .v o) (fun a0 a1 a2 a3 a4 a5 a6 a7 _ _ _ _ _ _ _ _ => .n a0 a1 a2 a3 a4 (f a5 v) a6 a7) e
  | 6 => .mk fun e v => ET.rec (motive := fun _ => ET) (fun o => .v o) (fun a0 a1 a2 a3 a4 a5 a6 a7 _ _ _ _ _ _ _ _ => .n a0 a1 a2 a3 a4 a5 (f a6 v) a7) e
  | 7 => .mk fun e v => ET.rec (motive := fun _ => ET) (fun o => .v o) (fun a0 a1 a2 a3 a4 a5 a6 a7 _ _ _ _ _ _ _ _ => .n a0 a1 a2 a3 a4 a5 a6 (f a7 v)) e
  | _ => .no
noncomputable def cget : Nat → Nat → Cl Gt
  | 0, _ => .mk etv
  | n + 1, t => (match cget n (Nat.div t 8) with | .mk f => arm (Nat.mod t 8) f | .no => .no)
noncomputable def cset : Nat → Nat → Cl Sv
  | 0, _ => .mk (fun _ v => .v v)
  | n + 1, t => (match cset n (Nat.div t 8) with | .mk f => armS (Nat.mod t 8) f | .no => .no)
noncomputable def cgt (D t : Nat) : Cl Gt := match Nat.blt t (Nat.pow 8 D) with | true => cget D t | false => .no
noncomputable def cst (D t : Nat) : Cl Sv := match Nat.blt t (Nat.pow 8 D) with | true => cset D t | false => .no
def et0 : Nat → ET
  | 0 => .v none
  | n + 1 => .n (et0 n) (et0 n) (et0 n) (et0 n) (et0 n) (et0 n) (et0 n) (et0 n)
noncomputable abbrev oB {α : Type} (o : Option α) (k : α → Bool) : Bool := Option.rec (motive := fun _ => Bool) false k o
noncomputable abbrev bB (b : Bool) (x : Bool) : Bool := Bool.rec (motive := fun _ => Bool) false x b
noncomputable def csrc (D : Nat) (x : Operand) : Cl Gt := match x with
  | .tmp t => cgt D t
  | .const v => (match ofV v with | some e => .mk fun _ => some e | none => .no)
  | .global g => .mk fun _ => some (.glob g 0)
  | .func f => .mk fun _ => some (.fn f [])
abbrev GtL := ET → (List EV → Bool) → Bool
noncomputable def csrcL (D : Nat) : List Operand → Cl GtL
  | [] => .mk fun _ k => k []
  | x :: r => (match csrc D x, csrcL D r with
    | .mk g, .mk h => .mk fun e k => oB (g e) fun v => h e fun l => k (v :: l)
    | _, _ => .no)
abbrev GtP := ET → (List (Nat × EV) → Bool) → Bool
noncomputable def cparts (D : Nat) : List (Nat × Operand) → Cl GtP
  | [] => .mk fun _ k => k []
  | x :: r => (match csrc D x.2, cparts D r with
    | .mk g, .mk h => .mk fun e k => oB (g e) fun v => h e fun l => k ((x.1, v) :: l)
    | _, _ => .no)
/-! kinds, looked at ahead -/
def eqK : IntKind → IntKind → Bool
  | .i8, .i8 => true | .i16, .i16 => true | .i32, .i32 => true | .i64, .i64 => true
  | .u8, .u8 => true | .u16, .u16 => true | .u32, .u32 => true | .u64, .u64 => true
  | _, _ => false
abbrev Ck := EV → Bool
def cleaf : Leaf → Ck
  | .any => fun _ => true
  | .int k => fun v => (match v with | .int k' _ => eqK k k' | .opq (.int k') _ => eqK k k' | _ => false)
  | .bool => fun v => (match v with | .bool _ => true | .opq .bool _ => true | _ => false)
  | .str => fun v => (match v with | .str _ => true | .opq .str _ => true | _ => false)
  | .slice => fun v => (match v with | .nils => true | .sl _ _ _ _ => true | .slo _ _ _ _ _ => true | .opq .slice _ => true | _ => false)
  | .ptr => fun v => (match v with | .nilp => true | .ptr _ _ => true | .glob _ _ => true | .opq .ptr _ => true | _ => false)
  | .map => fun v => (match v with | .nilm => true | .map _ => true | .opq .map _ => true | _ => false)
def clf (l : Leaf) : Cl Ck := match l with
  | .any => .mk (cleaf .any)
  | .int .i64 => .mk fun v => (match v with | .int .i64 _ => true | .opq (.int .i64) _ => true | _ => false)
  | .int k => .mk (cleaf (.int k))
  | .bool => .mk (cleaf .bool)
  | .str => .mk (cleaf .str)
  | .slice => .mk (cleaf .slice)
  | .ptr => .mk (cleaf .ptr)
  | .map => .mk (cleaf .map)
abbrev CkL := List EV → Bool
noncomputable def clfs : List Leaf → Cl CkL
  | [] => .mk fun l => List.rec (motive := fun _ => Bool) true (fun _ _ _ => false) l
  | a :: r => (match clf a, clfs r with
    | .mk f, .mk g => .mk fun l => List.rec (motive := fun _ => Bool) false (fun v q _ => bB (f v) (g q)) l
    | _, _ => .no)
noncomputable def cty (P : Program) (t : TypeId) : Cl Ck := match isAggB P t with
  | true => (match clfs (leavesOf P 20 t) with | .mk g => .mk fun v => (match v with | .agg l => g l | _ => false) | .no => .no)
  | false => clf (leaf1 P t)
noncomputable def ctys (P : Program) : List TypeId → Cl CkL
  | [] => .mk fun l => List.rec (motive := fun _ => Bool) true (fun _ _ _ => false) l
  | t :: r => (match cty P t, ctys P r with
    | .mk f, .mk g => .mk fun l => List.rec (motive := fun _ => Bool) false (fun v q _ => bB (f v) (g q)) l
    | _, _ => .no)
noncomputable def cres (P : Program) (t : TypeId) : Cl Ck := match P.underlying t with
  | some (.tuple ts) => (match ctys P ts.toList with | .mk g => .mk fun v => (match v with | .tup l => g l | _ => false) | .no => .no)
  | _ => cty P t
/-! loads and stores, looked at ahead -/
abbrev Ld_ := EV → XSt → (EV → Bool) → Bool
noncomputable def cload (cx : XCx) (t : TypeId) : Cl Ld_ := match isTyB cx.P t, isAggB cx.P t with
  | true, true => (match bigA cx.P t with
    | some n => .mk fun p s k => oB (xread cx p n s) fun cs => k (.agg cs)
    | none => (match sizeB cx.P t (leavesOf cx.P 20 t).length, clfs (leavesOf cx.P 20 t), (leavesOf cx.P 20 t).length with
      | true, .mk g, n => .mk fun p s k => oB (xread cx p n s) fun cs => bB (g cs) (k (.agg cs))
      | _, _, _ => .no))
  | true, false => (match clf (leaf1 cx.P t) with
    | .mk g => .mk fun p s k => oB (xread1 cx p s) fun v => bB (g v) (k v)
    | .no => .no)
  | false, _ => .no
abbrev Sr_ := EV → EV → XSt → (XSt → Bool) → Bool
noncomputable def cstore (cx : XCx) (t : TypeId) : Cl Sr_ := match isTyB cx.P t, isAggB cx.P t, sizeB cx.P t 1 with
  | true, false, true => .mk fun p v s k => oB (xwrite1 p v s) k
  | true, true, _ => .mk fun p v s k => (match v with
    | .agg cs => bB (sizeB cx.P t (lenX cs)) (oB (xwrite p cs s) k)
    | _ => false)
  | _, _, _ => .no
/-! operations that look at no memory -/
abbrev B2 := EV → EV → Option EV
noncomputable def cbin (cx : XCx) (op : BinOp) (t : TypeId) (x y : Operand) : Cl B2 := match isNilC y, isNilFC y with
  | true, _ => .mk fun a _ => xnil cx.P op t a
  | false, true => .mk fun a _ => xnilF cx.P op t a
  | false, false => (match op with
    | .add => .mk fun a b => (match a with
      | .int k m => (match b with | .int k' n => (match eqK k k' with | true => some (.int k (k.wrap (m + n))) | false => none) | _ => none)
      | .str s => (match b with | .str u => (match Nat.ble (Nat.add (lenX s) (lenX u)) 9223372036854775807 with | true => some (.str (appX s u)) | false => none) | _ => none)
      | _ => none)
    | .sub => .mk fun a b => (match a with | .int k m => (match b with | .int k' n => (match eqK k k' with | true => some (.int k (k.wrap (m - n))) | false => none) | _ => none) | _ => none)
    | .mul => .mk fun a b => (match a with | .int k m => (match b with | .int k' n => (match eqK k k' with | true => some (.int k (k.wrap (m * n))) | false => none) | _ => none) | _ => none)
    | .lss => .mk fun a b => (match a with | .int k m => (match b with | .int k' n => (match eqK k k' with | true => some (.bool (decide (m < n))) | false => none) | _ => none) | .opq (.int .i64) i => xopq cx .lss i b | _ => none)
    | .leq => .mk fun a b => (match a with | .int k m => (match b with | .int k' n => (match eqK k k' with | true => some (.bool (decide (m ≤ n))) | false => none) | _ => none) | .opq (.int .i64) i => xopq cx .leq i b | _ => none)
    | .gtr => .mk fun a b => (match a with | .int k m => (match b with | .int k' n => (match eqK k k' with | true => some (.bool (decide (m > n))) | false => none) | _ => none) | .opq (.int .i64) i => xopq cx .gtr i b | _ => none)
    | .geq => .mk fun a b => (match a with | .int k m => (match b with | .int k' n => (match eqK k k' with | true => some (.bool (decide (m ≥ n))) | false => none) | _ => none) | .opq (.int .i64) i => xopq cx .geq i b | _ => none)
    | .eql => .mk fun a b => (match a with | .int k m => (match b with | .int k' n => (match eqK k k' with | true => some (.bool (m == n)) | false => none) | _ => none) | .opq (.int .i64) i => xopq cx .eql i b | a => xeq cx.P false t a b)
    | .neq => .mk fun a b => (match a with | .int k m => (match b with | .int k' n => (match eqK k k' with | true => some (.bool (m != n)) | false => none) | _ => none) | .opq (.int .i64) i => xopq cx .neq i b | a => xeq cx.P true t a b)
    | op => .mk fun a b => (match a with
      | .int k m => (match b with | .int k' n => (match isShift op with | true => xshift op k m n | false => (match eqK k k' with | true => xint op k m n | false => none)) | _ => none)
      | _ => none))
abbrev Pf := ET → (EV → Bool) → Bool
noncomputable def c1 (a : Cl Gt) (f : EV → Option EV) : Cl Pf := match a with | .mk g => .mk fun e k => oB (g e) fun a => oB (f a) k | .no => .no
noncomputable def c2 (a b : Cl Gt) (f : Cl B2) : Cl Pf := match a, b, f with | .mk g, .mk h, .mk f => .mk fun e k => oB (g e) fun a => oB (h e) fun b => oB (f a b) k | _, _, _ => .no
noncomputable def coptE (D : Nat) (x : Option Operand) : Cl (ET → Option (Option EV)) := match x with
  | none => .mk fun _ => some none
  | some x => (match csrc D x with | .mk g => .mk fun e => (match g e with | some v => some (some v) | none => none) | .no => .no)
noncomputable def cP (cx : XCx) (D : Nat) (ty : TypeId) (op : Op) : Cl Pf := match op with
  | .move x => (match csrc D x with | .mk g => .mk fun e k => oB (g e) k | .no => .no)
  | .assign x => (match csrc D x with | .mk g => .mk fun e k => oB (g e) k | .no => .no)
  | .pick c x y => (match csrc D c, csrc D x, csrc D y with
    | .mk g, .mk a, .mk b => .mk fun e k => oB (g e) fun v => oB (a e) fun x => oB (b e) fun y => (match v with | .bool b => Bool.rec (motive := fun _ => Bool) (k y) (k x) b | _ => false)
    | _, _, _ => .no)
  | .nilCheck x => (match csrc D x with | .mk g => .mk fun e k => oB (g e) fun v => (match v with | .ptr a b => k (.ptr a b) | .glob a b => k (.glob a b) | _ => false) | .no => .no)
  | .binOp op t x y _ => c2 (csrc D x) (csrc D y) (cbin cx op t x y)
  | .build t parts => (match cparts D parts.toList with | .mk g => .mk fun e k => g e fun l => oB (xbuild cx.P t l) fun cs => k (.agg cs) | .no => .no)
  | .field t x f => c1 (csrc D x) fun v => (match v with | .agg cs => xfield cx.P t f cs | _ => none)
  | .fieldAddr s x f => (match fieldOff cx.P s f with
    | some d => c1 (csrc D x) fun v => (match v with | .ptr k o => some (.ptr k (Nat.add o d)) | .glob k o => some (.glob k (Nat.add o d)) | _ => none)
    | none => .no)
  | .unOp op _ x => c1 (csrc D x) (xun op)
  | .extract x i => c1 (csrc D x) fun v => (match v with | .tup l => nthX l i | _ => none)
  | .makeInterface t x => (match isIfTy cx.P t, isTyB cx.P t with | false, true => c1 (csrc D x) fun v => some (.ifc t v) | _, _ => .no)
  | .index t x i => (match isStr cx.P t with
    | true => c2 (csrc D x) (csrc D i) (.mk fun a b => (match a with
      | .str s => (match b with
        | .int _ i => (match idxOk i (lenX s) with | some j => (match nthX s j with | some b => some (.int .u8 b.toNat) | none => none) | none => none)
        | _ => none)
      | _ => none))
    | false => .no)
  | .indexAddr t x i => c2 (csrc D x) (csrc D i) (.mk fun a b => (match b with | .int _ i => xindexAddr cx.P t a i | _ => none))
  | .slice t x lo hi none => (match csrc D x, coptE D lo, coptE D hi with
    | .mk g, .mk l, .mk h => .mk fun e k => oB (g e) fun a => oB (l e) fun l => oB (h e) fun h => oB (xslice cx.P t a l h) k
    | _, _, _ => .no)
  | .call c => (match c.callee with
    | .builtin .len => (match c.args.toList with | [x] => c1 (csrc D x) (xlen cx.P c.argTypes) | _ => .no)
    | .builtin .min => (match c.args.toList with | [x, y] => c2 (csrc D x) (csrc D y) (.mk fun a b => (match a with | .int k m => (match b with | .int _ n => some (.int k (match decide (n < m) with | true => n | false => m)) | _ => none) | _ => none)) | _ => .no)
    | .builtin .max => (match c.args.toList with | [x, y] => c2 (csrc D x) (csrc D y) (.mk fun a b => (match a with | .int k m => (match b with | .int _ n => some (.int k (match decide (n > m) with | true => n | false => m)) | _ => none) | _ => none)) | _ => .no)
    | _ => .no)
  | _ => .no
/-! effects -/
abbrev XK := EV → XSt → Bool
abbrev XHnd := List EV → XSt → (Bool → XSt → Bool) → Bool
abbrev XG := List (Nat × XHnd)
abbrev XCall := XG → FuncId → List EV → XSt → XK → Bool
abbrev XEff := XCall → XG → ET → XSt → XK → Bool
noncomputable def hB (Γ : XG) (l : Nat) (k : XHnd → Bool) : Bool := List.rec (motive := fun _ => Bool) false (fun p _ ih => Bool.rec (motive := fun _ => Bool) ih (k p.2) (Nat.beq p.1 l)) Γ
noncomputable def cE (cx : XCx) (D : Nat) (ty : TypeId) (op : Op) : Cl XEff := match op with
  | .load t x => (match csrc D x, cload cx t with | .mk g, .mk f => .mk fun _ _ e s k => oB (g e) fun p => f p s fun v => k v s | _, _ => .no)
  | .store t x v => (match csrc D x, csrc D v, cstore cx t with | .mk g, .mk h, .mk f => .mk fun _ _ e s k => oB (g e) fun p => oB (h e) fun v => f p v s fun s => k (.tup []) s | _, _, _ => .no)
  | .alloc t => (match zeroE cx.P t with | some l => .mk fun _ _ _ s k => oB (newE s l t) fun r => k r.1 r.2 | none => .no)
  | .box t x => (match csrc D x with | .mk g => .mk fun _ _ e s k => oB (g e) fun v => oB (newE s v.cells t) fun r => k r.1 r.2 | .no => .no)
  | .buildSlice t n parts => (match cparts D parts.toList with
    | .mk g => .mk fun _ _ e s k => g e fun l => oB (xbslice cx.P t n l) fun c => bB (allOne c.2) (oB (s.new (.cells c.2 c.1 0)) fun r => k (.sl r.1 0 n n) r.2)
    | .no => .no)
  | .makeMap t none => .mk fun _ _ _ s k => oB (s.new (.map [] 0)) fun r => k (.map r.1) r.2
  | .makeMap t (some x) => (match csrc D x, P_isMap cx.P t with
    | .mk g, true => .mk fun _ _ e s k => oB (g e) fun v => (match v with | .int _ _ => oB (s.new (.map [] 0)) fun r => k (.map r.1) r.2 | _ => false)
    | _, _ => .no)
  | .makeSlice t l c => (match csrc D l, csrc D c with | .mk g, .mk h => .mk fun _ _ e s k => oB (g e) fun l => oB (h e) fun c => oB (xmkslice cx.P t l c s) fun r => k r.1 r.2 | _, _ => .no)
  | .makeFunc (.func f) fs cs => (match fs.toList, csrcL D cs.toList with
    | [], .mk g => .mk fun _ _ e s k => g e fun l => k (.fn f l) s
    | _, _ => .no)
  | .lookup t x i ok => (match csrc D x, csrc D i, cres cx.P ty with | .mk g, .mk h, .mk c => .mk fun _ _ e s k => oB (g e) fun m => oB (h e) fun i => oB (xlookO cx t m i ok s) fun v => bB (c v) (k v s) | _, _, _ => .no)
  | .mapUpdate t m i x => (match csrc D m, csrc D i, csrc D x with | .mk g, .mk h, .mk q => .mk fun _ _ e s k => oB (g e) fun m => oB (h e) fun i => oB (q e) fun v => oB (xupdate cx.P t m i v s) fun s => k (.tup []) s | _, _, _ => .no)
  | .insert t m i x => (match csrc D m, csrc D i, csrc D x with | .mk g, .mk h, .mk q => .mk fun _ _ e s k => oB (g e) fun m => oB (h e) fun i => oB (q e) fun v => oB (xupdate cx.P t m i v s) fun s => k (.tup []) s | _, _, _ => .no)
  | .mapEntry t m i => (match csrc D m, csrc D i, cty cx.P (mapEl cx.P t) with | .mk g, .mk h, .mk q => .mk fun _ _ e s k => oB (g e) fun m => oB (h e) fun i => oB (xentry cx.P t m i s) fun r => (match r.1 with | .tup l => (match l with | x :: _ => bB (q x) (k r.1 r.2) | _ => false) | _ => false) | _, _, _ => .no)
  | .entryStore _ m b x => (match csrc D m, csrc D b, csrc D x with | .mk g, .mk h, .mk q => .mk fun _ _ e s k => oB (g e) fun m => oB (h e) fun b => oB (q e) fun v => oB (xestore m b v s) fun s => k (.tup []) s | _, _, _ => .no)
  | .range t x => (match csrc D x with | .mk g => .mk fun _ _ e s k => oB (g e) fun m => oB (xrange cx.P t m s) fun r => k r.1 r.2 | .no => .no)
  | .next x i => (match csrc D x with | .mk g => .mk fun _ _ e s k => oB (g e) fun it => oB (xnext it i s) fun r => k r.1 r.2 | .no => .no)
  | .entry x => (match csrc D x with | .mk g => .mk fun _ _ e s k => oB (g e) fun it => oB (xent it s) fun v => k v s | .no => .no)
  | .convert a b x => (match csrc D x, intTy cx.P a, intTy cx.P b with
    | .mk g, some _, some q => .mk fun _ _ e s k => oB (g e) fun v => (match v with | .int _ n => k (.int q (q.wrap n)) s | _ => false)
    | .mk g, _, _ => .mk fun _ _ e s k => oB (g e) fun v => oB (xconv cx a b v s) fun v => k v s
    | .no, _, _ => .no)
  | .typeAssert x _ u ok => (match csrc D x, cres cx.P ty with | .mk g, .mk c => .mk fun _ _ e s k => oB (g e) fun v => oB (xassert cx.P v u ok) fun v => bB (c v) (k v s) | _, _ => .no)
  | .index t x i => (match csrc D x, csrc D i, cty cx.P ty with | .mk g, .mk h, .mk q => .mk fun _ _ e s k => oB (g e) fun a => oB (h e) fun b => oB (xaggAt cx.P t a b) fun v => bB (q v) (k v s) | _, _, _ => .no)
  | .slice t x (some lo) (some hi) (some mx) => (match csrc D x, csrc D lo, csrc D hi, csrc D mx with
    | .mk g, .mk l, .mk h, .mk m => .mk fun _ _ e s k => oB (g e) fun a => oB (l e) fun l => oB (h e) fun h => oB (m e) fun m => oB (xslice3 cx.P t a l h m) fun v => k v s
    | _, _, _, _ => .no)
  | .call c => (match csrcL D c.args.toList, cres cx.P ty, c.callee with
    | .mk a, .mk q, .value (.func g) => .mk fun call Γ e s k => a e fun args => call Γ g args s fun v s => bB (q v) (k v s)
    | .mk a, .mk q, .value f => (match csrc D f with
      | .mk f => .mk fun call Γ e s k => a e fun args => oB (f e) fun f => (match f with
        | .fn g cs => call Γ g (appX args cs) s fun v s => bB (q v) (k v s)
        | .yld l => hB Γ l fun h => h args s fun b s => bB (q (.bool b)) (k (.bool b) s)
        | _ => false)
      | .no => .no)
    | .mk a, .mk q, .invoke x name => (match csrc D x with
      | .mk x => .mk fun call Γ e s k => a e fun args => oB (x e) fun x => (match x with
        | .ifc t v => oB (xmethod cx.P t v name) fun m => call Γ m.1 (m.2 :: args) s fun v s => bB (q v) (k v s)
        | _ => false)
      | .no => .no)
    | .mk a, _, .builtin .append => (match cty cx.P ty with
      | .mk q => .mk fun _ _ e s k => a e fun args => (match args with | [a, x] => oB (xappend cx c.argTypes a x s) fun r => bB (q r.1) (k r.1 r.2) | _ => false)
      | .no => .no)
    | .mk a, _, .builtin .copy => .mk fun _ _ e s k => a e fun args => (match args with | [a, x] => oB (xcopy cx c.argTypes a x s) fun r => k r.1 r.2 | _ => false)
    | .mk a, _, .builtin .delete => .mk fun _ _ e s k => a e fun args => (match args with | [m, i] => oB (xdelete cx.P c.argTypes m i s) fun s => k (.tup []) s | _ => false)
    | .mk a, _, .builtin .clear => .mk fun _ _ e s k => a e fun args => (match args with | [m] => oB (xclear cx c.argTypes m s) fun s => k (.tup []) s | _ => false)
    | _, _, _ => .no)
  | _ => .no
/-! regions -/
noncomputable def lift (p : Cl Pf) : Cl XEff := match p with | .mk f => .mk fun _ _ e s k => f e fun v => k v s | .no => .no
noncomputable def cOp (cx : XCx) (D : Nat) (ops : List Oper) (o : Oper) : Cl XEff :=
  match badOp o.op, isEnt ops o, isIfN cx.P ops o with
  | true, _, _ => .no
  | false, true, _ => (match cP cx D o.type o.op, cty cx.P o.type with | .mk f, .mk c => .mk fun _ _ e s k => f e fun v => bB (c v) (k v s) | _, _ => .no)
  | false, false, true => (match csrc D (nckX o.op) with | .mk g => .mk fun _ _ e s k => oB (g e) fun v => (match v with | .ifc t v => k (.ifc t v) s | _ => false) | .no => .no)
  | false, false, false => (match o.op with
    | .slice _ _ _ _ (some _) => cE cx D o.type o.op
    | .index t _ _ => (match isStr cx.P t with | true => lift (cP cx D o.type o.op) | false => cE cx D o.type o.op)
    | op => (match kindS op with | .bare => lift (cP cx D o.type op) | _ => cE cx D o.type op))
noncomputable def cdst (D N : Nat) (dst : Option Tmp) : Cl Sv := match dst with
  | none => .mk fun e _ => e
  | some d => (match Nat.blt d N with | true => cst D d | false => .no)
abbrev XReg := XCall → XG → ET → XSt → (ET → XSt → Bool) → Bool
/-- an operation with its guard, and what comes behind it -/
noncomputable def cguard (D N : Nat) (ops : List Oper) (o : Oper) (f : Cl XEff) (r : Cl XReg) : Cl XReg := match f, r, cdst D N o.dst with
  | .mk f, .mk r, .mk d => (match o.guard with
    | none => .mk fun call Γ e s K => f call Γ e s fun v s => r call Γ (d e (some v)) s K
    | some (j, want) => (match gtmp ops j with
      | some t => (match cgt D t with
        | .mk g => .mk fun call Γ e s K => oB (g e) fun v => (match v with
          | .bool b => Bool.rec (motive := fun _ => Bool) (r call Γ (d e (some (.tup []))) s K) (f call Γ e s fun v s => r call Γ (d e (some v)) s K) (b == want)
          | .tup _ => r call Γ (d e (some (.tup []))) s K
          | _ => false)
        | .no => .no)
      | none => .no))
  | _, _, _ => .no
noncomputable def cops (cx : XCx) (D N : Nat) (ops : List Oper) : List Oper → Cl XReg
  | [] => .mk fun _ _ e s K => K e s
  | o :: r => cguard D N ops o (cOp cx D ops o) (cops cx D N ops r)
/-- what a drawn region has looked at; the stores behind its effects -/
abbrev XLog := List (EV × Nat) × List XSt
abbrev XKS := ET → XSt → XLog → Bool
abbrev XEffS := XCall → XG → XSt → ET → XSt → XLog → (EV → XSt → XLog → Bool) → Bool
noncomputable def cOpS (cx : XCx) (D : Nat) (last pre : Bool) (o : Oper) : Cl XEffS := match badOp o.op, last, pre, kindS o.op with
  | true, _, _, _ => .no
  | false, true, _, .eff => (match cE cx D o.type o.op with | .mk f => .mk fun call Γ _ e s g k => f call Γ e s fun v s => k v s g | .no => .no)
  | false, false, _, .eff => (match cE cx D o.type o.op with | .mk f => .mk fun call Γ _ e s g k => f call Γ e s fun v s => k v s (g.1, s :: g.2) | .no => .no)
  | false, _, true, .load => (match cE cx D o.type o.op with | .mk f => .mk fun call Γ _ e s g k => f call Γ e s fun v s => k v s g | .no => .no)
  | false, _, false, .load => (match o.op with
    | .load t x => (match bigA cx.P t, csrc D x, cload cx t with
      | none, .mk a, .mk f => (match isAggB cx.P t with
        | true => (match (leavesOf cx.P 20 t).length with | n => .mk fun _ _ s0 e s g k => oB (a e) fun p => f p s0 fun v => k v s ((p, n) :: g.1, g.2))
        | false => .mk fun _ _ s0 e s g k => oB (a e) fun p => f p s0 fun v => k v s ((p, 1) :: g.1, g.2))
      | _, _, _ => .no)
    | _ => .no)
  | false, _, _, .bare => (match cP cx D o.type o.op with | .mk f => .mk fun _ _ _ e s g k => f e fun v => k v s g | .no => .no)
/-- as cOpS; an interface value may be looked at for nil -/
noncomputable def cOpU (cx : XCx) (D : Nat) (ops : List Oper) (last pre : Bool) (o : Oper) : Cl XEffS := match isIfN cx.P ops o with
  | true => (match csrc D (nckX o.op) with | .mk g => .mk fun _ _ _ e s lg k => oB (g e) fun v => (match v with | .ifc t u => k (.ifc t u) s lg | _ => false) | .no => .no)
  | false => cOpS cx D last pre o
def hasTwo : OT → Bool
  | .nil => false
  | .one _ r => hasTwo r
  | .two _ _ => true
  | .jn _ _ _ => true
/-- the operations of an order; none stands twice on a way -/
def OT.ids : OT → List Nat
  | .nil => []
  | .one i r => i :: r.ids
  | .two a b => a.ids ++ b.ids
  | .jn _ _ _ => []
def memNB (i : Nat) : List Nat → Bool
  | [] => false
  | j :: r => (match Nat.beq i j with | true => true | false => memNB i r)
def otOk : OT → Bool
  | .nil => true
  | .one i r => (match memNB i r.ids with | true => false | false => otOk r)
  | .two a b => (match otOk a with | true => otOk b | false => false)
  | .jn _ _ _ => false
abbrev XRegS := XCall → XG → XSt → ET → XSt → XLog → XKS → Bool
noncomputable def cguardS (D N : Nat) (ops : List Oper) (o : Oper) (tw : Bool) (z i : Nat) (f : Cl XEffS) (r : Cl XRegS) : Cl XRegS := match f, r, cdst D N o.dst with
  | .mk f, .mk r, .mk d => (match tw with
    | false => (match o.guard with
      | none => .mk fun call Γ s0 e s g K => f call Γ s0 e s g fun v s g => r call Γ s0 (d e (some v)) s g K
      | some (j, want) => (match gtmp ops j with
        | some t => (match cgt D t with
          | .mk q => .mk fun call Γ s0 e s g K => oB (q e) fun v => (match v with
            | .bool b => Bool.rec (motive := fun _ => Bool) (r call Γ s0 (d e (some (.tup []))) s g K) (f call Γ s0 e s g fun v s g => r call Γ s0 (d e (some v)) s g K) (b == want)
            | .tup _ => r call Γ s0 (d e (some (.tup []))) s g K
            | _ => false)
          | .no => .no)
        | none => .no))
    | true => (match o.guard with
      | none => .mk fun call Γ s0 e s g K => f call Γ s0 e ⟨s.h, Nat.add s0.nx (Nat.mul z i), Nat.add (Nat.add s0.nx (Nat.mul z i)) z⟩ g fun v s g => r call Γ s0 (d e (some v)) s g K
      | some (j, want) => (match gtmp ops j with
        | some t => (match cgt D t with
          | .mk q => .mk fun call Γ s0 e s g K => oB (q e) fun v => (match v with
            | .bool b => Bool.rec (motive := fun _ => Bool) (r call Γ s0 (d e (some (.tup []))) s g K) (f call Γ s0 e ⟨s.h, Nat.add s0.nx (Nat.mul z i), Nat.add (Nat.add s0.nx (Nat.mul z i)) z⟩ g fun v s g => r call Γ s0 (d e (some v)) s g K) (b == want)
            | .tup _ => r call Γ s0 (d e (some (.tup []))) s g K
            | _ => false)
          | .no => .no)
        | none => .no)))
  | _, _, _ => .no
noncomputable def beqO (a b : Option EV) : Bool := match a, b with
  | none, none => true
  | some x, some y => x.beq y
  | _, _ => false
noncomputable def ET.beq : ET → ET → Bool
  | .v a, .v b => beqO a b
  | .n a0 a1 a2 a3 a4 a5 a6 a7, .n b0 b1 b2 b3 b4 b5 b6 b7 => bB (a0.beq b0) (bB (a1.beq b1) (bB (a2.beq b2) (bB (a3.beq b3) (bB (a4.beq b4) (bB (a5.beq b5) (bB (a6.beq b6) (a7.beq b7)))))))
  | _, _ => false
noncomputable def copsS (cx : XCx) (D N : Nat) (lst : Option Nat) (ops : List Oper) (tw : Bool) (z : Nat) : OT → Cl XRegS
  | .nil => .mk fun _ _ _ e s g K => K e s g
  | .one i rest => (match nth ops i with
    | some o => cguardS D N ops o tw z i (cOpU cx D ops (quiet lst ops i rest) (preB ops i) o) (copsS cx D N lst ops tw z rest)
    | none => .no)
  | .jn _ _ _ => .no
  | .two a b => (match copsS cx D N lst ops tw z a, copsS cx D N lst ops tw z b with
    | .mk f, .mk h => .mk fun call Γ s0 e s g K => f call Γ s0 e s g fun e1 s1 g1 => h call Γ s0 e s g1 fun e2 s2 g2 => bB (e1.beq e2) (bB (s1.h.beq s2.h) (K e1 s1 g2))
    | _, _ => .no)
/-- the cells looked at are as they were -/
noncomputable def xkept1 (cx : XCx) (s0 s : XSt) (l : List (EV × Nat)) : Bool := List.rec (motive := fun _ => Bool) true (fun x _ ih => oB (xread cx x.1 x.2 s0) fun a => oB (xread cx x.1 x.2 s) fun b => bB (EV.beqL a b) ih) l
noncomputable def xkept (cx : XCx) (s0 : XSt) (l : List (EV × Nat)) (ss : List XSt) : Bool := List.rec (motive := fun _ => Bool) true (fun s _ ih => bB (xkept1 cx s0 s l) ih) ss
/-- how many names an operation of a region may give (of a region in which ways part) -/
def shO (ord : List Nat) : Nat := match ord with
  | i :: _ => (match Nat.blt 30000 i with | true => Nat.mul 64 (Nat.pow 2 (Nat.sub i 30000)) | false => 64)
  | [] => 64
noncomputable def creg (cx : XCx) (D N : Nat) (T : List (Nat × List Nat)) (id : Nat) (arr : Array Oper) (draw : Bool) : Cl XReg := match draw with
  | false => cops cx D N arr.toList arr.toList
  | true => (match look T id with
    | none => .no
    | some ord => (match hasTwo (OT.of ord), copsS cx D N (lstOf arr ord) arr.toList (hasTwo (OT.of ord)) (shO ord) (OT.of ord), Nat.mul (shO ord) arr.toList.length, otOk (OT.of ord) with
      | false, .mk f, _, _ => .mk fun call Γ e s K => f call Γ s e s ([], []) fun e' s' g => bB (xkept cx s g.1 g.2) (K e' s')
      | true, .mk f, m, true => .mk fun call Γ e s K => f call Γ s e s ([], []) fun e' s' g => bB (xkept cx s g.1 g.2) (bB (Nat.ble (Nat.add s.nx m) s.lim) (K e' ⟨s'.h, Nat.add s.nx m, s.lim⟩))
      | _, _, _, _ => .no))
/-! code -/
def xleafV : EV → Leaf
  | .int k _ => .int k
  | .bool _ => .bool
  | .str _ => .str
  | .nils => .slice
  | .sl _ _ _ _ => .slice
  | .slo _ _ _ _ _ => .slice
  | .nilp => .ptr
  | .ptr _ _ => .ptr
  | .glob _ _ => .ptr
  | .nilm => .map
  | .map _ => .map
  | .opq l _ => l
  | _ => .any
noncomputable def memB (l : List Nat) (t : Nat) : Bool := List.rec (motive := fun _ => Bool) false (fun u _ ih => Bool.rec (motive := fun _ => Bool) ih true (Nat.beq u t)) l
noncomputable def dedupB : List Nat → List Nat
  | [] => []
  | t :: r => (match memB (dedupB r) t with | true => dedupB r | false => t :: dedupB r)
abbrev Kn_ := ET → List Nat → XSt → Bool
abbrev Kx_ := Nat → ET → List Nat → XSt → Bool
abbrev XCd := XCall → XG → ET → List Nat → XSt → Kn_ → Kn_ → Kx_ → Bool
/-- a loop's own temporaries: how each is looked at and set -/
abbrev Sl_ := Gt × Sv
noncomputable def cslots (D : Nat) : List Nat → Cl (List Sl_)
  | [] => .mk []
  | t :: r => (match cgt D t, cst D t, cslots D r with | .mk g, .mk q, .mk l => .mk ((g, q) :: l) | _, _, _ => .no)
/-- those that hold something, with their kinds; and what is left without any of them -/
noncomputable def xenter (l : List Sl_) (e : ET) (k : List (Sl_ × Ck) → ET → Bool) : Bool :=
  List.rec (motive := fun _ => ET → (List (Sl_ × Ck) → ET → Bool) → Bool) (fun r k => k [] r)
    (fun p _ ih r k => Option.rec (motive := fun _ => Bool) (ih r k) (fun v => ih (p.2 r none) fun ls r => k ((p, cleaf (xleafV v)) :: ls) r) (p.1 e)) l e k
/-- a round's temporaries -/
noncomputable def xround0 (ls : List (Sl_ × Ck)) (e rest : ET) (k : ET → Bool) : Bool :=
  List.rec (motive := fun _ => ET → (ET → Bool) → Bool) (fun r k => k r)
    (fun p _ ih r k => oB (p.1.1 e) fun v => bB (p.2 v) (ih (p.1.2 r (some v)) k)) ls rest k
noncomputable def xloop (body : ET → XSt → Kn_ → Bool) (ls : List (Sl_ × Ck)) (rest : ET) (n : Nat) : ET → XSt → Bool :=
  Nat.rec (motive := fun _ => ET → XSt → Bool) (fun _ _ => false)
    (fun _ ih e s => xround0 ls e rest fun e => body e s fun e' _ s' => ih e' s') n
noncomputable def xzip (D : Nat) : List Nat → Cl (ET → List EV → (ET → Bool) → Bool)
  | [] => .mk fun e l k => List.rec (motive := fun _ => Bool) (k e) (fun _ _ _ => false) l
  | p :: ps => (match cst D p, xzip D ps with
    | .mk q, .mk f => .mk fun e l k => List.rec (motive := fun _ => Bool) false (fun v r _ => f (q e (some v)) r k) l
    | _, _ => .no)
noncomputable def xsetlp (l from_ : Nat) (to_ : Nat) (j : Option (Option Nat)) (s : XSt) (k : XSt → Bool) : Bool := match s.get l with
  | some (.lp q none) => bB (Nat.beq q from_) (k (s.put l (.lp to_ j)))
  | _ => false
def isRdy (o : Option EObj) : Bool := match o with | some (.lp q none) => Nat.beq q 0 | _ => false
noncomputable def ccode (cx : XCx) (n D N : Nat) (T : List (Nat × List Nat)) : Code → Cl XCd
  | .skip => .mk fun _ _ e dl s Kn _ _ => Kn e dl s
  | .label _ => .mk fun _ _ e dl s Kn _ _ => Kn e dl s
  | .exit id => .mk fun _ _ e dl s _ _ Kx => Kx id e dl s
  | .ret => .mk fun _ _ e dl s _ Kr _ => Kr e dl s
  | .goto _ => .no
  | .refuse _ => .no
  | .region id ops draw => (match creg cx D N T id ops draw with | .mk f => .mk fun call Γ e dl s Kn _ _ => f call Γ e s fun e s => Kn e dl s | .no => .no)
  | .seq a b => (match look T (4000000 + firstR b), ccode cx n D N T a, ccode cx n D N T b with
    | none, .mk f, .mk g => .mk fun call Γ e dl s Kn Kr Kx => f call Γ e dl s (fun e dl s => g call Γ e dl s Kn Kr Kx) Kr Kx
    | _, _, _ => .no)
  | .cond c a b => (match csrc D c, ccode cx n D N T a, ccode cx n D N T b with
    | .mk q, .mk f, .mk g => .mk fun call Γ e dl s Kn Kr Kx => oB (q e) fun v => (match v with
      | .bool b => Bool.rec (motive := fun _ => Bool) (g call Γ e dl s Kn Kr Kx) (f call Γ e dl s Kn Kr Kx) b
      | _ => false)
    | _, _, _ => .no)
  | .block id c => (match ccode cx n D N T c with
    | .mk f => .mk fun call Γ e dl s Kn Kr Kx => f call Γ e dl s Kn Kr fun i e dl s => Bool.rec (motive := fun _ => Bool) (Kx i e dl s) (Kn e dl s) (Nat.beq i id)
    | .no => .no)
  | .scope c => ccode cx n D N T c
  | .loop c => (match noRF c, cslots D (dedupB (wrs c)), ccode cx n D N T c with
    | true, .mk l, .mk f => .mk fun call Γ e dl s _ Kr Kx => xenter l e fun ls r => xloop (fun e s K => f call Γ e dl s K Kr Kx) ls r n e s
    | _, _, _ => .no)
  | .rangeFunc g ps asg body => (match look T (1000000 + headN ps.toList), dupE N ps.toList, csrc D g with
    | some ts, true, .mk q => (match ctys cx.P ts, xzip D ps.toList, ccode cx n D N T asg, ccode cx n D N T body with
      | .mk ct, .mk z, .mk fa, .mk fb => .mk fun call Γ e dl s Kn Kr Kx => oB (q e) fun v => (match v with
        | .fn f cs => oB (s.new (.dfr true)) fun D' => oB (D'.2.new (.lp 0 none)) fun l =>
          call ((l.1, fun args s k => bB (isRdy (s.get l.1)) (bB (ct args) (z e args fun e0 => fa call Γ e0 [] s (fun e1 _ s1 => xsetlp l.1 0 1 none s1 fun s2 => fb call Γ e1 [] s2
              (fun _ _ s3 => xsetlp l.1 1 0 none s3 fun s4 => k true s4)
              (fun _ _ s3 => xsetlp l.1 1 2 (some none) s3 fun s4 => k false s4)
              (fun id _ _ s3 => xsetlp l.1 1 2 (some (some id)) s3 fun s4 => k false s4)) (fun _ _ _ => false) (fun _ _ _ _ => false)))) :: Γ) f (.yld l.1 :: cs) l.2 fun _ s3 => (match s3.get l.1 with
            | some (.lp q none) => Bool.rec (motive := fun _ => Bool) (Kn e (D'.1 :: dl) (s3.put l.1 (.lp 3 none))) false (Nat.beq q 1)
            | some (.lp q (some none)) => Bool.rec (motive := fun _ => Bool) (Kr e (D'.1 :: dl) (s3.put l.1 (.lp 3 (some none)))) false (Nat.beq q 1)
            | some (.lp q (some (some id))) => Bool.rec (motive := fun _ => Bool) (bB (memB (exitsC body) id) (Kx id e (D'.1 :: dl) (s3.put l.1 (.lp 3 (some (some id)))))) false (Nat.beq q 1)
            | _ => false)
        | _ => false)
      | _, _, _, _ => .no)
    | _, _, _ => .no)
/-! a loop that looks for something in a map: all entries but one at most go on at once -/
def rdOp : Op → Bool
  | .move _ | .assign _ | .fieldAddr .. | .load .. | .binOp .. | .extract .. | .entry _ | .nilCheck _ => true
  | _ => false
structure SrL where
  R2 : List Oper
  o1 : Oper
  it : Operand
  d0 : Nat
  rest2 : List Oper
  c2 : Operand
  x : Nat
  j : Nat
  RA : List Oper
  RB : List Oper
  cn : Operand
  tail : Code
def allRd : List Oper → Bool
  | [] => true
  | o :: r => (match rdOp o.op with | true => allRd r | false => false)
def srch : Code → Option SrL
  | .seq (.region _ R2 false) (.seq (.cond c2 .skip (.exit x)) (.block j (.seq (.region _ RA false) (.seq (.seq (.region _ RB false) (.cond cn (.exit j') .skip)) tail)))) =>
    (match R2.toList with
    | o1 :: rest2 => (match o1.op, o1.dst, o1.guard with
      | .next it false, some d0, none => (match Nat.beq j j', Nat.beq x j, allRd rest2, allRd RA.toList, allRd RB.toList with
        | true, false, true, true, true => some ⟨R2.toList, o1, it, d0, rest2, c2, x, j, RA.toList, RB.toList, cn, tail⟩
        | _, _, _, _, _ => none)
      | _, _, _ => none)
    | [] => none)
  | _ => none
/-- a look at one entry: what is known behind it; does the loop go on? -/
abbrev Spr := XTri → (ET → Bool → Bool) → Bool
noncomputable def sprobe (f2 fA fB : XReg) (g2 gn : Gt) (q0 : Sv) (call : XCall) (Γ : XG) (r0 : ET) (st : XTri → XSt) : Spr := fun t k =>
  f2 call Γ (q0 r0 (some (.tup [.bool true, .int .i64 t.1, t.2.1]))) (st t) fun e2 _ => oB (g2 e2) fun v => (match v with
    | .bool true => fA call Γ e2 (st t) fun e3 _ => fB call Γ e3 (st t) fun e4 _ => oB (gn e4) fun v => (match v with | .bool b => k e4 b | _ => false)
    | _ => false)
noncomputable def sgo (pr : Spr) (T : ET → Bool) (F : Bool) : List XTri → Option ET → Bool
  | [], none => F
  | [], some e => T e
  | t :: r, acc => pr t fun e b => (match b, acc with
    | true, acc => sgo pr T F r acc
    | false, none => sgo pr T F r (some e)
    | false, some _ => false)
/-- all stamps differ -/
def hasSt (n : Nat) : List XTri → Bool
  | [] => false
  | t :: r => (match Nat.beq n t.2.2 with | true => true | false => hasSt n r)
def nodSt : List XTri → Bool
  | [] => true
  | t :: r => (match hasSt t.2.2 r with | true => false | false => nodSt r)
noncomputable def csbody (S : SrL) (gi : Gt) (q0 : Sv) (f2 : XReg) (g2 : Gt) (fA fB : XReg) (gn : Gt) (fT : XCd) (call : XCall) (Γ : XG) (dl : List Nat) (s : XSt) (Kr : Kn_) (Kx : Kx_) : List (Sl_ × Ck) → ET → Bool := fun ls r0 => (match ls with
  | [] => oB (gi r0) fun it => (match it with
    | .ptr r .zero => (match s.get r with
      | some (.it m since seen c0) => (match s.get m with
        | some (.map l c) => bB (allOld since l) (bB (Nat.ble since c0) (bB (Nat.ble since c) (bB (nodSt l) (sgo (sprobe f2 fA fB g2 gn q0 call Γ r0 (fun t => (s.del r).put r (.it m since [t.2.2] c)))
            (fun e4 => fT call Γ e4 dl (s.del r) (fun _ _ _ => false) Kr (fun i e dl s => Bool.rec (motive := fun _ => Bool) (Kx i e dl s) false (Nat.beq i S.j)))
            (f2 call Γ (q0 r0 (some (.tup [.bool false]))) (s.del r) fun e2 _ => oB (g2 e2) fun v => (match v with | .bool false => Kx S.x e2 dl (s.del r) | _ => false))
            (leftX seen l) none))))
        | _ => false)
      | _ => false)
    | _ => false)
  | _ => false)
noncomputable def csearch (cx : XCx) (D N : Nat) (S : SrL) (ws : List Nat) (fT : XCd) : Cl XCd :=
  match csrc D S.it, cdst D N (some S.d0), cops cx D N S.R2 S.rest2, csrc D S.c2, cops cx D N S.RA S.RA, cops cx D N S.RB S.RB, csrc D S.cn, cslots D (dedupB ws) with
  | .mk gi, .mk q0, .mk f2, .mk g2, .mk fA, .mk fB, .mk gn, .mk sl => .mk fun call Γ e dl s _ Kr Kx => xenter sl e (csbody S gi q0 f2 g2 fA fB gn fT call Γ dl s Kr Kx)
  | _, _, _, _, _, _, _, _ => .no
/-- no ways come together in it -/
def noJ (T : List (Nat × List Nat)) : Code → Bool
  | .seq a b => (match look T (4000000 + firstR b) with | none => (match noJ T a with | true => noJ T b | false => false) | some _ => false)
  | .cond _ a b => (match noJ T a with | true => noJ T b | false => false)
  | .block _ c | .loop c | .scope c => noJ T c
  | _ => true
noncomputable def ccode1 (cx : XCx) (n D N : Nat) (T : List (Nat × List Nat)) : Code → Cl XCd
  | .seq a b => (match look T (4000000 + firstR b), ccode1 cx n D N T a, ccode1 cx n D N T b with
    | none, .mk f, .mk g => .mk fun call Γ e dl s Kn Kr Kx => f call Γ e dl s (fun e dl s => g call Γ e dl s Kn Kr Kx) Kr Kx
    | _, _, _ => .no)
  | .cond c a b => (match csrc D c, ccode1 cx n D N T a, ccode1 cx n D N T b with
    | .mk q, .mk f, .mk g => .mk fun call Γ e dl s Kn Kr Kx => oB (q e) fun v => (match v with
      | .bool b => Bool.rec (motive := fun _ => Bool) (g call Γ e dl s Kn Kr Kx) (f call Γ e dl s Kn Kr Kx) b
      | _ => false)
    | _, _, _ => .no)
  | .block id c => (match ccode1 cx n D N T c with
    | .mk f => .mk fun call Γ e dl s Kn Kr Kx => f call Γ e dl s Kn Kr fun i e dl s => Bool.rec (motive := fun _ => Bool) (Kx i e dl s) (Kn e dl s) (Nat.beq i id)
    | .no => .no)
  | .scope c => ccode1 cx n D N T c
  | .loop c => (match look T (5000000 + firstR c), srch c, noRF c, noJ T c with
    | some _, some S, true, true => (match ccode cx n D N T S.tail with | .mk fT => csearch cx D N S (wrs c) fT | .no => .no)
    | _, _, _, _ => ccode cx n D N T (.loop c))
  | c => ccode cx n D N T c
/-! a function's body -/
noncomputable def cinit (D : Nat) : Nat → Nat → Cl (ET → List EV → (ET → Bool) → Bool)
  | 0, _ => .mk fun e l k => List.rec (motive := fun _ => Bool) (k e) (fun _ _ _ => false) l
  | n + 1, i => (match cst D i, cinit D n (Nat.succ i) with
    | .mk q, .mk f => .mk fun e l k => List.rec (motive := fun _ => Bool) (k e) (fun v r _ => f (q e (some v)) r k) l
    | _, _ => .no)
noncomputable def cresV (cx : XCx) (D : Nat) : List ResultVar → Cl (ET → XSt → (List EV → Bool) → Bool)
  | [] => .mk fun _ _ k => k []
  | .tmp t :: r => (match cgt D t, cresV cx D r with
    | .mk g, .mk f => .mk fun e s k => oB (g e) fun v => f e s fun l => k (v :: l)
    | _, _ => .no)
  | .cell t ty :: r => (match cgt D t, cload cx ty, cresV cx D r with
    | .mk g, .mk ld, .mk f => .mk fun e s k => oB (g e) fun p => (match p with
      | .ptr b o => ld (.ptr b o) s fun v => f e s fun l => k (v :: l)
      | _ => false)
    | _, _, _ => .no)
noncomputable def xdfrs (l : List Nat) : XSt → (XSt → Bool) → Bool := List.rec (motive := fun _ => XSt → (XSt → Bool) → Bool) (fun s k => k s) (fun D _ ih s k => match s.get D with | some (.dfr true) => ih (s.put D (.dfr false)) k | _ => false) l
def xone' : List EV → EV
  | [v] => v
  | vs => .tup vs
def depth (N : Nat) : Nat := match Nat.ble N 64 with | true => 2 | false => 3
abbrev XFn := XCall → XG → List EV → XSt → XK → Bool
noncomputable def cbody (cx : XCx) (n : Nat) (T : List (Nat × List Nat)) (fn : Func) : Cl XFn := match fn.body, Nat.ble fn.ntmps 512, depth fn.ntmps, et0 (depth fn.ntmps) with
  | some c, true, D, e0 => (match ccode1 cx n D fn.ntmps T c, cinit D (fn.params.size + fn.nfree) 0, cresV cx D fn.results.toList with
    | .mk f, .mk z, .mk r => .mk fun call Γ args s K => bB (Nat.ble (lenX args) fn.ntmps) (z e0 args fun e => f call Γ e [] s
        (fun e dl s => xdfrs dl s fun s => r e s fun vs => K (xone' vs) s)
        (fun e dl s => xdfrs dl s fun s => r e s fun vs => K (xone' vs) s)
        (fun _ _ _ _ => false))
    | _, _, _ => .no)
  | _, _, _, _ => .no
/-- the functions that were looked over: their orders -/
structure XTb where
  l : List (FuncId × Func × List (Nat × List Nat))
  n : Nat
noncomputable def tbl (l : List (FuncId × Func × List (Nat × List Nat))) (f : FuncId) : Option (Func × List (Nat × List Nat)) :=
  List.rec (motive := fun _ => Option (Func × List (Nat × List Nat))) none (fun p _ ih => Bool.rec (motive := fun _ => Option (Func × List (Nat × List Nat))) ih (some p.2) (Nat.beq p.1 f)) l
noncomputable def comp (cx : XCx) (tb : XTb) (f : FuncId) : Cl XFn := match tbl tb.l f with
  | some x => cbody cx tb.n x.2 x.1
  | none => .no
noncomputable def xcall (cx : XCx) (tb : XTb) (n : Nat) : XCall :=
  Nat.rec (motive := fun _ => XCall) (fun _ _ _ _ _ => false)
    (fun _ ih Γ f args s K => Option.rec (motive := fun _ => Bool)
      (Cl.rec (motive := fun _ => Bool) (fun F => F ih Γ args s K) false (comp cx tb f))
      (fun p => oB (p args s) fun v => K v s) (cx.prim f)) n
def codeOkF (T : List (Nat × List Nat)) (fn : Func) : Bool := match fn.body with | some c => codeOk T c | none => false
/-- a run from nothing -/
def st0 : XSt := ⟨.lf, 0, 1000000000⟩
def isTrueE (v : EV) (_ : XSt) : Bool := match v with | .bool true => true | _ => false
end Go.Sh
