/- The chief, texts put together. Conditions: none. -/
import Derived.Test.YtcfmnoimehcfnaaGreatDoorC10
import Derived.Test.YtcfmnoimehcfnaaGreatDoorJ7
import Derived.Test.YtcfmnoimehcfnaaGreatDoorFX
import Derived.Test.YtcfmnoimehcfnaaGreatDoorAu
import Derived.Test.YtcfmnoimehcfnaaGreatDoorGb
import Derived.Test.YtcfmnoimehcfnaaGreatDoorRf
import Derived.Test.YtcfmnoimehcfnaaGreatDoorCJ
import Derived.Test.YtcfmnoimehcfnaaGreatDoorRg
import Derived.Deep.OwnRows
set_option linter.unusedVariables false
set_option maxRecDepth 100000
set_option linter.unusedSimpArgs false
namespace Go.Proofs.YtcfmnoimehcfnaaGreatDoor
open Go Go.Sh

structure Fc where
  done : List Bool
  undone : List Bool
  asked : Bool
  yes : Bool
  turned : Bool
  a0 : Bool
  a1 : Bool
  shipped : Bool
  d0 : Bool
  d1 : Bool
  acc : Bool
def Fc.zero : Fc := ⟨[], [], false, false, false, false, false, false, false, false, false⟩
def mayOd (o : Od) : Bool := mayO o.id o.item o.qty o.client o.price o.steps
def stepF (l : List Bool) (i : Nat) : Bool := !(decide (0 < i) && (l.getD i false && !l.getD (i - 1) false))
def firstB (l : List Bool) : Bool := (List.range l.length).all (stepF l)
def lastB (l : List Bool) : Bool := firstB l.reverse
def mayF (o : Od) (f : Fc) : Bool :=
  mayOd o && (decide (f.done.length = o.steps.length) && (decide (f.undone.length = o.steps.length) && (!(f.yes && f.turned) &&
  (!(f.yes && (f.done.contains false || (f.undone.contains true || !f.asked))) && (!(f.undone.contains true && !f.turned) && (!(f.shipped && !f.yes) &&
  (!((f.a0 || f.a1 || (f.d0 || f.d1)) && (!f.yes && !f.turned)) && ((firstB f.done || f.turned) && lastB f.undone))))))))
def endsF (f : Fc) : Int := if (f.turned && ((f.a0 && f.a1) && !f.undone.contains false)) = true then 6 else if f.turned = true then 4 else if (f.yes && ((f.a0 && f.a1) && f.shipped)) = true then 5 else if f.yes = true then 3 else if f.asked = true then 2 else 1
def stateF (o : Od) (f : Fc) : Int := if mayF o f = false then 0 else if ((f.d0 || f.d1) && !f.acc) = true then 7 else endsF f
def overF (o : Od) (f : Fc) : Bool := mayF o f && (decide (endsF f = 5) || decide (endsF f = 6))
def Fc.decided (f : Fc) : Bool := f.yes || f.turned

structure Mg where
  kind : Int
  frm : Int
  to : Int
  id : Int
  step : Int
  a : Int
  b : Int
def Mg.cells (m : Mg) : List Value := [I m.kind, I m.frm, I m.to, I m.id, I m.step, I m.a, I m.b]
theorem Mg.len (m : Mg) : m.cells.length = 7 := rfl
def mgs (l : List Mg) : List Value := l.flatMap Mg.cells
def tellM (kind to : Int) (o : Od) : Mg := ⟨kind, 0, to, o.id, 0, 0, 0⟩
def decM (kind : Int) (o : Od) (f : Fc) : List Mg := (if f.a0 = true then [] else [tellM kind 1 o]) ++ (if f.a1 = true then [] else [tellM kind 2 o])
/-- the place of the last among the first n that is not so -/
def lastNot (l : List Bool) : Nat → Option Nat
  | 0 => none
  | n + 1 => if l.getD n true = false then some n else lastNot l n
def lastI (l : List Bool) : Int := match lastNot l l.length with | some i => i | none => -1
def undoM (o : Od) (f : Fc) : List Mg := match lastNot f.undone o.steps.length with
  | some i => [⟨4, 0, (o.steps.getD i ⟨0, 0⟩).svc, o.id, i, 0, 0⟩]
  | none => []
def isNot (b : Bool) : Bool := !b
def firstNot (l : List Bool) : Option Nat := l.findIdx? isNot
def forwM (o : Od) (f : Fc) : List Mg := match firstNot f.done with
  | some i => [⟨1, 0, (o.steps.getD i ⟨0, 0⟩).svc, o.id, i, (o.steps.getD i ⟨0, 0⟩).n, 0⟩]
  | none => [⟨6, 0, 1, o.id, 0, o.item, o.qty⟩, ⟨6, 0, 2, o.id, 0, o.client, o.price⟩]
def nextM (o : Od) (f : Fc) : List Mg :=
  if mayF o f = false then [] else if f.turned = true then decM 10 o f ++ undoM o f
  else if (f.yes && f.shipped) = true then decM 9 o f else if f.yes = true then decM 9 o f ++ [⟨15, 0, 3, o.id, 0, o.item, o.qty⟩] else forwM o f

/-- an order that is led; who said yes, where that counts -/
structure Ld where
  o : Od
  f : Fc
  t : Option (Bool × Bool)
structure CE where
  k : Int
  id : Int
  ns : List Int
/-- begin step asked done undone yes turn ack damage shipped accept -/
def ceL (k : Int) : List UInt8 :=
  if k = 1 then [98, 101, 103, 105, 110] else if k = 2 then [115, 116, 101, 112] else if k = 3 then [97, 115, 107, 101, 100] else if k = 4 then [100, 111, 110, 101] else if k = 5 then [117, 110, 100, 111, 110, 101]
  else if k = 6 then [121, 101, 115] else if k = 7 then [116, 117, 114, 110] else if k = 8 then [97, 99, 107] else if k = 9 then [100, 97, 109, 97, 103, 101] else if k = 10 then [115, 104, 105, 112, 112, 101, 100] else if k = 11 then [97, 99, 99, 101, 112, 116] else []
def CE.en (e : CE) : En := ⟨ceL e.k, e.id, e.ns⟩
def setB (l : List Bool) (i : Int) : List Bool := l.set i.toNat true
def Ld.fact (x : Ld) (k n : Int) : Ld :=
  if k = 3 then ⟨x.o, { x.f with asked := true }, some (false, false)⟩
  else if k = 4 then ⟨x.o, { x.f with done := setB x.f.done n }, x.t⟩
  else if k = 5 then ⟨x.o, { x.f with undone := setB x.f.undone n }, x.t⟩
  else if k = 6 then ⟨x.o, { x.f with yes := true }, none⟩
  else if k = 7 then ⟨x.o, { x.f with turned := true }, none⟩
  else if k = 8 then ⟨x.o, (if n = 1 then { x.f with a0 := true } else { x.f with a1 := true }), x.t⟩
  else if k = 9 then ⟨x.o, (if n = 1 then { x.f with d0 := true, a0 := true } else { x.f with d1 := true, a1 := true }), x.t⟩
  else if k = 10 then ⟨x.o, { x.f with shipped := true }, x.t⟩
  else if k = 11 then ⟨x.o, { x.f with acc := true }, x.t⟩ else x
def Ld.step (x : Ld) (svc n : Int) : Ld := ⟨{ x.o with steps := x.o.steps ++ [⟨svc, n⟩] }, { x.f with done := x.f.done ++ [false], undone := x.f.undone ++ [false] }, x.t⟩
def Ld.init (id : Int) (ns : List Int) : Ld := ⟨⟨id, ns.getD 0 0, ns.getD 1 0, ns.getD 2 0, ns.getD 3 0, []⟩, Fc.zero, none⟩
def Ld.play (x : Ld) (e : CE) : Ld := if e.k = 2 then x.step (e.ns.getD 1 0) (e.ns.getD 2 0) else x.fact e.k (e.ns.getD 0 0)
def updI {α : Type} (L : Int → Option α) (id : Int) (x : Option α) : Int → Option α := fun y => if y = id then x else L y
def playC (L : Int → Option Ld) (e : CE) : Int → Option Ld :=
  if e.k = 1 then updI L e.id (some (Ld.init e.id e.ns)) else match L e.id with | none => L | some x => updI L e.id (some (x.play e))
def runC (es : List CE) : Int → Option Ld := es.foldl playC fun _ => none
theorem runC_add (es : List CE) (e : CE) : runC (es ++ [e]) = playC (runC es) e := by simp [runC]
def numOk (n : Int) : Prop := -1000000000 ≤ n ∧ n ≤ 1000000000
/-- an entry that may come next, where the order of its number has so many steps -/
def okE (L : Int → Option Ld) (e : CE) : Prop := (1 ≤ e.id ∧ e.id ≤ 999) ∧
  ((e.k = 1 ∧ L e.id = none ∧ ∃ a b c d, e.ns = [a, b, c, d] ∧ numOk a ∧ numOk b ∧ numOk c ∧ numOk d) ∨ (e.k = 2 ∧ ∃ i s n, e.ns = [i, s, n] ∧ numOk i ∧ numOk s ∧ numOk n) ∨
   ((e.k = 3 ∨ e.k = 6 ∨ e.k = 7 ∨ e.k = 10 ∨ e.k = 11) ∧ e.ns = []) ∨
   ((e.k = 4 ∨ e.k = 5) ∧ ∃ i, e.ns = [i] ∧ (0 ≤ i ∧ i ≤ 5000) ∧ ∀ x, L e.id = some x → i < x.o.steps.length) ∨ ((e.k = 8 ∨ e.k = 9) ∧ ∃ i, e.ns = [i] ∧ (i = 1 ∨ i = 2)))
/-- what a chief keeps while it is up -/
structure CS where
  es : List CE
  sure : Nat
  L : Int → Option Ld
  B : Int → Option Int
structure CP where
  most : Int
  room : Int
  tries : Int
def CS.zero : CS := ⟨[], 0, fun _ => none, fun _ => none⟩
def noteC (P : CP) (s : CS) (l : List CE) : Option CS := if (s.es.length : Int) + l.length > P.room then none else some { s with es := s.es ++ l, L := l.foldl playC s.L }
def sureC (s : CS) : CS := { s with sure := s.es.length }
def suresC (P : CP) (s : CS) (l : List CE) : Option CS := (noteC P s l).map sureC
def asksM (l : List Mg) : Bool := match l with | m :: _ => decide (m.kind = 6) | [] => false
def sendsC (P : CP) (s : CS) (id : Int) : CS × List Mg := match s.L id with
  | none => (s, [])
  | some x => if (asksM (nextM x.o x.f) && !x.f.asked) = true then (match noteC P s [⟨3, id, []⟩] with | none => (s, []) | some s' => (s', nextM x.o x.f)) else (s, nextM x.o x.f)
def againC (P : CP) (s : CS) (id : Int) : CS := { s with B := if (s.B id).isSome = true then updI s.B id (some P.tries) else s.B }
def cutC (s : CS) (id : Int) : CS := { s with B := updI s.B id none }
def hangC (P : CP) (s : CS) (id : Int) : CS := { s with B := if (1 ≤ id ∧ id ≤ 999) ∧ s.B id = none then updI s.B id (some P.tries) else s.B }
def goesC (P : CP) (s : CS) (id : Int) : CS × List Mg := match s.L id with
  | none => (s, [])
  | some x => if overF x.o x.f = true then (cutC (againC P s id) id, []) else sendsC P (againC P s id) id
def turnsC (P : CP) (s : CS) (id : Int) : CS × List Mg × Int := match suresC P s [⟨7, id, []⟩] with
  | none => (s, [], 5)
  | some s' => ((goesC P s' id).1, (goesC P s' id).2, 0)
def overL (x : Option Ld) : Bool := match x with | some x => overF x.o x.f | none => true
def allI : List Int := (List.range 1000).map fun (i : Nat) => (i : Int)
def openN (L : Int → Option Ld) : Int := (allI.countP fun i => !overL (L i) : Nat)
def idsC (L : Int → Option Ld) : List Int := allI.filter fun i => (L i).isSome
def stepEs (id : Int) : List Sp → Nat → List CE
  | [], _ => []
  | p :: r, i => ⟨2, id, [(i : Int), p.svc, p.n]⟩ :: stepEs id r (i + 1)
def beginEs (o : Od) : List CE := ⟨1, o.id, [o.item, o.qty, o.client, o.price]⟩ :: stepEs o.id o.steps 0
def beginC (P : CP) (s : CS) (o : Od) : CS × List Mg × Int :=
  if mayOd o = false then (s, [], 1) else if (s.L o.id).isSome = true then (s, [], 8) else if openN s.L ≥ P.most then (s, [], 5) else
  match suresC P s (beginEs o) with
  | none => (s, [], 5)
  | some s' => ((goesC P (hangC P s' o.id) o.id).1, (goesC P (hangC P s' o.id) o.id).2, 0)
def kpr (frm : Int) : Bool := decide (frm = 1) || decide (frm = 2)
def svcB (x : Ld) (m : Mg) : Bool := decide (0 ≤ m.step) && (decide (m.step < x.o.steps.length) && decide ((x.o.steps.getD m.step.toNat ⟨0, 0⟩).svc = m.frm))
def tellsC (s : CS) (m : Mg) : List Mg := if kpr m.frm = false then [] else match s.L m.id with
  | none => [⟨14, 0, m.frm, m.id, 0, 0, 0⟩]
  | some x => if x.f.turned = true then [⟨14, 0, m.frm, m.id, 0, 0, 0⟩] else if x.f.yes = true then [⟨13, 0, m.frm, m.id, 0, 0, 0⟩] else []
/-- an entry, not sure; then it goes on -/
def onC (P : CP) (s : CS) (e : CE) : CS × List Mg := match noteC P s [e] with | none => (s, []) | some s' => goesC P s' e.id
def onSC (P : CP) (s : CS) (e : CE) : CS × List Mg := match suresC P s [e] with | none => (s, []) | some s' => goesC P s' e.id
def stepsC (P : CP) (s : CS) (x : Ld) (m : Mg) : CS × List Mg :=
  if svcB x m = false then (s, []) else if m.kind = 3 ∧ x.f.decided = false then ((turnsC P s m.id).1, (turnsC P s m.id).2.1)
  else if m.kind = 2 then (if x.f.asked = false ∧ x.f.decided = false ∧ idx isNot x.f.done = m.step then onC P s ⟨4, m.id, [m.step]⟩ else (s, []))
  else if m.kind = 5 then (if x.f.turned = true ∧ lastI x.f.undone = m.step then onC P s ⟨5, m.id, [m.step]⟩ else (s, [])) else (s, [])
def sayT (t : Bool × Bool) (frm : Int) : Bool × Bool := if frm = 1 then (true, t.2) else (t.1, true)
def waitsT (t : Bool × Bool) : List Int := (if t.1 = true then [] else [0]) ++ (if t.2 = true then [] else [1])
def votesC (P : CP) (s : CS) (x : Ld) (m : Mg) : CS × List Mg :=
  if kpr m.frm = false then (s, []) else match x.t with
  | none => (s, [])
  | some t => if m.kind ≠ 7 then onSC P s ⟨7, m.id, []⟩ else if waitsT t = [m.frm - 1] then onSC P s ⟨6, m.id, []⟩ else ({ s with L := updI s.L m.id (some ⟨x.o, x.f, some (sayT t m.frm)⟩) }, [])
def ackF (f : Fc) (frm : Int) : Bool := if frm = 1 then f.a0 else f.a1
def dmgF (f : Fc) (frm : Int) : Bool := if frm = 1 then f.d0 else f.d1
def acksC (P : CP) (s : CS) (x : Ld) (m : Mg) : CS × List Mg :=
  if kpr m.frm = false ∨ x.f.decided = false then (s, []) else if m.kind = 11 then (if ackF x.f m.frm = true then (s, []) else onC P s ⟨8, m.id, [m.frm]⟩)
  else if dmgF x.f m.frm = true then (s, [⟨18, 0, m.frm, m.id, 0, 0, 0⟩]) else match suresC P s [⟨9, m.id, [m.frm]⟩] with
  | none => (s, [])
  | some s' => ((goesC P s' m.id).1, ⟨18, 0, m.frm, m.id, 0, 0, 0⟩ :: (goesC P s' m.id).2)
def handleC (P : CP) (s : CS) (m : Mg) : CS × List Mg :=
  if m.to ≠ 0 then (s, []) else if m.kind = 12 then (s, tellsC s m) else match s.L m.id with
  | none => (s, [])
  | some x => if m.kind = 2 ∨ m.kind = 3 ∨ m.kind = 5 then stepsC P s x m else if m.kind = 7 ∨ m.kind = 8 then votesC P s x m else if m.kind = 11 ∨ m.kind = 17 then acksC P s x m
    else if m.kind = 16 then (if m.frm = 3 ∧ x.f.yes = true ∧ x.f.shipped = false then onC P s ⟨10, m.id, []⟩ else (s, [])) else (s, [])
def ringC (P : CP) (s : CS) (id : Int) : CS × List Mg := match s.B id with
  | none => (s, [])
  | some b => match s.L id with
    | none => ({ s with B := if b = 0 then s.B else updI s.B id (some (b - 1)) }, [])
    | some x => if b = 0 then (if x.f.decided = false then ((turnsC P s id).1, (turnsC P s id).2.1) else sendsC P (againC P s id) id) else sendsC P { s with B := updI s.B id (some (b - 1)) } id
def cancelC (P : CP) (s : CS) (id : Int) : CS × List Mg × Int := match s.L id with
  | none => (s, [], 6)
  | some x => if x.f.decided = true then (s, [], 7) else turnsC P s id
def stateC (s : CS) (id : Int) : Int := match s.L id with | none => 0 | some x => stateF x.o x.f
def acceptC (P : CP) (s : CS) (id : Int) : CS × Int := match s.L id with
  | none => (s, 6)
  | some x => if stateF x.o x.f ≠ 7 then (s, 7) else match suresC P s [⟨11, id, []⟩] with
    | none => (s, 5)
    | some s' => ((if overL (s'.L id) = true then cutC s' id else s'), 0)
def startStep (P : CP) (s : CS) (id : Int) : CS := match s.L id with
  | none => s
  | some x => let s1 := if overF x.o x.f = true then s else hangC P s id
    if (x.f.asked && !x.f.decided) = true then (suresC P s1 [⟨7, id, []⟩]).getD s1 else s1
def startC (P : CP) (es : List CE) : CS := (idsC (runC es)).foldl (startStep P) ⟨es, es.length, runC es, fun _ => none⟩
end Go.Proofs.YtcfmnoimehcfnaaGreatDoor
namespace Go.Proofs.YtcfmnoimehcfnaaGreatDoor
open Go Go.Sh

abbrev Bv (b : Bool) : Value := .bool b
theorem elB : ElTy Tryz.prog 121 4 1 1 := ⟨⟨_, _, rfl, rfl, rfl, rfl, rfl, rfl⟩, by omega⟩
theorem bools_at {l : List Bool} {i : Nat} (h : i < l.length) : (l.map Bv)[i]? = some (.bool (l.getD i false)) := by
  rw [List.getElem?_map, List.getElem?_eq_getElem h, List.getD_eq_getElem?_getD, List.getElem?_eq_getElem h]; rfl
section
variable {w0 w : World} {hs : List Hp} {K : KV}
theorem IndexB_c {l : List Bool} {b : Bool} {p : Option Addr} {n c : Nat} (H : Sh.Holds w0 hs w) (hsl : Sl (Sh.Holds w0 hs) p n 1 (l.map Bv)) (hl : l.length < 1000000)
    (k : ∀ w', Sh.Holds w0 hs w' → K (I (idx (fun x => b == x) l)) w') : gocall Tryz.prog 206 [.slice p n c, .bool b] K w := by
  have hn : n = l.length := by have := hsl.len; simp at this; omega
  apply F206_go; unfold F206
  refine ⟨fun x w => Sh.Holds w0 hs w ∧ 0 ≤ x.1 ∧ x.1 ≤ l.length ∧ ∀ j : Nat, (j : Int) < x.1 → (b == l.getD j false) = false, fun x _ => (l.length - x.1).toNat, ⟨H, by simp, by simp, fun j hj => by simp at hj; omega⟩, ?_⟩
  rintro ⟨x, y, u⟩ w ⟨H, h0, h1, hf⟩
  simp only at h0 h1 hf
  refine br_s (fun h => ?_) (fun h => ?_)
  · simp only [decide_eq_true_eq] at h
    refine slAt_s hsl h0 h (fun b1 o hp => ?_)
    have hx : x.toNat < l.length := by omega
    refine ldS_s hsl hp H (v := .bool (l.getD x.toNat false)) (by rw [Nat.mul_one]; exact bools_at hx) ?_
    refine asBoo_h ?_
    refine br_s (fun hb => ?_) (fun hb => ?_)
    · have e : idx (fun x => b == x) l = x := by
        have : l.findIdx? (fun x => b == x) = some x.toNat := by
          rw [List.findIdx?_eq_some_iff_getElem]
          refine ⟨hx, ?_, fun j hj => ?_⟩
          · rw [List.getD_eq_getElem?_getD, List.getElem?_eq_getElem hx] at hb; simpa using hb
          · have := hf j (by omega)
            rw [List.getD_eq_getElem?_getD, List.getElem?_eq_getElem (by omega)] at this
            simpa using this
        simp [idx, this]; omega
      have := k _ H
      rw [e] at this; exact this
    · have hw : IntKind.wrap .i64 (x + 1) = x + 1 := wrap64 (by omega) (by omega)
      simp only [hw]
      refine ⟨⟨H, by omega, by omega, fun j hj => ?_⟩, by omega⟩
      by_cases hj' : (j : Int) < x
      · exact hf j hj'
      · have : j = x.toNat := by omega
        subst this; exact hb
  · have e : idx (fun x => b == x) l = -1 := by
      have : l.findIdx? (fun x => b == x) = none := by
        rw [List.findIdx?_eq_none_iff]
        intro q hq
        obtain ⟨j, hj, rfl⟩ := List.getElem_of_mem hq
        simp at h
        have := hf j (by omega)
        rw [List.getD_eq_getElem?_getD, List.getElem?_eq_getElem hj] at this
        simpa using this
      simp [idx, this]
    have := k _ H
    rw [e] at this; exact this
theorem idx_has {l : List Bool} {b : Bool} : decide (idx (fun x => b == x) l ≥ 0) = l.contains b := by
  unfold idx
  cases h : l.findIdx? (fun x => b == x) with
  | none =>
    rw [List.findIdx?_eq_none_iff] at h
    have : l.contains b = false := by
      rw [Bool.eq_false_iff]
      intro hc
      have hm : b ∈ l := by simpa using hc
      have := h b hm
      simp at this
    rw [this]; rfl
  | some i =>
    obtain ⟨hi, h1, -⟩ := List.findIdx?_eq_some_iff_getElem.1 h
    have hb : b = l[i] := by simpa using h1
    have : l.contains b = true := by simp [hb]
    rw [this]; simp
theorem ContB_c {l : List Bool} {b : Bool} {p : Option Addr} {n c : Nat} (H : Sh.Holds w0 hs w) (hsl : Sl (Sh.Holds w0 hs) p n 1 (l.map Bv)) (hl : l.length < 1000000)
    (k : ∀ w', Sh.Holds w0 hs w' → K (.bool (l.contains b)) w') : gocall Tryz.prog 194 [.slice p n c, .bool b] K w := by
  apply F194_go; unfold F194
  refine IndexB_c H hsl hl (fun w H => ?_)
  (with_reducible repeat first|refine ldA (by assumption) ?_|refine Stp.imp ?_|refine stA (by assumption) rfl fun _ _=>?_|refine nw_h (by assumption) fun _ _ _=>?_|refine ldSA ?_|refine asT_e [] rfl rfl ?_|refine ldD (by assumption) ?_|refine nwD (by assumption) fun _ _ _=>?_)
  rw [idx_has]; exact k _ H
theorem cloneB_c {ls : List Bool} {p : Option Addr} {n c : Nat} (H : Sh.Holds w0 hs w) (hsl : Sl (Sh.Holds w0 hs) p n 1 (ls.map Bv)) (hl : ls.length ≤ 5000)
    (k : ∀ (r : Row) w', r.Ok 1 (ls.map Bv) → Sh.Holds w0 (r.hp 4 :: hs) w' → K r.v w') : gocall Tryz.prog 193 [.slice p n c] K w := by
  have hn : n = ls.length := by have := hsl.len; simp at this; omega
  apply F193_go; unfold F193
  cases hp : p with
  | none =>
    have hn0 := hsl.no hp
    have : ls = [] := List.eq_nil_of_length_eq_zero (by omega)
    subst this
    exact br_t rfl (k Row.nil _ (Row.nil_ok 1) (Holds.nil H))
  | some a =>
    subst hp
    refine br_f rfl ?_
    refine nw_h H (fun k5 w H => ?_)
    have ok0 : (Row.mk (some k5) 0 0 #[]).Ok 1 [] := ⟨rfl, fun h => by simp at h, fun g hg => ⟨by simp, by simp [maxLen], rfl, rfl⟩⟩
    refine bapp_s (r := ⟨some k5, 0, 0, #[]⟩) elB H (by simp) ok0 (hsl.mono fun w H => H.tail) (fun u hu => by obtain ⟨b, -, rfl⟩ := List.mem_map.1 hu; rfl) (by simp only; omega) (by simp only; unfold maxLen; omega) (fun r' w1 hr1 hr2 H1 => ?_)
    refine asSl_h ?_
    exact k r' _ (by simpa using hr2) H1
theorem firstB_c {l : List Bool} {p : Option Addr} {n c : Nat} (H : Sh.Holds w0 hs w) (hsl : Sl (Sh.Holds w0 hs) p n 1 (l.map Bv)) (hl : l.length < 1000000)
    (k : ∀ w', Sh.Holds w0 hs w' → K (.bool (firstB l)) w') : gocall Tryz.prog 196 [.slice p n c] K w := by
  have hn : n = l.length := by have := hsl.len; simp at this; omega
  apply F196_go; unfold F196
  refine ⟨fun x w => Sh.Holds w0 hs w ∧ 0 ≤ x.1 ∧ x.1 ≤ l.length ∧ ∀ j : Nat, (j : Int) < x.1 → stepF l j = true, fun x _ => (l.length - x.1).toNat, ⟨H, by simp, by simp, fun j hj => by simp at hj; omega⟩, ?_⟩
  rintro ⟨x, y, u⟩ w ⟨H, h0, h1, hf⟩
  simp only at h0 h1 hf
  refine br_s (fun h => ?_) (fun h => ?_)
  · simp only [decide_eq_true_eq] at h
    have hx : x.toNat < l.length := by omega
    have hw : IntKind.wrap .i64 (x + 1) = x + 1 := wrap64 (by omega) (by omega)
    simp only [hw]
    have next : stepF l x.toNat = true → ∀ w, Sh.Holds w0 hs w → (Sh.Holds w0 hs w ∧ 0 ≤ x + 1 ∧ x + 1 ≤ l.length ∧ ∀ j : Nat, (j : Int) < x + 1 → stepF l j = true) ∧ (l.length - (x + 1)).toNat < (l.length - x).toNat := fun hs w H => by
      refine ⟨⟨H, by omega, by omega, fun j hj => ?_⟩, by omega⟩
      by_cases hj' : (j : Int) < x
      · exact hf j hj'
      · have : j = x.toNat := by omega
        subst this; exact hs
    refine br_s (fun h2 => ?_) (fun h2 => ?_)
    · simp only [decide_eq_true_eq] at h2
      refine slAt_s hsl h0 h (fun b1 o hp => ?_)
      refine ldS_s hsl hp H (v := .bool (l.getD x.toNat false)) (by rw [Nat.mul_one]; exact bools_at hx) ?_
      refine asBoo_h ?_
      have hw2 : IntKind.wrap .i64 (x - 1) = x - 1 := wrap64 (by omega) (by omega)
      simp only [hw2]
      have hx1 : (x - 1).toNat = x.toNat - 1 := by omega
      refine br_s (fun hb => ?_) (fun hb => ?_)
      · refine slAt_s hsl (by omega) (by omega) (fun b1 o hp => ?_)
        refine ldS_s hsl hp H (v := .bool (l.getD (x.toNat - 1) false)) (by rw [Nat.mul_one, hx1]; exact bools_at (by omega)) ?_
        refine asBoo_h ?_
        refine br_s (fun hc => ?_) (fun hc => ?_)
        · have e : firstB l = false := by
            unfold firstB
            rw [List.all_eq_false]
            refine ⟨x.toNat, by simp [hx], ?_⟩
            have hc : l.getD (x.toNat - 1) false = false := by simpa using hc
            unfold stepF
            rw [hb, hc]
            simp; omega
          have := k _ H
          rwa [e] at this
        · have hc : l.getD (x.toNat - 1) false = true := by simpa using hc
          exact next (by unfold stepF; rw [hc]; simp) _ H
      · exact next (by unfold stepF; rw [hb]; simp) _ H
    · simp only [decide_eq_false_iff_not] at h2
      exact next (by unfold stepF; have : ¬ (0 < x.toNat) := by omega
                     simp [this]) _ H
  · have e : firstB l = true := by
      unfold firstB
      rw [List.all_eq_true]
      intro j hj
      simp only [List.mem_range] at hj
      simp only [decide_eq_false_iff_not] at h
      exact hf j (by omega)
    have := k _ H
    rwa [e] at this
end
end Go.Proofs.YtcfmnoimehcfnaaGreatDoor
namespace Go.Proofs.YtcfmnoimehcfnaaGreatDoor
open Go Go.Sh

def Row.put (r : Row) (i : Nat) (v : Value) : Row := ⟨r.g, r.n, r.c, r.cur.setIfInBounds i v⟩
theorem Row.put_v (r : Row) (i : Nat) (v : Value) : (Row.put r i v).v = r.v := rfl
theorem Row.put_ok {r : Row} {xs : List Value} (ok : r.Ok 1 xs) (i : Nat) (v : Value) (h : i < xs.length) : (Row.put r i v).Ok 1 (xs.set i v) := by
  refine ⟨by rw [List.length_set]; exact ok.len, ok.no, fun g hg => ?_⟩
  obtain ⟨h1, h2, h3, h4⟩ := ok.yes g hg
  refine ⟨h1, h2, by show (r.cur.setIfInBounds i v).size = r.c * 1; rw [Array.size_setIfInBounds]; exact h3, ?_⟩
  show (r.cur.setIfInBounds i v).toList.take (r.n * 1) = xs.set i v
  rw [Array.toList_setIfInBounds, List.take_set, h4]
theorem stR_h {w0 w : World} {hs : List Hp} {e : TypeId} {r : Row} {xs : List Value} {g i : Nat} {v : Value} {K : World → Prop} (H : Sh.Holds w0 (r.hp e :: hs) w) (ok : r.Ok 1 xs) (hg : r.g = some g) (hi : i < xs.length) (h1 : v.oneCell' = true)
    (hk : ∀ w', Sh.Holds w0 ((Row.put r i v).hp e :: hs) w' → K w') : st ⟨g, i, none⟩ v K w := by
  have hhp : r.hp e = [(g, .cells r.cur e (0, 0))] := by simp [Row.hp, hg]
  have hhp' : (Row.put r i v).hp e = [(g, .cells (r.cur.setIfInBounds i v) e (0, 0))] := by simp [Row.put, Row.hp, hg]
  rw [hhp] at H
  have hc := Row.cur_at ok hg (off := i) (v := xs[i]) (by simp [hi])
  refine st_h 0 H rfl h1 hc (fun w H => hk w ?_)
  rw [hhp']; exact H
theorem arL_h {w : World} (j : Nat) {k n : Nat} {i : Int} {K : Addr → World → Prop} (e : i = (j : Int)) (h1 : j < n) (hk : K ⟨k, j, none⟩ w) : arAt ⟨k, 0, none⟩ n i 1 K w := by
  subst e; exact arAt_h (by omega) (by omega) (by simpa using hk)
section
variable {w0 w : World} {hs : List Hp} {K : KV}
def revS (l : List Bool) (j : Nat) : List Bool := (List.range l.length).map fun k => if k < j ∨ l.length - j ≤ k then l.getD (l.length - 1 - k) false else l.getD k false
theorem revS_len (l : List Bool) (j : Nat) : (revS l j).length = l.length := by simp [revS]
theorem revS_get {l : List Bool} {j k : Nat} (h : k < l.length) : (revS l j).getD k false = if k < j ∨ l.length - j ≤ k then l.getD (l.length - 1 - k) false else l.getD k false := by
  unfold revS
  rw [List.getD_eq_getElem?_getD, List.getElem?_map, List.getElem?_range h]; rfl
theorem ext_get {l m : List Bool} (h : l.length = m.length) (hg : ∀ k, k < l.length → l.getD k false = m.getD k false) : l = m := by
  apply List.ext_getElem h
  intro k h1 h2
  have := hg k h1
  rwa [List.getD_eq_getElem?_getD, List.getD_eq_getElem?_getD, List.getElem?_eq_getElem h1, List.getElem?_eq_getElem h2] at this
theorem revS_0 (l : List Bool) : revS l 0 = l := by
  refine ext_get (revS_len l 0) (fun k hk => ?_)
  rw [revS_len] at hk
  rw [revS_get hk, if_neg (by omega)]
theorem getD_set {l : List Bool} {i k : Nat} {b : Bool} (h : i < l.length) : (l.set i b).getD k false = if k = i then b else l.getD k false := by
  rw [List.getD_eq_getElem?_getD, List.getElem?_set, List.getD_eq_getElem?_getD]
  by_cases e : k = i
  · subst e; simp [h]
  · rw [if_neg e, if_neg (fun q => e q.symm)]
theorem revS_step {l : List Bool} {j : Nat} (h : j < l.length - 1 - j) : ((revS l j).set j ((revS l j).getD (l.length - 1 - j) false)).set (l.length - 1 - j) ((revS l j).getD j false) = revS l (j + 1) := by
  refine ext_get (by simp [revS_len]) (fun k hk => ?_)
  have hk : k < l.length := by simpa [revS_len] using hk
  rw [getD_set (by rw [List.length_set, revS_len]; omega), getD_set (by rw [revS_len]; omega), revS_get hk, revS_get (by omega), revS_get (by omega), revS_get hk]
  by_cases h1 : k = l.length - 1 - j
  · rw [if_pos h1, if_neg (by omega), if_pos (by omega)]
    congr 1; omega
  · rw [if_neg h1]
    by_cases h2 : k = j
    · subst h2
      rw [if_pos rfl, if_neg (by omega), if_pos (by omega)]
    · rw [if_neg h2]
      by_cases h3 : k < j ∨ l.length - j ≤ k
      · rw [if_pos h3, if_pos (by omega)]
      · rw [if_neg h3, if_neg (by omega)]
theorem revS_end {l : List Bool} {j : Nat} (h : l.length ≤ 2 * j + 1) : revS l j = l.reverse := by
  refine ext_get (by simp [revS_len]) (fun k hk => ?_)
  rw [revS_len] at hk
  rw [revS_get hk]
  have e : l.reverse.getD k false = l.getD (l.length - 1 - k) false := by
    rw [List.getD_eq_getElem?_getD, List.getElem?_reverse hk, List.getD_eq_getElem?_getD]
  rw [e]
  by_cases h3 : k < j ∨ l.length - j ≤ k
  · rw [if_pos h3]
  · rw [if_neg h3]
    congr 1; omega
theorem RevB_c {l : List Bool} {r : Row} (H : Sh.Holds w0 (r.hp 4 :: hs) w) (ok : r.Ok 1 (l.map Bv)) (hl : l.length < 1000000)
    (k : ∀ (r' : Row) w', r'.v = r.v → r'.Ok 1 (l.reverse.map Bv) → Sh.Holds w0 (r'.hp 4 :: hs) w' → K (.tuple #[]) w') : gocall Tryz.prog 262 [r.v] K w := by
  have hn : r.n = l.length := by have := ok.len; simp at this; omega
  apply F262_go; unfold F262
  have hw0 : IntKind.wrap .i64 ((r.n : Int) - 1) = (r.n : Int) - 1 := wrap64 (by omega) (by omega)
  simp only [hw0]
  refine ⟨fun x w => (0 ≤ x.2.1 ∧ x.1 = (l.length : Int) - 1 - x.2.1 ∧ x.2.1 ≤ l.length) ∧ ∃ r' : Row, r'.v = r.v ∧ r'.g = r.g ∧ r'.Ok 1 ((revS l x.2.1.toNat).map Bv) ∧ Sh.Holds w0 (r'.hp 4 :: hs) w, fun x _ => (l.length - x.2.1).toNat, ⟨by simp; omega, r, rfl, rfl, by rw [show Int.toNat 0 = 0 from rfl, revS_0]; exact ok, H⟩, ?_⟩
  rintro ⟨i, j, u⟩ w ⟨⟨h0, h1, h2⟩, r', hv, hg', ok', H⟩
  simp only at h0 h1 h2 ok'
  dsimp only
  refine br_s (fun h => ?_) (fun h => ?_)
  · simp only [decide_eq_true_eq] at h
    replace H := H.drew
    refine ⟨fun _ => True, trivial, ?_⟩
    have hp : r.p = r'.p := by simp [Row.p, hg']
    have hn' : r'.n = r.n := by have := congrArg (fun v => match v with | Value.slice _ n _ => n | _ => 0) hv; exact this
    rw [hp, ← hn']
    have hjl : j.toNat < l.length := by omega
    have hil : i.toNat < l.length := by omega
    have hi2 : i.toNat = l.length - 1 - j.toNat := by omega
    have hlr := revS_len l j.toNat
    refine slAt_h ok' (by omega) (by omega) (fun g hg => ?_)
    refine ldR_h (e := 4) 0 H rfl ok' hg (by rw [Nat.mul_one]; exact bools_at (by rw [hlr]; exact hil)) ?_
    refine asBoo_h ?_
    refine slAt_h ok' (by omega) (by omega) (fun g2 hg2 => ?_)
    refine ldR_h (e := 4) 0 H rfl ok' hg2 (by rw [Nat.mul_one]; exact bools_at (by rw [hlr]; exact hjl)) ?_
    refine asBoo_h ?_
    refine slAt_h ok' (by omega) (by omega) (fun g3 hg3 => ?_)
    rw [Nat.mul_one]
    refine stR_h H ok' hg3 (by rw [List.length_map, hlr]; omega) rfl (fun w H => ?_)
    refine ⟨trivial, ?_⟩
    have ok1 := Row.put_ok ok' j.toNat (.bool ((revS l j.toNat).getD i.toNat false)) (by rw [List.length_map, hlr]; omega)
    refine slAt_h ok' (by omega) (by omega) (fun g4 hg4 => ?_)
    rw [Nat.mul_one]
    refine stR_h H ok1 hg4 (by rw [List.length_set, List.length_map, hlr]; omega) rfl (fun w H => ?_)
    have ok2 := Row.put_ok ok1 i.toNat (.bool ((revS l j.toNat).getD j.toNat false)) (by simp only [List.length_map, List.length_set, hlr]; omega)
    have w1 : IntKind.wrap .i64 (i - 1) = i - 1 := wrap64 (by omega) (by omega)
    have w2 : IntKind.wrap .i64 (j + 1) = j + 1 := wrap64 (by omega) (by omega)
    simp only [w1, w2]
    refine ⟨⟨⟨by omega, by omega, by omega⟩, Row.put (Row.put r' j.toNat (.bool ((revS l j.toNat).getD i.toNat false))) i.toNat (.bool ((revS l j.toNat).getD j.toNat false)), hv, hg', ?_, H⟩, by omega⟩
    have e : ((((revS l j.toNat).map Bv).set j.toNat (.bool ((revS l j.toNat).getD i.toNat false))).set i.toNat (.bool ((revS l j.toNat).getD j.toNat false))) = (revS l (j + 1).toNat).map Bv := by
      rw [show (j + 1).toNat = j.toNat + 1 by omega, ← revS_step (by omega), List.map_set, List.map_set, hi2]
    rw [← e]; exact ok2
  · simp only [decide_eq_false_iff_not] at h
    refine k r' _ hv ?_ H
    rwa [revS_end (by omega)] at ok'
theorem lastB_c {l : List Bool} {p : Option Addr} {n c : Nat} (H : Sh.Holds w0 hs w) (hsl : Sl (Sh.Holds w0 hs) p n 1 (l.map Bv)) (hl : l.length ≤ 5000)
    (k : ∀ w', Sh.Holds w0 hs w' → K (.bool (lastB l)) w') : gocall Tryz.prog 197 [.slice p n c] K w := by
  apply F197_go; unfold F197
  refine cloneB_c H hsl hl (fun r w ok H => ?_)
  refine asSl_h ?_
  refine RevB_c H ok (by omega) (fun r' w hv ok' H => ?_)
  refine asT_e [] rfl rfl ?_
  show gocall Tryz.prog 196 [r.v] _ w
  rw [← hv]
  refine firstB_c (l := l.reverse) H (Sl.row 0 rfl ok') (by simp; omega) (fun w H => ?_)
  refine asBoo_h ?_
  exact k _ H.tail
theorem either_c {a b : Bool} (H : Sh.Holds w0 hs w) (k : ∀ w', Sh.Holds w0 hs w' → K (.bool (a || b)) w') : gocall Tryz.prog 195 [.agg #[.bool a, .bool b]] K w := by
  apply F195_go; unfold F195
  refine nw_h H (fun k1 w H => ?_)
  refine arL_h 0 rfl (by omega) ?_
  (with_reducible repeat first|refine ldA (by assumption) ?_|refine Stp.imp ?_|refine stA (by assumption) rfl fun _ _=>?_|refine nw_h (by assumption) fun _ _ _=>?_|refine ldSA ?_|refine asT_e [] rfl rfl ?_|refine ldD (by assumption) ?_|refine nwD (by assumption) fun _ _ _=>?_)
  refine br_s (fun h => ?_) (fun h => ?_)
  · have := k _ H.tail; rwa [h] at this
  · refine arL_h 1 rfl (by omega) ?_
    (with_reducible repeat first|refine ldA (by assumption) ?_|refine Stp.imp ?_|refine stA (by assumption) rfl fun _ _=>?_|refine nw_h (by assumption) fun _ _ _=>?_|refine ldSA ?_|refine asT_e [] rfl rfl ?_|refine ldD (by assumption) ?_|refine nwD (by assumption) fun _ _ _=>?_)
    have := k _ H.tail; rwa [h] at this
theorem bothB_c {a b : Bool} (H : Sh.Holds w0 hs w) (k : ∀ w', Sh.Holds w0 hs w' → K (.bool (a && b)) w') : gocall Tryz.prog 270 [.agg #[.bool a, .bool b]] K w := by
  apply F270_go; unfold F270
  refine nw_h H (fun k1 w H => ?_)
  refine arL_h 0 rfl (by omega) ?_
  (with_reducible repeat first|refine ldA (by assumption) ?_|refine Stp.imp ?_|refine stA (by assumption) rfl fun _ _=>?_|refine nw_h (by assumption) fun _ _ _=>?_|refine ldSA ?_|refine asT_e [] rfl rfl ?_|refine ldD (by assumption) ?_|refine nwD (by assumption) fun _ _ _=>?_)
  refine br_s (fun h => ?_) (fun h => ?_)
  · refine arL_h 1 rfl (by omega) ?_
    (with_reducible repeat first|refine ldA (by assumption) ?_|refine Stp.imp ?_|refine stA (by assumption) rfl fun _ _=>?_|refine nw_h (by assumption) fun _ _ _=>?_|refine ldSA ?_|refine asT_e [] rfl rfl ?_|refine ldD (by assumption) ?_|refine nwD (by assumption) fun _ _ _=>?_)
    have := k _ H.tail; rwa [h] at this
  · have := k _ H.tail; rwa [h] at this
end
end Go.Proofs.YtcfmnoimehcfnaaGreatDoor
namespace Go.Proofs.YtcfmnoimehcfnaaGreatDoor
open Go Go.Sh

def odV (o : Od) (v : Value) : Value := .agg #[I o.id, I o.item, I o.qty, I o.client, I o.price, v]
def Fc.v (f : Fc) (d u : Value) : Value := .agg #[d, u, .bool f.asked, .bool f.yes, .bool f.turned, .bool f.a0, .bool f.a1, .bool f.shipped, .bool f.d0, .bool f.d1, .bool f.acc]
/-- an order and its facts, as they are read -/
structure OfS (S : World → Prop) (o : Od) (f : Fc) (p q r : Option Addr) (n m l : Nat) : Prop where
  s : Sl S p n 2 (sps o.steps)
  d : Sl S q m 1 (f.done.map Bv)
  u : Sl S r l 1 (f.undone.map Bv)
  ls : o.steps.length ≤ 5000
  ld : f.done.length ≤ 5000
  lu : f.undone.length ≤ 5000
theorem OfS.mono {S S' : World → Prop} {o : Od} {f : Fc} {p q r : Option Addr} {n m l : Nat} (h : OfS S o f p q r n m l) (hs : ∀ w, S' w → S w) : OfS S' o f p q r n m l :=
  ⟨h.s.mono hs, h.d.mono hs, h.u.mono hs, h.ls, h.ld, h.lu⟩
theorem OfS.re {w0 : World} {a b : List Hp} {o : Od} {f : Fc} {p q r : Option Addr} {n m l : Nat} (h : OfS (Sh.Holds w0 a) o f p q r n m l) [Re a b] : OfS (Sh.Holds w0 b) o f p q r n m l := h.mono fun w H => H.re
theorem OfS.n {S : World → Prop} {o : Od} {f : Fc} {p q r : Option Addr} {n m l : Nat} (h : OfS S o f p q r n m l) : n = o.steps.length ∧ m = f.done.length ∧ l = f.undone.length := by
  have h1 := h.s.len; have h2 := h.d.len; have h3 := h.u.len
  rw [sps, flat_len Sp.len] at h1
  simp at h2 h3
  omega
section
variable {w0 w : World} {hs : List Hp} {K : KV}
theorem ends_c {f : Fc} {p q : Option Addr} {n m c c' : Nat} (H : Sh.Holds w0 hs w) (hd : Sl (Sh.Holds w0 hs) p n 1 (f.done.map Bv)) (hu : Sl (Sh.Holds w0 hs) q m 1 (f.undone.map Bv)) (hl : f.undone.length ≤ 5000)
    (k : ∀ w', Sh.Holds w0 hs w' → K (I (endsF f)) w') : gocall Tryz.prog 212 [f.v (.slice p n c) (.slice q m c')] K w := by
  have out : ∀ {x : Int} {w : World}, endsF f = x → Sh.Holds w0 hs w → K (I x) w := fun e H => e ▸ k _ H
  apply F212_go; unfold F212
  repeat' first
    | (with_reducible refine ldA (by assumption) ?_)
    | (with_reducible refine nw_h (by assumption) (fun _ _ _ => ?_))
    | (with_reducible refine asBoo_h ?_)
    | (with_reducible refine asSl_h ?_)
    | (with_reducible refine br_s (fun _ => ?_) (fun _ => ?_))
    | (refine bothB_c (by assumption) (fun _ _ => ?_))
    | (refine ContB_c (by assumption) (hu.mono fun w H => H.tail) (by omega) (fun _ _ => ?_))
  all_goals (refine out ?_ (by first | assumption | (exact Holds.tail (by assumption))); simp_all [endsF])
theorem bad4 {A p q R : Bool} (h : (p || q) = true) : (A && (!p && (!q && R))) = false := by
  cases p <;> cases q <;> simp_all
theorem mayF_c {o : Od} {f : Fc} {p q r : Option Addr} {n m l c c' c'' : Nat} (H : Sh.Holds w0 hs w) (h : OfS (Sh.Holds w0 hs) o f p q r n m l)
    (k : ∀ w', Sh.Holds w0 hs w' → K (.bool (mayF o f)) w') : gocall Tryz.prog 94 [odV o (.slice p n c), f.v (.slice q m c') (.slice r l c'')] K w := by
  obtain ⟨e1, e2, e3⟩ := h.n
  have hls := h.ls
  have hld := h.ld
  have hlu := h.lu
  have em : mayO o.id o.item o.qty o.client o.price o.steps = mayOd o := rfl
  have bad : ∀ {w : World} {A B : Hp}, mayF o f = false → Sh.Holds w0 (A :: B :: hs) w → K (.bool false) w := fun e H => e ▸ k _ H.tail.tail
  apply F94_go; unfold F94
  refine nw_h H (fun k23 w H => ?_)
  refine nw_h H (fun k25 w H => ?_)
  have h' : OfS (Sh.Holds w0 ([(k25, .cells #[.slice q m c', .slice r l c'', .bool f.asked, .bool f.yes, .bool f.turned, .bool f.a0, .bool f.a1, .bool f.shipped, .bool f.d0, .bool f.d1, .bool f.acc] 124 (0, 0))] :: [(k23, .cells #[I o.id, I o.item, I o.qty, I o.client, I o.price, .slice p n c] 24 (0, 0))] :: hs)) o f p q r n m l := h.mono fun w H => H.tail.tail
  replace H : Sh.Holds w0 ([(k25, .cells #[.slice q m c', .slice r l c'', .bool f.asked, .bool f.yes, .bool f.turned, .bool f.a0, .bool f.a1, .bool f.shipped, .bool f.d0, .bool f.d1, .bool f.acc] 124 (0, 0))] :: [(k23, .cells #[I o.id, I o.item, I o.qty, I o.client, I o.price, .slice p n c] 24 (0, 0))] :: hs) w := H
  clear h
  obtain ⟨hs', hhs⟩ : ∃ hs', hs' = ([(k25, .cells #[.slice q m c', .slice r l c'', .bool f.asked, .bool f.yes, .bool f.turned, .bool f.a0, .bool f.a1, .bool f.shipped, .bool f.d0, .bool f.d1, .bool f.acc] 124 (0, 0))] :: [(k23, .cells #[I o.id, I o.item, I o.qty, I o.client, I o.price, .slice p n c] 24 (0, 0))] :: hs : List Hp) := ⟨_, rfl⟩
  (with_reducible repeat first|refine ldA (by assumption) ?_|refine Stp.imp ?_|refine stA (by assumption) rfl fun _ _=>?_|refine nw_h (by assumption) fun _ _ _=>?_|refine ldSA ?_|refine asT_e [] rfl rfl ?_|refine ldD (by assumption) ?_|refine nwD (by assumption) fun _ _ _=>?_)
  refine ⟨fun _ w => (mayOd o = true ∧ f.done.length = o.steps.length ∧ f.undone.length = o.steps.length ∧ (f.yes && f.turned) = false) ∧ Sh.Holds w0 hs' w, ?_, ?_⟩
  · (with_reducible repeat first|refine ldA (by assumption) ?_|refine Stp.imp ?_|refine stA (by assumption) rfl fun _ _=>?_|refine nw_h (by assumption) fun _ _ _=>?_|refine ldSA ?_|refine asT_e [] rfl rfl ?_|refine ldD (by assumption) ?_|refine nwD (by assumption) fun _ _ _=>?_)
    refine mayO_c (l := o.steps) H h'.s (by omega) (fun w H => ?_)
    (with_reducible repeat first|refine ldA (by assumption) ?_|refine Stp.imp ?_|refine stA (by assumption) rfl fun _ _=>?_|refine nw_h (by assumption) fun _ _ _=>?_|refine ldSA ?_|refine asT_e [] rfl rfl ?_|refine ldD (by assumption) ?_|refine nwD (by assumption) fun _ _ _=>?_)
    rw [em]
    refine br_s (fun hb => bad (by simp at hb; simp [mayF, hb]) H) (fun hb1 => ?_)
    (with_reducible repeat first|refine ldA (by assumption) ?_|refine Stp.imp ?_|refine stA (by assumption) rfl fun _ _=>?_|refine nw_h (by assumption) fun _ _ _=>?_|refine ldSA ?_|refine asT_e [] rfl rfl ?_|refine ldD (by assumption) ?_|refine nwD (by assumption) fun _ _ _=>?_)
    refine br_s (fun hb => bad (by simp at hb; have : ¬ f.done.length = o.steps.length := by omega
                                   simp [mayF, this]) H) (fun hb2 => ?_)
    (with_reducible repeat first|refine ldA (by assumption) ?_|refine Stp.imp ?_|refine stA (by assumption) rfl fun _ _=>?_|refine nw_h (by assumption) fun _ _ _=>?_|refine ldSA ?_|refine asT_e [] rfl rfl ?_|refine ldD (by assumption) ?_|refine nwD (by assumption) fun _ _ _=>?_)
    refine br_s (fun hb => bad (by simp at hb; have : ¬ f.undone.length = o.steps.length := by omega
                                   simp [mayF, this]) H) (fun hb3 => ?_)
    (with_reducible repeat first|refine ldA (by assumption) ?_|refine Stp.imp ?_|refine stA (by assumption) rfl fun _ _=>?_|refine nw_h (by assumption) fun _ _ _=>?_|refine ldSA ?_|refine asT_e [] rfl rfl ?_|refine ldD (by assumption) ?_|refine nwD (by assumption) fun _ _ _=>?_)
    have g1 : mayOd o = true := by simpa using hb1
    have g2 : f.done.length = o.steps.length := by simp at hb2; omega
    have g3 : f.undone.length = o.steps.length := by simp at hb3; omega
    refine br_s (fun hy => ?_) (fun hy => ?_)
    · (with_reducible repeat first|refine ldA (by assumption) ?_|refine Stp.imp ?_|refine stA (by assumption) rfl fun _ _=>?_|refine nw_h (by assumption) fun _ _ _=>?_|refine ldSA ?_|refine asT_e [] rfl rfl ?_|refine ldD (by assumption) ?_|refine nwD (by assumption) fun _ _ _=>?_)
      refine br_s (fun ht => bad (by simp [mayF, hy, ht]) H) (fun ht => ?_)
      exact ⟨⟨g1, g2, g3, by rw [hy, ht]; rfl⟩, by rw [hhs]; exact H⟩
    · exact ⟨⟨g1, g2, g3, by rw [hy]; rfl⟩, by rw [hhs]; exact H⟩
  clear H
  rintro _ w ⟨⟨g1, g2, g3, g4⟩, H⟩
  rw [hhs] at H
  (with_reducible repeat first|refine ldA (by assumption) ?_|refine Stp.imp ?_|refine stA (by assumption) rfl fun _ _=>?_|refine nw_h (by assumption) fun _ _ _=>?_|refine ldSA ?_|refine asT_e [] rfl rfl ?_|refine ldD (by assumption) ?_|refine nwD (by assumption) fun _ _ _=>?_)
  refine ContB_c H h'.u (by omega) (fun w H => ?_)
  (with_reducible repeat first|refine ldA (by assumption) ?_|refine Stp.imp ?_|refine stA (by assumption) rfl fun _ _=>?_|refine nw_h (by assumption) fun _ _ _=>?_|refine ldSA ?_|refine asT_e [] rfl rfl ?_|refine ldD (by assumption) ?_|refine nwD (by assumption) fun _ _ _=>?_)
  have e : mayF o f = (!(f.yes && (f.done.contains false || (f.undone.contains true || !f.asked))) && (!(f.undone.contains true && !f.turned) && (!(f.shipped && !f.yes) &&
      (!((f.a0 || f.a1 || (f.d0 || f.d1)) && (!f.yes && !f.turned)) && ((firstB f.done || f.turned) && lastB f.undone))))) := by
    unfold mayF; rw [g1, g2, g3, g4]; simp
  generalize hU : f.undone.contains true = U at *
  refine ⟨fun _ w => (!(f.yes && (f.done.contains false || (U || !f.asked))) && (!(U && !f.turned) && (!(f.shipped && !f.yes) && (!((f.a0 || f.a1 || (f.d0 || f.d1)) && (!f.yes && !f.turned)))))) = true ∧ Sh.Holds w0 hs' w, ?_, ?_⟩
  · (with_reducible repeat first|refine ldA (by assumption) ?_|refine Stp.imp ?_|refine stA (by assumption) rfl fun _ _=>?_|refine nw_h (by assumption) fun _ _ _=>?_|refine ldSA ?_|refine asT_e [] rfl rfl ?_|refine ldD (by assumption) ?_|refine nwD (by assumption) fun _ _ _=>?_)
    refine br_s (fun hy => ?_) (fun hy => ?_)
    · (with_reducible repeat first|refine ldA (by assumption) ?_|refine Stp.imp ?_|refine stA (by assumption) rfl fun _ _=>?_|refine nw_h (by assumption) fun _ _ _=>?_|refine ldSA ?_|refine asT_e [] rfl rfl ?_|refine ldD (by assumption) ?_|refine nwD (by assumption) fun _ _ _=>?_)
      refine ContB_c H h'.d (by omega) (fun w H => ?_)
      (with_reducible repeat first|refine ldA (by assumption) ?_|refine Stp.imp ?_|refine stA (by assumption) rfl fun _ _=>?_|refine nw_h (by assumption) fun _ _ _=>?_|refine ldSA ?_|refine asT_e [] rfl rfl ?_|refine ldD (by assumption) ?_|refine nwD (by assumption) fun _ _ _=>?_)
      refine br_s (fun h1 => bad (by rw [e, hy, h1]; simp) H) (fun h1 => ?_)
      refine br_s (fun h2 => bad (by rw [e, hy, h2]; simp) H) (fun h2 => ?_)
      (with_reducible repeat first|refine ldA (by assumption) ?_|refine Stp.imp ?_|refine stA (by assumption) rfl fun _ _=>?_|refine nw_h (by assumption) fun _ _ _=>?_|refine ldSA ?_|refine asT_e [] rfl rfl ?_|refine ldD (by assumption) ?_|refine nwD (by assumption) fun _ _ _=>?_)
      refine br_s (fun h3 => bad (by rw [e, hy, h3]; simp) H) (fun h3 => ?_)
      refine ⟨fun x w => x.1 = ((U && !f.turned) || (f.shipped && !f.yes)) ∧ Sh.Holds w0 hs' w, ?_, ?_⟩
      · repeat' first
          | (with_reducible refine ldA (by assumption) ?_)
          | (with_reducible refine asBoo_h ?_)
          | (with_reducible refine br_s (fun _ => ?_) (fun _ => ?_))
        all_goals (refine ⟨?_, by rw [hhs]; assumption⟩; simp_all)
      · clear H
        rintro ⟨x, _⟩ w ⟨hx, H⟩
        simp only at hx
        rw [hhs] at H
        refine br_s (fun h4 => bad (by rw [e]; exact bad4 (hx.symm.trans h4)) H) (fun h4 => ?_)
        obtain ⟨hp, hq⟩ := Bool.or_eq_false_iff.1 (hx.symm.trans (show x = false from h4))
        clear hx
        repeat' first
          | (with_reducible refine ldA (by assumption) ?_)
          | (with_reducible refine asBoo_h ?_)
          | (with_reducible refine br_s (fun _ => ?_) (fun _ => ?_))
          | (refine either_c (by assumption) (fun _ _ => ?_))
        all_goals first
          | (refine bad ?_ (by assumption); rw [e, hp, hq]; clear e hp hq; simp_all; done) | (refine bad ?_ (by assumption); rw [e, hp, hq]; clear e hp hq; simp_all; intros; simp_all; done)
          | (refine ⟨?_, by rw [hhs]; assumption⟩; rw [hp, hq]; clear e hp hq; simp_all; done)
    · refine ⟨fun x w => x.1 = ((U && !f.turned) || (f.shipped && !f.yes)) ∧ Sh.Holds w0 hs' w, ?_, ?_⟩
      · repeat' first
          | (with_reducible refine ldA (by assumption) ?_)
          | (with_reducible refine asBoo_h ?_)
          | (with_reducible refine br_s (fun _ => ?_) (fun _ => ?_))
        all_goals (refine ⟨?_, by rw [hhs]; assumption⟩; simp_all)
      · clear H
        rintro ⟨x, _⟩ w ⟨hx, H⟩
        simp only at hx
        rw [hhs] at H
        refine br_s (fun h4 => bad (by rw [e]; exact bad4 (hx.symm.trans h4)) H) (fun h4 => ?_)
        obtain ⟨hp, hq⟩ := Bool.or_eq_false_iff.1 (hx.symm.trans (show x = false from h4))
        clear hx
        repeat' first
          | (with_reducible refine ldA (by assumption) ?_)
          | (with_reducible refine asBoo_h ?_)
          | (with_reducible refine br_s (fun _ => ?_) (fun _ => ?_))
          | (refine either_c (by assumption) (fun _ _ => ?_))
        all_goals first
          | (refine bad ?_ (by assumption); rw [e, hp, hq]; clear e hp hq; simp_all; done) | (refine bad ?_ (by assumption); rw [e, hp, hq]; clear e hp hq; simp_all; intros; simp_all; done)
          | (refine ⟨?_, by rw [hhs]; assumption⟩; rw [hp, hq]; clear e hp hq; simp_all; done)
  clear H
  rintro _ w ⟨hc, H⟩
  rw [hhs] at H
  have e2 : mayF o f = ((firstB f.done || f.turned) && lastB f.undone) := by
    rw [e]
    simp only [Bool.and_eq_true] at hc
    obtain ⟨c1, c2, c3, c4⟩ := hc
    rw [c1, c2, c3, c4]; simp
  (with_reducible repeat first|refine ldA (by assumption) ?_|refine Stp.imp ?_|refine stA (by assumption) rfl fun _ _=>?_|refine nw_h (by assumption) fun _ _ _=>?_|refine ldSA ?_|refine asT_e [] rfl rfl ?_|refine ldD (by assumption) ?_|refine nwD (by assumption) fun _ _ _=>?_)
  refine firstB_c H h'.d (by omega) (fun w H => ?_)
  (with_reducible repeat first|refine ldA (by assumption) ?_|refine Stp.imp ?_|refine stA (by assumption) rfl fun _ _=>?_|refine nw_h (by assumption) fun _ _ _=>?_|refine ldSA ?_|refine asT_e [] rfl rfl ?_|refine ldD (by assumption) ?_|refine nwD (by assumption) fun _ _ _=>?_)
  refine br_s (fun hf => ?_) (fun hf => ?_)
  · (with_reducible repeat first|refine ldA (by assumption) ?_|refine Stp.imp ?_|refine stA (by assumption) rfl fun _ _=>?_|refine nw_h (by assumption) fun _ _ _=>?_|refine ldSA ?_|refine asT_e [] rfl rfl ?_|refine ldD (by assumption) ?_|refine nwD (by assumption) fun _ _ _=>?_)
    refine lastB_c H h'.u (by omega) (fun w H => ?_)
    (with_reducible repeat first|refine ldA (by assumption) ?_|refine Stp.imp ?_|refine stA (by assumption) rfl fun _ _=>?_|refine nw_h (by assumption) fun _ _ _=>?_|refine ldSA ?_|refine asT_e [] rfl rfl ?_|refine ldD (by assumption) ?_|refine nwD (by assumption) fun _ _ _=>?_)
    have := k _ H.tail.tail
    rw [e2, hf] at this; simpa using this
  · (with_reducible repeat first|refine ldA (by assumption) ?_|refine Stp.imp ?_|refine stA (by assumption) rfl fun _ _=>?_|refine nw_h (by assumption) fun _ _ _=>?_|refine ldSA ?_|refine asT_e [] rfl rfl ?_|refine ldD (by assumption) ?_|refine nwD (by assumption) fun _ _ _=>?_)
    refine br_s (fun ht => ?_) (fun ht => ?_)
    · (with_reducible repeat first|refine ldA (by assumption) ?_|refine Stp.imp ?_|refine stA (by assumption) rfl fun _ _=>?_|refine nw_h (by assumption) fun _ _ _=>?_|refine ldSA ?_|refine asT_e [] rfl rfl ?_|refine ldD (by assumption) ?_|refine nwD (by assumption) fun _ _ _=>?_)
      refine lastB_c H h'.u (by omega) (fun w H => ?_)
      (with_reducible repeat first|refine ldA (by assumption) ?_|refine Stp.imp ?_|refine stA (by assumption) rfl fun _ _=>?_|refine nw_h (by assumption) fun _ _ _=>?_|refine ldSA ?_|refine asT_e [] rfl rfl ?_|refine ldD (by assumption) ?_|refine nwD (by assumption) fun _ _ _=>?_)
      have := k _ H.tail.tail
      rw [e2, hf, ht] at this; simpa using this
    · exact bad (by rw [e2, hf, ht]; rfl) H
theorem overF_c {o : Od} {f : Fc} {p q r : Option Addr} {n m l c c' c'' : Nat} (H : Sh.Holds w0 hs w) (h : OfS (Sh.Holds w0 hs) o f p q r n m l)
    (k : ∀ w', Sh.Holds w0 hs w' → K (.bool (overF o f)) w') : gocall Tryz.prog 214 [odV o (.slice p n c), f.v (.slice q m c') (.slice r l c'')] K w := by
  have out : ∀ {b : Bool} {A B : Hp} {w : World}, overF o f = b → Sh.Holds w0 (A :: B :: hs) w → K (.bool b) w := fun e H => e ▸ k _ H.tail.tail
  apply F214_go; unfold F214
  (with_reducible repeat first|refine ldA (by assumption) ?_|refine Stp.imp ?_|refine stA (by assumption) rfl fun _ _=>?_|refine nw_h (by assumption) fun _ _ _=>?_|refine ldSA ?_|refine asT_e [] rfl rfl ?_|refine ldD (by assumption) ?_|refine nwD (by assumption) fun _ _ _=>?_)
  refine ends_c (f := f) (by assumption) (h.d.mono fun w H => H.tail.tail) (h.u.mono fun w H => H.tail.tail) h.lu (fun w H => ?_)
  (with_reducible repeat first|refine ldA (by assumption) ?_|refine Stp.imp ?_|refine stA (by assumption) rfl fun _ _=>?_|refine nw_h (by assumption) fun _ _ _=>?_|refine ldSA ?_|refine asT_e [] rfl rfl ?_|refine ldD (by assumption) ?_|refine nwD (by assumption) fun _ _ _=>?_)
  refine mayF_c (o := o) (f := f) (by assumption) (h.mono fun w H => H.tail.tail) (fun w H => ?_)
  (with_reducible repeat first|refine ldA (by assumption) ?_|refine Stp.imp ?_|refine stA (by assumption) rfl fun _ _=>?_|refine nw_h (by assumption) fun _ _ _=>?_|refine ldSA ?_|refine asT_e [] rfl rfl ?_|refine ldD (by assumption) ?_|refine nwD (by assumption) fun _ _ _=>?_)
  refine br_s (fun h1 => ?_) (fun h1 => ?_)
  · refine br_s (fun h2 => ?_) (fun h2 => ?_)
    · refine out ?_ H
      have h2 : endsF f = 5 := by simpa using h2
      simp [overF, h1, h2]
    · refine out ?_ H
      have h2 : endsF f ≠ 5 := by simpa using h2
      unfold overF
      rw [h1, Bool.true_and, show decide (endsF f = 5) = false by simpa using h2, Bool.false_or]
      rfl
  · exact out (by simp [overF, h1]) H
theorem stateF_c {o : Od} {f : Fc} {p q r : Option Addr} {n m l c c' c'' : Nat} (H : Sh.Holds w0 hs w) (h : OfS (Sh.Holds w0 hs) o f p q r n m l)
    (k : ∀ w', Sh.Holds w0 hs w' → K (I (stateF o f)) w') : gocall Tryz.prog 111 [odV o (.slice p n c), f.v (.slice q m c') (.slice r l c'')] K w := by
  have out : ∀ {x : Int} {A B : Hp} {w : World}, stateF o f = x → Sh.Holds w0 (A :: B :: hs) w → K (I x) w := fun e H => e ▸ k _ H.tail.tail
  apply F111_go; unfold F111
  refine nw_h H (fun k23 w H => ?_)
  refine nw_h H (fun k25 w H => ?_)
  obtain ⟨hs', hhs⟩ : ∃ hs', hs' = ([(k25, .cells #[.slice q m c', .slice r l c'', .bool f.asked, .bool f.yes, .bool f.turned, .bool f.a0, .bool f.a1, .bool f.shipped, .bool f.d0, .bool f.d1, .bool f.acc] 124 (0, 0))] :: [(k23, .cells #[I o.id, I o.item, I o.qty, I o.client, I o.price, .slice p n c] 24 (0, 0))] :: hs : List Hp) := ⟨_, rfl⟩
  refine ⟨fun _ w => (mayF o f = true ∧ ((f.d0 || f.d1) && !f.acc) = false) ∧ Sh.Holds w0 hs' w, ?_, ?_⟩
  · (with_reducible repeat first|refine ldA (by assumption) ?_|refine Stp.imp ?_|refine stA (by assumption) rfl fun _ _=>?_|refine nw_h (by assumption) fun _ _ _=>?_|refine ldSA ?_|refine asT_e [] rfl rfl ?_|refine ldD (by assumption) ?_|refine nwD (by assumption) fun _ _ _=>?_)
    refine mayF_c (o := o) (f := f) (by assumption) (h.mono fun w H => H.tail.tail) (fun w H => ?_)
    (with_reducible repeat first|refine ldA (by assumption) ?_|refine Stp.imp ?_|refine stA (by assumption) rfl fun _ _=>?_|refine nw_h (by assumption) fun _ _ _=>?_|refine ldSA ?_|refine asT_e [] rfl rfl ?_|refine ldD (by assumption) ?_|refine nwD (by assumption) fun _ _ _=>?_)
    refine br_s (fun h1 => out (by simp at h1; simp [stateF, h1]) H) (fun h1 => ?_)
    have h1 : mayF o f = true := by simpa using h1
    repeat' first
      | (with_reducible refine ldA (by assumption) ?_)
      | (with_reducible refine asBoo_h ?_)
      | (with_reducible refine br_s (fun _ => ?_) (fun _ => ?_))
      | (refine either_c (by assumption) (fun _ _ => ?_))
    all_goals first
      | (refine out ?_ (by assumption); simp_all [stateF]; done)
      | (refine ⟨⟨h1, ?_⟩, by rw [hhs]; assumption⟩; simp_all; done)
  clear H
  rintro _ w ⟨⟨h1, h2⟩, H⟩
  rw [hhs] at H
  (with_reducible repeat first|refine ldA (by assumption) ?_|refine Stp.imp ?_|refine stA (by assumption) rfl fun _ _=>?_|refine nw_h (by assumption) fun _ _ _=>?_|refine ldSA ?_|refine asT_e [] rfl rfl ?_|refine ldD (by assumption) ?_|refine nwD (by assumption) fun _ _ _=>?_)
  refine ends_c (f := f) (by assumption) (h.d.mono fun w H => H.tail.tail) (h.u.mono fun w H => H.tail.tail) h.lu (fun w H => ?_)
  (with_reducible repeat first|refine ldA (by assumption) ?_|refine Stp.imp ?_|refine stA (by assumption) rfl fun _ _=>?_|refine nw_h (by assumption) fun _ _ _=>?_|refine ldSA ?_|refine asT_e [] rfl rfl ?_|refine ldD (by assumption) ?_|refine nwD (by assumption) fun _ _ _=>?_)
  exact out (by unfold stateF; rw [h1, h2]; simp) H
end
end Go.Proofs.YtcfmnoimehcfnaaGreatDoor
namespace Go.Proofs.YtcfmnoimehcfnaaGreatDoor
open Go Go.Sh

def Mg.v (m : Mg) : Value := .agg m.cells.toArray
theorem elM : ElTy Tryz.prog 30 35 7 56 := ⟨⟨_, _, rfl, rfl, rfl, rfl, rfl, rfl⟩, by omega⟩
theorem mgs_len (l : List Mg) : (mgs l).length = l.length * 7 := flat_len Mg.len l
theorem mgs_app (a b : List Mg) : mgs (a ++ b) = mgs a ++ mgs b := by simp [mgs]
theorem mgs_one (l : List Mg) : ∀ u ∈ mgs l, u.oneCell' = true := by
  intro u hu
  obtain ⟨m, -, hm⟩ := List.mem_flatMap.1 hu
  simp only [Mg.cells, List.mem_cons, List.not_mem_nil, or_false] at hm
  rcases hm with rfl | rfl | rfl | rfl | rfl | rfl | rfl <;> rfl
theorem Row.lit {size n k : Nat} {vals : List Value} (hl : vals.length = n * size) (hm : n ≤ maxLen) : (Row.mk (some k) n n vals.toArray).Ok size vals := by
  refine ⟨hl, fun h => by simp at h, fun g hg => ⟨Nat.le_refl _, hm, by simpa using hl, ?_⟩⟩
  show List.take (n * size) vals.toArray.toList = vals
  rw [← hl]; simp
/-- append, whatever the two are -/
theorem bapp_a {w0 w : World} {hs : List Hp} {K : KV} {P : Program} {t ty e : TypeId} {size bytes : Nat} (T : ElTy P t e size bytes) {r : Row} {xs news : List Value} {p : Option Addr} {m c : Nat}
    (H : Sh.Holds w0 (r.hp e :: hs) w) (h : r.Ok size xs) (hsl : Sl (Sh.Holds w0 (r.hp e :: hs)) p m size news) (h1 : ∀ u ∈ news, u.oneCell' = true)
    (hb : (r.n + m) * bytes ≤ 140737488355328) (h63 : r.n + m ≤ maxLen)
    (hk : ∀ (r' : Row) w', r'.n = r.n + m → r'.Ok size (xs ++ news) → Sh.Holds w0 (r'.hp e :: hs) w' → K r'.v w') :
    bapp .full P #[t, t] ty r.v (.slice p m c) K w := by
  cases hg : r.g with
  | some g => exact bapp_s T H (by rw [hg]; simp) h hsl h1 hb h63 hk
  | none =>
    cases p with
    | some a =>
      obtain ⟨b, o, sp⟩ := a
      rcases (hsl.yes _ rfl).1 with hm | this
      · have hn : news = [] := List.eq_nil_of_length_eq_zero (by rw [hsl.len, hm, Nat.zero_mul])
        subst hn
        exact bapp_h T H h hsl.len (fun j u hu => by simp at hu) h1 hb h63 hk
      simp only at this
      subst this
      exact bapp_h T H h hsl.len (fun j u hu => by rw [Addr.add_lit]; exact (hsl.yes _ rfl).2 j u hu w H) h1 hb h63 hk
    | none =>
      have hm := hsl.no rfl
      subst hm
      have hn : news = [] := List.eq_nil_of_length_eq_zero (by simpa using hsl.len)
      subst hn
      obtain ⟨⟨i, z, ht, hi, hz, hs1, hb1, hzs⟩, hpos⟩ := T
      obtain ⟨hn, hc⟩ := h.no hg
      have hv : r.v = .slice none 0 0 := by simp [Row.v, Row.p, hg, hn, hc]
      rw [hv]
      refine ⟨.slice none 0 0, w, ?_, fun h => rfl, ?_⟩
      · have hs := Src.ofNil (P := P) (size := i.size) w ht c
        rcases hs.kind with ⟨e', hk⟩ | hk <;> simp [Builtin.append_, run_underlying ht, run_underlying hk, sizeOf, typeInfo, hi, hs.len, hs.cells, storeCells]
      · rw [← hv]; exact hk r w rfl (by simpa using h) H
theorem aggAt_l {cs : Array Value} {n z : Nat} {i : Int} {v : Value} {K : KV} {w : World} (j : Nat) (e : i = (j : Int)) (h1 : j < n) (hv : cs[j * z]? = some v) (hk : K v w) : aggAt cs n i z K w := by
  subst e; exact ⟨v, by omega, by omega, by simpa using hv, hk⟩
theorem arO_h {w : World} (j o' : Nat) {k n o : Nat} {i : Int} {K : Addr → World → Prop} (e : i = (j : Int)) (ho : o' = o + j) (h1 : j < n) (hk : K ⟨k, o', none⟩ w) : arAt ⟨k, o, none⟩ n i 1 K w := by
  subst e ho
  refine ⟨by omega, by omega, ?_⟩
  rw [Addr.add_lit, Nat.mul_one, Int.toNat_natCast]
  exact hk
section
variable {w0 w : World} {hs : List Hp} {K : KV}
theorem tell_c {kind to : Int} {o : Od} {p : Option Addr} {n c : Nat} (H : Sh.Holds w0 hs w) (k : ∀ w', Sh.Holds w0 hs w' → K (tellM kind to o).v w') : gocall Tryz.prog 273 [I kind, I to, odV o (.slice p n c)] K w := by
  apply F273_go; unfold F273
  (with_reducible repeat first|refine ldA (by assumption) ?_|refine Stp.imp ?_|refine stA (by assumption) rfl fun _ _=>?_|refine nw_h (by assumption) fun _ _ _=>?_|refine ldSA ?_|refine asT_e [] rfl rfl ?_|refine ldD (by assumption) ?_|refine nwD (by assumption) fun _ _ _=>?_)
  exact k _ (Holds.tail (Holds.tail (by assumption)))
def decP (kind : Int) (o : Od) (f : Fc) (i : Int) : List Mg := (if f.a0 = true ∨ i < 1 then [] else [tellM kind 1 o]) ++ (if f.a1 = true ∨ i < 2 then [] else [tellM kind 2 o])
theorem decision_c {kind : Int} {o : Od} {f : Fc} {p : Option Addr} {n c : Nat} {d u : Value} (hd : d.oneCell' = true) (hu : u.oneCell' = true) (H : Sh.Holds w0 hs w) (k : ∀ (r : Row) w', r.Ok 7 (mgs (decM kind o f)) → Sh.Holds w0 (r.hp 35 :: hs) w' → K r.v w')
    {q q' : Option Addr} {m m' cc cc' : Nat} (hdv : d = .slice q m cc) (huv : u = .slice q' m' cc') :
    gocall Tryz.prog 271 [I kind, odV o (.slice p n c), f.v d u] K w := by
  subst hdv huv
  apply F271_go; unfold F271
  refine nw_h H (fun k24 w H => ?_)
  refine nw_h H (fun k26 w H => ?_)
  obtain ⟨fr, hfr⟩ : ∃ fr, fr = ([(k26, .cells #[.slice q m cc, .slice q' m' cc', .bool f.asked, .bool f.yes, .bool f.turned, .bool f.a0, .bool f.a1, .bool f.shipped, .bool f.d0, .bool f.d1, .bool f.acc] 124 (0, 0))] :: [(k24, .cells #[I o.id, I o.item, I o.qty, I o.client, I o.price, .slice p n c] 24 (0, 0))] :: hs : List Hp) := ⟨_, rfl⟩
  refine ⟨fun x w => (0 ≤ x.1 ∧ x.1 ≤ 2) ∧ ∃ r : Row, r.v = .slice x.2.1.1 x.2.1.2.1 x.2.1.2.2 ∧ r.Ok 7 (mgs (decP kind o f x.1)) ∧ r.n ≤ x.1 ∧ Sh.Holds w0 (r.hp 35 :: fr) w, fun x _ => (2 - x.1).toNat, ⟨by simp, Row.nil, rfl, ?_, by simp [Row.nil], by rw [hfr]; exact Holds.nil H⟩, ?_⟩
  · have : decP kind o f 0 = [] := by simp [decP]
    rw [this]; exact Row.nil_ok 7
  clear H
  rintro ⟨i, ⟨p1, n1, c1⟩, u⟩ w ⟨⟨h0, h1⟩, r, hv, ok, hn2, H⟩
  dsimp only at h0 h1 hv ok
  dsimp only
  rw [← hv]
  refine br_s (fun h => ?_) (fun h => ?_)
  · simp only [decide_eq_true_eq] at h
    have hw : IntKind.wrap .i64 (i + 1) = i + 1 := wrap64 (by omega) (by omega)
    simp only [hw]
    rw [hfr] at H
    have hi : i = 0 ∨ i = 1 := by omega
    rcases hi with rfl | rfl
    · have step : decP kind o f (0 + 1) = decP kind o f 0 ++ (if f.a0 = true then [] else [tellM kind 1 o]) := by simp [decP]
      rw [step]
      refine aggAt_l 0 rfl (by omega) rfl ?_
      refine asI_e (n := 1) rfl ?_
      refine arO_h 0 5 rfl rfl (by omega) ?_
      (with_reducible repeat first|refine ldA (by assumption) ?_|refine Stp.imp ?_|refine stA (by assumption) rfl fun _ _=>?_|refine nw_h (by assumption) fun _ _ _=>?_|refine ldSA ?_|refine asT_e [] rfl rfl ?_|refine ldD (by assumption) ?_|refine nwD (by assumption) fun _ _ _=>?_)
      refine br_s (fun hb => ?_) (fun hb => ?_)
      · have hb : f.a0 = false := by simpa using hb
        rw [hb]
        (with_reducible repeat first|refine ldA (by assumption) ?_|refine Stp.imp ?_|refine stA (by assumption) rfl fun _ _=>?_|refine nw_h (by assumption) fun _ _ _=>?_|refine ldSA ?_|refine asT_e [] rfl rfl ?_|refine ldD (by assumption) ?_|refine nwD (by assumption) fun _ _ _=>?_)
        refine tell_c (o := o) (by assumption) (fun w H => ?_)
        refine asN_e [_, _, _, _, _, _, _] rfl rfl ?_
        iterate 7 refine asI_e rfl ?_
        refine nw_h H (fun k87 w H => ?_)
        replace H := H.get (r.hp 35)
        refine bapp1_h elM 0 H rfl ok rfl (mgs_one [tellM kind 1 o]) (by omega) (by unfold maxLen; omega) (fun r' w hn' ok' H => ?_)
        refine asSl_h ?_
        exact ⟨⟨by omega, r', rfl, by rw [if_neg (by simp), mgs_app]; exact ok', by omega, by rw [hfr]; exact H.re⟩, by omega⟩
      · have hb : f.a0 = true := by simpa using hb
        rw [hb]
        exact ⟨⟨by omega, r, rfl, by rw [if_pos rfl, List.append_nil]; exact ok, by have := hn2; simp only at this ⊢; omega, by rw [hfr]; exact H⟩, by omega⟩
    · have step : decP kind o f (1 + 1) = decP kind o f 1 ++ (if f.a1 = true then [] else [tellM kind 2 o]) := by simp [decP]
      rw [step]
      refine aggAt_l 1 rfl (by omega) rfl ?_
      refine asI_e (n := 2) rfl ?_
      refine arO_h 1 6 rfl rfl (by omega) ?_
      (with_reducible repeat first|refine ldA (by assumption) ?_|refine Stp.imp ?_|refine stA (by assumption) rfl fun _ _=>?_|refine nw_h (by assumption) fun _ _ _=>?_|refine ldSA ?_|refine asT_e [] rfl rfl ?_|refine ldD (by assumption) ?_|refine nwD (by assumption) fun _ _ _=>?_)
      refine br_s (fun hb => ?_) (fun hb => ?_)
      · have hb : f.a1 = false := by simpa using hb
        rw [hb]
        (with_reducible repeat first|refine ldA (by assumption) ?_|refine Stp.imp ?_|refine stA (by assumption) rfl fun _ _=>?_|refine nw_h (by assumption) fun _ _ _=>?_|refine ldSA ?_|refine asT_e [] rfl rfl ?_|refine ldD (by assumption) ?_|refine nwD (by assumption) fun _ _ _=>?_)
        refine tell_c (o := o) (by assumption) (fun w H => ?_)
        refine asN_e [_, _, _, _, _, _, _] rfl rfl ?_
        iterate 7 refine asI_e rfl ?_
        refine nw_h H (fun k87 w H => ?_)
        replace H := H.get (r.hp 35)
        refine bapp1_h elM 0 H rfl ok rfl (mgs_one [tellM kind 2 o]) (by omega) (by unfold maxLen; omega) (fun r' w hn' ok' H => ?_)
        refine asSl_h ?_
        exact ⟨⟨by omega, r', rfl, by rw [if_neg (by simp), mgs_app]; exact ok', by omega, by rw [hfr]; exact H.re⟩, by omega⟩
      · have hb : f.a1 = true := by simpa using hb
        rw [hb]
        exact ⟨⟨by omega, r, rfl, by rw [if_pos rfl, List.append_nil]; exact ok, by have := hn2; simp only at this ⊢; omega, by rw [hfr]; exact H⟩, by omega⟩
  · simp only [decide_eq_false_iff_not] at h
    have hi : i = 2 := by omega
    subst hi
    have e : decP kind o f 2 = decM kind o f := by simp [decP, decM]
    rw [e] at ok
    refine k r _ ok ?_
    rw [hfr] at H
    exact Holds.re H
end
end Go.Proofs.YtcfmnoimehcfnaaGreatDoor
namespace Go.Proofs.YtcfmnoimehcfnaaGreatDoor
open Go Go.Sh

theorem backS_c {K : KV} {w : World} {l : List Sp} {p : Option Addr} {n c y rb : Nat} (S : World → Prop) (C : Int → World → Prop) (Cx : World → Prop) (hl : l.length ≤ 5000)
    (hsl : Sl S p n 2 (sps l)) (hr : ∀ w, S w → w.cell? ⟨rb, 0, none⟩ = some (.slice p n c)) (hS : ∀ i w, C i w → S w) (h0 : C ((l.length : Int) - 1) w)
    (hy : ∀ (i : Nat) (s : Sp) (K' : KV) w, l[i]? = some s → C i w → (∀ w', C ((i : Int) - 1) w' → K' (.bool true) w') → (∀ w', Cx w' → K' (.bool false) w') → goyield Tryz.prog y [I i, .agg s.cells.toArray] K' w)
    (k1 : ∀ w', C (-1) w' → K (.tuple #[]) w') (k2 : ∀ w', Cx w' → K (.tuple #[]) w') :
    gocall Tryz.prog 314 [yv y, .pointer (some ⟨rb, 0, none⟩)] K w := by
  have hn : n = l.length := by have := hsl.len; rw [sps, flat_len Sp.len] at this; omega
  apply F314_go; unfold F314
  refine ⟨_, hr _ (hS _ _ h0), ?_⟩
  refine asSl_h ?_
  have hw0 : IntKind.wrap .i64 ((n : Int) - 1) = (n : Int) - 1 := wrap64 (by omega) (by omega)
  simp only [hw0]
  refine ⟨fun x w => C x.1 w ∧ -1 ≤ x.1 ∧ x.1 < l.length, fun x _ => (x.1 + 1).toNat, ⟨by rw [hn]; exact h0, by simp; omega, by simp; omega⟩, ?_⟩
  rintro ⟨i, u⟩ w ⟨hc, g0, g1⟩
  dsimp only at hc g0 g1
  dsimp only
  refine br_s (fun h => ?_) (fun h => ?_)
  · simp only [ge_iff_le, decide_eq_true_eq] at h
    refine ⟨_, hr _ (hS _ _ hc), ?_⟩
    refine asSl_h ?_
    have hi : i.toNat < l.length := by omega
    have hp' := List.getElem?_eq_getElem hi
    have hcc := fun {j : Nat} (hj : j < 2) => flat_at (f := Sp.cells) Sp.len hp' hj
    refine slAt_s hsl h (by omega) (fun b1 o hp => ?_)
    refine ldS_s hsl hp (hS _ _ hc) (v := I l[i.toNat].svc) (hcc (j := 0) (by omega)) ?_
    refine asI_h ?_
    refine ldS_s (j := i.toNat * 2 + 1) hsl hp (hS _ _ hc) (v := I l[i.toNat].n) (hcc (j := 1) (by omega)) ?_
    refine asI_h ?_
    have ei : i = ((i.toNat : Nat) : Int) := by omega
    have := hy i.toNat l[i.toNat] (fun v28 w29 => asBoo v28 (fun b30 w31 => br (!b30) (fun w32 => K (.tuple #[]) w32) (fun w33 => (C (IntKind.wrap .i64 (i - 1)) w33 ∧ -1 ≤ IntKind.wrap .i64 (i - 1) ∧ IntKind.wrap .i64 (i - 1) < l.length) ∧ (IntKind.wrap .i64 (i - 1) + 1).toNat < (i + 1).toNat) w31) w29) w hp' (by rw [← ei]; exact hc)
      (fun w' hc' => asBoo_h (br_f rfl (by
        have hw : IntKind.wrap .i64 (i - 1) = i - 1 := wrap64 (by omega) (by omega)
        simp only [hw]
        exact ⟨⟨by rw [← ei] at hc'; exact hc', by omega, by omega⟩, by omega⟩)))
      (fun w' hc' => asBoo_h (br_t rfl (k2 w' hc')))
    rw [← ei] at this
    exact this
  · simp only [ge_iff_le, decide_eq_false_iff_not] at h
    have : i = -1 := by omega
    subst this
    exact k1 w hc
theorem backB_c {K : KV} {w : World} {l : List Bool} {p : Option Addr} {n c y rb : Nat} (S : World → Prop) (C : Int → World → Prop) (Cx : World → Prop) (hl : l.length ≤ 5000)
    (hsl : Sl S p n 1 (l.map Bv)) (hr : ∀ w, S w → w.cell? ⟨rb, 0, none⟩ = some (.slice p n c)) (hS : ∀ i w, C i w → S w) (h0 : C ((l.length : Int) - 1) w)
    (hy : ∀ (i : Nat) (K' : KV) w, i < l.length → C i w → (∀ w', C ((i : Int) - 1) w' → K' (.bool true) w') → (∀ w', Cx w' → K' (.bool false) w') → goyield Tryz.prog y [I i, .bool (l.getD i false)] K' w)
    (k1 : ∀ w', C (-1) w' → K (.tuple #[]) w') (k2 : ∀ w', Cx w' → K (.tuple #[]) w') :
    gocall Tryz.prog 297 [yv y, .pointer (some ⟨rb, 0, none⟩)] K w := by
  have hn : n = l.length := by have := hsl.len; simp at this; omega
  apply F297_go; unfold F297
  refine ⟨_, hr _ (hS _ _ h0), ?_⟩
  refine asSl_h ?_
  have hw0 : IntKind.wrap .i64 ((n : Int) - 1) = (n : Int) - 1 := wrap64 (by omega) (by omega)
  simp only [hw0]
  refine ⟨fun x w => C x.1 w ∧ -1 ≤ x.1 ∧ x.1 < l.length, fun x _ => (x.1 + 1).toNat, ⟨by rw [hn]; exact h0, by simp; omega, by simp; omega⟩, ?_⟩
  rintro ⟨i, u⟩ w ⟨hc, g0, g1⟩
  dsimp only at hc g0 g1
  dsimp only
  refine br_s (fun h => ?_) (fun h => ?_)
  · simp only [ge_iff_le, decide_eq_true_eq] at h
    refine ⟨_, hr _ (hS _ _ hc), ?_⟩
    refine asSl_h ?_
    have hi : i.toNat < l.length := by omega
    refine slAt_s hsl h (by omega) (fun b1 o hp => ?_)
    refine ldS_s hsl hp (hS _ _ hc) (v := .bool (l.getD i.toNat false)) (by rw [Nat.mul_one]; exact bools_at hi) ?_
    refine asBoo_h ?_
    have ei : i = ((i.toNat : Nat) : Int) := by omega
    have := hy i.toNat (fun v28 w29 => asBoo v28 (fun b30 w31 => br (!b30) (fun w32 => K (.tuple #[]) w32) (fun w33 => (C (IntKind.wrap .i64 (i - 1)) w33 ∧ -1 ≤ IntKind.wrap .i64 (i - 1) ∧ IntKind.wrap .i64 (i - 1) < l.length) ∧ (IntKind.wrap .i64 (i - 1) + 1).toNat < (i + 1).toNat) w31) w29) w hi (by rw [← ei]; exact hc)
      (fun w' hc' => asBoo_h (br_f rfl (by
        have hw : IntKind.wrap .i64 (i - 1) = i - 1 := wrap64 (by omega) (by omega)
        simp only [hw]
        exact ⟨⟨by rw [← ei] at hc'; exact hc', by omega, by omega⟩, by omega⟩)))
      (fun w' hc' => asBoo_h (br_t rfl (k2 w' hc')))
    rw [← ei] at this
    exact this
  · simp only [ge_iff_le, decide_eq_false_iff_not] at h
    have : i = -1 := by omega
    subst this
    exact k1 w hc
theorem lastNot_all {l : List Bool} : ∀ {n : Nat}, (∀ j, j < n → l.getD j true = true) → lastNot l n = none
  | 0, _ => rfl
  | n + 1, h => by
    simp only [lastNot]
    rw [h n (by omega)]
    simp only [Bool.true_eq_false, if_false]
    exact lastNot_all (fun j hj => h j (by omega))
theorem lastNot_at {l : List Bool} {i : Nat} (hi : l.getD i true = false) : ∀ {n : Nat}, i < n → (∀ j, i < j → j < n → l.getD j true = true) → lastNot l n = some i
  | 0, h, _ => by omega
  | n + 1, h, ha => by
    simp only [lastNot]
    by_cases e : i = n
    · subst e; rw [hi]; rfl
    · rw [ha n (by omega) (by omega)]
      simp only [Bool.true_eq_false, if_false]
      exact lastNot_at hi (by omega) (fun j h1 h2 => ha j h1 (by omega))
theorem getD_tf {l : List Bool} {i : Nat} (h : i < l.length) : l.getD i true = l.getD i false := by
  rw [List.getD_eq_getElem?_getD, List.getD_eq_getElem?_getD, List.getElem?_eq_getElem h]; rfl
section
variable {w0 w : World} {hs : List Hp} {K : KV}
theorem lastFalse_c {l : List Bool} {p : Option Addr} {n c : Nat} (H : Sh.Holds w0 hs w) (hsl : Sl (Sh.Holds w0 hs) p n 1 (l.map Bv)) (hl : l.length ≤ 5000)
    (k : ∀ w', Sh.Holds w0 hs w' → K (I (lastI l)) w') : gocall Tryz.prog 207 [.slice p n c] K w := by
  apply F207_go; unfold F207
  refine nw_h H (fun k3 w H => ?_)
  refine stA H rfl (fun w H => ?_)
  apply F268_go; unfold F268
  refine nw_h H (fun kb w H => ?_)
  refine asFn_h ?_
  refine rfn_h H (fun D q R w hround H => ?_)
  let F : List Hp := [(D, .deferred (some []))] :: [(kb, .cells #[.slice p n c] 121 (0, 0))] :: hs
  refine backB_c (l := l) (p := p) (n := n) (c := c) (fun w => Sh.Holds w0 F w)
    (fun i w => Sh.Holds w0 ([(q, R .ready none)] :: [(k3, .cells #[I (-1)] 3 (0, 0))] :: F) w ∧ ∀ j : Nat, i < (j : Int) → j < l.length → l.getD j true = true)
    (fun w => ∃ i : Nat, lastNot l l.length = some i ∧ Sh.Holds w0 ([(q, R .done (some (Code.exit 0)))] :: [(k3, .cells #[I i] 3 (0, 0))] :: F) w)
    hl (hsl.mono fun w H => H.tail.tail) (fun w H => by have := Holds.mem 1 H rfl; simp [World.cell?, this]) (fun i w h => h.1.tail.tail) ⟨Holds.re H, fun j h1 h2 => by omega⟩ ?_ ?_ ?_
  · rintro i K' w hi ⟨H, ha⟩ kt kf
    refine hround _ _ _ (H.mem 0 rfl) ?_
    refine asT_e [_, _] rfl rfl ?_
    refine asI_e rfl ?_
    refine asBoo_e rfl ?_
    refine rfb_h 0 H rfl (fun w H => ?_)
    replace H : Sh.Holds w0 ([(q, R .busy none)] :: [(k3, .cells #[I (-1)] 3 (0, 0))] :: F) w := H
    refine br_s (fun hb => ?_) (fun hb => ?_)
    · have hb : l.getD i false = false := by simpa using hb
      refine stA H rfl (fun w H => ?_)
      refine rfx_h 0 H rfl (fun w H => ?_)
      refine kf w ⟨i, ?_, H⟩
      refine lastNot_at (by rw [getD_tf hi]; exact hb) hi (fun j h1 h2 => ha j (by omega) h2)
    · have hb : l.getD i false = true := by simpa using hb
      refine rfy_h 0 H rfl (fun w H => ?_)
      refine kt w ⟨H, fun j h1 h2 => ?_⟩
      by_cases e : j = i
      · subst e; rw [getD_tf hi]; exact hb
      · exact ha j (by omega) h2
  · rintro w ⟨H, ha⟩
    refine rfe_h 0 (st := .ready) (pe := none) (by simp) H rfl (fun w H => ?_)
    unfold rfj
    simp only
    replace H : Sh.Holds w0 ([(q, R .exhausted none)] :: [(k3, .cells #[I (-1)] 3 (0, 0))] :: F) w := H
    refine ldA H ?_; refine asI_h ?_
    refine dfr_h 2 H rfl (fun w H => ?_)
    have e : lastI l = -1 := by
      unfold lastI
      rw [lastNot_all (fun j hj => ha j (by omega) hj)]
    have := k w (Holds.tail (Holds.tail (Holds.tail (Holds.tail H))))
    rw [e] at this; exact this
  · rintro w ⟨i, hi, H⟩
    refine rfe_h 0 (st := .done) (pe := some (Code.exit 0)) (by simp) H rfl (fun w H => ?_)
    unfold rfj
    simp only
    replace H : Sh.Holds w0 ([(q, R .exhausted (some (Code.exit 0)))] :: [(k3, .cells #[I i] 3 (0, 0))] :: F) w := H
    have e : lastI l = i := by
      unfold lastI
      rw [hi]
    have := k
    rw [e] at this
    simp only [lookJ, if_true]
    refine ldA H ?_; refine asI_h ?_
    refine dfr_h 2 H rfl (fun w H => ?_)
    exact this w (Holds.tail (Holds.tail (Holds.tail (Holds.tail H))))
theorem undo_c {o : Od} {f : Fc} {p q r : Option Addr} {n m l c c' c'' : Nat} (H : Sh.Holds w0 hs w) (h : OfS (Sh.Holds w0 hs) o f p q r n m l) (hul : f.undone.length = o.steps.length)
    (k : ∀ (R : Row) w', R.Ok 7 (mgs (undoM o f)) → R.n ≤ 1 → Sh.Holds w0 (R.hp 35 :: hs) w' → K R.v w') : gocall Tryz.prog 272 [odV o (.slice p n c), f.v (.slice q m c') (.slice r l c'')] K w := by
  obtain ⟨e1, e2, e3⟩ := h.n
  have hls := h.ls
  apply F272_go; unfold F272
  refine nw_h H (fun k23 w H => ?_)
  refine nw_h H (fun k25 w H => ?_)
  refine nw_h H (fun k27 w H => ?_)
  (with_reducible repeat first|refine ldA (by assumption) ?_|refine Stp.imp ?_|refine stA (by assumption) rfl fun _ _=>?_|refine nw_h (by assumption) fun _ _ _=>?_|refine ldSA ?_|refine asT_e [] rfl rfl ?_|refine ldD (by assumption) ?_|refine nwD (by assumption) fun _ _ _=>?_)
  apply F299_go; unfold F299
  refine nw_h H (fun kb w H => ?_)
  refine asFn_h ?_
  refine rfn_h H (fun D y R w hround H => ?_)
  let G : List Hp := [(k25, .cells #[.slice q m c', .slice r l c'', .bool f.asked, .bool f.yes, .bool f.turned, .bool f.a0, .bool f.a1, .bool f.shipped, .bool f.d0, .bool f.d1, .bool f.acc] 124 (0, 0))] :: [(k23, .cells #[I o.id, I o.item, I o.qty, I o.client, I o.price, .slice p n c] 24 (0, 0))] :: hs
  let F : List Hp := [(D, .deferred (some []))] :: [(kb, .cells #[.slice p n c] 22 (0, 0))] :: G
  have hF : ∀ {w}, Sh.Holds w0 F w → Sh.Holds w0 hs w := fun H => Holds.tail (Holds.tail (Holds.tail (Holds.tail H)))
  refine backS_c (l := o.steps) (p := p) (n := n) (c := c) (fun w => Sh.Holds w0 F w)
    (fun i w => Sh.Holds w0 ([(y, R .ready none)] :: [(k27, .cells #[.slice none 0 0] 30 (0, 0))] :: F) w ∧ ∀ j : Nat, i < (j : Int) → j < o.steps.length → f.undone.getD j true = true)
    (fun w => ∃ (i : Nat) (g : Nat), lastNot f.undone o.steps.length = some i ∧ Sh.Holds w0 ([(y, R .done (some Code.ret))] :: [(k27, .cells #[.slice (some ⟨g, 0, none⟩) 1 1] 30 (0, 0))] :: [(g, .cells (mgs (undoM o f)).toArray 35 (0, 0))] :: F) w)
    hls (h.s.mono fun w H => hF H) (fun w H => by have := Holds.mem 1 H rfl; simp [World.cell?, this]) (fun i w h => h.1.tail.tail) ⟨Holds.re H, fun j h1 h2 => by omega⟩ ?_ ?_ ?_
  · rintro i s K' w hg ⟨H, ha⟩ kt kf
    have hi := (List.getElem?_eq_some_iff.1 hg).1
    refine hround _ _ _ (H.mem 0 rfl) ?_
    refine asT_e [_, _] rfl rfl ?_
    refine asI_e rfl ?_
    refine asN_e [_, _] rfl rfl ?_
    refine asI_e rfl ?_
    refine asI_e rfl ?_
    refine nw_h H (fun k81 w H => ?_)
    refine stA H rfl (fun w H => ?_)
    refine stA H rfl (fun w H => ?_)
    refine rfb_h 1 H rfl (fun w H => ?_)
    replace H : Sh.Holds w0 ([(k81, .cells #[I s.svc, I s.n] 81 (0, 0))] :: [(y, R .busy none)] :: [(k27, .cells #[.slice none 0 0] 30 (0, 0))] :: F) w := H
    (with_reducible repeat first|refine ldA (by assumption) ?_|refine Stp.imp ?_|refine stA (by assumption) rfl fun _ _=>?_|refine nw_h (by assumption) fun _ _ _=>?_|refine ldSA ?_|refine asT_e [] rfl rfl ?_|refine ldD (by assumption) ?_|refine nwD (by assumption) fun _ _ _=>?_)
    refine slAt_s (h.u.mono fun w (H : Sh.Holds w0 ([(k81, .cells #[I s.svc, I s.n] 81 (0, 0))] :: [(y, R .busy none)] :: [(k27, .cells #[.slice none 0 0] 30 (0, 0))] :: F) w) => hF H.tail.tail.tail) (by omega) (by omega) (fun b1 o1 hp => ?_)
    refine ldS_s (h.u.mono fun w (H : Sh.Holds w0 ([(k81, .cells #[I s.svc, I s.n] 81 (0, 0))] :: [(y, R .busy none)] :: [(k27, .cells #[.slice none 0 0] 30 (0, 0))] :: F) w) => hF H.tail.tail.tail) hp H (v := .bool (f.undone.getD i false)) (by rw [Nat.mul_one, Int.toNat_natCast]; exact bools_at (by omega)) ?_
    refine asBoo_h ?_
    refine br_s (fun hb => ?_) (fun hb => ?_)
    · refine rfy_h 1 H rfl (fun w H => ?_)
      refine kt w ⟨Holds.tail H, fun j h1 h2 => ?_⟩
      by_cases e : j = i
      · subst e; rw [getD_tf (by omega)]; exact hb
      · exact ha j (by omega) h2
    · have hln : lastNot f.undone o.steps.length = some i := lastNot_at (by rw [getD_tf (by omega)]; exact hb) hi (fun j h1 h2 => ha j (by omega) h2)
      have hsg : o.steps.getD i ⟨0, 0⟩ = s := by rw [List.getD_eq_getElem?_getD, hg]; rfl
      have hun : undoM o f = [⟨4, 0, s.svc, o.id, i, 0, 0⟩] := by unfold undoM; rw [hln]; simp only [hsg]
      (with_reducible repeat first|refine ldA (by assumption) ?_|refine Stp.imp ?_|refine stA (by assumption) rfl fun _ _=>?_|refine nw_h (by assumption) fun _ _ _=>?_|refine ldSA ?_|refine asT_e [] rfl rfl ?_|refine ldD (by assumption) ?_|refine nwD (by assumption) fun _ _ _=>?_)
      refine tell_c (o := o) H (fun w H => ?_)
      refine asN_e [_, _, _, _, _, _, _] rfl rfl ?_
      iterate 7 refine asI_e rfl ?_
      (with_reducible repeat first|refine ldA (by assumption) ?_|refine Stp.imp ?_|refine stA (by assumption) rfl fun _ _=>?_|refine nw_h (by assumption) fun _ _ _=>?_|refine ldSA ?_|refine asT_e [] rfl rfl ?_|refine ldD (by assumption) ?_|refine nwD (by assumption) fun _ _ _=>?_)
      rename_i k188 w1 H1 w H
      replace H : Sh.Holds w0 ([(k188, .cells (mgs (undoM o f)).toArray 35 (0, 0))] :: [(k27, .cells #[.slice (some ⟨k188, 0, none⟩) 1 1] 30 (0, 0))] :: [(y, R .busy none)] :: F) w := by
        have H3 : Sh.Holds w0 ([(k188, .cells (mgs [⟨4, 0, s.svc, o.id, i, 0, 0⟩]).toArray 35 (0, 0))] :: [_] :: [(k81, .cells #[I s.svc, I s.n] 81 (0, 0))] :: [(y, R .busy none)] :: [(k27, .cells #[.slice (some ⟨k188, 0, none⟩) 1 1] 30 (0, 0))] :: F) w := H
        rw [hun]; exact Holds.re H3
      refine rfx_h 2 H rfl (fun w H => ?_)
      replace H : Sh.Holds w0 ([(k188, .cells (mgs (undoM o f)).toArray 35 (0, 0))] :: [(k27, .cells #[.slice (some ⟨k188, 0, none⟩) 1 1] 30 (0, 0))] :: [(y, R .done (some Code.ret))] :: F) w := H
      exact kf w ⟨i, k188, hln, Holds.re H⟩
  · rintro w ⟨H, ha⟩
    refine rfe_h 0 (st := .ready) (pe := none) (by simp) H rfl (fun w H => ?_)
    unfold rfj
    simp only
    replace H : Sh.Holds w0 ([(y, R .exhausted none)] :: [(k27, .cells #[.slice none 0 0] 30 (0, 0))] :: F) w := H
    refine stA H rfl (fun w H => ?_)
    refine dfr_h 2 H rfl (fun w H => ?_)
    replace H : Sh.Holds w0 ([(y, R .exhausted none)] :: [(k27, .cells #[.slice none 0 0] 30 (0, 0))] :: [(D, .deferred none)] :: [(kb, .cells #[.slice p n c] 22 (0, 0))] :: G) w := H
    refine ldA H ?_; refine asSl_h ?_
    have e : undoM o f = [] := by
      unfold undoM
      rw [lastNot_all (fun j hj => ha j (by omega) hj)]
    exact k Row.nil w (by rw [e]; exact Row.nil_ok 7) (by simp [Row.nil]) (Holds.nil (Holds.tail (Holds.tail (Holds.tail (Holds.tail (Holds.tail (Holds.tail H)))))))
  · rintro w ⟨i, g, hi, H⟩
    have hlen : (mgs (undoM o f)).length = 1 * 7 := by unfold undoM; rw [hi]; rfl
    refine rfe_h 0 (st := .done) (pe := some Code.ret) (by simp) H rfl (fun w H => ?_)
    unfold rfj
    simp only
    refine dfr_h 3 H rfl (fun w H => ?_)
    replace H : Sh.Holds w0 ([(y, R .exhausted (some Code.ret))] :: [(k27, .cells #[.slice (some ⟨g, 0, none⟩) 1 1] 30 (0, 0))] :: [(g, .cells (mgs (undoM o f)).toArray 35 (0, 0))] :: [(D, .deferred none)] :: [(kb, .cells #[.slice p n c] 22 (0, 0))] :: G) w := H
    refine ldA H ?_; refine asSl_h ?_
    have ok := Row.lit (k := g) hlen (by unfold maxLen; omega)
    have H2 : Sh.Holds w0 ([(g, .cells (mgs (undoM o f)).toArray 35 (0, 0))] :: hs) w := Holds.re H
    exact k _ w ok (Nat.le_refl _) H2
end
end Go.Proofs.YtcfmnoimehcfnaaGreatDoor
namespace Go.Proofs.YtcfmnoimehcfnaaGreatDoor
open Go Go.Sh

theorem first_none {l : List Bool} (h : ∀ j, j < l.length → l.getD j false = true) : firstNot l = none := by
  unfold firstNot
  rw [List.findIdx?_eq_none_iff]
  intro x hx
  obtain ⟨j, hj, rfl⟩ := List.getElem_of_mem hx
  have := h j hj
  rw [List.getD_eq_getElem?_getD, List.getElem?_eq_getElem hj] at this
  simp only [Option.getD_some] at this
  simp [isNot, this]
theorem first_at {l : List Bool} {i : Nat} (hi : i < l.length) (hb : l.getD i false = false) (h : ∀ j, j < i → l.getD j false = true) : firstNot l = some i := by
  unfold firstNot
  rw [List.findIdx?_eq_some_iff_getElem]
  refine ⟨hi, ?_, fun j hj => ?_⟩
  · rw [List.getD_eq_getElem?_getD, List.getElem?_eq_getElem hi] at hb
    simp only [Option.getD_some] at hb
    simp [isNot, hb]
  · have := h j hj
    rw [List.getD_eq_getElem?_getD, List.getElem?_eq_getElem (by omega)] at this
    simp only [Option.getD_some] at this
    simp [isNot, this]
section
variable {w0 w : World} {hs : List Hp} {K : KV}
set_option maxHeartbeats 2000000 in
theorem forward_c {o : Od} {f : Fc} {p q r : Option Addr} {n m l c c' c'' : Nat} (H : Sh.Holds w0 hs w) (h : OfS (Sh.Holds w0 hs) o f p q r n m l) (hdl : f.done.length = o.steps.length)
    (k : ∀ (R : Row) w', R.Ok 7 (mgs (forwM o f)) → R.n ≤ 2 → Sh.Holds w0 (R.hp 35 :: hs) w' → K R.v w') : gocall Tryz.prog 274 [odV o (.slice p n c), f.v (.slice q m c') (.slice r l c'')] K w := by
  obtain ⟨e1, e2, e3⟩ := h.n
  have hls := h.ls
  apply F274_go; unfold F274
  refine nw_h H (fun k23 w H => ?_)
  refine nw_h H (fun k25 w H => ?_)
  let G : List Hp := [(k25, .cells #[.slice q m c', .slice r l c'', .bool f.asked, .bool f.yes, .bool f.turned, .bool f.a0, .bool f.a1, .bool f.shipped, .bool f.d0, .bool f.d1, .bool f.acc] 124 (0, 0))] :: [(k23, .cells #[I o.id, I o.item, I o.qty, I o.client, I o.price, .slice p n c] 24 (0, 0))] :: hs
  replace H : Sh.Holds w0 G w := H
  refine ldA (hs := [(k25, .cells #[.slice q m c', .slice r l c'', .bool f.asked, .bool f.yes, .bool f.turned, .bool f.a0, .bool f.a1, .bool f.shipped, .bool f.d0, .bool f.d1, .bool f.acc] 124 (0, 0))] :: [(k23, .cells #[I o.id, I o.item, I o.qty, I o.client, I o.price, .slice p n c] 24 (0, 0))] :: hs) H ?_
  refine asSl_h ?_
  refine ⟨fun x w => Sh.Holds w0 G w ∧ 0 ≤ x.1 ∧ x.1 ≤ o.steps.length ∧ ∀ j : Nat, (j : Int) < x.1 → f.done.getD j false = true, fun x _ => (o.steps.length - x.1).toNat, ⟨H, by simp, by simp, fun j hj => by simp at hj; omega⟩, ?_⟩
  clear H
  rintro ⟨i, ⟨p1, n1, c1⟩, u⟩ w ⟨H, h0, h1, ha⟩
  dsimp only at h0 h1 ha
  dsimp only
  refine br_s (fun hlt => ?_) (fun hlt => ?_)
  · simp only [decide_eq_true_eq] at hlt
    have hw : IntKind.wrap .i64 (i + 1) = i + 1 := wrap64 (by omega) (by omega)
    simp only [hw]
    have hi : i.toNat < o.steps.length := by omega
    have hp' := List.getElem?_eq_getElem hi
    have hcc := fun {j : Nat} (hj : j < 2) => flat_at (f := Sp.cells) Sp.len hp' hj
    generalize hs1 : o.steps[i.toNat] = s at hp' hcc
    have hst : Sl (Sh.Holds w0 G) p n 2 (sps o.steps) := h.s.mono fun w H => H.tail.tail
    refine slAt_s hst h0 (by omega) (fun b1 o1 hp => ?_)
    refine ldS_s hst hp H (v := I s.svc) (hcc (j := 0) (by omega)) ?_
    refine asI_h ?_
    refine ldS_s (j := i.toNat * 2 + 1) hst hp H (v := I s.n) (hcc (j := 1) (by omega)) ?_
    refine asI_h ?_
    refine nw_h H (fun k47 w H => ?_)
    refine stA H rfl (fun w H => ?_)
    refine stA H rfl (fun w H => ?_)
    replace H : Sh.Holds w0 ([(k47, .cells #[I s.svc, I s.n] 81 (0, 0))] :: [(k25, .cells #[.slice q m c', .slice r l c'', .bool f.asked, .bool f.yes, .bool f.turned, .bool f.a0, .bool f.a1, .bool f.shipped, .bool f.d0, .bool f.d1, .bool f.acc] 124 (0, 0))] :: [(k23, .cells #[I o.id, I o.item, I o.qty, I o.client, I o.price, .slice p n c] 24 (0, 0))] :: hs) w := H
    (with_reducible repeat first|refine ldA (by assumption) ?_|refine Stp.imp ?_|refine stA (by assumption) rfl fun _ _=>?_|refine nw_h (by assumption) fun _ _ _=>?_|refine ldSA ?_|refine asT_e [] rfl rfl ?_|refine ldD (by assumption) ?_|refine nwD (by assumption) fun _ _ _=>?_)
    have hd : Sl (Sh.Holds w0 ([(k47, .cells #[I s.svc, I s.n] 81 (0, 0))] :: G)) q m 1 (f.done.map Bv) := h.d.mono fun w H => H.tail.tail.tail
    refine slAt_s hd h0 (by omega) (fun b2 o2 hp2 => ?_)
    refine ldS_s hd hp2 H (v := .bool (f.done.getD i.toNat false)) (by rw [Nat.mul_one]; exact bools_at (by omega)) ?_
    refine asBoo_h ?_
    refine br_s (fun hb => ?_) (fun hb => ?_)
    · have hb : f.done.getD i.toNat false = false := by simpa using hb
      have hf : firstNot f.done = some i.toNat := first_at (by omega) hb (fun j hj => ha j (by omega))
      have hsg : o.steps.getD i.toNat ⟨0, 0⟩ = s := by rw [List.getD_eq_getElem?_getD, hp']; rfl
      have ei : ((i.toNat : Nat) : Int) = i := by omega
      have hfw : forwM o f = [⟨1, 0, s.svc, o.id, i, s.n, 0⟩] := by unfold forwM; rw [hf]; simp only [hsg, ei]
      rw [hfw] at k
      have out : ∀ {A : List Hp} [Re hs A] (g : Nat) (w : World), Sh.Holds w0 ([(g, .cells (mgs [⟨1, 0, s.svc, o.id, i, s.n, 0⟩]).toArray 35 (0, 0))] :: A) w → K (.slice (some ⟨g, 0, none⟩) 1 1) w := fun {A} _ g w H => by
        have H2 : Sh.Holds w0 ([(g, .cells (mgs [⟨1, 0, s.svc, o.id, i, s.n, 0⟩]).toArray 35 (0, 0))] :: hs) w := Holds.re H
        exact k _ w (Row.lit (k := g) (vals := mgs [⟨1, 0, s.svc, o.id, i, s.n, 0⟩]) rfl (by unfold maxLen; omega)) (by show 1 ≤ 2; omega) H2
      repeat' first
        |(with_reducible refine ldA (by first|assumption|(apply Holds.drew; assumption)) ?_)|(with_reducible refine asI_h ?_)|(with_reducible refine asBoo_h ?_)|(with_reducible refine asSl_h ?_)|(with_reducible refine asPtr_h ?_)|(with_reducible refine asMap_h ?_)|(with_reducible refine asStr_h ?_)|(with_reducible refine nn_h ?_)|(with_reducible refine stA (by first|assumption|(apply Holds.drew; assumption)) rfl fun _ _=>?_)|(with_reducible refine nw_h (by first|assumption|(apply Holds.drew; assumption)) fun _ _ _=>?_)|(with_reducible refine ldSA ?_)|(with_reducible refine asT_e [] rfl rfl ?_)|(with_reducible refine both_h ?_ ?_)|(refine kpA (by first|assumption|(apply Holds.drew; assumption)) ?_)|((with_reducible apply asI_e); rfl)
        | (refine tell_c (o := o) (by assumption) (fun _ _ => ?_))
        | (refine asN_e [_, _, _, _, _, _, _] rfl rfl ?_)
        | (refine keepsA [[(k47, .cells #[I s.svc, I s.n] 81 (0, 0))]] (by first|assumption|(apply Holds.drew; assumption)) ?_)
      exact out _ _ (by assumption)
    · exact ⟨⟨H.tail, by omega, by omega, fun j hj => by
        by_cases e : (j : Int) < i
        · exact ha j e
        · have : j = i.toNat := by omega
          subst this; simpa using hb⟩, by omega⟩
  · simp only [decide_eq_false_iff_not] at hlt
    have hf : firstNot f.done = none := first_none (fun j hj => ha j (by omega))
    have hfw : forwM o f = [⟨6, 0, 1, o.id, 0, o.item, o.qty⟩, ⟨6, 0, 2, o.id, 0, o.client, o.price⟩] := by unfold forwM; rw [hf]
    rw [hfw] at k
    have out : ∀ {A : List Hp} [Re hs A] (g : Nat) (w : World), Sh.Holds w0 ([(g, .cells (mgs [⟨6, 0, 1, o.id, 0, o.item, o.qty⟩, ⟨6, 0, 2, o.id, 0, o.client, o.price⟩]).toArray 35 (0, 0))] :: A) w → K (.slice (some ⟨g, 0, none⟩) 2 2) w := fun {A} _ g w H => by
      have H2 : Sh.Holds w0 ([(g, .cells (mgs [⟨6, 0, 1, o.id, 0, o.item, o.qty⟩, ⟨6, 0, 2, o.id, 0, o.client, o.price⟩]).toArray 35 (0, 0))] :: hs) w := Holds.re H
      exact k _ w (Row.lit (k := g) (vals := mgs [⟨6, 0, 1, o.id, 0, o.item, o.qty⟩, ⟨6, 0, 2, o.id, 0, o.client, o.price⟩]) rfl (by unfold maxLen; omega)) (by show 2 ≤ 2; omega) H2
    replace H : Sh.Holds w0 ([(k25, .cells #[.slice q m c', .slice r l c'', .bool f.asked, .bool f.yes, .bool f.turned, .bool f.a0, .bool f.a1, .bool f.shipped, .bool f.d0, .bool f.d1, .bool f.acc] 124 (0, 0))] :: [(k23, .cells #[I o.id, I o.item, I o.qty, I o.client, I o.price, .slice p n c] 24 (0, 0))] :: hs) w := H
    replace H := H.drew
    repeat' first
      |(with_reducible refine ldA (by first|assumption|(apply Holds.drew; assumption)) ?_)|(with_reducible refine asI_h ?_)|(with_reducible refine asBoo_h ?_)|(with_reducible refine asSl_h ?_)|(with_reducible refine asPtr_h ?_)|(with_reducible refine asMap_h ?_)|(with_reducible refine asStr_h ?_)|(with_reducible refine nn_h ?_)|(with_reducible refine stA (by first|assumption|(apply Holds.drew; assumption)) rfl fun _ _=>?_)|(with_reducible refine nw_h (by first|assumption|(apply Holds.drew; assumption)) fun _ _ _=>?_)|(with_reducible refine ldSA ?_)|(with_reducible refine asT_e [] rfl rfl ?_)|(with_reducible refine both_h ?_ ?_)|(refine kpA (by first|assumption|(apply Holds.drew; assumption)) ?_)|((with_reducible apply asI_e); rfl)
      | (refine tell_c (o := o) (by assumption) (fun _ _ => ?_))
      | (refine asN_e [_, _, _, _, _, _, _] rfl rfl ?_)
      | (refine keepsA [[(k23, .cells #[I o.id, I o.item, I o.qty, I o.client, I o.price, .slice p n c] 24 (0, 0))]] (by first|assumption|(apply Holds.drew; assumption)) ?_)
      | (refine keepsA [[(k23, .cells #[I o.id, I o.item, I o.qty, I o.client, I o.price, .slice p n c] 24 (0, 0))]] (by first|assumption|(apply Holds.drew; assumption)) ?_)
    all_goals exact out _ _ (by assumption)
end
end Go.Proofs.YtcfmnoimehcfnaaGreatDoor
namespace Go.Proofs.YtcfmnoimehcfnaaGreatDoor
open Go Go.Sh

theorem mgs_n {r : Row} {l : List Mg} (ok : r.Ok 7 (mgs l)) : r.n = l.length := by have := ok.len; rw [mgs_len] at this; omega
theorem decM_len (kind : Int) (o : Od) (f : Fc) : (decM kind o f).length ≤ 2 := by unfold decM; split <;> split <;> simp
theorem undoM_len (o : Od) (f : Fc) : (undoM o f).length ≤ 1 := by unfold undoM; split <;> simp
theorem nextM_len (o : Od) (f : Fc) : (nextM o f).length ≤ 3 := by
  have h1 := fun k => decM_len k o f
  have h2 := undoM_len o f
  unfold nextM
  split
  · simp
  split
  · have := h1 10; simp only [List.length_append]; omega
  split
  · have := h1 9; omega
  split
  · have := h1 9; simp only [List.length_append, List.length_cons, List.length_nil]; omega
  · unfold forwM; split <;> simp
theorem mayF_lens {o : Od} {f : Fc} (h : mayF o f = true) : f.done.length = o.steps.length ∧ f.undone.length = o.steps.length := by
  unfold mayF at h
  simp only [Bool.and_eq_true, decide_eq_true_eq] at h
  exact ⟨h.2.1, h.2.2.1⟩
section
variable {w0 w : World} {hs : List Hp} {K : KV}
set_option maxHeartbeats 4000000 in
theorem next_c {o : Od} {f : Fc} {p q r : Option Addr} {n m l c c' c'' : Nat} (H : Sh.Holds w0 hs w) (h : OfS (Sh.Holds w0 hs) o f p q r n m l)
    (k : ∀ (R : Row) w', R.Ok 7 (mgs (nextM o f)) → Sh.Holds w0 (R.hp 35 :: hs) w' → K R.v w') : gocall Tryz.prog 213 [odV o (.slice p n c), f.v (.slice q m c') (.slice r l c'')] K w := by
  have hls := h.ls
  have out : ∀ {A : List Hp} [Re hs A] (R : Row) (w : World), R.Ok 7 (mgs (nextM o f)) → Sh.Holds w0 (R.hp 35 :: A) w → K R.v w := fun {A} _ R w ok H => by
    have H2 : Sh.Holds w0 (R.hp 35 :: hs) w := Holds.re H
    exact k R w ok H2
  apply F213_go; unfold F213
  refine nw_h H (fun k23 w H => ?_)
  refine nw_h H (fun k25 w H => ?_)
  obtain ⟨hs', hhs⟩ : ∃ hs', hs' = ([(k25, .cells #[.slice q m c', .slice r l c'', .bool f.asked, .bool f.yes, .bool f.turned, .bool f.a0, .bool f.a1, .bool f.shipped, .bool f.d0, .bool f.d1, .bool f.acc] 124 (0, 0))] :: [(k23, .cells #[I o.id, I o.item, I o.qty, I o.client, I o.price, .slice p n c] 24 (0, 0))] :: hs : List Hp) := ⟨_, rfl⟩
  have ho : ∀ {A : List Hp} [Re hs A], OfS (Sh.Holds w0 A) o f p q r n m l := fun {A} _ => h.re
  refine ⟨fun _ w => (mayF o f = true ∧ f.turned = false ∧ f.yes = false) ∧ Sh.Holds w0 hs' w, ?_, ?_⟩
  · repeat' first
      |(with_reducible refine ldA (by first|assumption|(apply Holds.drew; assumption)) ?_)|(with_reducible refine asI_h ?_)|(with_reducible refine asBoo_h ?_)|(with_reducible refine asSl_h ?_)|(with_reducible refine asPtr_h ?_)|(with_reducible refine asMap_h ?_)|(with_reducible refine asStr_h ?_)|(with_reducible refine nn_h ?_)|(with_reducible refine stA (by first|assumption|(apply Holds.drew; assumption)) rfl fun _ _=>?_)|(with_reducible refine nw_h (by first|assumption|(apply Holds.drew; assumption)) fun _ _ _=>?_)|(with_reducible refine ldSA ?_)|(with_reducible refine asT_e [] rfl rfl ?_)|(with_reducible refine both_h ?_ ?_)|(refine kpA (by first|assumption|(apply Holds.drew; assumption)) ?_)|((with_reducible apply asI_e); rfl)
    refine mayF_c (o := o) (f := f) (by first|assumption|(apply Holds.drew; assumption)) (h.mono fun w H => H.tail.tail) (fun w H => ?_)
    (with_reducible repeat first|refine ldA (by assumption) ?_|refine Stp.imp ?_|refine stA (by assumption) rfl fun _ _=>?_|refine nw_h (by assumption) fun _ _ _=>?_|refine ldSA ?_|refine asT_e [] rfl rfl ?_|refine ldD (by assumption) ?_|refine nwD (by assumption) fun _ _ _=>?_)
    refine br_s (fun h1 => ?_) (fun h1 => ?_)
    · have h1 : mayF o f = false := by simpa using h1
      refine out Row.nil _ ?_ (Holds.nil H)
      unfold nextM; rw [if_pos h1]; exact Row.nil_ok 7
    have h1 : mayF o f = true := by simpa using h1
    have e0 : nextM o f = if f.turned = true then decM 10 o f ++ undoM o f else if (f.yes && f.shipped) = true then decM 9 o f else if f.yes = true then decM 9 o f ++ [⟨15, 0, 3, o.id, 0, o.item, o.qty⟩] else forwM o f := by unfold nextM; rw [if_neg (by simp [h1])]
    obtain ⟨hdl, hul⟩ := mayF_lens h1
    (with_reducible repeat first|refine ldA (by assumption) ?_|refine Stp.imp ?_|refine stA (by assumption) rfl fun _ _=>?_|refine nw_h (by assumption) fun _ _ _=>?_|refine ldSA ?_|refine asT_e [] rfl rfl ?_|refine ldD (by assumption) ?_|refine nwD (by assumption) fun _ _ _=>?_)
    refine br_s (fun ht => ?_) (fun ht => ?_)
    · rw [if_pos ht] at e0
      refine keepsA [[(k25, .cells #[.slice q m c', .slice r l c'', .bool f.asked, .bool f.yes, .bool f.turned, .bool f.a0, .bool f.a1, .bool f.shipped, .bool f.d0, .bool f.d1, .bool f.acc] 124 (0, 0))], [(k23, .cells #[I o.id, I o.item, I o.qty, I o.client, I o.price, .slice p n c] 24 (0, 0))]] (by first|assumption|(apply Holds.drew; assumption)) ?_
      repeat' first
        |(with_reducible refine ldA (by first|assumption|(apply Holds.drew; assumption)) ?_)|(with_reducible refine asI_h ?_)|(with_reducible refine asBoo_h ?_)|(with_reducible refine asSl_h ?_)|(with_reducible refine asPtr_h ?_)|(with_reducible refine asMap_h ?_)|(with_reducible refine asStr_h ?_)|(with_reducible refine nn_h ?_)|(with_reducible refine stA (by first|assumption|(apply Holds.drew; assumption)) rfl fun _ _=>?_)|(with_reducible refine nw_h (by first|assumption|(apply Holds.drew; assumption)) fun _ _ _=>?_)|(with_reducible refine ldSA ?_)|(with_reducible refine asT_e [] rfl rfl ?_)|(with_reducible refine both_h ?_ ?_)|(refine kpA (by first|assumption|(apply Holds.drew; assumption)) ?_)|((with_reducible apply asI_e); rfl)
      refine decision_c (o := o) (f := f) rfl rfl (by first|assumption|(apply Holds.drew; assumption)) (fun r1 w ok1 H => ?_) rfl rfl
      repeat' first
        |(with_reducible refine ldA (by first|assumption|(apply Holds.drew; assumption)) ?_)|(with_reducible refine asI_h ?_)|(with_reducible refine asBoo_h ?_)|(with_reducible refine asSl_h ?_)|(with_reducible refine asPtr_h ?_)|(with_reducible refine asMap_h ?_)|(with_reducible refine asStr_h ?_)|(with_reducible refine nn_h ?_)|(with_reducible refine stA (by first|assumption|(apply Holds.drew; assumption)) rfl fun _ _=>?_)|(with_reducible refine nw_h (by first|assumption|(apply Holds.drew; assumption)) fun _ _ _=>?_)|(with_reducible refine ldSA ?_)|(with_reducible refine asT_e [] rfl rfl ?_)|(with_reducible refine both_h ?_ ?_)|(refine kpA (by first|assumption|(apply Holds.drew; assumption)) ?_)|((with_reducible apply asI_e); rfl)
      refine undo_c (o := o) (f := f) (by first|assumption|(apply Holds.drew; assumption)) ho hul (fun r2 w ok2 hn2 H => ?_)
      repeat' first
        |(with_reducible refine ldA (by first|assumption|(apply Holds.drew; assumption)) ?_)|(with_reducible refine asI_h ?_)|(with_reducible refine asBoo_h ?_)|(with_reducible refine asSl_h ?_)|(with_reducible refine asPtr_h ?_)|(with_reducible refine asMap_h ?_)|(with_reducible refine asStr_h ?_)|(with_reducible refine nn_h ?_)|(with_reducible refine stA (by first|assumption|(apply Holds.drew; assumption)) rfl fun _ _=>?_)|(with_reducible refine nw_h (by first|assumption|(apply Holds.drew; assumption)) fun _ _ _=>?_)|(with_reducible refine ldSA ?_)|(with_reducible refine asT_e [] rfl rfl ?_)|(with_reducible refine both_h ?_ ?_)|(refine kpA (by first|assumption|(apply Holds.drew; assumption)) ?_)|((with_reducible apply asI_e); rfl)
      replace H := H.get (r1.hp 35)
      have n1 := mgs_n ok1
      have n2 := mgs_n ok2
      have l1 := decM_len 10 o f
      have l2 := undoM_len o f
      refine bapp_a elM H ok1 (Sl.row 1 rfl ok2) (mgs_one _) (by omega) (by unfold maxLen; omega) (fun r3 w hn3 ok3 H => ?_)
      (with_reducible repeat first|refine ldA (by assumption) ?_|refine Stp.imp ?_|refine stA (by assumption) rfl fun _ _=>?_|refine nw_h (by assumption) fun _ _ _=>?_|refine ldSA ?_|refine asT_e [] rfl rfl ?_|refine ldD (by assumption) ?_|refine nwD (by assumption) fun _ _ _=>?_)
      refine out r3 _ ?_ H
      rw [e0, mgs_app]; exact ok3
    have ht : f.turned = false := by simpa using ht
    rw [if_neg (by simp [ht])] at e0
    have ship : ∀ w, f.yes = true → f.shipped = false → Sh.Holds w0 ([(k25, .cells #[.slice q m c', .slice r l c'', .bool f.asked, .bool f.yes, .bool f.turned, .bool f.a0, .bool f.a1, .bool f.shipped, .bool f.d0, .bool f.d1, .bool f.acc] 124 (0, 0))] :: [(k23, .cells #[I o.id, I o.item, I o.qty, I o.client, I o.price, .slice p n c] 24 (0, 0))] :: hs) w → True := fun _ _ _ _ => trivial
    (with_reducible repeat first|refine ldA (by assumption) ?_|refine Stp.imp ?_|refine stA (by assumption) rfl fun _ _=>?_|refine nw_h (by assumption) fun _ _ _=>?_|refine ldSA ?_|refine asT_e [] rfl rfl ?_|refine ldD (by assumption) ?_|refine nwD (by assumption) fun _ _ _=>?_)
    refine br_s (fun hy => ?_) (fun hy => ?_)
    · (with_reducible repeat first|refine ldA (by assumption) ?_|refine Stp.imp ?_|refine stA (by assumption) rfl fun _ _=>?_|refine nw_h (by assumption) fun _ _ _=>?_|refine ldSA ?_|refine asT_e [] rfl rfl ?_|refine ldD (by assumption) ?_|refine nwD (by assumption) fun _ _ _=>?_)
      refine br_s (fun hsh => ?_) (fun hsh => ?_)
      · rw [if_pos (by simp [hy, hsh])] at e0
        repeat' first
          |(with_reducible refine ldA (by first|assumption|(apply Holds.drew; assumption)) ?_)|(with_reducible refine asI_h ?_)|(with_reducible refine asBoo_h ?_)|(with_reducible refine asSl_h ?_)|(with_reducible refine asPtr_h ?_)|(with_reducible refine asMap_h ?_)|(with_reducible refine asStr_h ?_)|(with_reducible refine nn_h ?_)|(with_reducible refine stA (by first|assumption|(apply Holds.drew; assumption)) rfl fun _ _=>?_)|(with_reducible refine nw_h (by first|assumption|(apply Holds.drew; assumption)) fun _ _ _=>?_)|(with_reducible refine ldSA ?_)|(with_reducible refine asT_e [] rfl rfl ?_)|(with_reducible refine both_h ?_ ?_)|(refine kpA (by first|assumption|(apply Holds.drew; assumption)) ?_)|((with_reducible apply asI_e); rfl)
        refine decision_c (o := o) (f := f) rfl rfl (by first|assumption|(apply Holds.drew; assumption)) (fun r1 w ok1 H => ?_) rfl rfl
        (with_reducible repeat first|refine ldA (by assumption) ?_|refine Stp.imp ?_|refine stA (by assumption) rfl fun _ _=>?_|refine nw_h (by assumption) fun _ _ _=>?_|refine ldSA ?_|refine asT_e [] rfl rfl ?_|refine ldD (by assumption) ?_|refine nwD (by assumption) fun _ _ _=>?_)
        exact out r1 _ (by rw [e0]; exact ok1) H
      · rw [if_neg (by simp [hsh]), if_pos hy] at e0
        (with_reducible repeat first|refine ldA (by assumption) ?_|refine Stp.imp ?_|refine stA (by assumption) rfl fun _ _=>?_|refine nw_h (by assumption) fun _ _ _=>?_|refine ldSA ?_|refine asT_e [] rfl rfl ?_|refine ldD (by assumption) ?_|refine nwD (by assumption) fun _ _ _=>?_)
        refine br_t hy ?_
        repeat' first
          |(with_reducible refine ldA (by first|assumption|(apply Holds.drew; assumption)) ?_)|(with_reducible refine asI_h ?_)|(with_reducible refine asBoo_h ?_)|(with_reducible refine asSl_h ?_)|(with_reducible refine asPtr_h ?_)|(with_reducible refine asMap_h ?_)|(with_reducible refine asStr_h ?_)|(with_reducible refine nn_h ?_)|(with_reducible refine stA (by first|assumption|(apply Holds.drew; assumption)) rfl fun _ _=>?_)|(with_reducible refine nw_h (by first|assumption|(apply Holds.drew; assumption)) fun _ _ _=>?_)|(with_reducible refine ldSA ?_)|(with_reducible refine asT_e [] rfl rfl ?_)|(with_reducible refine both_h ?_ ?_)|(refine kpA (by first|assumption|(apply Holds.drew; assumption)) ?_)|((with_reducible apply asI_e); rfl)
        refine tell_c (o := o) (by first|assumption|(apply Holds.drew; assumption)) (fun w H => ?_)
        refine asN_e [_, _, _, _, _, _, _] rfl rfl ?_
        repeat' first
          |(with_reducible refine ldA (by first|assumption|(apply Holds.drew; assumption)) ?_)|(with_reducible refine asI_h ?_)|(with_reducible refine asBoo_h ?_)|(with_reducible refine asSl_h ?_)|(with_reducible refine asPtr_h ?_)|(with_reducible refine asMap_h ?_)|(with_reducible refine asStr_h ?_)|(with_reducible refine nn_h ?_)|(with_reducible refine stA (by first|assumption|(apply Holds.drew; assumption)) rfl fun _ _=>?_)|(with_reducible refine nw_h (by first|assumption|(apply Holds.drew; assumption)) fun _ _ _=>?_)|(with_reducible refine ldSA ?_)|(with_reducible refine asT_e [] rfl rfl ?_)|(with_reducible refine both_h ?_ ?_)|(refine kpA (by first|assumption|(apply Holds.drew; assumption)) ?_)|((with_reducible apply asI_e); rfl)
        refine keepsA [[(k23, .cells #[I o.id, I o.item, I o.qty, I o.client, I o.price, .slice p n c] 24 (0, 0))]] (by first|assumption|(apply Holds.drew; assumption)) ?_
        repeat' first
          |(with_reducible refine ldA (by first|assumption|(apply Holds.drew; assumption)) ?_)|(with_reducible refine asI_h ?_)|(with_reducible refine asBoo_h ?_)|(with_reducible refine asSl_h ?_)|(with_reducible refine asPtr_h ?_)|(with_reducible refine asMap_h ?_)|(with_reducible refine asStr_h ?_)|(with_reducible refine nn_h ?_)|(with_reducible refine stA (by first|assumption|(apply Holds.drew; assumption)) rfl fun _ _=>?_)|(with_reducible refine nw_h (by first|assumption|(apply Holds.drew; assumption)) fun _ _ _=>?_)|(with_reducible refine ldSA ?_)|(with_reducible refine asT_e [] rfl rfl ?_)|(with_reducible refine both_h ?_ ?_)|(refine kpA (by first|assumption|(apply Holds.drew; assumption)) ?_)|((with_reducible apply asI_e); rfl)
        refine keeps_h (by first|assumption|(apply Holds.drew; assumption)) ?_
        repeat' first
          |(with_reducible refine ldA (by first|assumption|(apply Holds.drew; assumption)) ?_)|(with_reducible refine asI_h ?_)|(with_reducible refine asBoo_h ?_)|(with_reducible refine asSl_h ?_)|(with_reducible refine asPtr_h ?_)|(with_reducible refine asMap_h ?_)|(with_reducible refine asStr_h ?_)|(with_reducible refine nn_h ?_)|(with_reducible refine stA (by first|assumption|(apply Holds.drew; assumption)) rfl fun _ _=>?_)|(with_reducible refine nw_h (by first|assumption|(apply Holds.drew; assumption)) fun _ _ _=>?_)|(with_reducible refine ldSA ?_)|(with_reducible refine asT_e [] rfl rfl ?_)|(with_reducible refine both_h ?_ ?_)|(refine kpA (by first|assumption|(apply Holds.drew; assumption)) ?_)|((with_reducible apply asI_e); rfl)
        · refine decision_c (o := o) (f := f) rfl rfl (by first|assumption|(apply Holds.drew; assumption)) (fun r1 w ok1 H => ?_) rfl rfl
          repeat' first
            |(with_reducible refine ldA (by first|assumption|(apply Holds.drew; assumption)) ?_)|(with_reducible refine asI_h ?_)|(with_reducible refine asBoo_h ?_)|(with_reducible refine asSl_h ?_)|(with_reducible refine asPtr_h ?_)|(with_reducible refine asMap_h ?_)|(with_reducible refine asStr_h ?_)|(with_reducible refine nn_h ?_)|(with_reducible refine stA (by first|assumption|(apply Holds.drew; assumption)) rfl fun _ _=>?_)|(with_reducible refine nw_h (by first|assumption|(apply Holds.drew; assumption)) fun _ _ _=>?_)|(with_reducible refine ldSA ?_)|(with_reducible refine asT_e [] rfl rfl ?_)|(with_reducible refine both_h ?_ ?_)|(refine kpA (by first|assumption|(apply Holds.drew; assumption)) ?_)|((with_reducible apply asI_e); rfl)
          rename_i k1 w1 H
          replace H := H.get (r1.hp 35)
          have n1 := mgs_n ok1
          have l1 := decM_len 9 o f
          refine bapp1_h (news := mgs [⟨15, 0, 3, o.id, 0, o.item, o.qty⟩]) elM 0 H rfl ok1 rfl (mgs_one _) (by omega) (by unfold maxLen; omega) (fun r3 w hn3 ok3 H => ?_)
          (with_reducible repeat first|refine ldA (by assumption) ?_|refine Stp.imp ?_|refine stA (by assumption) rfl fun _ _=>?_|refine nw_h (by assumption) fun _ _ _=>?_|refine ldSA ?_|refine asT_e [] rfl rfl ?_|refine ldD (by assumption) ?_|refine nwD (by assumption) fun _ _ _=>?_)
          refine out r3 _ ?_ H
          rw [e0, mgs_app]; exact ok3
        · rename_i k1 w1 H
          refine decision_c (o := o) (f := f) rfl rfl (by first|assumption|(apply Holds.drew; assumption)) (fun r1 w ok1 H => ?_) rfl rfl
          repeat' first
            |(with_reducible refine ldA (by first|assumption|(apply Holds.drew; assumption)) ?_)|(with_reducible refine asI_h ?_)|(with_reducible refine asBoo_h ?_)|(with_reducible refine asSl_h ?_)|(with_reducible refine asPtr_h ?_)|(with_reducible refine asMap_h ?_)|(with_reducible refine asStr_h ?_)|(with_reducible refine nn_h ?_)|(with_reducible refine stA (by first|assumption|(apply Holds.drew; assumption)) rfl fun _ _=>?_)|(with_reducible refine nw_h (by first|assumption|(apply Holds.drew; assumption)) fun _ _ _=>?_)|(with_reducible refine ldSA ?_)|(with_reducible refine asT_e [] rfl rfl ?_)|(with_reducible refine both_h ?_ ?_)|(refine kpA (by first|assumption|(apply Holds.drew; assumption)) ?_)|((with_reducible apply asI_e); rfl)
          have n1 := mgs_n ok1
          have l1 := decM_len 9 o f
          refine bapp1_h (news := mgs [⟨15, 0, 3, o.id, 0, o.item, o.qty⟩]) elM 0 H rfl ok1 rfl (mgs_one _) (by omega) (by unfold maxLen; omega) (fun r3 w hn3 ok3 H => ?_)
          (with_reducible repeat first|refine ldA (by assumption) ?_|refine Stp.imp ?_|refine stA (by assumption) rfl fun _ _=>?_|refine nw_h (by assumption) fun _ _ _=>?_|refine ldSA ?_|refine asT_e [] rfl rfl ?_|refine ldD (by assumption) ?_|refine nwD (by assumption) fun _ _ _=>?_)
          refine out r3 _ ?_ H
          rw [e0, mgs_app]; exact ok3
    · rw [if_neg (by simp [hy]), if_neg (by simp [hy])] at e0
      (with_reducible repeat first|refine ldA (by assumption) ?_|refine Stp.imp ?_|refine stA (by assumption) rfl fun _ _=>?_|refine nw_h (by assumption) fun _ _ _=>?_|refine ldSA ?_|refine asT_e [] rfl rfl ?_|refine ldD (by assumption) ?_|refine nwD (by assumption) fun _ _ _=>?_)
      refine br_f hy ?_
      exact ⟨⟨h1, ht, hy⟩, by rw [hhs]; exact H⟩
  clear H
  rintro _ w ⟨⟨h1, ht, hy⟩, H⟩
  rw [hhs] at H
  obtain ⟨hdl, hul⟩ := mayF_lens h1
  have e0 : nextM o f = forwM o f := by unfold nextM; rw [if_neg (by simp [h1]), if_neg (by simp [ht]), if_neg (by simp [hy]), if_neg (by simp [hy])]
  repeat' first
    |(with_reducible refine ldA (by first|assumption|(apply Holds.drew; assumption)) ?_)|(with_reducible refine asI_h ?_)|(with_reducible refine asBoo_h ?_)|(with_reducible refine asSl_h ?_)|(with_reducible refine asPtr_h ?_)|(with_reducible refine asMap_h ?_)|(with_reducible refine asStr_h ?_)|(with_reducible refine nn_h ?_)|(with_reducible refine stA (by first|assumption|(apply Holds.drew; assumption)) rfl fun _ _=>?_)|(with_reducible refine nw_h (by first|assumption|(apply Holds.drew; assumption)) fun _ _ _=>?_)|(with_reducible refine ldSA ?_)|(with_reducible refine asT_e [] rfl rfl ?_)|(with_reducible refine both_h ?_ ?_)|(refine kpA (by first|assumption|(apply Holds.drew; assumption)) ?_)|((with_reducible apply asI_e); rfl)
  refine forward_c (o := o) (f := f) (by first|assumption|(apply Holds.drew; assumption)) ho hdl (fun R w ok hn H => ?_)
  (with_reducible repeat first|refine ldA (by assumption) ?_|refine Stp.imp ?_|refine stA (by assumption) rfl fun _ _=>?_|refine nw_h (by assumption) fun _ _ _=>?_|refine ldSA ?_|refine asT_e [] rfl rfl ?_|refine ldD (by assumption) ?_|refine nwD (by assumption) fun _ _ _=>?_)
  exact out R _ (by rw [e0]; exact ok) H
end
end Go.Proofs.YtcfmnoimehcfnaaGreatDoor
namespace Go.Proofs.YtcfmnoimehcfnaaGreatDoor
open Go Go.Sh

def bi (b : Bool) : Int := if b = true then 1 else 0
/-- a tally of two -/
structure Ta where
  q : Nat
  s : Nat
def Ta.hp (T : Ta) (t : Bool × Bool) : Hp := [(T.q, .cells #[.slice (some ⟨T.s, 0, none⟩) 2 2, .bool false, .bool false] 296 (0, 0))] ++ [(T.s, .cells #[I (bi t.1), I (bi t.2)] 3 (0, 0))]
abbrev Ta.v (T : Ta) : Value := .pointer (some ⟨T.q, 0, none⟩)
theorem openTa {w0 w : World} {R : List Hp} {T : Ta} {t : Bool × Bool} (H : Sh.Holds w0 (T.hp t :: R) w) : Sh.Holds w0 ([(T.q, .cells #[.slice (some ⟨T.s, 0, none⟩) 2 2, .bool false, .bool false] 296 (0, 0))] :: [(T.s, .cells #[I (bi t.1), I (bi t.2)] 3 (0, 0))] :: R) w := H.perm (by simp [Ta.hp])
theorem shutTa {w0 w : World} {R : List Hp} {T : Ta} {t : Bool × Bool} (H : Sh.Holds w0 ([(T.q, .cells #[.slice (some ⟨T.s, 0, none⟩) 2 2, .bool false, .bool false] 296 (0, 0))] :: [(T.s, .cells #[I (bi t.1), I (bi t.2)] 3 (0, 0))] :: R) w) : Sh.Holds w0 (T.hp t :: R) w := H.perm (by simp [Ta.hp])
theorem elI : ElTy Tryz.prog 56 3 1 8 := ⟨⟨_, _, rfl, rfl, rfl, rfl, rfl, rfl⟩, by omega⟩
theorem TII : MapTyG Tryz.prog 176 (I 0) := ⟨⟨_, _, rfl, rfl, fun _ => rfl⟩⟩
theorem slAt_l {w : World} {b : Nat} {n : Nat} {i : Int} {K : Addr → World → Prop} (j : Nat) (e : i = (j : Int)) (h1 : j < n) (hk : K ⟨b, j, none⟩ w) : slAt (some ⟨b, 0, none⟩) n i 1 K w := by
  subst e
  refine slAt_b (by omega) (by omega) ?_
  simpa using hk
section
variable {w0 w : World} {hs R : List Hp} {K : KV}
theorem newTa_c (H : Sh.Holds w0 hs w) (k : ∀ (T : Ta) w', Sh.Holds w0 (T.hp (false, false) :: hs) w' → K T.v w') : gocall Tryz.prog 294 [I 2] K w := by
  apply F294_go; unfold F294
  show mksl .full Tryz.prog 56 (I 2) (I 2) _ w
  refine ⟨_, _, run_make_row' 56 3 (I 0) 8 rfl rfl rfl .i64 .i64 2 (by omega) (by omega) w, fun h => absurd rfl h, ?_⟩
  replace H := H.alloc (.cells (madeCells #[I 0] 2) 3)
  generalize w.heap.size = s at H ⊢
  generalize w.alloc (Obj.cells (madeCells #[I 0] 2) 3) = w1 at H ⊢
  have em : madeCells #[I 0] 2 = #[I 0, I 0] := by kernel_rfl
  rw [em] at H
  refine asSl_h ?_
  refine nw_h H (fun q w H => ?_)
  exact k ⟨q, s⟩ w (shutTa H)
theorem waits_c {T : Ta} {t : Bool × Bool} (H : Sh.Holds w0 hs w) [D : Del hs (T.hp t) R] (k : ∀ (r : Row) w', r.Ok 1 ((waitsT t).map I) → r.n ≤ 2 → Sh.Holds w0 (r.hp 3 :: T.hp t :: R) w' → K r.v w') : gocall Tryz.prog 208 [T.v] K w := by
  replace H := openTa (H.get (T.hp t))
  apply F208_go; unfold F208
  refine br_f rfl ?_
  (with_reducible repeat first|refine ldA (by assumption) ?_|refine Stp.imp ?_|refine stA (by assumption) rfl fun _ _=>?_|refine nw_h (by assumption) fun _ _ _=>?_|refine ldSA ?_|refine asT_e [] rfl rfl ?_|refine ldD (by assumption) ?_|refine nwD (by assumption) fun _ _ _=>?_)
  refine br_f rfl ?_
  (with_reducible repeat first|refine ldA (by assumption) ?_|refine Stp.imp ?_|refine stA (by assumption) rfl fun _ _=>?_|refine nw_h (by assumption) fun _ _ _=>?_|refine ldSA ?_|refine asT_e [] rfl rfl ?_|refine ldD (by assumption) ?_|refine nwD (by assumption) fun _ _ _=>?_)
  obtain ⟨fr, hfr⟩ : ∃ fr, fr = ([(T.q, .cells #[.slice (some ⟨T.s, 0, none⟩) 2 2, .bool false, .bool false] 296 (0, 0))] :: [(T.s, .cells #[I (bi t.1), I (bi t.2)] 3 (0, 0))] :: R : List Hp) := ⟨_, rfl⟩
  refine ⟨fun x w => (0 ≤ x.1 ∧ x.1 ≤ 2) ∧ ∃ r : Row, r.v = .slice x.2.1.1 x.2.1.2.1 x.2.1.2.2 ∧ r.Ok 1 (((if t.1 = true ∨ x.1 < 1 then [] else [0]) ++ (if t.2 = true ∨ x.1 < 2 then [] else [(1 : Int)])).map I) ∧ (r.n : Int) ≤ x.1 ∧ Sh.Holds w0 (r.hp 3 :: fr) w, fun x _ => (2 - x.1).toNat, ⟨by simp, Row.nil, rfl, by simpa using Row.nil_ok 1, by simp [Row.nil], by rw [hfr]; exact Holds.nil H⟩, ?_⟩
  clear H
  rintro ⟨i, ⟨p1, n1, c1⟩, u⟩ w ⟨⟨h0, h1⟩, r, hv, ok, hn2, H⟩
  dsimp only at h0 h1 hv ok hn2
  dsimp only
  rw [← hv]
  refine br_s (fun h => ?_) (fun h => ?_)
  · simp only [decide_eq_true_eq] at h
    have hw : IntKind.wrap .i64 (i + 1) = i + 1 := wrap64 (by omega) (by omega)
    simp only [hw]
    rw [hfr] at H
    have hi : i = 0 ∨ i = 1 := by omega
    rcases hi with rfl | rfl
    · refine slAt_l 0 rfl (by omega) ?_
      refine ldA H ?_; refine asI_h ?_
      refine br_s (fun hb => ?_) (fun hb => ?_)
      · have hb : t.1 = false := by cases h : t.1 <;> simp [h, bi] at hb ⊢
        refine nw_h H (fun k87 w H => ?_)
        replace H := H.get (r.hp 3)
        refine bapp1_h (news := [I 0]) elI 0 H rfl ok rfl (by simp [Value.oneCell']) (by omega) (by unfold maxLen; omega) (fun r' w hn' ok' H => ?_)
        refine asSl_h ?_
        exact ⟨⟨by omega, r', rfl, by simpa [hb] using ok', by omega, by rw [hfr]; exact H.re⟩, by omega⟩
      · have hb : t.1 = true := by cases h : t.1 <;> simp [h, bi] at hb ⊢
        exact ⟨⟨by omega, r, rfl, by simpa [hb] using ok, by omega, by rw [hfr]; exact H⟩, by omega⟩
    · refine slAt_l 1 rfl (by omega) ?_
      refine ldA H ?_; refine asI_h ?_
      refine br_s (fun hb => ?_) (fun hb => ?_)
      · have hb : t.2 = false := by cases h : t.2 <;> simp [h, bi] at hb ⊢
        refine nw_h H (fun k87 w H => ?_)
        replace H := H.get (r.hp 3)
        refine bapp1_h (news := [I 1]) elI 0 H rfl ok rfl (by simp [Value.oneCell']) (by omega) (by unfold maxLen; omega) (fun r' w hn' ok' H => ?_)
        refine asSl_h ?_
        exact ⟨⟨by omega, r', rfl, by simpa [hb] using ok', by omega, by rw [hfr]; exact H.re⟩, by omega⟩
      · have hb : t.2 = true := by cases h : t.2 <;> simp [h, bi] at hb ⊢
        exact ⟨⟨by omega, r, rfl, by simpa [hb] using ok, by omega, by rw [hfr]; exact H⟩, by omega⟩
  · simp only [decide_eq_false_iff_not] at h
    have hi : i = 2 := by omega
    subst hi
    rw [hfr] at H
    refine k r _ ?_ (by omega) (Holds.re (shutTa (T := T) (t := t) (R := r.hp 3 :: R) (Holds.re H)))
    simpa [waitsT] using ok
theorem say_c {T : Ta} {t : Bool × Bool} {i : Int} (H : Sh.Holds w0 hs w) [D : Del hs (T.hp t) R] (hi : i = 0 ∨ i = 1) (hne : waitsT (sayT t (i + 1)) ≠ [])
    (k : ∀ w', Sh.Holds w0 (T.hp (sayT t (i + 1)) :: R) w' → K (.bool true) w') : gocall Tryz.prog 210 [T.v, I i, .bool true] K w := by
  replace H := openTa (H.get (T.hp t))
  apply F210_go; unfold F210
  refine br_t rfl ?_
  refine br_f rfl ?_
  refine br_f (by simp; omega) ?_
  (with_reducible repeat first|refine ldA (by assumption) ?_|refine Stp.imp ?_|refine stA (by assumption) rfl fun _ _=>?_|refine nw_h (by assumption) fun _ _ _=>?_|refine ldSA ?_|refine asT_e [] rfl rfl ?_|refine ldD (by assumption) ?_|refine nwD (by assumption) fun _ _ _=>?_)
  refine br_f (by simp; omega) ?_
  (with_reducible repeat first|refine ldA (by assumption) ?_|refine Stp.imp ?_|refine stA (by assumption) rfl fun _ _=>?_|refine nw_h (by assumption) fun _ _ _=>?_|refine ldSA ?_|refine asT_e [] rfl rfl ?_|refine ldD (by assumption) ?_|refine nwD (by assumption) fun _ _ _=>?_)
  refine br_f rfl ?_
  (with_reducible repeat first|refine ldA (by assumption) ?_|refine Stp.imp ?_|refine stA (by assumption) rfl fun _ _=>?_|refine nw_h (by assumption) fun _ _ _=>?_|refine ldSA ?_|refine asT_e [] rfl rfl ?_|refine ldD (by assumption) ?_|refine nwD (by assumption) fun _ _ _=>?_)
  have fin : ∀ {w : World}, Sh.Holds w0 ([(T.q, .cells #[.slice (some ⟨T.s, 0, none⟩) 2 2, .bool false, .bool false] 296 (0, 0))] :: [(T.s, .cells #[I (bi (sayT t (i + 1)).1), I (bi (sayT t (i + 1)).2)] 3 (0, 0))] :: R) w →
      gocall Tryz.prog 208 [T.v] (fun v68 w69 => asSl v68 (fun p70 k71 k72 w73 => br ((k71 : Int) == 0) (fun w74 => nn (some ⟨T.q, 0, none⟩) (fun a75 w76 => st ⟨a75.block, a75.off + 1, none⟩ (.bool true) (fun w77 => nn (some ⟨T.q, 0, none⟩) (fun a78 w79 => st ⟨a78.block, a78.off + 2, none⟩ (.bool true) (fun w80 => K (.bool true) w80) w79) w77) w76) w74) (fun w81 => K (.bool true) w81) w73) w69) w := fun {w} H => by
    refine waits_c (T := T) (t := sayT t (i + 1)) (shutTa H) (fun r w ok hn H => ?_)
    refine asSl_h ?_
    refine br_f ?_ (k _ H.tail)
    have := ok.len
    have hl : (waitsT (sayT t (i + 1))).length ≠ 0 := fun e => hne (List.eq_nil_of_length_eq_zero e)
    simp at this
    simp; omega
  rcases hi with rfl | rfl
  · refine slAt_l 0 rfl (by omega) ?_
    refine ldA H ?_; refine asI_h ?_
    refine br_s (fun hb => ?_) (fun hb => ?_)
    · (with_reducible repeat first|refine ldA (by assumption) ?_|refine Stp.imp ?_|refine stA (by assumption) rfl fun _ _=>?_|refine nw_h (by assumption) fun _ _ _=>?_|refine ldSA ?_|refine asT_e [] rfl rfl ?_|refine ldD (by assumption) ?_|refine nwD (by assumption) fun _ _ _=>?_)
      refine slAt_l 0 rfl (by omega) ?_
      refine ldA H ?_; refine asI_h ?_
      refine br_f (by cases h : t.1 <;> simp [h, bi] at hb ⊢) ?_
      (with_reducible repeat first|refine ldA (by assumption) ?_|refine Stp.imp ?_|refine stA (by assumption) rfl fun _ _=>?_|refine nw_h (by assumption) fun _ _ _=>?_|refine ldSA ?_|refine asT_e [] rfl rfl ?_|refine ldD (by assumption) ?_|refine nwD (by assumption) fun _ _ _=>?_)
      refine slAt_l 0 rfl (by omega) ?_
      refine stA H rfl (fun w H => ?_)
      exact fin H
    · (with_reducible repeat first|refine ldA (by assumption) ?_|refine Stp.imp ?_|refine stA (by assumption) rfl fun _ _=>?_|refine nw_h (by assumption) fun _ _ _=>?_|refine ldSA ?_|refine asT_e [] rfl rfl ?_|refine ldD (by assumption) ?_|refine nwD (by assumption) fun _ _ _=>?_)
      refine slAt_l 0 rfl (by omega) ?_
      refine stA H rfl (fun w H => ?_)
      exact fin H
  · refine slAt_l 1 rfl (by omega) ?_
    refine ldA H ?_; refine asI_h ?_
    refine br_s (fun hb => ?_) (fun hb => ?_)
    · (with_reducible repeat first|refine ldA (by assumption) ?_|refine Stp.imp ?_|refine stA (by assumption) rfl fun _ _=>?_|refine nw_h (by assumption) fun _ _ _=>?_|refine ldSA ?_|refine asT_e [] rfl rfl ?_|refine ldD (by assumption) ?_|refine nwD (by assumption) fun _ _ _=>?_)
      refine slAt_l 1 rfl (by omega) ?_
      refine ldA H ?_; refine asI_h ?_
      refine br_f (by cases h : t.2 <;> simp [h, bi] at hb ⊢) ?_
      (with_reducible repeat first|refine ldA (by assumption) ?_|refine Stp.imp ?_|refine stA (by assumption) rfl fun _ _=>?_|refine nw_h (by assumption) fun _ _ _=>?_|refine ldSA ?_|refine asT_e [] rfl rfl ?_|refine ldD (by assumption) ?_|refine nwD (by assumption) fun _ _ _=>?_)
      refine slAt_l 1 rfl (by omega) ?_
      refine stA H rfl (fun w H => ?_)
      exact fin H
    · (with_reducible repeat first|refine ldA (by assumption) ?_|refine Stp.imp ?_|refine stA (by assumption) rfl fun _ _=>?_|refine nw_h (by assumption) fun _ _ _=>?_|refine ldSA ?_|refine asT_e [] rfl rfl ?_|refine ldD (by assumption) ?_|refine nwD (by assumption) fun _ _ _=>?_)
      refine slAt_l 1 rfl (by omega) ?_
      refine stA H rfl (fun w H => ?_)
      exact fin H
theorem EqualI_c {a b : List Int} {p q : Option Addr} {n m c c' : Nat} (H : Sh.Holds w0 hs w) (ha : Sl (Sh.Holds w0 hs) p n 1 (a.map I)) (hb : Sl (Sh.Holds w0 hs) q m 1 (b.map I)) (hl : a.length ≤ 100000)
    (k : ∀ w', Sh.Holds w0 hs w' → K (.bool (decide (a = b))) w') : gocall Tryz.prog 209 [.slice p n c, .slice q m c'] K w := by
  have hn : n = a.length := by have := ha.len; simp at this; omega
  have hm : m = b.length := by have := hb.len; simp at this; omega
  apply F209_go; unfold F209
  refine br_s (fun h => ?_) (fun h => ?_)
  · have : ¬ a = b := fun e => by subst e; simp at h; omega
    have h2 := k _ H
    rwa [show decide (a = b) = false by simpa using this] at h2
  · have hnm : a.length = b.length := by simp at h; omega
    refine ⟨fun x w => Sh.Holds w0 hs w ∧ 0 ≤ x.1 ∧ x.1 ≤ a.length ∧ ∀ j : Nat, (j : Int) < x.1 → a[j]? = b[j]?, fun x _ => (a.length - x.1).toNat, ⟨H, by simp, by simp, fun j hj => by simp at hj; omega⟩, ?_⟩
    rintro ⟨i, y, u⟩ w ⟨H, h0, h1, hf⟩
    dsimp only at h0 h1 hf
    dsimp only
    refine br_s (fun h => ?_) (fun h => ?_)
    · simp only [decide_eq_true_eq] at h
      have hi : i.toNat < a.length := by omega
      replace H := H.drew
      refine slAt_s ha h0 (by omega) (fun b1 o hp => ?_)
      refine ldS_s ha hp H (v := I a[i.toNat]) (by rw [Nat.mul_one, List.getElem?_map, List.getElem?_eq_getElem hi]; rfl) ?_
      refine asI_h ?_
      refine slAt_s hb h0 (by omega) (fun b1 o hp => ?_)
      refine ldS_s hb hp H (v := I b[i.toNat]) (by rw [Nat.mul_one, List.getElem?_map, List.getElem?_eq_getElem (by omega)]; rfl) ?_
      refine asI_h ?_
      refine br_s (fun hne => ?_) (fun hne => ?_)
      · have : ¬ a = b := fun e => by
          subst e; simp at hne
        have h2 := k _ H
        rwa [show decide (a = b) = false by simpa using this] at h2
      · have hw : IntKind.wrap .i64 (i + 1) = i + 1 := wrap64 (by omega) (by omega)
        simp only [hw]
        refine ⟨⟨H, by omega, by omega, fun j hj => ?_⟩, by omega⟩
        by_cases hj' : (j : Int) < i
        · exact hf j hj'
        · have : j = i.toNat := by omega
          subst this
          rw [List.getElem?_eq_getElem hi, List.getElem?_eq_getElem (by omega)]
          have : a[i.toNat] = b[i.toNat] := by simpa using hne
          rw [this]
    · simp only [decide_eq_false_iff_not] at h
      have : a = b := by
        apply List.ext_getElem?
        intro j
        by_cases hj : j < a.length
        · exact hf j (by omega)
        · rw [List.getElem?_eq_none (by omega), List.getElem?_eq_none (by omega)]
      have h2 := k _ H
      rwa [show decide (a = b) = true by simpa using this] at h2
/-- bells -/
structure Tw where
  b : Nat
  m : Nat
  l : List TriG
  c : Nat
  tr : Int
  B : Int → Option Int
def Tw.hp (T : Tw) : Hp := [(T.b, .cells #[I T.tr, .map (some T.m)] 240 (0, 0))] ++ [(T.m, mapG T.l T.c)]
abbrev Tw.v (T : Tw) : Value := .pointer (some ⟨T.b, 0, none⟩)
structure Tw.Ok (T : Tw) : Prop where
  m : GOk T.l T.c
  B : ∀ x, getG T.l x = (T.B x).map I
  r : ∀ x n, T.B x = some n → 0 ≤ n ∧ n ≤ 1000000
  tr : 0 ≤ T.tr ∧ T.tr ≤ 1000000
theorem elS : ElTy Tryz.prog 22 81 2 16 := ⟨⟨_, _, rfl, rfl, rfl, rfl, rfl, rfl⟩, by omega⟩
theorem openTw {T : Tw} (H : Sh.Holds w0 (T.hp :: R) w) : Sh.Holds w0 ([(T.b, .cells #[I T.tr, .map (some T.m)] 240 (0, 0))] :: [(T.m, mapG T.l T.c)] :: R) w := H.perm (by simp [Tw.hp])
theorem shutTw {T : Tw} (H : Sh.Holds w0 ([(T.b, .cells #[I T.tr, .map (some T.m)] 240 (0, 0))] :: [(T.m, mapG T.l T.c)] :: R) w) : Sh.Holds w0 (T.hp :: R) w := H.perm (by simp [Tw.hp])
def triesB (x : Int) : Int := if (if 20 < x then 20 else x) > 1 then if 20 < x then 20 else x else 1
theorem newTw_c {x : Int} (H : Sh.Holds w0 hs w) (k : ∀ (T : Tw) w', T.Ok → T.tr = triesB x → T.B = (fun _ => none) → Sh.Holds w0 (T.hp :: hs) w' → K T.v w') : gocall Tryz.prog 198 [I x] K w := by
  apply F198_go; unfold F198
  apply F263_go; unfold F263
  refine nw_h H (fun k1 w H => ?_)
  (with_reducible repeat first|refine ldA (by assumption) ?_|refine Stp.imp ?_|refine stA (by assumption) rfl fun _ _=>?_|refine nw_h (by assumption) fun _ _ _=>?_|refine ldSA ?_|refine asT_e [] rfl rfl ?_|refine ldD (by assumption) ?_|refine nwD (by assumption) fun _ _ _=>?_)
  apply F264_go; unfold F264
  refine br_f rfl ?_
  (with_reducible repeat first|refine ldA (by assumption) ?_|refine Stp.imp ?_|refine stA (by assumption) rfl fun _ _=>?_|refine nw_h (by assumption) fun _ _ _=>?_|refine ldSA ?_|refine asT_e [] rfl rfl ?_|refine ldD (by assumption) ?_|refine nwD (by assumption) fun _ _ _=>?_)
  rename_i m w2 H2 b w H
  have H3 : Sh.Holds w0 ([(b, .cells #[I (triesB x), .map (some m)] 240 (0, 0))] :: [(m, mapG [] 0)] :: [(k1, .cells #[I (triesB x), I 0, I 1] 320 (0, 0))] :: hs) w := H
  exact k ⟨b, m, [], 0, triesB x, fun _ => none⟩ w ⟨.nil 0, fun _ => rfl, fun _ _ h => (by cases h), by show 0 ≤ triesB x ∧ triesB x ≤ 1000000; unfold triesB; split <;> split <;> omega⟩ rfl rfl (shutTw (T := ⟨b, m, [], 0, triesB x, fun _ => none⟩) (R := hs) (Holds.re H3))
theorem has_c {T : Tw} {id : Int} (H : Sh.Holds w0 hs w) [D : Del hs T.hp R] (ok : T.Ok) (k : ∀ w', Sh.Holds w0 (T.hp :: R) w' → K (.bool (T.B id).isSome) w') : gocall Tryz.prog 203 [T.v, I id] K w := by
  replace H := openTw (H.get T.hp)
  apply F203_go; unfold F203
  refine br_f rfl ?_
  (with_reducible repeat first|refine ldA (by assumption) ?_|refine Stp.imp ?_|refine stA (by assumption) rfl fun _ _=>?_|refine nw_h (by assumption) fun _ _ _=>?_|refine ldSA ?_|refine asT_e [] rfl rfl ?_|refine ldD (by assumption) ?_|refine nwD (by assumption) fun _ _ _=>?_)
  refine mget2G_h TII 1 H rfl ?_
  have e1 : (getG T.l id).getD (I 0) = I ((T.B id).getD 0) := by rw [ok.B]; cases T.B id <;> rfl
  have e2 : (getG T.l id).isSome = (T.B id).isSome := by rw [ok.B]; cases T.B id <;> rfl
  rw [e1, e2]
  refine asT_e [I ((T.B id).getD 0), .bool (T.B id).isSome] rfl rfl ?_
  refine asI_h ?_
  refine asBoo_h ?_
  exact k _ (shutTw H)
/-- as it was, but for what the bell of an order is -/
def Tw.To (T T' : Tw) (id : Int) (v : Option Int) : Prop := T'.b = T.b ∧ T'.tr = T.tr ∧ T'.B = updI T.B id v
theorem bset_c {T : Tw} {id n : Int} {X : World → Prop} (H : Sh.Holds w0 ([(T.b, .cells #[I T.tr, .map (some T.m)] 240 (0, 0))] :: [(T.m, mapG T.l T.c)] :: R) w) (ok : T.Ok) (hn : 0 ≤ n ∧ n ≤ 1000000)
    (k : ∀ (T' : Tw) w', T'.Ok → T.To T' id (some n) → Sh.Holds w0 (T'.hp :: R) w' → X w') : mset .full Tryz.prog 176 (.map (some T.m)) (I id) (I n) X w := by
  refine msetG_h TII 1 H rfl ok.m (fun l' c' w o' g' H => ?_)
  refine k ⟨T.b, T.m, l', c', T.tr, updI T.B id (some n)⟩ w ⟨o', fun x => ?_, fun x y h => ?_, ok.tr⟩ ⟨rfl, rfl, rfl⟩ (shutTw (T := ⟨T.b, T.m, l', c', T.tr, updI T.B id (some n)⟩) H)
  · rw [g']
    show _ = ((updI T.B id (some n)) x).map I
    unfold updI
    split
    · rfl
    · exact ok.B x
  · have h : updI T.B id (some n) x = some y := h
    unfold updI at h
    split at h
    · cases h; exact hn
    · exact ok.r x y h
theorem updI_same {α : Type} (L : Int → Option α) (id : Int) : updI L id (L id) = L := by
  funext y; unfold updI; split
  · rename_i h; rw [h]
  · rfl
theorem again_c {T : Tw} {id : Int} (H : Sh.Holds w0 hs w) [D : Del hs T.hp R] (ok : T.Ok) (k : ∀ (b : Bool) (T' : Tw) w', T'.Ok → T.To T' id (if (T.B id).isSome = true then some T.tr else none) → Sh.Holds w0 (T'.hp :: R) w' → K (.bool b) w') : gocall Tryz.prog 115 [T.v, I id] K w := by
  replace H := H.get T.hp
  apply F115_go; unfold F115
  refine has_c (T := T) H ok (fun w H => ?_)
  (with_reducible repeat first|refine ldA (by assumption) ?_|refine Stp.imp ?_|refine stA (by assumption) rfl fun _ _=>?_|refine nw_h (by assumption) fun _ _ _=>?_|refine ldSA ?_|refine asT_e [] rfl rfl ?_|refine ldD (by assumption) ?_|refine nwD (by assumption) fun _ _ _=>?_)
  refine br_s (fun h => ?_) (fun h => ?_)
  · have h : T.B id = none := by cases e : T.B id with
      | none => rfl
      | some v => rw [e] at h; simp at h
    rw [h] at k
    exact k false T _ ok ⟨rfl, rfl, by have := updI_same T.B id; rw [h] at this; exact this.symm⟩ H
  · have h : (T.B id).isSome = true := by simpa using h
    rw [if_pos h] at k
    replace H := openTw H.drew
    (with_reducible repeat first|refine ldA (by assumption) ?_|refine Stp.imp ?_|refine stA (by assumption) rfl fun _ _=>?_|refine nw_h (by assumption) fun _ _ _=>?_|refine ldSA ?_|refine asT_e [] rfl rfl ?_|refine ldD (by assumption) ?_|refine nwD (by assumption) fun _ _ _=>?_)
    refine bset_c (T := T) (id := id) (n := T.tr) (by first|assumption|(apply Holds.drew; assumption)) ok ok.tr (fun T' w ok' to H => ?_)
    exact k true T' _ ok' to H
theorem hang_c {T : Tw} {id : Int} (H : Sh.Holds w0 hs w) [D : Del hs T.hp R] (ok : T.Ok) (k : ∀ (b : Bool) (T' : Tw) w', T'.Ok → T.To T' id (if (1 ≤ id ∧ id ≤ 999) ∧ T.B id = none then some T.tr else T.B id) → Sh.Holds w0 (T'.hp :: R) w' → K (.bool b) w') : gocall Tryz.prog 104 [T.v, I id] K w := by
  replace H := H.get T.hp
  have no : ¬ ((1 ≤ id ∧ id ≤ 999) ∧ T.B id = none) → ∀ {w}, Sh.Holds w0 (T.hp :: R) w → K (.bool false) w := fun h {w} H => by
    rw [if_neg h] at k
    exact k false T _ ok ⟨rfl, rfl, (updI_same T.B id).symm⟩ H
  apply F104_go; unfold F104
  refine br_f rfl ?_
  refine br_s (fun h => no (by simp at h; omega) H) (fun h1 => ?_)
  refine br_s (fun h => no (by simp at h; omega) H) (fun h2 => ?_)
  simp at h1 h2
  refine has_c (T := T) H ok (fun w H => ?_)
  (with_reducible repeat first|refine ldA (by assumption) ?_|refine Stp.imp ?_|refine stA (by assumption) rfl fun _ _=>?_|refine nw_h (by assumption) fun _ _ _=>?_|refine ldSA ?_|refine asT_e [] rfl rfl ?_|refine ldD (by assumption) ?_|refine nwD (by assumption) fun _ _ _=>?_)
  refine br_s (fun h => no (fun q => by rw [q.2] at h; cases h) H) (fun h => ?_)
  have h : T.B id = none := by cases e : T.B id with
    | none => rfl
    | some v => rw [e] at h; cases h
  rw [if_pos ⟨⟨by omega, by omega⟩, h⟩] at k
  replace H := openTw H.drew
  (with_reducible repeat first|refine ldA (by assumption) ?_|refine Stp.imp ?_|refine stA (by assumption) rfl fun _ _=>?_|refine nw_h (by assumption) fun _ _ _=>?_|refine ldSA ?_|refine asT_e [] rfl rfl ?_|refine ldD (by assumption) ?_|refine nwD (by assumption) fun _ _ _=>?_)
  refine bset_c (T := T) (id := id) (n := T.tr) (by first|assumption|(apply Holds.drew; assumption)) ok ok.tr (fun T' w ok' to H => ?_)
  exact k true T' _ ok' to H
theorem cut_c {T : Tw} {id : Int} (H : Sh.Holds w0 hs w) [D : Del hs T.hp R] (ok : T.Ok) (k : ∀ (b : Bool) (T' : Tw) w', T'.Ok → T.To T' id none → Sh.Holds w0 (T'.hp :: R) w' → K (.bool b) w') : gocall Tryz.prog 118 [T.v, I id] K w := by
  replace H := H.get T.hp
  apply F118_go; unfold F118
  refine has_c (T := T) H ok (fun w H => ?_)
  (with_reducible repeat first|refine ldA (by assumption) ?_|refine Stp.imp ?_|refine stA (by assumption) rfl fun _ _=>?_|refine nw_h (by assumption) fun _ _ _=>?_|refine ldSA ?_|refine asT_e [] rfl rfl ?_|refine ldD (by assumption) ?_|refine nwD (by assumption) fun _ _ _=>?_)
  refine br_s (fun h => ?_) (fun h => ?_)
  · have h : T.B id = none := by cases e : T.B id with
      | none => rfl
      | some v => rw [e] at h; simp at h
    exact k false T _ ok ⟨rfl, rfl, by have := updI_same T.B id; rw [h] at this; exact this.symm⟩ H
  · replace H := openTw H
    (with_reducible repeat first|refine ldA (by assumption) ?_|refine Stp.imp ?_|refine stA (by assumption) rfl fun _ _=>?_|refine nw_h (by assumption) fun _ _ _=>?_|refine ldSA ?_|refine asT_e [] rfl rfl ?_|refine ldD (by assumption) ?_|refine nwD (by assumption) fun _ _ _=>?_)
    refine bdelG_h TII 1 H rfl ok.m (fun l' w o' g' H => ?_)
    refine k true ⟨T.b, T.m, l', T.c, T.tr, updI T.B id none⟩ w ⟨o', fun x => ?_, fun x y h => ?_, ok.tr⟩ ⟨rfl, rfl, rfl⟩ (shutTw (T := ⟨T.b, T.m, l', T.c, T.tr, updI T.B id none⟩) H)
    · rw [g']
      show _ = ((updI T.B id none) x).map I
      unfold updI
      split
      · rfl
      · exact ok.B x
    · have h : updI T.B id none x = some y := h
      unfold updI at h
      split at h
      · cases h
      · exact ok.r x y h
theorem ringB_c {T : Tw} {id : Int} (H : Sh.Holds w0 hs w) [D : Del hs T.hp R] (ok : T.Ok) (k : ∀ (T' : Tw) w', T'.Ok → T.To T' id ((T.B id).map fun b => if b = 0 then 0 else b - 1) → Sh.Holds w0 (T'.hp :: R) w' → K (.tuple #[.bool (T.B id).isSome, .bool (decide (T.B id = some 0))]) w') : gocall Tryz.prog 112 [T.v, I id] K w := by
  replace H := H.get T.hp
  apply F112_go; unfold F112
  refine has_c (T := T) H ok (fun w H => ?_)
  (with_reducible repeat first|refine ldA (by assumption) ?_|refine Stp.imp ?_|refine stA (by assumption) rfl fun _ _=>?_|refine nw_h (by assumption) fun _ _ _=>?_|refine ldSA ?_|refine asT_e [] rfl rfl ?_|refine ldD (by assumption) ?_|refine nwD (by assumption) fun _ _ _=>?_)
  cases e : T.B id with
  | none =>
    rw [e] at k
    exact br_t rfl (k T _ ok ⟨rfl, rfl, by have := updI_same T.B id; rw [e] at this; exact this.symm⟩ H)
  | some b =>
    rw [e] at k
    have hr := ok.r id b e
    have eg : (getG T.l id).getD (I 0) = I b := by rw [ok.B, e]; rfl
    refine br_f rfl ?_
    replace H := openTw H
    (with_reducible repeat first|refine ldA (by assumption) ?_|refine Stp.imp ?_|refine stA (by assumption) rfl fun _ _=>?_|refine nw_h (by assumption) fun _ _ _=>?_|refine ldSA ?_|refine asT_e [] rfl rfl ?_|refine ldD (by assumption) ?_|refine nwD (by assumption) fun _ _ _=>?_)
    refine mgetG_h TII 1 H rfl ?_
    rw [eg]
    (with_reducible repeat first|refine ldA (by assumption) ?_|refine Stp.imp ?_|refine stA (by assumption) rfl fun _ _=>?_|refine nw_h (by assumption) fun _ _ _=>?_|refine ldSA ?_|refine asT_e [] rfl rfl ?_|refine ldD (by assumption) ?_|refine nwD (by assumption) fun _ _ _=>?_)
    refine br_s (fun h => ?_) (fun h => ?_)
    · have h : b = 0 := by simpa using h
      subst h
      exact k T _ ok ⟨rfl, rfl, by have := updI_same T.B id; rw [e] at this; exact this.symm⟩ (shutTw H)
    · have h : b ≠ 0 := by simpa using h
      (with_reducible repeat first|refine ldA (by assumption) ?_|refine Stp.imp ?_|refine stA (by assumption) rfl fun _ _=>?_|refine nw_h (by assumption) fun _ _ _=>?_|refine ldSA ?_|refine asT_e [] rfl rfl ?_|refine ldD (by assumption) ?_|refine nwD (by assumption) fun _ _ _=>?_)
      refine mgetG_h TII 1 H rfl ?_
      rw [eg]
      (with_reducible repeat first|refine ldA (by assumption) ?_|refine Stp.imp ?_|refine stA (by assumption) rfl fun _ _=>?_|refine nw_h (by assumption) fun _ _ _=>?_|refine ldSA ?_|refine asT_e [] rfl rfl ?_|refine ldD (by assumption) ?_|refine nwD (by assumption) fun _ _ _=>?_)
      have hw : IntKind.wrap .i64 (b - 1) = b - 1 := wrap64 (by omega) (by omega)
      simp only [hw]
      refine bset_c (T := T) (id := id) (n := b - 1) (by first|assumption|(apply Holds.drew; assumption)) ok (by omega) (fun T' w ok' to H => ?_)
      have := k T' _ ok' (by simpa [h] using to) H
      simpa [h] using this
end
end Go.Proofs.YtcfmnoimehcfnaaGreatDoor
