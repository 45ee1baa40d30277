/- A shallow reading of Go's code as predicates on continuations ('sCode', 'sBody'), and the theorem that it is sound: what it asks gives the walk's own 'Calls'. Conditions: none. -/
import Derived.WalkKit
import Derived.StillTail
import Derived.Orders
import Derived.KernelRfl
import Derived.OrdersIn
import Derived.TacticsIn
import Derived.RangeFuncRecord
import Derived.RangeFuncLeaves
import Derived.Deep.MidRow
namespace Go.Sh
set_option linter.unusedVariables false
open Go

/-! ### kinds of one cell -/
inductive Leaf where
  | int (k : IntKind) | bool | str | slice | ptr | map | any

abbrev Leaf.P : Leaf → Type
  | .int _ => Int
  | .bool => Bool
  | .str => ByteArray
  | .slice => Option Addr × Nat × Nat
  | .ptr => Option Addr
  | .map => Option Nat
  | .any => Value

abbrev Leaf.val : (l : Leaf) → l.P → Value
  | .int k, n => .int k n
  | .bool, b => .bool b
  | .str, s => .string s
  | .slice, x => .slice x.1 x.2.1 x.2.2
  | .ptr, p => .pointer p
  | .map, m => .map m
  | .any, v => v

abbrev LeafsP : List Leaf → Type
  | [] => Unit
  | l :: r => l.P × LeafsP r

def leafOf : TypeDesc → Leaf
  | .int k => .int k
  | .bool => .bool
  | .string => .str
  | .slice _ => .slice
  | .pointer _ => .ptr
  | .map _ _ => .map
  | _ => .any

def leavesOf (P : Program) : Nat → TypeId → List Leaf
  | 0, _ => []
  | n + 1, t => match P.underlying t with
    | some (.struct fs) => fs.toList.flatMap fun f => leavesOf P n f.type
    | some (.array k e) => (List.replicate k (leavesOf P n e)).flatten
    | some d => [leafOf d]
    | none => [.any]

/-! ### the words -/
abbrev KV := Value → World → Prop

def ld (a : Addr) (K : KV) (w : World) : Prop := ∃ v, w.cell? a = some v ∧ K v w
def st (a : Addr) (v : Value) (K : World → Prop) (w : World) : Prop :=
  v.oneCell' = true ∧ (∃ u, w.cell? a = some u) ∧ w.frozen? a = false ∧ K (w.setCell a v)
def nw (o : Obj) (K : Nat → World → Prop) (w : World) : Prop := K w.heap.size (w.alloc o)
def isCells : Obj → Bool
  | .cells .. => true
  | _ => false
def getO (r : Nat) (K : Obj → World → Prop) (w : World) : Prop := ∃ o, w.heap[r]? = some o ∧ isCells o = false ∧ K o w
def setO (r : Nat) (o : Obj) (K : World → Prop) (w : World) : Prop := (∃ o', w.heap[r]? = some o' ∧ isCells o' = false) ∧ K { w with heap := w.heap.setIfInBounds r o }
def chz (q : Question) (K : Nat → World → Prop) (w : World) : Prop := if q.forced then K 0 w else K (q.cut (w.tape w.drawn q)) w.drew
def br (b : Bool) (X Y : World → Prop) (w : World) : Prop := if b = true then X w else Y w
def nn (p : Option Addr) (K : Addr → World → Prop) (w : World) : Prop := ∃ a, p = some a ∧ K a w
def fls (_why : String) (_w : World) : Prop := False
/-- what may be done to memory: all, only read, nothing -/
inductive Md where
  | full | see | bare
def wr (r : Md) (X : World → Prop) (w : World) : Prop := match r with | .full => X w | _ => fls "write" w
def rd (r : Md) (X : World → Prop) (w : World) : Prop := match r with | .bare => fls "read" w | _ => X w
theorem wr_out {r : Md} {X : World → Prop} {w : World} (h : wr r X w) : r = .full ∧ X w := by cases r <;> first | exact ⟨rfl, h⟩ | exact h.elim
theorem rd_out {r : Md} {X : World → Prop} {w : World} (h : rd r X w) : r ≠ .bare ∧ X w := by cases r <;> first | exact ⟨by simp, h⟩ | exact h.elim

def spt {α : Type} (r : Md) (P : Program) : Sem α → (α → World → Prop) → World → Prop
  | .pure a, K, w => K a w
  | .load _ a k, K, w => rd r (fun w => ld a (fun v w => spt r P (k v) K w) w) w
  | .store _ a v k, K, w => wr r (fun w => st a v (fun w => spt r P k K w) w) w
  | .new o k, K, w => wr r (fun w => nw o (fun i w => spt r P (k i) K w) w) w
  | .shape b k, K, w => rd r (fun w => spt r P (k (w.shape? b)) K w) w
  | .freeze a n k, K, w => wr r (fun w => spt r P k K (w.freeze a n)) w
  | .frozen a k, K, w => rd r (fun w => spt r P (k (w.frozen? a)) K w) w
  | .getObj b k, K, w => rd r (fun w => getO b (fun o w => spt r P (k o) K w) w) w
  | .setObj b o k, K, w => wr r (fun w => setO b o (fun w => spt r P k K w) w) w
  | .choose q k, K, w => wr r (fun w => chz q (fun n w => spt r P (k n) K w) w) w
  | .sys _ _, _, w => fls "sys" w
  | .program k, K, w => spt r P (k P) K w
  | .mark _ k, K, w => spt r P k K w
  | .halt _, _, w => fls "halt" w

theorem oneCell_store {v : Value} (h : v.oneCell' = true) : (∀ c, v ≠ .agg c) ∧ (∀ c, v ≠ .tuple c) := by
  constructor <;> (rintro c rfl; simp [Value.oneCell'] at h)

theorem spt_run {α : Type} {r : Md} {P : Program} (s : Sem α) : ∀ {K : α → World → Prop} {w : World}, spt r P s K w → ∃ x w', s.run P w = .ok x w' ∧ (r ≠ .full → w' = w) ∧ K x w' := by
  induction s with
  | pure a => intro K w h; exact ⟨a, w, rfl, fun _ => rfl, h⟩
  | load m a k ih =>
    intro K w h
    obtain ⟨_, v, hv, hk⟩ := rd_out h
    obtain ⟨x, w', hr, hq, hK⟩ := ih v hk
    exact ⟨x, w', by simp [Sem.run, hv, hr], hq, hK⟩
  | store m a v k ih =>
    intro K w h
    obtain ⟨rfl, h1, ⟨u, hu⟩, hf, hk⟩ := wr_out h
    obtain ⟨x, w', hr, _, hK⟩ := ih hk
    obtain ⟨n1, n2⟩ := oneCell_store h1
    refine ⟨x, w', ?_, by simp, hK⟩
    cases v <;> first | (exact absurd rfl (n1 _)) | (exact absurd rfl (n2 _)) | simp [Sem.run, hu, hf, hr]
  | new o k ih => intro K w h; obtain ⟨rfl, h⟩ := wr_out h; obtain ⟨x, w', hr, _, hK⟩ := ih _ h; exact ⟨x, w', hr, by simp, hK⟩
  | shape r k ih => intro K w h; obtain ⟨_, h⟩ := rd_out h; obtain ⟨x, w', hr, hK⟩ := ih _ h; exact ⟨x, w', hr, hK⟩
  | freeze a n k ih => intro K w h; obtain ⟨rfl, h⟩ := wr_out h; obtain ⟨x, w', hr, _, hK⟩ := ih h; exact ⟨x, w', hr, by simp, hK⟩
  | frozen a k ih => intro K w h; obtain ⟨_, h⟩ := rd_out h; obtain ⟨x, w', hr, hK⟩ := ih _ h; exact ⟨x, w', hr, hK⟩
  | getObj r k ih =>
    intro K w h
    obtain ⟨_, o, ho, hc, hk⟩ := rd_out h
    obtain ⟨x, w', hr, hK⟩ := ih o hk
    exact ⟨x, w', by cases o <;> simp [isCells] at hc <;> simp [Sem.run, ho, hr], hK⟩
  | setObj r o k ih =>
    intro K w h
    obtain ⟨rfl, ⟨o', ho, hc⟩, hk⟩ := wr_out h
    obtain ⟨x, w', hr, _, hK⟩ := ih hk
    exact ⟨x, w', by cases o' <;> simp [isCells] at hc <;> simp [Sem.run, ho, hr], by simp, hK⟩
  | choose q k ih =>
    intro K w h
    obtain ⟨rfl, h⟩ := wr_out h
    unfold chz at h
    by_cases hq : q.forced = true
    · rw [if_pos hq] at h
      obtain ⟨x, w', hr, _, hK⟩ := ih _ h
      exact ⟨x, w', by simp [Sem.run, hq, hr], by simp, hK⟩
    · rw [if_neg hq] at h
      obtain ⟨x, w', hr, _, hK⟩ := ih _ h
      refine ⟨x, w', ?_, by simp, hK⟩
      simp only [Sem.run, hq, if_false, Bool.false_eq_true]
      exact hr
  | sys c k ih => intro K w h; exact h.elim
  | program k ih => intro K w h; obtain ⟨x, w', hr, hK⟩ := ih _ h; exact ⟨x, w', hr, hK⟩
  | mark m k ih => intro K w h; obtain ⟨x, w', hr, hK⟩ := ih h; exact ⟨x, w', hr, hK⟩
  | halt h => intro K w h; exact h.elim

theorem wr_mono {r : Md} {X Y : World → Prop} {w : World} (hxy : X w → Y w) (h : wr r X w) : wr r Y w := by
  cases r <;> first | exact hxy h | exact h.elim
theorem rd_mono {r : Md} {X Y : World → Prop} {w : World} (hxy : X w → Y w) (h : rd r X w) : rd r Y w := by
  cases r <;> first | exact hxy h | exact h.elim

theorem spt_mono {α : Type} {r : Md} {P : Program} (s : Sem α) : ∀ {K K' : α → World → Prop} {w : World}, (∀ x w, K x w → K' x w) → spt r P s K w → spt r P s K' w := by
  induction s with
  | pure a => intro K K' w hk h; exact hk _ _ h
  | load m a k ih => intro K K' w hk h; exact rd_mono (fun ⟨v, hv, h⟩ => ⟨v, hv, ih v hk h⟩) h
  | store m a v k ih => intro K K' w hk h; exact wr_mono (fun ⟨h1, h2, hf, h⟩ => ⟨h1, h2, hf, ih hk h⟩) h
  | new o k ih => intro K K' w hk h; exact wr_mono (fun h => ih _ hk h) h
  | shape r k ih => intro K K' w hk h; exact rd_mono (fun h => ih _ hk h) h
  | freeze a n k ih => intro K K' w hk h; exact wr_mono (fun h => ih hk h) h
  | frozen a k ih => intro K K' w hk h; exact rd_mono (fun h => ih _ hk h) h
  | getObj r k ih => intro K K' w hk h; exact rd_mono (fun ⟨o, ho, hc, h⟩ => ⟨o, ho, hc, ih o hk h⟩) h
  | setObj r o k ih => intro K K' w hk h; exact wr_mono (fun ⟨h1, h⟩ => ⟨h1, ih hk h⟩) h
  | choose q k ih =>
    intro K K' w hk h
    refine wr_mono (X := fun w => chz q (fun n w => spt r P (k n) K w) w) (Y := fun w => chz q (fun n w => spt r P (k n) K' w) w) (fun h' => ?_) h
    unfold chz at h' ⊢
    by_cases hq : q.forced = true
    · rw [if_pos hq] at h' ⊢; exact ih _ hk h'
    · rw [if_neg hq] at h' ⊢; exact ih _ hk h'
  | sys c k ih => intro K K' w hk h; exact h.elim
  | program k ih => intro K K' w hk h; exact ih _ hk h
  | mark m k ih => intro K K' w hk h; exact ih hk h
  | halt h => intro K K' w hk h; exact h.elim

/-- where nothing may be read: one answer, in every world -/
theorem spt_val {α : Type} {P : Program} (s : Sem α) : ∀ {K : α → World → Prop} {w : World}, spt .bare P s K w → ∃ v0, K v0 w ∧ ∀ w', spt .bare P s (fun v _ => v = v0) w' := by
  induction s with
  | pure a => intro K w h; exact ⟨a, h, fun _ => rfl⟩
  | program k ih => intro K w h; exact ih _ h
  | mark m k ih => intro K w h; exact ih h
  | _ => intro K w h; exact h.elim

theorem spt_pure {α : Type} {r : Md} {P : Program} (a : α) (K : α → World → Prop) (w : World) : spt r P (.pure a) K w = K a w := rfl

/-! ### typed values -/
def asI (k : IntKind) (v : Value) (K : Int → World → Prop) (w : World) : Prop := ∃ n, v = .int k n ∧ K n w
def asBoo (v : Value) (K : Bool → World → Prop) (w : World) : Prop := ∃ b, v = .bool b ∧ K b w
def asStr (v : Value) (K : ByteArray → World → Prop) (w : World) : Prop := ∃ s, v = .string s ∧ K s w
def asSl (v : Value) (K : Option Addr → Nat → Nat → World → Prop) (w : World) : Prop := ∃ a n c, v = .slice a n c ∧ K a n c w
def asPtr (v : Value) (K : Option Addr → World → Prop) (w : World) : Prop := ∃ p, v = .pointer p ∧ K p w
def asMap (v : Value) (K : Option Nat → World → Prop) (w : World) : Prop := ∃ m, v = .map m ∧ K m w
def asV (l : Leaf) (v : Value) (K : KV) (w : World) : Prop :=
  match l with
  | .int k => asI k v (fun n w => K (.int k n) w) w
  | .bool => asBoo v (fun b w => K (.bool b) w) w
  | .str => asStr v (fun s w => K (.string s) w) w
  | .slice => asSl v (fun a n c w => K (.slice a n c) w) w
  | .ptr => asPtr v (fun p w => K (.pointer p) w) w
  | .map => asMap v (fun m w => K (.map m) w) w
  | .any => K v w

theorem asV_out {l : Leaf} {v : Value} {K : KV} {w : World} (h : asV l v K w) : K v w := by
  cases l <;> simp only [asV, asI, asBoo, asStr, asSl, asPtr, asMap] at h
  case int k => obtain ⟨n, rfl, h⟩ := h; exact h
  case bool => obtain ⟨n, rfl, h⟩ := h; exact h
  case str => obtain ⟨n, rfl, h⟩ := h; exact h
  case slice => obtain ⟨a, n, c, rfl, h⟩ := h; exact h
  case ptr => obtain ⟨n, rfl, h⟩ := h; exact h
  case map => obtain ⟨n, rfl, h⟩ := h; exact h
  case any => exact h

/-- so many cells, each typed, one behind the other -/
def ldCells (a : Addr) : (i : Nat) → List Leaf → List Value → KV → World → Prop
  | _, [], acc, K, w => K (.agg acc.toArray) w
  | i, l :: ls, acc, K, w => ld (a.add i) (fun v w => asV l v (fun v w => ldCells a (i + 1) ls (acc ++ [v]) K w) w) w

theorem ldCells_run {P : Program} {a : Addr} : ∀ (ls : List Leaf) (i : Nat) (acc : List Value) {K : KV} {w : World}, ldCells a i ls acc K w →
    ∃ vs, (loadCellsFrom a i ls.length acc.toArray).run P w = .ok vs w ∧ K (.agg vs) w
  | [], i, acc, K, w, h => ⟨acc.toArray, rfl, h⟩
  | l :: ls, i, acc, K, w, h => by
    obtain ⟨v, hv, h⟩ := h
    obtain ⟨vs, hr, hk⟩ := ldCells_run ls (i + 1) (acc ++ [v]) (asV_out h)
    refine ⟨vs, ?_, hk⟩
    have e : (loadCellsFrom a i (l :: ls).length acc.toArray).run P w = (loadCellsFrom a (i + 1) ls.length (acc.toArray.push v)).run P w := by
      simp only [List.length_cons, loadCellsFrom]
      show Sem.run P (Sem.load .plain (a.add i) _) w = _
      simp only [Sem.run, hv]
      rfl
    rw [e]
    simpa using hr

def isAggB (P : Program) (t : TypeId) : Bool :=
  match P.underlying t with
  | some (.struct _) | some (.array _ _) => true
  | _ => false
def isTyB (P : Program) (t : TypeId) : Bool := match P.underlying t with | some _ => true | none => false
def sizeB (P : Program) (t : TypeId) (n : Nat) : Bool := match P.info? t with | some i => Nat.beq i.size n | none => false
def leaf1 (P : Program) (t : TypeId) : Leaf := match P.underlying t with | some d => leafOf d | none => .any

/-- a great array, as a whole -/
def bigA (P : Program) (t : TypeId) : Option Nat := match P.underlying t with
  | some (.array _ _) => (match P.info? t with
    | some i => (match Nat.blt 8 i.size with | true => some i.size | false => none)
    | none => none)
  | _ => none
def ldN (a : Addr) (n : Nat) (K : List Value → World → Prop) (w : World) : Prop := ∃ cs : List Value, cs.length = n ∧ (∀ j v, cs[j]? = some v → w.cell? (a.add j) = some v) ∧ K cs w
def stN (a : Addr) (n : Nat) (cs : Array Value) (K : World → Prop) (w : World) : Prop := cs.size = n ∧ a.spot = none ∧ w.there a.block a.off n ∧ cs.all (·.oneCell') = true ∧ K (w.setCells a.block a.off cs.toList)
theorem bigA_out {P : Program} {t : TypeId} {n : Nat} (h : bigA P t = some n) : isAggB P t = true ∧ isTyB P t = true ∧ sizeB P t n = true ∧ (P.info? t).map (·.size) = some n := by
  unfold bigA at h
  split at h
  · rename_i m e hd
    split at h
    · rename_i i hi
      split at h
      · cases h
        exact ⟨by unfold isAggB; rw [hd], by unfold isTyB; rw [hd], by unfold sizeB; rw [hi]; exact Nat.beq_refl _, by rw [hi]; rfl⟩
      · cases h
    · cases h
  · cases h
def ldT (P : Program) (t : TypeId) (a : Addr) (K : KV) (w : World) : Prop :=
  match isTyB P t, isAggB P t with
  | true, true => (match bigA P t with
    | some n => ldN a n (fun cs w => K (.agg cs.toArray) w) w
    | none => (match sizeB P t (leavesOf P 20 t).length with | true => ldCells a 0 (leavesOf P 20 t) [] K w | false => fls "load" w))
  | true, false => ld a (fun v w => asV (leaf1 P t) v K w) w
  | false, _ => fls "load" w

theorem run_bind {α β : Type} {P : Program} {s : Sem α} {f : α → Sem β} {w : World} : (s.bind f).run P w = (match s.run P w with | .ok x w' => (f x).run P w' | .halt h w' => .halt h w') := by
  rw [Sem.run_bind']
  cases s.run P w <;> rfl

theorem run_isAgg {P : Program} {t : TypeId} (h : isTyB P t = true) (w : World) : (isAgg t).run P w = .ok (isAggB P t) w := by
  unfold isTyB at h
  cases hd : P.underlying t with
  | none => rw [hd] at h; cases h
  | some d =>
    have : (underlying t).run P w = .ok d w := by
      show (match P.underlying t with | some d => Sem.pure d | none => _ : Sem TypeDesc).run P w = _
      rw [hd]; rfl
    unfold isAgg
    show ((underlying t).bind _).run P w = _
    rw [run_bind, this]
    unfold isAggB
    rw [hd]
    cases d <;> rfl

theorem run_sizeOf {P : Program} {t : TypeId} {n : Nat} (h : sizeB P t n = true) (w : World) : (sizeOf t).run P w = .ok n w := by
  unfold sizeB at h
  cases hd : P.info? t with
  | none => rw [hd] at h; cases h
  | some i =>
    rw [hd] at h
    have hn : i.size = n := Nat.eq_of_beq_eq_true h
    have : (typeInfo t).run P w = .ok i w := by
      show (match P.info? t with | some i => Sem.pure i | none => _ : Sem TypeInfo).run P w = _
      rw [hd]; rfl
    unfold sizeOf
    show ((typeInfo t).bind _).run P w = _
    rw [run_bind, this, ← hn]
    rfl

theorem ldT_run {P : Program} {t : TypeId} {a : Addr} {K : KV} {w : World} (h : ldT P t a K w) : ∃ v, (loadVar t a).run P w = .ok v w ∧ K v w := by
  unfold ldT at h
  split at h
  · rename_i hty hag
    split at h
    · rename_i n hb
      obtain ⟨-, -, hs, -⟩ := bigA_out hb
      obtain ⟨cs, hl, hc, hk⟩ := h
      refine ⟨_, ?_, hk⟩
      unfold loadVar
      show ((isAgg t).bind _).run P w = _
      rw [run_bind, run_isAgg hty, hag]
      show ((sizeOf t).bind _).run P w = _
      rw [run_bind, run_sizeOf hs]
      show ((loadCells a _).bind _).run P w = _
      rw [run_bind, ← hl, run_loadCells_list w a cs hc]
      rfl
    split at h
    · rename_i hs
      obtain ⟨vs, hr, hk⟩ := ldCells_run (P := P) _ _ _ h
      refine ⟨_, ?_, hk⟩
      unfold loadVar
      show ((isAgg t).bind _).run P w = _
      rw [run_bind, run_isAgg hty, hag]
      show ((sizeOf t).bind _).run P w = _
      rw [run_bind, run_sizeOf hs]
      show ((loadCells a _).bind _).run P w = _
      rw [run_bind]
      unfold loadCells
      rw [show (#[] : Array Value) = ([] : List Value).toArray from rfl, hr]
      rfl
    · exact h.elim
  · rename_i hty hag
    obtain ⟨v, hv, h⟩ := h
    refine ⟨v, ?_, asV_out h⟩
    unfold loadVar
    show ((isAgg t).bind _).run P w = _
    rw [run_bind, run_isAgg hty, hag]
    show Sem.run P (Sem.load .plain a _) w = _
    simp only [Sem.run, hv]
  · exact h.elim

/-! ### operations -/
def strAt (s : ByteArray) (i : Int) (K : UInt8 → World → Prop) (w : World) : Prop := ∃ b, 0 ≤ i ∧ s[i.toNat]? = some b ∧ K b w
def aggAt (cs : Array Value) (n : Nat) (i : Int) (z : Nat) (K : KV) (w : World) : Prop := ∃ v, 0 ≤ i ∧ i < n ∧ cs[i.toNat * z]? = some v ∧ K v w
def slAt (base : Option Addr) (n : Nat) (i : Int) (z : Nat) (K : Addr → World → Prop) (w : World) : Prop := ∃ a, base = some a ∧ 0 ≤ i ∧ i < n ∧ K (a.add (i.toNat * z)) w
def arAt (a : Addr) (n : Nat) (i : Int) (z : Nat) (K : Addr → World → Prop) (w : World) : Prop := 0 ≤ i ∧ i < n ∧ K (a.add (i.toNat * z)) w
def strSl (s : ByteArray) (l h : Int) (K : ByteArray → World → Prop) (w : World) : Prop := 0 ≤ l ∧ l ≤ h ∧ h ≤ s.size ∧ K (s.extract l.toNat h.toNat) w
def slSl (a : Option Addr) (c : Nat) (l h : Int) (z : Nat) (K : Option Addr → Nat → Nat → World → Prop) (w : World) : Prop :=
  0 ≤ l ∧ l ≤ h ∧ h ≤ c ∧ K (if c = l.toNat then a else a.map (·.add (l.toNat * z))) (h.toNat - l.toNat) (c - l.toNat) w
def strCat (x y : ByteArray) (K : ByteArray → World → Prop) (w : World) : Prop := x.size + y.size ≤ 9223372036854775807 ∧ K (x ++ y) w
def divW (b : Int) (X : World → Prop) (w : World) : Prop := b ≠ 0 ∧ X w
def strEq (x y : ByteArray) : Bool := x.toList == y.toList
def asN (n : Nat) (v : Value) (K : (Nat → Value) → World → Prop) (w : World) : Prop := ∃ f : Nat → Value, v = .agg ((List.range n).map f).toArray ∧ K f w
def asT (n : Nat) (v : Value) (K : (Nat → Value) → World → Prop) (w : World) : Prop := ∃ f : Nat → Value, v = .tuple ((List.range n).map f).toArray ∧ K f w

/-- the parts of an aggregate, each typed -/
def cellsV (f : Nat → Value) : (i : Nat) → List Leaf → List Value → KV → World → Prop
  | _, [], acc, K, w => K (.agg acc.toArray) w
  | i, l :: ls, acc, K, w => asV l (f i) (fun v w => cellsV f (i + 1) ls (acc ++ [v]) K w) w
def asTy (P : Program) (t : TypeId) (v : Value) (K : KV) (w : World) : Prop :=
  match isAggB P t with
  | true => asN (leavesOf P 20 t).length v (fun f w => cellsV f 0 (leavesOf P 20 t) [] K w) w
  | false => asV (leaf1 P t) v K w
def tupV (P : Program) (f : Nat → Value) : (i : Nat) → List TypeId → List Value → KV → World → Prop
  | _, [], acc, K, w => K (.tuple acc.toArray) w
  | i, t :: ts, acc, K, w => asTy P t (f i) (fun v w => tupV P f (i + 1) ts (acc ++ [v]) K w) w
def asRes (P : Program) (t : TypeId) (v : Value) (K : KV) (w : World) : Prop :=
  match P.underlying t with
  | some (.tuple ts) => asT ts.toList.length v (fun f w => tupV P f 0 ts.toList [] K w) w
  | _ => asTy P t v K w

theorem cellsV_out {f : Nat → Value} : ∀ (ls : List Leaf) (i : Nat) (acc : List Value) {K : KV} {w : World}, cellsV f i ls acc K w → K (.agg (acc ++ (List.range' i ls.length).map f).toArray) w
  | [], i, acc, K, w, h => by simpa [cellsV] using h
  | l :: ls, i, acc, K, w, h => by
    have := cellsV_out ls (i + 1) (acc ++ [f i]) (asV_out h)
    simpa [List.range'_succ] using this
theorem asTy_out {P : Program} {t : TypeId} {v : Value} {K : KV} {w : World} (h : asTy P t v K w) : K v w := by
  unfold asTy at h
  split at h
  · obtain ⟨f, rfl, h⟩ := h
    have := cellsV_out _ _ _ h
    simpa [List.range_eq_range'] using this
  · exact asV_out h
theorem tupV_out {P : Program} {f : Nat → Value} : ∀ (ls : List TypeId) (i : Nat) (acc : List Value) {K : KV} {w : World}, tupV P f i ls acc K w → K (.tuple (acc ++ (List.range' i ls.length).map f).toArray) w
  | [], i, acc, K, w, h => by simpa [tupV] using h
  | l :: ls, i, acc, K, w, h => by
    have := tupV_out ls (i + 1) (acc ++ [f i]) (asTy_out h)
    simpa [List.range'_succ] using this
theorem asRes_out {P : Program} {t : TypeId} {v : Value} {K : KV} {w : World} (h : asRes P t v K w) : K v w := by
  unfold asRes at h
  split at h
  · obtain ⟨f, rfl, h⟩ := h
    have := tupV_out _ _ _ h
    simpa [List.range_eq_range'] using this
  · exact asTy_out h

/-- operations whose answer is one run of the model's own -/
def valSem (ρ : Operand → Value) (ty : TypeId) : Op → Option (Sem Value)
  | .move x | .assign x => some (.pure (ρ x))
  | .pick c a b => some (do pure (if ← asBool (ρ c) then ρ a else ρ b))
  | .alloc e => some (Instr.alloc e true (.tuple #[]))
  | .box e x => some (Instr.box e (ρ x))
  | .build t parts => some (Instr.build t (parts.map fun (i, x) => (i, ρ x)))
  | .buildSlice t n parts => some (Instr.buildSlice t n (parts.map fun (i, x) => (i, ρ x)))
  | .load t a => some (Instr.loadAt t (ρ a))
  | .binOp op t x y _ => some (do eqGuard op t x y (ρ x) (ρ y); binOp op t (ρ x) (ρ y))
  | .unOp op _ x => some (Op.unary op (ρ x))
  | .convert s d x => some (convert s d (ρ x))
  | .makeInterface t x => some (Instr.makeInterface t (ρ x))
  | .makeFunc fn fs cs => some (Instr.makeFunc fn (fs.map ρ) (cs.map ρ))
  | .makeMap t r => some (Instr.makeMap t (r.map ρ))
  | .makeSlice t l c => some (Instr.makeSlice t (ρ l) (ρ c))
  | .slice t x lo hi mx => some (Instr.sliceAt t (ρ x) (lo.map ρ) (hi.map ρ) (mx.map ρ))
  | .fieldAddr s x f => some (Instr.fieldAt s (ρ x) f)
  | .field t x f => some (Instr.field t (ρ x) f)
  | .indexAddr t x i => some (Instr.indexAt t (ρ x) (ρ i))
  | .index t x i => some (Instr.index t (ρ x) (ρ i))
  | .lookup t x k ok => some (Instr.lookup t (ρ x) (ρ k) ok)
  | .mapEntry t m k => some (Instr.mapEntry t (ρ m) (ρ k))
  | .range t x => some (Instr.range t (ρ x))
  | .next it s => some (Instr.next (ρ it) s ty)
  | .entry it => some (Instr.entry (ρ it))
  | .typeAssert x t u ok => some (Instr.typeAssert (ρ x) t u ok)
  | .extract x i => some (Instr.extract (ρ x) i)
  | _ => none
def unitSem (ρ : Operand → Value) : Op → Option (Sem Unit)
  | .store t a x => some (Instr.storeAt t (ρ a) (ρ x))
  | .mapUpdate t m k x | .insert t m k x => some (Instr.mapUpdate t (ρ m) (ρ k) (ρ x))
  | .entryStore t m s x => some (Instr.entryStore t (ρ m) (ρ s) (ρ x))
  | _ => none

theorem valSem_exec {ρ : Operand → Value} {o : Oper} {s : Sem Value} (h : valSem ρ o.type o.op = some s) : execOp ρ o = s.bind (fun v => .pure (.value v)) := by
  cases ho : o.op <;> rw [ho] at h <;> simp only [valSem, Option.some.injEq, reduceCtorEq] at h <;> subst h <;> simp only [execOp, ho]
  case pick c a b => cases ρ c <;> rfl
  all_goals rfl
theorem unitSem_exec {ρ : Operand → Value} {o : Oper} {s : Sem Unit} (h : unitSem ρ o.op = some s) : execOp ρ o = s.bind (fun _ => .pure .skip) := by
  cases ho : o.op <;> rw [ho] at h <;> simp only [unitSem, Option.some.injEq, reduceCtorEq] at h <;> subst h <;> simp only [execOp, ho] <;> rfl

theorem run_valSem {P : Program} {ρ : Operand → Value} {o : Oper} {s : Sem Value} {K : KV} {w : World} (h : valSem ρ o.type o.op = some s) {r : Md} (hr : ∃ v w', s.run P w = .ok v w' ∧ (r ≠ .full → w' = w) ∧ K v w') :
    ∃ v w', (execOp ρ o).run P w = .ok (.value v) w' ∧ (r ≠ .full → w' = w) ∧ K v w' := by
  obtain ⟨v, w', hr, hq, hk⟩ := hr
  refine ⟨v, w', ?_, hq, hk⟩
  rw [valSem_exec h, run_bind, hr]
  rfl

def isEqTy (P : Program) (t : TypeId) (l : Leaf) : Bool :=
  match P.underlying t, l with
  | some (.pointer _), .ptr => true
  | some (.slice _), .slice => true
  | some (.map _ _), .map => true
  | some .bool, .bool => true
  | _, _ => false

theorem run_underlying' {P : Program} {t : TypeId} {d : TypeDesc} (hd : P.underlying t = some d) (w : World) : (underlying t).run P w = .ok d w := by
  show (match P.underlying t with | some d => Sem.pure d | none => _ : Sem TypeDesc).run P w = _
  rw [hd]; rfl


/-- structs of whole numbers: field by field -/
def intsEq : List Value → List Value → Option Bool
  | [], [] => some true
  | .int k a :: r, .int k' b :: r' => (match decide (k = k'), intsEq r r' with
    | true, some t => some ((a == b) && t)
    | _, _ => none)
  | _, _ => none
def fieldsIntB (P : Program) : (i : Nat) → List Field → Bool
  | _, [] => true
  | i, f :: fs => Nat.beq f.offset i && f.name != "_" && (match P.underlying f.type with | some (.int _) => true | _ => false) && fieldsIntB P (i + 1) fs
def structIntsB (P : Program) (t : TypeId) (n : Nat) : Bool :=
  match P.underlying t with
  | some (.struct fs) => Nat.beq n fs.toList.length && fieldsIntB P 0 fs.toList && !P.stoodInHeld t && !P.eqGuardType P.depth t
  | _ => false

def chk (b : Bool) (X : World → Prop) (w : World) : Prop := b = true ∧ X w
/-- '==' and '!=' -/
def evEq (r : Md) (P : Program) (neg : Bool) (t : TypeId) (x y : Operand) (a b : Value) (K : KV) (w : World) : Prop :=
  match a, b with
  | .pointer p, .pointer none => (match isEqTy P t .ptr with | true => K (.bool (if neg then p.isSome else p.isNone)) w | false => fls "eq" w)
  | .slice p _ _, .slice none _ _ => (match isEqTy P t .slice with | true => K (.bool (if neg then p.isSome else p.isNone)) w | false => fls "eq" w)
  | .map p, .map none => (match isEqTy P t .map with | true => K (.bool (if neg then p.isSome else p.isNone)) w | false => fls "eq" w)
  | .string s, .string u => K (.bool (if neg then !strEq s u else strEq s u)) w
  | .bool s, .bool u => (match isEqTy P t .bool with | true => K (.bool (if neg then !(s == u) else (s == u))) w | false => fls "eq" w)
  | .agg xs, .agg ys => (match intsEq xs.toList ys.toList with | some r => chk (structIntsB P t xs.toList.length) (fun w => K (.bool (if neg then !r else r)) w) w | _ => fls "eq" w)
  | a, b => spt r P (do eqGuard (if neg then .neq else .eql) t x y a b; binOp (if neg then .neq else .eql) t a b) K w

def evBin0 (r : Md) (P : Program) (op : BinOp) (t : TypeId) (x y : Operand) (a b : Value) (K : KV) (w : World) : Prop :=
  match op, a, b with
  | .add, .string s, .string u => strCat s u (fun r w => K (.string r) w) w
  | .quo, .int k m, .int k' n => (match decide (k = k') with | true => divW n (K (.int k (k.wrap (m.tdiv n)))) w | false => fls "kinds" w)
  | .rem, .int k m, .int k' n => (match decide (k = k') with | true => divW n (K (.int k (m.tmod n))) w | false => fls "kinds" w)
  | op, .int k m, .int k' n => spt r P (binOp op t (.int k m) (.int k' n)) K w
  | .eql, a, b => evEq r P false t x y a b K w
  | .neq, a, b => evEq r P true t x y a b K w
  | _, _, _ => fls "binOp" w

/-- an interface value against the literal nil -/
def isNilC (y : Operand) : Bool := match y with | .const .nilIface => true | _ => false
def isIfTy (P : Program) (t : TypeId) : Bool := match P.underlying t with | some (.interface _) => true | _ => false
def isnil (v : Value) (K : Bool → World → Prop) (w : World) : Prop := ∃ b : Bool, ((b = true ∧ v = .nilIface) ∨ (b = false ∧ ∃ t x, v = .iface t x)) ∧ K b w
def evNil (P : Program) (op : BinOp) (t : TypeId) (a b : Value) (K : KV) (w : World) : Prop :=
  match b, isIfTy P t, op with
  | .nilIface, true, .eql => isnil a (fun r w => K (.bool r) w) w
  | .nilIface, true, .neq => isnil a (fun r w => K (.bool (!r)) w) w
  | _, _, _ => fls "nil" w
/-- a function value against the literal nil -/
def isNilFC (y : Operand) : Bool := match y with | .const .nilFunc => true | _ => false
def isFnTy (P : Program) (t : TypeId) : Bool := match P.underlying t with | some (.func ..) => true | _ => false
def isfn (v : Value) (K : Bool → World → Prop) (w : World) : Prop := ∃ b : Bool, ((b = true ∧ v = .nilFunc) ∨ (b = false ∧ ∃ f ts cs, v = .func f ts cs)) ∧ K b w
def evNilF (P : Program) (op : BinOp) (t : TypeId) (a b : Value) (K : KV) (w : World) : Prop :=
  match b, isFnTy P t, op with
  | .nilFunc, true, .eql => isfn a (fun r w => K (.bool r) w) w
  | .nilFunc, true, .neq => isfn a (fun r w => K (.bool (!r)) w) w
  | _, _, _ => fls "nil" w
def evBin (r : Md) (P : Program) (op : BinOp) (t : TypeId) (x y : Operand) (a b : Value) (K : KV) (w : World) : Prop :=
  match isNilC y, isNilFC y with
  | true, _ => evNil P op t a b K w
  | false, true => evNilF P op t a b K w
  | false, false => evBin0 r P op t x y a b K w

theorem eqGuard_plain {P : Program} {op : BinOp} {t : TypeId} {x y : Operand} {a b : Value} {w : World} (h : ¬ (a = .nilIface ∧ b = .nilIface)) (h2 : ∀ c d, ¬ (a = .agg c ∧ b = .agg d)) :
    (eqGuard op t x y a b).run P w = .ok () w := by
  unfold eqGuard
  cases op <;> first | rfl | (cases a <;> cases b <;> first | rfl | (exact absurd ⟨rfl, rfl⟩ h) | (exact absurd ⟨rfl, rfl⟩ (h2 _ _)))

theorem binOp_guard {P : Program} {op : BinOp} {t : TypeId} {x y : Operand} {a b v : Value} {w w' : World} (h : ¬ (a = .nilIface ∧ b = .nilIface)) (h2 : ∀ c d, ¬ (a = .agg c ∧ b = .agg d))
    (hr : (binOp op t a b).run P w = .ok v w') : (do eqGuard op t x y a b; binOp op t a b : Sem Value).run P w = .ok v w' := by
  show ((eqGuard op t x y a b).bind fun _ => binOp op t a b).run P w = _
  rw [run_bind, eqGuard_plain h h2]
  exact hr


theorem run_eq {P : Program} {neg : Bool} {t : TypeId} {a b : Value} {r : Bool} {w w' : World} (hi : ∀ k n, ¬ (∃ j, a = .int k n ∧ b = j)) (hs : ∀ s, a ≠ .string s) (hf : ∀ k n, a ≠ .float k n) (hc : ∀ k n m, a ≠ .complex k n m)
    (h : (Op.equal t a b).run P w = .ok r w') : (binOp (if neg then .neq else .eql) t a b).run P w = .ok (.bool (if neg then !r else r)) w' := by
  cases neg
  · have e : binOp .eql t a b = (Op.equal t a b).bind (fun x => .pure (.bool x)) := by
      cases a <;> first | rfl | (exact absurd rfl (hs _)) | (exact absurd rfl (hf _ _)) | (exact absurd rfl (hc _ _ _)) | (exact absurd ⟨b, rfl, rfl⟩ (hi _ _))
    simp only [Bool.false_eq_true, if_false]
    rw [e, run_bind, h]; rfl
  · have e : binOp .neq t a b = (Op.equal t a b).bind (fun x => .pure (.bool (!x))) := by
      cases a <;> first | rfl | (exact absurd rfl (hs _)) | (exact absurd rfl (hf _ _)) | (exact absurd rfl (hc _ _ _)) | (exact absurd ⟨b, rfl, rfl⟩ (hi _ _))
    simp only [if_true]
    rw [e, run_bind, h]; rfl

theorem run_equal {P : Program} {t : TypeId} {d : TypeDesc} {a b : Value} {r : Bool} {w w' : World} (hd : P.underlying t = some d)
    (h : ((match d, a, b with
      | .bool, .bool a, .bool b => Pure.pure (a == b)
      | .pointer _, .pointer none, .pointer b => Pure.pure b.isNone
      | .pointer _, .pointer _, .pointer none => Pure.pure false
      | .slice _, .slice none _ _, .slice b _ _ => Pure.pure b.isNone
      | .slice _, .slice _ _ _, .slice none _ _ => Pure.pure false
      | .map _ _, .map none, .map b => Pure.pure b.isNone
      | .map _ _, .map _, .map none => Pure.pure false
      | _, _, _ => Sem.halt (.stuck "")) : Sem Bool).run P w = .ok r w') : (Op.equal t a b).run P w = .ok r w' := by
  show (Op.equalIn (9999 + 1) t a b).run P w = _
  unfold Op.equalIn
  show ((underlying t).bind _).run P w = _
  rw [run_bind, run_underlying' hd]
  show Sem.run P _ w = _
  split at h <;> first | (simp [Sem.run] at h; done) | (simpa using h)



theorem run_part_int {P : Program} {t : TypeId} {cs : List Value} {i : Nat} {v : Value} {k : IntKind} (hd : P.underlying t = some (.int k)) (hv : cs[i]? = some v) (w : World) : (part t cs.toArray i).run P w = .ok v w := by
  have hty : isTyB P t = true := by unfold isTyB; rw [hd]
  have hag : isAggB P t = false := by unfold isAggB; rw [hd]
  unfold part
  show ((isAgg t).bind _).run P w = _
  rw [run_bind, run_isAgg hty, hag]
  simp [hv]

theorem intsEq_cons {xs ys : List Value} {r : Bool} (h : intsEq xs ys = some r) : (xs = [] ∧ ys = [] ∧ r = true) ∨ ∃ k a b xs' ys' r', xs = .int k a :: xs' ∧ ys = .int k b :: ys' ∧ intsEq xs' ys' = some r' ∧ r = ((a == b) && r') := by
  cases xs with
  | nil => cases ys with
    | nil => left; simp [intsEq] at h; exact ⟨rfl, rfl, h⟩
    | cons y ys => simp [intsEq] at h
  | cons x xs =>
    cases ys with
    | nil => cases x <;> simp [intsEq] at h
    | cons y ys =>
      cases x <;> cases y <;> simp only [intsEq, reduceCtorEq] at h
      rename_i k a k' b
      right
      split at h
      · rename_i t hk ht
        have hk' : k = k' := by simpa using hk
        subst hk'
        simp only [Option.some.injEq] at h
        exact ⟨k, a, b, xs, ys, t, rfl, rfl, ht, h.symm⟩
      · cases h

theorem run_fields {P : Program} (g : Nat) : ∀ (fs : List Field) (i : Nat) (pre1 pre2 xs ys : List Value) (r : Bool), fieldsIntB P i fs = true → pre1.length = i → pre2.length = i → xs.length = fs.length → intsEq xs ys = some r → ∀ w,
    (Op.eqFields (g + 1) (pre1 ++ xs).toArray (pre2 ++ ys).toArray fs).run P w = .ok r w := by
  intro fs
  induction fs with
  | nil =>
    intro i pre1 pre2 xs ys r _ _ _ hx he w
    have : xs = [] := List.eq_nil_of_length_eq_zero (by simpa using hx)
    subst this
    cases ys <;> simp [intsEq] at he
    subst he; simp [Op.eqFields]
  | cons f fs ih =>
    intro i pre1 pre2 xs ys r hB h1 h2 hx he w
    rcases intsEq_cons he with ⟨rfl, _, _⟩ | ⟨k, a, b, xs', ys', r', rfl, rfl, he', rfl⟩
    · simp at hx
    · simp only [fieldsIntB, Bool.and_eq_true, bne_iff_ne, ne_eq] at hB
      obtain ⟨⟨⟨ho, hn⟩, hty⟩, hB'⟩ := hB
      have ho' : f.offset = i := Nat.eq_of_beq_eq_true ho
      obtain ⟨kk, hd⟩ : ∃ kk, P.underlying f.type = some (.int kk) := by
        split at hty
        · rename_i kk hk; exact ⟨kk, hk⟩
        · cases hty
      have e1 : (pre1 ++ Value.int k a :: xs')[i]? = some (.int k a) := by simp [← h1]
      have e2 : (pre2 ++ Value.int k b :: ys')[i]? = some (.int k b) := by simp [← h2]
      have ih' := ih (i + 1) (pre1 ++ [.int k a]) (pre2 ++ [.int k b]) xs' ys' r' hB' (by simp [h1]) (by simp [h2]) (by simpa using hx) he' w
      simp only [Op.eqFields, ne_eq, hn, not_false_eq_true, if_true, Sem.run_bind, ho', run_part_int hd e1, run_part_int hd e2, Result.andThen_ok, Go.run_equalIn_int (P := P) w g f.type k kk a b hd]
      cases hab : (a == b)
      · simp
      · simpa using ih'

theorem fieldsIntB_len {P : Program} {t : TypeId} {n : Nat} (h : structIntsB P t n = true) : P.underlying t = some (.struct (P.fieldsOf t)) ∧ n = (P.fieldsOf t).toList.length ∧ fieldsIntB P 0 (P.fieldsOf t).toList = true ∧ P.stoodInHeld t = false ∧ P.eqGuardType P.depth t = false := by
  unfold structIntsB at h
  split at h
  · rename_i fs hfs
    simp only [Bool.and_eq_true, Bool.not_eq_true'] at h
    have e : P.fieldsOf t = fs := by unfold Program.fieldsOf; rw [hfs]
    rw [e]
    exact ⟨hfs, Nat.eq_of_beq_eq_true h.1.1.1, h.1.1.2, h.1.2, h.2⟩
  · cases h

theorem isEqTy_ptr {P : Program} {t : TypeId} (h : isEqTy P t .ptr = true) : ∃ e, P.underlying t = some (.pointer e) := by
  unfold isEqTy at h; cases hd : P.underlying t with
  | none => simp [hd] at h
  | some d => cases d <;> simp_all
theorem isEqTy_slice {P : Program} {t : TypeId} (h : isEqTy P t .slice = true) : ∃ e, P.underlying t = some (.slice e) := by
  unfold isEqTy at h; cases hd : P.underlying t with
  | none => simp [hd] at h
  | some d => cases d <;> simp_all
theorem isEqTy_map {P : Program} {t : TypeId} (h : isEqTy P t .map = true) : ∃ k e, P.underlying t = some (.map k e) := by
  unfold isEqTy at h; cases hd : P.underlying t with
  | none => simp [hd] at h
  | some d => cases d <;> simp_all
theorem isEqTy_bool {P : Program} {t : TypeId} (h : isEqTy P t .bool = true) : P.underlying t = some .bool := by
  unfold isEqTy at h; cases hd : P.underlying t with
  | none => simp [hd] at h
  | some d => cases d <;> simp_all

theorem ite_opt {K : KV} {neg : Bool} {α : Type} {p : Option α} {w : World} (h : K (.bool (if neg then p.isSome else p.isNone)) w) : K (.bool (if neg then !p.isNone else p.isNone)) w := by
  cases neg <;> cases p <;> exact h

theorem evEq_ptr {rd : Md} {P : Program} {neg : Bool} {t : TypeId} {x y : Operand} {p : Option Addr} {K : KV} {w : World} (hty : isEqTy P t .ptr = true) (h : K (.bool (if neg then p.isSome else p.isNone)) w) :
    ∃ v w', (do eqGuard (if neg then .neq else .eql) t x y (.pointer p) (.pointer none); binOp (if neg then .neq else .eql) t (.pointer p) (.pointer none) : Sem Value).run P w = .ok v w' ∧ (rd ≠ .full → w' = w) ∧ K v w' := by
  obtain ⟨e, hd⟩ := isEqTy_ptr hty
  exact ⟨_, _, binOp_guard (by simp) (by simp) (run_eq (by simp) (by simp) (by simp) (by simp) (run_equal hd (by cases p <;> rfl))), fun _ => rfl, ite_opt h⟩
theorem evEq_slice {rd : Md} {P : Program} {neg : Bool} {t : TypeId} {x y : Operand} {p : Option Addr} {n c n' c' : Nat} {K : KV} {w : World} (hty : isEqTy P t .slice = true) (h : K (.bool (if neg then p.isSome else p.isNone)) w) :
    ∃ v w', (do eqGuard (if neg then .neq else .eql) t x y (.slice p n c) (.slice none n' c'); binOp (if neg then .neq else .eql) t (.slice p n c) (.slice none n' c') : Sem Value).run P w = .ok v w' ∧ (rd ≠ .full → w' = w) ∧ K v w' := by
  obtain ⟨e, hd⟩ := isEqTy_slice hty
  exact ⟨_, _, binOp_guard (by simp) (by simp) (run_eq (by simp) (by simp) (by simp) (by simp) (run_equal hd (by cases p <;> rfl))), fun _ => rfl, ite_opt h⟩
theorem evEq_map {rd : Md} {P : Program} {neg : Bool} {t : TypeId} {x y : Operand} {p : Option Nat} {K : KV} {w : World} (hty : isEqTy P t .map = true) (h : K (.bool (if neg then p.isSome else p.isNone)) w) :
    ∃ v w', (do eqGuard (if neg then .neq else .eql) t x y (.map p) (.map none); binOp (if neg then .neq else .eql) t (.map p) (.map none) : Sem Value).run P w = .ok v w' ∧ (rd ≠ .full → w' = w) ∧ K v w' := by
  obtain ⟨k, e, hd⟩ := isEqTy_map hty
  exact ⟨_, _, binOp_guard (by simp) (by simp) (run_eq (by simp) (by simp) (by simp) (by simp) (run_equal hd (by cases p <;> rfl))), fun _ => rfl, ite_opt h⟩
theorem evEq_bool {rd : Md} {P : Program} {neg : Bool} {t : TypeId} {x y : Operand} {p q : Bool} {K : KV} {w : World} (hty : isEqTy P t .bool = true) (h : K (.bool (if neg then !(p == q) else (p == q))) w) :
    ∃ v w', (do eqGuard (if neg then .neq else .eql) t x y (.bool p) (.bool q); binOp (if neg then .neq else .eql) t (.bool p) (.bool q) : Sem Value).run P w = .ok v w' ∧ (rd ≠ .full → w' = w) ∧ K v w' :=
  ⟨_, _, binOp_guard (by simp) (by simp) (run_eq (by simp) (by simp) (by simp) (by simp) (run_equal (isEqTy_bool hty) rfl)), fun _ => rfl, h⟩
theorem evEq_agg {rd : Md} {P : Program} {neg : Bool} {t : TypeId} {x y : Operand} {xs ys : Array Value} {r : Bool} {K : KV} {w : World} (hs : structIntsB P t xs.toList.length = true) (hi : intsEq xs.toList ys.toList = some r) (h : K (.bool (if neg then !r else r)) w) :
    ∃ v w', (do eqGuard (if neg then .neq else .eql) t x y (.agg xs) (.agg ys); binOp (if neg then .neq else .eql) t (.agg xs) (.agg ys) : Sem Value).run P w = .ok v w' ∧ (rd ≠ .full → w' = w) ∧ K v w' := by
  obtain ⟨h1, hn, h2, h3, h4⟩ := fieldsIntB_len hs
  refine ⟨_, w, ?_, fun _ => rfl, h⟩
  show ((eqGuard _ t x y _ _).bind _).run P w = _
  rw [run_bind, run_eqGuard_agg (P := P) w _ t x y xs ys h4]
  refine run_eq (by simp) (by simp) (by simp) (by simp) ?_
  show (Op.equalIn (9999 + 1) t _ _).run P w = _
  rw [run_equalIn_struct w 9999 t xs ys h1 h3]
  have := run_fields (P := P) 9998 (P.fieldsOf t).toList 0 [] [] xs.toList ys.toList r h2 rfl rfl hn hi w
  simpa using this

theorem evEq_run {rd : Md} {P : Program} {neg : Bool} {t : TypeId} {x y : Operand} {a b : Value} {K : KV} {w : World} (h : evEq rd P neg t x y a b K w) :
    ∃ v w', (do eqGuard (if neg then .neq else .eql) t x y a b; binOp (if neg then .neq else .eql) t a b : Sem Value).run P w = .ok v w' ∧ (rd ≠ .full → w' = w) ∧ K v w' := by
  unfold evEq at h
  split at h
  · split at h
    · rename_i hty; exact evEq_ptr hty h
    · exact h.elim
  · split at h
    · rename_i hty; exact evEq_slice hty h
    · exact h.elim
  · split at h
    · rename_i hty; exact evEq_map hty h
    · exact h.elim
  · refine ⟨_, _, binOp_guard (by simp) (by simp) ?_, fun _ => rfl, h⟩
    cases neg <;> rfl
  · split at h
    · rename_i hty; exact evEq_bool hty h
    · exact h.elim
  · split at h
    · rename_i hi; exact evEq_agg h.1 hi h.2
    · exact h.elim
  · exact spt_run _ h

theorem evBin0_run {rd : Md} {P : Program} {op : BinOp} {t : TypeId} {x y : Operand} {a b : Value} {K : KV} {w : World} (h : evBin0 rd P op t x y a b K w) :
    ∃ v w', (do eqGuard op t x y a b; binOp op t a b : Sem Value).run P w = .ok v w' ∧ (rd ≠ .full → w' = w) ∧ K v w' := by
  unfold evBin0 at h
  split at h
  · obtain ⟨hl, h⟩ := h
    refine ⟨_, w, binOp_guard (by simp) (by simp) ?_, fun _ => rfl, h⟩
    simp only [binOp, Op.stringOp]
    rw [if_neg (by have e : IntKind.i64.max = 9223372036854775807 := by decide
                   rw [e]; omega)]
    rfl
  · split at h
    · rename_i hk
      have hk' := of_decide_eq_true hk
      obtain ⟨hz, h⟩ := h
      refine ⟨_, w, binOp_guard (by simp) (by simp) ?_, fun _ => rfl, h⟩
      simp only [binOp]
      rw [if_neg (by simpa using hk')]
      simp [Op.intDiv, hz]
    · exact h.elim
  · split at h
    · rename_i hk
      have hk' := of_decide_eq_true hk
      obtain ⟨hz, h⟩ := h
      refine ⟨_, w, binOp_guard (by simp) (by simp) ?_, fun _ => rfl, h⟩
      simp only [binOp]
      rw [if_neg (by simpa using hk')]
      simp [Op.intDiv, hz]
    · exact h.elim
  · obtain ⟨v, w', hr, hq, hk⟩ := spt_run _ h
    exact ⟨v, w', binOp_guard (by simp) (by simp) hr, hq, hk⟩
  · exact evEq_run (neg := false) h
  · exact evEq_run (neg := true) h
  · exact h.elim

theorem isIfTy_out {P : Program} {t : TypeId} (h : isIfTy P t = true) : ∃ ms, P.underlying t = some (.interface ms) := by
  unfold isIfTy at h
  split at h
  · rename_i ms e; exact ⟨ms, e⟩
  · cases h
theorem guard_const {P : Program} {op : BinOp} {t : TypeId} {x : Operand} {v b : Value} {w : World} (hb : b = .nilIface) {a : Value} (ha : a = .nilIface ∨ ∃ t x, a = .iface t x) : (eqGuard op t x (.const v) a b).run P w = .ok () w := by
  subst hb
  rcases ha with rfl | ⟨u, z, rfl⟩ <;> cases op <;> cases x <;> rfl
theorem run_equal_nil {P : Program} {t : TypeId} {ms : Array (String × TypeId)} {a : Value} {r : Bool} {w : World} (hd : P.underlying t = some (.interface ms)) (hr : (r = true ∧ a = .nilIface) ∨ (r = false ∧ ∃ t x, a = .iface t x)) : (Op.equal t a .nilIface).run P w = .ok r w := by
  show (Op.equalIn (9999 + 1) t a .nilIface).run P w = _
  unfold Op.equalIn
  show ((underlying t).bind _).run P w = _
  rw [run_bind, run_underlying' hd]
  rcases hr with ⟨rfl, rfl⟩ | ⟨rfl, u, z, rfl⟩ <;> rfl
theorem evNil_run {rd : Md} {P : Program} {op : BinOp} {t : TypeId} {x y : Operand} {a b : Value} {K : KV} {w : World} (hy : isNilC y = true) (h : evNil P op t a b K w) :
    ∃ v w', (do eqGuard op t x y a b; binOp op t a b : Sem Value).run P w = .ok v w' ∧ (rd ≠ .full → w' = w) ∧ K v w' := by
  obtain ⟨v, rfl⟩ : ∃ v, y = .const v := by
    unfold isNilC at hy
    split at hy
    · exact ⟨_, rfl⟩
    · cases hy
  have key : ∀ (neg : Bool), isIfTy P t = true → isnil a (fun r w => K (.bool (if neg then !r else r)) w) w → b = .nilIface →
      ∃ v' w', (do eqGuard (if neg then .neq else .eql) t x (.const v) a b; binOp (if neg then .neq else .eql) t a b : Sem Value).run P w = .ok v' w' ∧ (rd ≠ .full → w' = w) ∧ K v' w' := by
    intro neg hty hn hb
    obtain ⟨ms, hd⟩ := isIfTy_out hty
    obtain ⟨r, hr, hk⟩ := hn
    refine ⟨_, w, ?_, fun _ => rfl, hk⟩
    show ((eqGuard _ t x _ a b).bind fun _ => binOp _ t a b).run P w = _
    rw [run_bind, guard_const hb (by rcases hr with ⟨_, e⟩ | ⟨_, e⟩; · exact .inl e
                                     · exact .inr e)]
    subst hb
    have he := run_equal_nil (w := w) hd hr
    rcases hr with ⟨rfl, rfl⟩ | ⟨rfl, u, z, rfl⟩ <;> exact run_eq (by simp) (by simp) (by simp) (by simp) he
  unfold evNil at h
  split at h
  · rename_i hty; exact key false hty h rfl
  · rename_i hty; exact key true hty h rfl
  · exact h.elim
theorem isFnTy_out {P : Program} {t : TypeId} (h : isFnTy P t = true) : ∃ ps rs v, P.underlying t = some (.func ps rs v) := by
  unfold isFnTy at h
  split at h
  · rename_i ps rs v e; exact ⟨ps, rs, v, e⟩
  · cases h
theorem guardF_const {P : Program} {op : BinOp} {t : TypeId} {x : Operand} {v b : Value} {w : World} (hb : b = .nilFunc) {a : Value} (ha : a = .nilFunc ∨ ∃ f ts cs, a = .func f ts cs) : (eqGuard op t x (.const v) a b).run P w = .ok () w := by
  subst hb
  rcases ha with rfl | ⟨f, ts, cs, rfl⟩ <;> cases op <;> cases x <;> rfl
theorem run_equal_nilF {P : Program} {t : TypeId} {ps rs : Array TypeId} {vd : Bool} {a : Value} {r : Bool} {w : World} (hd : P.underlying t = some (.func ps rs vd)) (hr : (r = true ∧ a = .nilFunc) ∨ (r = false ∧ ∃ f ts cs, a = .func f ts cs)) : (Op.equal t a .nilFunc).run P w = .ok r w := by
  show (Op.equalIn (9999 + 1) t a .nilFunc).run P w = _
  unfold Op.equalIn
  show ((underlying t).bind _).run P w = _
  rw [run_bind, run_underlying' hd]
  rcases hr with ⟨rfl, rfl⟩ | ⟨rfl, f, ts, cs, rfl⟩ <;> rfl
theorem evNilF_run {rd : Md} {P : Program} {op : BinOp} {t : TypeId} {x y : Operand} {a b : Value} {K : KV} {w : World} (hy : isNilFC y = true) (h : evNilF P op t a b K w) :
    ∃ v w', (do eqGuard op t x y a b; binOp op t a b : Sem Value).run P w = .ok v w' ∧ (rd ≠ .full → w' = w) ∧ K v w' := by
  obtain ⟨v, rfl⟩ : ∃ v, y = .const v := by
    unfold isNilFC at hy
    split at hy
    · exact ⟨_, rfl⟩
    · cases hy
  have key : ∀ (neg : Bool), isFnTy P t = true → isfn a (fun r w => K (.bool (if neg then !r else r)) w) w → b = .nilFunc →
      ∃ v' w', (do eqGuard (if neg then .neq else .eql) t x (.const v) a b; binOp (if neg then .neq else .eql) t a b : Sem Value).run P w = .ok v' w' ∧ (rd ≠ .full → w' = w) ∧ K v' w' := by
    intro neg hty hn hb
    obtain ⟨ps, rs, vd, hd⟩ := isFnTy_out hty
    obtain ⟨r, hr, hk⟩ := hn
    refine ⟨_, w, ?_, fun _ => rfl, hk⟩
    show ((eqGuard _ t x _ a b).bind fun _ => binOp _ t a b).run P w = _
    rw [run_bind, guardF_const hb (by rcases hr with ⟨_, e⟩ | ⟨_, e⟩; · exact .inl e
                                      · exact .inr e)]
    subst hb
    have he := run_equal_nilF (w := w) hd hr
    rcases hr with ⟨rfl, rfl⟩ | ⟨rfl, f, ts, cs, rfl⟩ <;> exact run_eq (by simp) (by simp) (by simp) (by simp) he
  unfold evNilF at h
  split at h
  · rename_i hty; exact key false hty h rfl
  · rename_i hty; exact key true hty h rfl
  · exact h.elim
theorem evBin_run {rd : Md} {P : Program} {op : BinOp} {t : TypeId} {x y : Operand} {a b : Value} {K : KV} {w : World} (h : evBin rd P op t x y a b K w) :
    ∃ v w', (do eqGuard op t x y a b; binOp op t a b : Sem Value).run P w = .ok v w' ∧ (rd ≠ .full → w' = w) ∧ K v w' := by
  unfold evBin at h
  split at h
  · rename_i hy; exact evNil_run hy h
  · rename_i hy; exact evNilF_run hy h
  · exact evBin0_run h



/-! ### aggregates built out of parts -/
def partCells (v : Value) : List Value := match v with | .agg cs => cs.toList | v => [v]
def putCells : List Value → Nat → List Value → List Value
  | cs, _, [] => cs
  | cs, i, v :: vs => putCells (cs.set i v) (i + 1) vs
def fillL (place : Nat → Option (Nat × Nat)) (cells : List Value) : List (Nat × Value) → Option (List Value)
  | [] => some cells
  | (i, v) :: rest => (match place i with
    | none => none
    | some (off, size) => (match Nat.beq (partCells v).length size, Nat.ble (off + (partCells v).length) cells.length with
      | true, true => fillL place (putCells cells off (partCells v)) rest
      | _, _ => none))
def fieldPlaces (P : Program) : List Field → List (Nat × Nat)
  | [] => []
  | f :: fs => (f.offset, match P.info? f.type with | some i => i.size | none => 0) :: fieldPlaces P fs
def nth {α : Type} : List α → Nat → Option α
  | [], _ => none
  | x :: _, 0 => some x
  | _ :: xs, n + 1 => nth xs n
theorem nth_eq {α : Type} : ∀ (l : List α) (i : Nat), nth l i = l[i]?
  | [], i => by simp [nth]
  | x :: _, 0 => by simp [nth]
  | _ :: xs, n + 1 => by simp [nth, nth_eq xs n]
def buildL (P : Program) (t : TypeId) (parts : List (Nat × Value)) : Option (List Value) :=
  match P.info? t with
  | some i => (match i.zero with
    | some z => (match P.underlying t with
      | some (.struct fs) => (match fs.toList.all (fun f => (P.info? f.type).isSome) with
        | true => fillL (nth (fieldPlaces P fs.toList)) (partCells z) parts
        | false => none)
      | some (.array _ e) => (match P.info? e with
        | some j => fillL (fun i => some (i * j.size, j.size)) (partCells z) parts
        | none => none)
      | _ => none)
    | none => none)
  | none => none

theorem cells_part (v : Value) : v.cells.toList = partCells v := by cases v <;> rfl
theorem putCells_len : ∀ (vs cs : List Value) (i : Nat), (putCells cs i vs).length = cs.length
  | [], cs, i => rfl
  | v :: vs, cs, i => by simp [putCells, putCells_len vs]

theorem foldl_put : ∀ (vs cs : List Value) (i k : Nat), (vs.zipIdx k).foldl (fun cs (c, j) => Array.setIfInBounds cs (i + j) c) cs.toArray = (putCells cs (i + k) vs).toArray
  | [], cs, i, k => rfl
  | v :: vs, cs, i, k => by
    simp only [List.zipIdx_cons, List.foldl_cons, putCells]
    rw [show cs.toArray.setIfInBounds (i + k) v = (cs.set (i + k) v).toArray from by simp]
    rw [foldl_put vs (cs.set (i + k) v) i (k + 1)]
    rfl

theorem fill_fillL {place : Nat → Option (Nat × Nat)} : ∀ (parts : List (Nat × Value)) (cells out : List Value), fillL place cells parts = some out → Instr.fill place cells.toArray parts = some out.toArray
  | [], cells, out, h => by simp only [fillL, Option.some.injEq] at h; subst h; rfl
  | (i, v) :: rest, cells, out, h => by
    simp only [fillL] at h
    unfold Instr.fill
    split at h
    · cases h
    · rename_i off size hp
      split at h
      · rename_i h1 h2
        have h1' : (partCells v).length = size := Nat.eq_of_beq_eq_true h1
        have h2' : off + (partCells v).length ≤ cells.length := Nat.le_of_ble_eq_true h2
        have hs : v.cells.size = (partCells v).length := by rw [← cells_part]; simp
        simp only [hp]
        rw [if_neg (by simp [hs, h1']; omega)]
        rw [← Array.foldl_toList, Array.toList_zipIdx, cells_part]
        have := foldl_put (partCells v) cells off 0
        rw [this]
        exact fill_fillL rest _ _ h
      · cases h

theorem mapM_places {P : Program} : ∀ (fs : List Field), fs.all (fun f => (P.info? f.type).isSome) = true → ∀ w, (fs.mapM (m := Sem) fun f => do pure (f.offset, ← sizeOf f.type)).run P w = .ok (fieldPlaces P fs) w
  | [], _, w => by simp [fieldPlaces]
  | f :: fs, h, w => by
    simp only [List.all_cons, Bool.and_eq_true] at h
    obtain ⟨i, hi⟩ := Option.isSome_iff_exists.1 h.1
    have hs : sizeB P f.type i.size = true := by unfold sizeB; rw [hi]; exact Nat.beq_refl _
    rw [List.mapM_cons]
    simp only [Sem.run_bind, run_sizeOf hs, Result.andThen_ok, Sem.run_pure, mapM_places fs h.2]
    simp [fieldPlaces, hi]

theorem run_zero {P : Program} {t : TypeId} {i : TypeInfo} {z : Value} (hi : P.info? t = some i) (hz : i.zero = some z) (w : World) : (zeroValue t).run P w = .ok z w := by
  have : (typeInfo t).run P w = .ok i w := by
    show (match P.info? t with | some i => Sem.pure i | none => _ : Sem TypeInfo).run P w = _
    rw [hi]; rfl
  unfold zeroValue
  show ((typeInfo t).bind _).run P w = _
  rw [run_bind, this]
  simp [hz]

theorem buildL_run {P : Program} {t : TypeId} {parts : Array (Nat × Value)} {cs : List Value} (h : buildL P t parts.toList = some cs) (w : World) : (Instr.build t parts).run P w = .ok (.agg cs.toArray) w := by
  unfold buildL at h
  split at h <;> try cases h
  rename_i i hi
  split at h <;> try cases h
  rename_i z hz
  unfold Instr.build
  show ((zeroValue t).bind _).run P w = _
  rw [run_bind, run_zero hi hz]
  have ez : z.cells = (partCells z).toArray := by rw [← cells_part]
  split at h <;> try cases h
  · rename_i fs hd
    split at h <;> try cases h
    rename_i hall
    show ((underlying t).bind _).run P w = _
    rw [run_bind, run_underlying' hd]
    show ((fs.mapM _ : Sem _).bind _).run P w = _
    rw [run_bind, Array.mapM_eq_mapM_toList]
    simp only [Sem.run_map, mapM_places fs.toList hall w, Result.andThen_ok]
    have e : (fun x => (fieldPlaces P fs.toList).toArray[x]?) = nth (fieldPlaces P fs.toList) := by funext x; simp [nth_eq]
    rw [show ((fieldPlaces P fs.toList).toArray[·]?) = nth (fieldPlaces P fs.toList) from e, ez, fill_fillL _ _ _ h]
    rfl
  · rename_i n e hd
    split at h <;> try cases h
    rename_i j hj
    show ((underlying t).bind _).run P w = _
    rw [run_bind, run_underlying' hd]
    have hs : sizeB P e j.size = true := by unfold sizeB; rw [hj]; exact Nat.beq_refl _
    show ((sizeOf e).bind _).run P w = _
    rw [run_bind, run_sizeOf hs]
    simp only [ez, fill_fillL _ _ _ h]
    rfl



def bsL (P : Program) (t : TypeId) (n : Nat) (parts : List (Nat × Value)) : Option (TypeId × List Value) :=
  match P.underlying t with
  | some (.slice e) => (match P.info? e with
    | some j => (match j.zero, Nat.beq j.size 0, Nat.ble (n * j.size) 16777216, Nat.beq n 0 with
      | some z, false, true, false => (match Nat.beq (partCells z).length j.size with
        | true => (match fillL (fun i => some (i * j.size, j.size)) ((List.replicate n (partCells z)).flatten) parts with
          | some cs => some (e, cs)
          | none => none)
        | false => none)
      | some _, false, true, true => (match parts with | [] => some (e, []) | _ => none)
      | _, _, _, _ => none)
    | none => none)
  | _ => none

theorem rep_flat (z : List Value) (m : Nat) (hz : z.length = m) (hm : 0 < m) : ∀ n, ((List.range (n * m)).map fun i => z.toArray[i % z.toArray.size]!) = (List.replicate n z).flatten
  | 0 => by simp
  | n + 1 => by
    have ih := rep_flat z m hz hm n
    rw [Nat.succ_mul, List.range_add, List.map_append, ih, List.replicate_succ', List.flatten_append]
    congr 1
    apply List.ext_getElem
    · simp [hz]
    · intro i h1 h2
      have hi : i < m := by simpa using h1
      have hlt : i < z.length := by omega
      simp [hz, Nat.mod_eq_of_lt hi]
      rw [List.getElem?_eq_getElem hlt]; rfl

theorem bsL_run {P : Program} {t e : TypeId} {n : Nat} {parts : Array (Nat × Value)} {cs : List Value} (h : bsL P t n parts.toList = some (e, cs)) (w : World) :
    (Instr.buildSlice t n parts).run P w = .ok (.slice (some ⟨w.heap.size, 0, none⟩) n n) (w.alloc (.cells cs.toArray e)) := by
  unfold bsL at h
  split at h <;> try cases h
  rename_i e' hd
  split at h <;> try cases h
  rename_i j hj
  have hs : sizeB P e' j.size = true := by unfold sizeB; rw [hj]; exact Nat.beq_refl _
  split at h
  · rename_i z hz h0 hle hn0
    split at h <;> try cases h
    rename_i hzl
    split at h <;> try cases h
    rename_i hf
    have hzl' : (partCells z).length = j.size := Nat.eq_of_beq_eq_true hzl
    have hjs : j.size ≠ 0 := by intro hc; rw [hc] at h0; cases h0
    have hn : n ≠ 0 := by intro hc; rw [hc] at hn0; cases hn0
    have hle' : n * j.size ≤ 16777216 := Nat.le_of_ble_eq_true hle
    unfold Instr.buildSlice
    show ((underlying t).bind _).run P w = _
    rw [run_bind, run_underlying' hd]
    show ((sizeOf e).bind _).run P w = _
    rw [run_bind, run_sizeOf hs]
    have hnz : ¬ (n * j.size = 0) := Nat.mul_ne_zero hn hjs
    dsimp only
    rw [if_neg (show ¬ (n * j.size > 2 ^ 24) from Nat.not_lt.2 hle'), if_neg hnz]
    show ((zeroValue e).bind _).run P w = _
    rw [run_bind, run_zero hj hz]
    have ez : z.cells = (partCells z).toArray := by rw [← cells_part]
    have er : (Array.range (n * j.size)).map (fun i => z.cells[i % z.cells.size]!) = ((List.replicate n (partCells z)).flatten).toArray := by
      rw [← rep_flat (partCells z) j.size hzl' (by omega) n, ez]
      apply Array.ext'
      simp
    show Sem.run P (match Instr.fill (fun i => some (i * j.size, j.size)) ((Array.range (n * j.size)).map (fun i => z.cells[i % z.cells.size]!)) parts.toList with
      | some cells => _
      | x => _) w = _
    rw [er, fill_fillL _ _ _ hf]
    rfl
  · rename_i z hz h0 hle hn0
    split at h <;> try cases h
    rename_i hp
    have hn : n = 0 := Nat.eq_of_beq_eq_true hn0
    subst hn
    have hpa : parts = #[] := by apply Array.ext'; simpa using hp
    subst hpa
    unfold Instr.buildSlice
    show ((underlying t).bind _).run P w = _
    rw [run_bind, run_underlying' hd]
    show ((sizeOf e).bind _).run P w = _
    rw [run_bind, run_sizeOf hs]
    simp [Instr.fill, newRow]
    rw [show Array.range 0 = #[] from rfl]
    simp
  · cases h

/-! ### one operation -/
def vrun (r : Md) (P : Program) (s : Sem Value) (K : KV) (w : World) : Prop := ∃ x w', s.run P w = .ok x w' ∧ (r ≠ .full → w' = w) ∧ K x w'
def urun (r : Md) (P : Program) (s : Sem Unit) (K : World → Prop) (w : World) : Prop := ∃ w', s.run P w = .ok () w' ∧ (r ≠ .full → w' = w) ∧ K w'
theorem vrun_mono {r : Md} {P : Program} {s : Sem Value} {K K' : KV} {w : World} (hk : ∀ v w, K v w → K' v w) (h : vrun r P s K w) : vrun r P s K' w := by
  obtain ⟨x, w', h1, h2, h3⟩ := h; exact ⟨x, w', h1, h2, hk _ _ h3⟩
def mget (r : Md) (P : Program) (t : TypeId) (m k : Value) (ok : Bool) (K : KV) (w : World) : Prop := vrun r P (Instr.lookup t m k ok) K w
def mset (r : Md) (P : Program) (t : TypeId) (m k v : Value) (K : World → Prop) (w : World) : Prop := urun r P (Instr.mapUpdate t m k v) K w
def ment (r : Md) (P : Program) (t : TypeId) (m k : Value) (K : KV) (w : World) : Prop := vrun r P (Instr.mapEntry t m k) K w
def mest (r : Md) (P : Program) (t : TypeId) (m s v : Value) (K : World → Prop) (w : World) : Prop := urun r P (Instr.entryStore t m s v) K w
/-- a tuple whose first part is a bool -/
def asB1 (v : Value) (K : Bool → List Value → World → Prop) (w : World) : Prop := ∃ b rest, v = .tuple (Value.bool b :: rest).toArray ∧ K b rest w
def mtry (r : Md) (P : Program) (it : Value) (K : KV) (w : World) : Prop := vrun r P (Instr.entry it) K w
def mrng (r : Md) (P : Program) (t : TypeId) (m : Value) (K : KV) (w : World) : Prop := vrun r P (Instr.range t m) K w
def mnxt (r : Md) (P : Program) (it : Value) (s : Bool) (ty : TypeId) (K : KV) (w : World) : Prop := vrun r P (Instr.next it s ty) K w
def cnv (r : Md) (P : Program) (s d : TypeId) (v : Value) (K : KV) (w : World) : Prop := vrun r P (convert s d v) K w
def mksl (r : Md) (P : Program) (t : TypeId) (l c : Value) (K : KV) (w : World) : Prop := vrun r P (Instr.makeSlice t l c) K w
def tyas (r : Md) (P : Program) (x : Value) (t u : TypeId) (ok : Bool) (K : KV) (w : World) : Prop := vrun r P (Instr.typeAssert x t u ok) K w
def bapp (r : Md) (P : Program) (ts : Array TypeId) (t : TypeId) (s x : Value) (K : KV) (w : World) : Prop := vrun r P (Builtin.append_ ts t #[s, x]) K w
def bcpy (r : Md) (P : Program) (ts : Array TypeId) (t : TypeId) (s x : Value) (K : KV) (w : World) : Prop := vrun r P (Builtin.copy_ ts t #[s, x]) K w
def bdel (r : Md) (P : Program) (ts : Array TypeId) (t : TypeId) (m k : Value) (K : KV) (w : World) : Prop := vrun r P (Builtin.delete_ ts t #[m, k]) K w
def bclr (r : Md) (P : Program) (ts : Array TypeId) (t : TypeId) (m : Value) (K : KV) (w : World) : Prop := vrun r P (Builtin.clear_ ts t #[m]) K w
def iftg (P : Program) (t : TypeId) (b : Bool) (X : World → Prop) (w : World) : Prop := isTyB P t = b ∧ X w
def isGo (P : Program) (f : FuncId) : Bool := match P.funcs[f]? with
  | some fn => (!(fn.name == "runtime.NumGoroutine")) && fn.body.isSome
  | none => false
def gocall (P : Program) (f : FuncId) (args : List Value) (K : KV) (w : World) : Prop := isGo P f = true ∧ Calls P f args.toArray w (fun e w' => ∃ v, e = .returned v ∧ K v w')

/-- a call through an interface -/
def ivk (P : Program) (recv : Value) (name : String) (args : List Value) (K : KV) (w : World) : Prop :=
  ∃ t v f rcv, recv = .iface t v ∧ (method (P.types.size + Made.depth) t v name).run P w = .ok (f, rcv) w ∧ gocall P f (rcv :: args) K w
def slElem (P : Program) (t : TypeId) : Option Nat := match P.underlying t with
  | some (.slice e) => (match P.info? e with | some j => some j.size | none => none)
  | _ => none
def arElem (P : Program) (t : TypeId) : Option (Nat × Nat) := match P.underlying t with
  | some (.array n e) => (match P.info? e with | some j => (match isTyB P e, isAggB P e with | true, false => some (n, j.size) | _, _ => none) | none => none)
  | _ => none
def arElemA (P : Program) (t : TypeId) : Option (Nat × Nat) := match P.underlying t with
  | some (.array n e) => (match P.info? e with | some j => some (n, j.size) | none => none)
  | _ => none
def mapEl (P : Program) (t : TypeId) : TypeId := match P.underlying t with | some (.map _ e) => e | _ => 0
def intTy (P : Program) (t : TypeId) : Option IntKind := match P.underlying t with | some (.int k) => some k | _ => none
def isStr (P : Program) (t : TypeId) : Bool := match P.underlying t with | some .string => true | _ => false
def fieldL (P : Program) (t : TypeId) (f : Nat) (cs : List Value) : Option Value :=
  match P.underlying t with
  | some (.struct fs) => (match nth fs.toList f with
    | some fd => (match isTyB P fd.type, isAggB P fd.type with
      | true, false => nth cs fd.offset
      | true, true => (match P.info? fd.type with | some j => some (.agg ((cs.drop fd.offset).take j.size).toArray) | none => none)
      | false, _ => none)
    | none => none)
  | _ => none



/-- one operation that yields a value (no call of a Go function) -/
def evV (r : Md) (P : Program) (ρ : Operand → Value) (ty : TypeId) (op : Op) (K : KV) (w : World) : Prop :=
  match op with
  | .move x | .assign x => K (ρ x) w
  | .pick c x y => (match ρ c with | .bool b => br b (K (ρ x)) (K (ρ y)) w | _ => fls "pick" w)
  | .nilCheck x => (match ρ x with
    | .pointer p => nn p (fun a w => K (.pointer (some a)) w) w
    | .func (.func g) fs cs => K (.func (.func g) fs cs) w
    | _ => fls "nilCheck" w)
  | .load t x => (match ρ x with | .pointer (some a) => rd r (fun w => ldT P t a K w) w | _ => fls "load" w)
  | .index t x i => (match ρ x, ρ i with
    | .string s, .int _ i => (match isStr P t with | true => strAt s i (fun b w => K (.int .u8 b.toNat) w) w | false => fls "index" w)
    | .agg cs, .int _ i => (match arElem P t with | some (n, z) => aggAt cs n i z (fun v w => asTy P ty v K w) w | none => fls "index" w)
    | _, _ => fls "index" w)
  | .indexAddr t x i => (match ρ x, ρ i with
    | .slice b n _, .int _ i => (match slElem P t with | some z => slAt b n i z (fun a w => K (.pointer (some a)) w) w | none => fls "indexAddr" w)
    | .pointer (some a), .int _ i => (match arElemA P t with | some (n, z) => arAt a n i z (fun a w => K (.pointer (some a)) w) w | none => fls "indexAddr" w)
    | _, _ => fls "indexAddr" w)
  | .slice t x lo hi none => (match ρ x, lo.map ρ, hi.map ρ with
    | .string s, none, none => (match isStr P t with | true => strSl s 0 s.size (fun r w => K (.string r) w) w | false => fls "slice" w)
    | .string s, some (.int _ l), none => (match isStr P t with | true => strSl s l s.size (fun r w => K (.string r) w) w | false => fls "slice" w)
    | .string s, none, some (.int _ h) => (match isStr P t with | true => strSl s 0 h (fun r w => K (.string r) w) w | false => fls "slice" w)
    | .string s, some (.int _ l), some (.int _ h) => (match isStr P t with | true => strSl s l h (fun r w => K (.string r) w) w | false => fls "slice" w)
    | .slice a n c, none, none => (match slElem P t with | some z => slSl a c 0 n z (fun a n c w => K (.slice a n c) w) w | none => fls "slice" w)
    | .slice a n c, some (.int _ l), none => (match slElem P t with | some z => slSl a c l n z (fun a n c w => K (.slice a n c) w) w | none => fls "slice" w)
    | .slice a _ c, none, some (.int _ h) => (match slElem P t with | some z => slSl a c 0 h z (fun a n c w => K (.slice a n c) w) w | none => fls "slice" w)
    | .slice a _ c, some (.int _ l), some (.int _ h) => (match slElem P t with | some z => slSl a c l h z (fun a n c w => K (.slice a n c) w) w | none => fls "slice" w)
    | _, _, _ => fls "slice" w)
  | .binOp op t x y _ => evBin r P op t x y (ρ x) (ρ y) K w
  | .build t parts => (match buildL P t (parts.toList.map fun (i, x) => (i, ρ x)) with | some cs => K (.agg cs.toArray) w | none => fls "build" w)
  | .buildSlice t n parts => (match bsL P t n (parts.toList.map fun (i, x) => (i, ρ x)) with
    | some (e, cs) => wr r (fun w => nw (.cells cs.toArray e) (fun r w => K (.slice (some ⟨r, 0, none⟩) n n) w) w) w
    | none => fls "buildSlice" w)
  | .field t x f => (match ρ x with
    | .agg cs => (match fieldL P t f cs.toList with | some v => K v w | none => fls "field" w)
    | _ => fls "field" w)
  | .makeFunc fn fs cs => K (.func fn (fs.toList.map ρ).toArray (cs.toList.map ρ).toArray) w
  | .lookup t x k ok => mget r P t (ρ x) (ρ k) ok (fun v w => asRes P ty v K w) w
  | .mapEntry t m k => ment r P t (ρ m) (ρ k) (fun v w => asT 2 v (fun f w => asTy P (mapEl P t) (f 0) (fun x w => asI .i64 (f 1) (fun n w => K (.tuple #[x, .int .i64 n]) w) w) w) w) w
  | .range t x => mrng r P t (ρ x) K w
  | .next it s => mnxt r P (ρ it) s ty (fun v w => asB1 v (fun b rest w => K (.tuple (Value.bool b :: rest).toArray) w) w) w
  | .entry it => mtry r P (ρ it) (fun v w => asT 2 v (fun f w => K (.tuple #[f 0, f 1]) w) w) w
  | .convert s d x => (match intTy P s, intTy P d, ρ x with
    | some _, some k, .int _ n => K (.int k (k.wrap n)) w
    | _, _, v => cnv r P s d v (fun v w => asTy P d v K w) w)
  | .makeSlice t l c => mksl r P t (ρ l) (ρ c) (fun v w => asTy P t v K w) w
  | .typeAssert x t u ok => tyas r P (ρ x) t u ok (fun v w => asRes P ty v K w) w
  | op => (match valSem ρ ty op with | some s => spt r P s K w | none => fls "op" w)

theorem ment_out {P : Program} {t : TypeId} {v : Value} {K : KV} {w : World} (h : asT 2 v (fun f w => asTy P (mapEl P t) (f 0) (fun x w => asI .i64 (f 1) (fun n w => K (.tuple #[x, .int .i64 n]) w) w) w) w) : K v w := by
  obtain ⟨f, rfl, h⟩ := h
  have h := asTy_out h
  obtain ⟨n, hn, h⟩ := h
  have e : ((List.range 2).map f).toArray = #[f 0, .int .i64 n] := by rw [← hn]; rfl
  rw [e]; exact h

theorem bind_value {s : Sem Value} {P : Program} {v : Value} {w w' : World} (h : s.run P w = .ok v w') : (s.bind (fun v => .pure (.value v)) : Sem Next).run P w = .ok (.value v) w' := by
  rw [run_bind, h]; rfl

theorem run_slElem {P : Program} {t : TypeId} {z : Nat} (h : slElem P t = some z) : ∃ e, P.underlying t = some (.slice e) ∧ sizeB P e z = true := by
  unfold slElem at h
  split at h
  · rename_i e hd
    split at h
    · rename_i j hj
      refine ⟨e, hd, ?_⟩
      simp only [Option.some.injEq] at h
      subst h
      unfold sizeB; rw [hj]; exact Nat.beq_refl _
    · cases h
  · cases h
theorem run_arElemA {P : Program} {t : TypeId} {n z : Nat} (h : arElemA P t = some (n, z)) : ∃ e, P.underlying t = some (.array n e) ∧ sizeB P e z = true := by
  unfold arElemA at h
  split at h
  · rename_i m e hd
    split at h
    · rename_i j hj
      simp only [Option.some.injEq, Prod.mk.injEq] at h
      obtain ⟨rfl, rfl⟩ := h
      refine ⟨e, hd, ?_⟩
      unfold sizeB; rw [hj]; exact Nat.beq_refl _
    · cases h
  · cases h
theorem run_arElem {P : Program} {t : TypeId} {n z : Nat} (h : arElem P t = some (n, z)) : ∃ e, P.underlying t = some (.array n e) ∧ sizeB P e z = true ∧ isTyB P e = true ∧ isAggB P e = false := by
  unfold arElem at h
  split at h
  · rename_i m e hd
    split at h
    · rename_i j hj
      split at h
      · rename_i hty hag
        simp only [Option.some.injEq, Prod.mk.injEq] at h
        obtain ⟨rfl, rfl⟩ := h
        refine ⟨e, hd, ?_, hty, hag⟩
        unfold sizeB; rw [hj]; exact Nat.beq_refl _
      · cases h
    · cases h
  · cases h
theorem isStr_ty {P : Program} {t : TypeId} (h : isStr P t = true) : P.underlying t = some .string := by
  unfold isStr at h; split at h <;> first | assumption | cases h

theorem run_slAt {P : Program} {t : TypeId} {b : Option Addr} {n c : Nat} {k : IntKind} {i : Int} {z : Nat} {K : Addr → World → Prop} {w : World} (hz : slElem P t = some z) (h : slAt b n i z K w) :
    ∃ a, (Instr.indexAt t (.slice b n c) (.int k i)).run P w = .ok (.pointer (some a)) w ∧ K a w := by
  obtain ⟨e, hd, hs⟩ := run_slElem hz
  obtain ⟨a, rfl, h0, h1, h⟩ := h
  refine ⟨_, ?_, h⟩
  simp [Instr.indexAt, asIntOf, run_underlying' hd, run_sizeOf hs, h0, h1]

theorem run_arAt {P : Program} {t : TypeId} {a : Addr} {n : Nat} {k : IntKind} {i : Int} {z : Nat} {K : Addr → World → Prop} {w : World} (hz : arElemA P t = some (n, z)) (h : arAt a n i z K w) :
    ∃ a', (Instr.indexAt t (.pointer (some a)) (.int k i)).run P w = .ok (.pointer (some a')) w ∧ K a' w := by
  obtain ⟨e, hd, hs⟩ := run_arElemA hz
  obtain ⟨h0, h1, h⟩ := h
  refine ⟨_, ?_, h⟩
  simp [Instr.indexAt, asIntOf, Instr.sureAddr, run_underlying' hd, run_sizeOf hs, h0, h1]

theorem run_strAt {P : Program} {t : TypeId} {s : ByteArray} {k : IntKind} {i : Int} {K : UInt8 → World → Prop} {w : World} (hz : isStr P t = true) (h : strAt s i K w) :
    ∃ b, (Instr.index t (.string s) (.int k i)).run P w = .ok (.int .u8 b.toNat) w ∧ K b w := by
  obtain ⟨b, h0, hb, h⟩ := h
  refine ⟨b, ?_, h⟩
  simp [Instr.index, asIntOf, run_underlying' (isStr_ty hz), h0, hb]

theorem run_aggAt {P : Program} {t : TypeId} {cs : Array Value} {n z : Nat} {k : IntKind} {i : Int} {K : KV} {w : World} (hz : arElem P t = some (n, z)) (h : aggAt cs n i z K w) :
    ∃ v, (Instr.index t (.agg cs) (.int k i)).run P w = .ok v w ∧ K v w := by
  obtain ⟨e, hd, hs, hty, hag⟩ := run_arElem hz
  obtain ⟨v, h0, h1, hv, h⟩ := h
  refine ⟨v, ?_, h⟩
  simp [Instr.index, asIntOf, run_underlying' hd, run_sizeOf hs, h0, h1, part, run_isAgg hty, hag, hv]

def boundV (k : Option (IntKind × Int)) : Option Value := k.map fun x => .int x.1 x.2
def boundI (k : Option (IntKind × Int)) (d : Int) : Int := match k with | some x => x.2 | none => d

theorem run_bounds {P : Program} {b : Bool} {len cap : Nat} {lo hi : Option (IntKind × Int)} {w : World} (h0 : 0 ≤ boundI lo 0) (h1 : boundI lo 0 ≤ boundI hi len) (h2 : boundI hi len ≤ cap) :
    (Instr.sliceBounds b len cap (boundV lo) (boundV hi) none).run P w = .ok ((boundI lo 0).toNat, (boundI hi len).toNat, cap) w := by
  cases lo with
  | none =>
    cases hi with
    | none => simp [Instr.sliceBounds, boundV, boundI]
    | some y =>
      simp only [boundI] at h1 h2
      simp [Instr.sliceBounds, boundV, boundI, Instr.sliceBound, asIntOf, h1, h2]
  | some x =>
    simp only [boundI] at h0
    cases hi with
    | none =>
      simp only [boundI] at h1
      simp [Instr.sliceBounds, boundV, boundI, Instr.sliceBound, asIntOf, h0, h1]
    | some y =>
      simp only [boundI] at h1 h2
      have h3 : 0 ≤ y.2 := Int.le_trans h0 h1
      simp [Instr.sliceBounds, boundV, boundI, Instr.sliceBound, asIntOf, h0, h2, h3]
      omega

theorem run_strSl {P : Program} {t : TypeId} {s : ByteArray} {lo hi : Option (IntKind × Int)} {K : ByteArray → World → Prop} {w : World} (hz : isStr P t = true) (h : strSl s (boundI lo 0) (boundI hi s.size) K w) :
    ∃ r, (Instr.sliceAt t (.string s) (boundV lo) (boundV hi) none).run P w = .ok (.string r) w ∧ K r w := by
  obtain ⟨h0, h1, h2, h⟩ := h
  refine ⟨_, ?_, h⟩
  simp [Instr.sliceAt, Instr.slice, run_underlying' (isStr_ty hz), run_bounds h0 h1 h2]

theorem run_slSl {P : Program} {t : TypeId} {a : Option Addr} {n c z : Nat} {lo hi : Option (IntKind × Int)} {K : Option Addr → Nat → Nat → World → Prop} {w : World} (hz : slElem P t = some z) (h : slSl a c (boundI lo 0) (boundI hi n) z K w) :
    ∃ a' n' c', (Instr.sliceAt t (.slice a n c) (boundV lo) (boundV hi) none).run P w = .ok (.slice a' n' c') w ∧ K a' n' c' w := by
  obtain ⟨e, hd, hs⟩ := run_slElem hz
  obtain ⟨h0, h1, h2, h⟩ := h
  refine ⟨_, _, _, ?_, h⟩
  simp [Instr.sliceAt, Instr.slice, run_underlying' hd, run_bounds h0 h1 h2, run_sizeOf hs]

theorem run_field {P : Program} {t : TypeId} {f : Nat} {cs : Array Value} {v : Value} (h : fieldL P t f cs.toList = some v) (w : World) : (Instr.field t (.agg cs) f).run P w = .ok v w := by
  unfold fieldL at h
  split at h <;> try cases h
  rename_i fs hd
  split at h <;> try cases h
  rename_i fd hf
  rw [nth_eq] at hf
  have hf' : fs[f]? = some fd := by simpa using hf
  split at h
  · rename_i hty hag
    rw [nth_eq] at h
    have h' : cs[fd.offset]? = some v := by simpa using h
    simp [Instr.field, run_underlying' hd, hf', asAgg, part, run_isAgg hty, hag, h']
  · rename_i hty hag
    split at h <;> try cases h
    rename_i j hj
    have hs : sizeB P fd.type j.size = true := by unfold sizeB; rw [hj]; exact Nat.beq_refl _
    simp [Instr.field, run_underlying' hd, hf', asAgg, part, run_isAgg hty, hag, run_sizeOf hs]
    apply Array.ext'
    simp [List.take_drop]
  · cases h

theorem evV_run {rd : Md} {P : Program} {ρ : Operand → Value} {o : Oper} {K : KV} {w : World} (h : evV rd P ρ o.type o.op K w) :
    ∃ v w', (execOp ρ o).run P w = .ok (.value v) w' ∧ (rd ≠ .full → w' = w) ∧ K v w' := by
  have base : ∀ s, valSem ρ o.type o.op = some s → (∃ v w', s.run P w = .ok v w' ∧ (rd ≠ .full → w' = w) ∧ K v w') → ∃ v w', (execOp ρ o).run P w = .ok (.value v) w' ∧ (rd ≠ .full → w' = w) ∧ K v w' := fun s hs hr => run_valSem hs hr
  cases ho : o.op <;> rw [ho] at h base <;> simp only [evV] at h
  case move x => exact base _ rfl ⟨_, w, rfl, fun _ => rfl, h⟩
  case assign x => exact base _ rfl ⟨_, w, rfl, fun _ => rfl, h⟩
  case pick c x y =>
    split at h
    · rename_i b hb
      refine base _ rfl ⟨if b = true then ρ x else ρ y, w, ?_, fun _ => rfl, ?_⟩
      · simp [hb, asBool]
      · unfold br at h
        cases b <;> simpa using h
    · exact h.elim
  case nilCheck x =>
    split at h
    · rename_i p hp
      obtain ⟨a, rfl, h⟩ := h
      exact ⟨_, w, by simp [execOp, ho, hp], fun _ => rfl, h⟩
    · rename_i g fs cs hp
      exact ⟨_, w, by simp [execOp, ho, hp], fun _ => rfl, h⟩
    · exact h.elim
  case load t x =>
    split at h
    · rename_i a ha
      obtain ⟨_, h⟩ := rd_out h
      obtain ⟨v, hr, hk⟩ := ldT_run h
      exact base _ rfl ⟨v, w, by simp [Instr.loadAt, ha, Instr.sureAddr, hr], fun _ => rfl, hk⟩
    · exact h.elim
  case index t x i =>
    split at h
    · rename_i s k i hx hi
      split at h
      · rename_i hz
        obtain ⟨b, hr, hk⟩ := run_strAt hz h
        exact base _ rfl ⟨_, w, by rw [hx, hi]; exact hr, fun _ => rfl, hk⟩
      · exact h.elim
    · rename_i cs k i hx hi
      split at h
      · rename_i n z hz
        obtain ⟨v, hr, hk⟩ := run_aggAt hz h
        exact base _ rfl ⟨_, w, by rw [hx, hi]; exact hr, fun _ => rfl, asTy_out hk⟩
      · exact h.elim
    · exact h.elim
  case indexAddr t x i =>
    split at h
    · rename_i b n c k i hx hi
      split at h
      · rename_i z hz
        obtain ⟨a, hr, hk⟩ := run_slAt hz h
        exact base _ rfl ⟨_, w, by rw [hx, hi]; exact hr, fun _ => rfl, hk⟩
      · exact h.elim
    · rename_i a k i hx hi
      split at h
      · rename_i n z hz
        obtain ⟨a, hr, hk⟩ := run_arAt hz h
        exact base _ rfl ⟨_, w, by rw [hx, hi]; exact hr, fun _ => rfl, hk⟩
      · exact h.elim
    · exact h.elim
  case slice t x lo hi mx =>
    cases mx with
    | some m => simp only [valSem] at h; exact base _ rfl (spt_run _ h)
    | none =>
      simp only at h
      have bs : ∀ lo' hi', lo.map ρ = boundV lo' → hi.map ρ = boundV hi' → (∃ v w', (Instr.sliceAt t (ρ x) (boundV lo') (boundV hi') none).run P w = .ok v w' ∧ (rd ≠ .full → w' = w) ∧ K v w') → ∃ v w', (execOp ρ o).run P w = .ok (.value v) w' ∧ (rd ≠ .full → w' = w) ∧ K v w' := by
        intro lo' hi' e1 e2 hr
        refine base _ rfl ?_
        simp only [e1, e2]
        exact hr
      split at h
      case h_1 s hx hl hh => split at h; (rename_i hz; obtain ⟨r, hr, hk⟩ := run_strSl (P := P) (lo := none) (hi := none) hz h; exact bs none none hl hh ⟨_, w, by rw [hx]; exact hr, fun _ => rfl, hk⟩); exact h.elim
      case h_2 s k l hx hl hh => split at h; (rename_i hz; obtain ⟨r, hr, hk⟩ := run_strSl (P := P) (lo := some (k, l)) (hi := none) hz h; exact bs (some (k, l)) none hl hh ⟨_, w, by rw [hx]; exact hr, fun _ => rfl, hk⟩); exact h.elim
      case h_3 s k l hx hl hh => split at h; (rename_i hz; obtain ⟨r, hr, hk⟩ := run_strSl (P := P) (lo := none) (hi := some (k, l)) hz h; exact bs none (some (k, l)) hl hh ⟨_, w, by rw [hx]; exact hr, fun _ => rfl, hk⟩); exact h.elim
      case h_4 s k l k2 l2 hx hl hh => split at h; (rename_i hz; obtain ⟨r, hr, hk⟩ := run_strSl (P := P) (lo := some (k, l)) (hi := some (k2, l2)) hz h; exact bs (some (k, l)) (some (k2, l2)) hl hh ⟨_, w, by rw [hx]; exact hr, fun _ => rfl, hk⟩); exact h.elim
      case h_5 a n c hx hl hh => split at h; (rename_i hz; obtain ⟨a', n', c', hr, hk⟩ := run_slSl (P := P) (lo := none) (hi := none) hz h; exact bs none none hl hh ⟨_, w, by rw [hx]; exact hr, fun _ => rfl, hk⟩); exact h.elim
      case h_6 a n c k l hx hl hh => split at h; (rename_i hz; obtain ⟨a', n', c', hr, hk⟩ := run_slSl (P := P) (lo := some (k, l)) (hi := none) hz h; exact bs (some (k, l)) none hl hh ⟨_, w, by rw [hx]; exact hr, fun _ => rfl, hk⟩); exact h.elim
      case h_7 a n c k l hx hl hh => split at h; (rename_i hz; obtain ⟨a', n', c', hr, hk⟩ := run_slSl (P := P) (n := n) (lo := none) (hi := some (k, l)) hz h; exact bs none (some (k, l)) hl hh ⟨_, w, by rw [hx]; exact hr, fun _ => rfl, hk⟩); exact h.elim
      case h_8 a n c k l k2 l2 hx hl hh => split at h; (rename_i hz; obtain ⟨a', n', c', hr, hk⟩ := run_slSl (P := P) (n := n) (lo := some (k, l)) (hi := some (k2, l2)) hz h; exact bs (some (k, l)) (some (k2, l2)) hl hh ⟨_, w, by rw [hx]; exact hr, fun _ => rfl, hk⟩); exact h.elim
      case h_9 => exact h.elim
  case binOp op t x y yt => exact base _ rfl (evBin_run h)
  case build t parts =>
    split at h
    · rename_i cs hb
      refine base _ rfl ⟨_, w, buildL_run ?_ w, fun _ => rfl, h⟩
      simpa using hb
    · exact h.elim
  case buildSlice t n parts =>
    split at h
    · rename_i e cs hb
      obtain ⟨hrd, h⟩ := wr_out h
      refine base _ rfl ⟨_, _, bsL_run (e := e) (cs := cs) ?_ w, by simp [hrd], h⟩
      simpa using hb
    · exact h.elim
  case field t x f =>
    split at h
    · rename_i cs hx
      split at h
      · rename_i v hv
        exact base _ rfl ⟨_, w, by rw [hx]; exact run_field hv w, fun _ => rfl, h⟩
      · exact h.elim
    · exact h.elim
  case makeFunc fn fs cs => exact base _ rfl ⟨Value.func fn (fs.map ρ) (cs.map ρ), w, rfl, fun _ => rfl, by rw [show fs.map ρ = (fs.toList.map ρ).toArray from by apply Array.ext'; simp, show cs.map ρ = (cs.toList.map ρ).toArray from by apply Array.ext'; simp]; exact h⟩
  case lookup t x k ok => exact base _ rfl (vrun_mono (fun _ _ h => asRes_out h) h)
  case mapEntry t m k => exact base _ rfl (vrun_mono (fun _ _ h => ment_out h) h)
  case range t x => exact base _ rfl h
  case next it s => exact base _ rfl (vrun_mono (fun _ _ h => by obtain ⟨b, rest, rfl, h⟩ := h; exact h) h)
  case entry it => exact base _ rfl (vrun_mono (fun _ _ h => by obtain ⟨f, rfl, h⟩ := h; exact h) h)
  case convert s d x =>
    split at h
    · rename_i k0 k k1 n hs hd hx
      have h1 : P.underlying s = some (.int k0) := by
        unfold intTy at hs; split at hs <;> first | (cases hs; assumption) | cases hs
      have h2 : P.underlying d = some (.int k) := by
        unfold intTy at hd; split at hd <;> first | (cases hd; assumption) | cases hd
      refine base _ rfl ⟨_, w, ?_, fun _ => rfl, h⟩
      rw [hx]
      simp [convert, run_underlying' h1, run_underlying' h2, Conv.intToInt]
    · exact base _ rfl (vrun_mono (fun _ _ h => asTy_out h) h)
  case makeSlice t l c => exact base _ rfl (vrun_mono (fun _ _ h => asTy_out h) h)
  case typeAssert x t u ok => exact base _ rfl (vrun_mono (fun _ _ h => asRes_out h) h)
  all_goals first | (exact base _ rfl (spt_run _ h)) | (simp only [valSem] at h; exact base _ rfl (spt_run _ h)) | (simp only [valSem] at h; exact h.elim)



/-! ### temporaries that are known -/
abbrev Env := List (Nat × Value)
def eget : Env → Nat → Option Value
  | [], _ => none
  | (t, v) :: r, i => (match Nat.beq t i with | true => some v | false => eget r i)
def knows (env : Env) : Operand → Bool
  | .tmp t => (match eget env t with | some _ => true | none => false)
  | _ => true
def rho (env : Env) : Operand → Value
  | .tmp t => (match eget env t with | some v => v | none => undef)
  | .const v => v
  | .global g => .pointer (some ⟨g, 0, none⟩)
  | .func f => .func (.func f) #[] #[]
def knowsAll (env : Env) : List Operand → Bool
  | [] => true
  | x :: xs => (match knows env x with | true => knowsAll env xs | false => false)

structure Rel (N : Nat) (ds : List Deferred) (env : Env) (a : Act) : Prop where
  size : a.tmps.size = N
  defers : a.defers = ds
  val : ∀ t v, eget env t = some v → a.tmps.getD t undef = v
variable {ds : List Deferred}

theorem Rel.eval {N : Nat} {env : Env} {a : Act} (h : Rel N ds env a) {x : Operand} (hx : knows env x = true) : a.eval x = rho env x := by
  cases x with
  | tmp t =>
    simp only [knows] at hx
    split at hx
    · rename_i v hv; simp only [rho, hv]; exact h.val t v hv
    · cases hx
  | const v => rfl
  | global g => rfl
  | func f => rfl
theorem knowsAll_mem {env : Env} : ∀ {l : List Operand}, knowsAll env l = true → ∀ x ∈ l, knows env x = true
  | [], _, x, hx => by cases hx
  | y :: l, h, x, hx => by
    simp only [knowsAll] at h
    split at h
    · rename_i hy
      rcases List.mem_cons.1 hx with rfl | hx
      · exact hy
      · exact knowsAll_mem h x hx
    · cases h

/-- the operands, as lists -/
def opers : Op → List Operand
  | .build _ ps | .buildSlice _ _ ps => ps.toList.map (·.2)
  | .call c => (match c.callee with | .value f => [f] | .invoke r _ => [r] | .builtin _ => []) ++ c.args.toList
  | .makeFunc _ fs cs => fs.toList ++ cs.toList
  | .makeMap _ r => (match r with | some x => [x] | none => [])
  | .slice _ x lo hi mx => x :: ((match lo with | some x => [x] | none => []) ++ (match hi with | some x => [x] | none => []) ++ (match mx with | some x => [x] | none => []))
  | .select .. | .go .. | .defer .. => []
  | op => op.operands.toList
def badOp : Op → Bool
  | .select .. | .go .. | .defer .. => true
  | _ => false
theorem opers_eq {op : Op} (h : badOp op = false) : ∀ x ∈ op.operands, x ∈ opers op := by
  intro x hx
  cases op <;> simp only [badOp, reduceCtorEq] at h <;> simp only [Op.operands, opers, Call.operands] at hx ⊢ <;> try (first | (simp at hx; done) | simpa using hx)
  case call c => cases hc : c.callee <;> rw [hc] at hx <;> simpa using hx
  case makeMap t r => cases r <;> first | (simp at hx; done) | simpa using hx
  case slice t y lo hi mx => cases lo <;> cases hi <;> cases mx <;> simpa using hx

theorem exec_rel {N : Nat} {env : Env} {a : Act} (h : Rel N ds env a) {o : Oper} (hb : badOp o.op = false) (hk : knowsAll env (opers o.op) = true) : execOp a.eval o = execOp (rho env) o := by
  refine execOp_congr o (fun cs b he => ?_) (fun x hx => h.eval (knowsAll_mem hk x (opers_eq hb x hx)))
  rw [he] at hb; cases hb

def setE (N : Nat) (env : Env) (dst : Option Tmp) (v : Value) (K : Env → World → Prop) (w : World) : Prop :=
  match dst with
  | none => K env w
  | some d => (match Nat.blt d N with | true => K ((d, v) :: env) w | false => fls "slot" w)

theorem eget_cons {t : Nat} {v : Value} {env : Env} {i : Nat} : eget ((t, v) :: env) i = if t = i then some v else eget env i := by
  simp only [eget]
  by_cases h : t = i
  · subst h; simp
  · rw [if_neg h]
    have : Nat.beq t i = false := by
      cases hb : Nat.beq t i
      · rfl
      · exact absurd (Nat.eq_of_beq_eq_true hb) h
    rw [this]

theorem Rel.put {N : Nat} {env : Env} {a : Act} (h : Rel N ds env a) {d : Nat} (hd : d < N) (v : Value) : Rel N ds ((d, v) :: env) (a.put (some d) v) := by
  refine ⟨by simp [Act.put, h.size], by simp [Act.put, h.defers], fun t u hu => ?_⟩
  rw [eget_cons] at hu
  simp only [Act.put, Array.getD_eq_getD_getElem?, Array.getElem?_setIfInBounds]
  by_cases hdt : d = t
  · subst hdt
    rw [if_pos rfl] at hu
    rw [if_pos rfl, if_pos (by rw [h.size]; exact hd)]
    simpa using hu
  · rw [if_neg hdt] at hu
    rw [if_neg hdt]
    have := h.val t u hu
    simpa [Array.getD_eq_getD_getElem?] using this

theorem setE_rel {N : Nat} {env : Env} {a : Act} (h : Rel N ds env a) {dst : Option Tmp} {v : Value} {K : Env → World → Prop} {w : World} (hk : setE N env dst v K w) : ∃ env', Rel N ds env' (a.put dst v) ∧ K env' w := by
  unfold setE at hk
  split at hk
  · exact ⟨env, h, hk⟩
  · split at hk
    · rename_i d hb
      exact ⟨_, h.put (by simpa [Nat.blt_eq] using hb) v, hk⟩
    · exact hk.elim

/-- what a call runs -/
def evCall (r : Md) (P : Program) (ρ : Operand → Value) (ty : TypeId) (c : Call) (K : KV) (w : World) : Prop :=
  match c.callee with
  | .value f => (match ρ f with
    | .func (.func g) fs cs => wr r (fun w => gocall P g (fs.toList ++ c.args.toList.map ρ ++ cs.toList) (fun v w => asRes P ty v K w) w) w
    | _ => fls "call" w)
  | .invoke x name => wr r (fun w => ivk P (ρ x) name (c.args.toList.map ρ) (fun v w => asRes P ty v K w) w) w
  | .builtin b => (match b, c.args.toList.map ρ with
    | .len, [x] => spt r P (Builtin.len_ c.argTypes ty #[x]) K w
    | .cap, [x] => spt r P (Builtin.cap_ c.argTypes ty #[x]) K w
    | .append, [s, x] => bapp r P c.argTypes ty s x (fun v w => asTy P ty v K w) w
    | .copy, [s, x] => bcpy r P c.argTypes ty s x K w
    | .delete, [m, k] => bdel r P c.argTypes ty m k K w
    | .clear, [m] => bclr r P c.argTypes ty m K w
    | .min, [.int k x, .int _ y] => K (.int k (if y < x then y else x)) w
    | .max, [.int k x, .int _ y] => K (.int k (if y > x then y else x)) w
    | _, _ => fls "builtin" w)

/-- one operation -/
def sOp (r : Md) (P : Program) (N : Nat) (o : Oper) (env : Env) (K : Env → World → Prop) (w : World) : Prop :=
  match badOp o.op, knowsAll env (opers o.op) with
  | false, true => (match o.op with
    | .store t x v => (match rho env x with
      | .pointer (some a) => (match isTyB P t, isAggB P t, sizeB P t 1 with
        | true, false, true => wr r (fun w => st a (rho env v) (fun w => setE N env o.dst undef K w) w) w
        | true, true, _ => (match bigA P t, rho env v with
          | some n, .agg cs => wr r (fun w => stN a n cs (fun w => setE N env o.dst undef K w) w) w
          | _, v => spt r P (storeVar t a v) (fun _ w => setE N env o.dst undef K w) w)
        | _, _, _ => fls "store" w)
      | _ => fls "store" w)
    | .mapUpdate t m k x => mset r P t (rho env m) (rho env k) (rho env x) (fun w => setE N env o.dst undef K w) w
    | .insert t m k x => mset r P t (rho env m) (rho env k) (rho env x) (fun w => setE N env o.dst undef K w) w
    | .entryStore t m s x => mest r P t (rho env m) (rho env s) (rho env x) (fun w => setE N env o.dst undef K w) w
    | .call c => evCall r P (rho env) o.type c (fun v w => setE N env o.dst v K w) w
    | op => evV r P (rho env) o.type op (fun v w => setE N env o.dst v K w) w)
  | _, _ => fls "operand" w



theorem wp_value {P : Program} {o : Oper} {a : Act} {w w' : World} {v : Value} {next : Act → World → Prop} {Q : Exit → Act → World → Prop} (hr : (execOp a.eval o).run P w = .ok (.value v) w') (h : next (a.put o.dst v) w') : o.wp P a w next Q := by
  unfold Oper.wp; rw [hr]; exact h
theorem wp_skipped {P : Program} {o : Oper} {a : Act} {w w' : World} {next : Act → World → Prop} {Q : Exit → Act → World → Prop} (hr : (execOp a.eval o).run P w = .ok .skip w') (h : next (a.put o.dst undef) w') : o.wp P a w next Q := by
  unfold Oper.wp; rw [hr]; exact h

/-- what an operation may come to -/
inductive Out (P : Program) (w : World) (K : Value → World → Prop) : Result Next → Prop where
  | value (v : Value) (w' : World) (h : K v w') : Out P w K (.ok (.value v) w')
  | skip (w' : World) (h : K undef w') : Out P w K (.ok .skip w')
  | enter (f : FuncId) (args : Array Value) (h : Calls P f args w (fun e w' => ∃ v, e = .returned v ∧ K v w')) : Out P w K (.ok (.enter f args) w)

theorem Out.wp {P : Program} {o : Oper} {a : Act} {w : World} {K : Value → World → Prop} {next : Act → World → Prop} {Q : Exit → Act → World → Prop} (h : Out P w K ((execOp a.eval o).run P w)) (hn : ∀ v w', K v w' → next (a.put o.dst v) w') : o.wp P a w next Q := by
  unfold Oper.wp
  generalize (execOp a.eval o).run P w = res at h
  cases h with
  | value v w' h => exact hn _ _ h
  | skip w' h => exact hn _ _ h
  | enter f args h => exact h.mono fun e w' ⟨v, he, hk⟩ => by subst he; exact hn _ _ hk

theorem unit_out {P : Program} {ρ : Operand → Value} {o : Oper} {s : Sem Unit} {r : Md} {K : World → Prop} {w : World} (hs : unitSem ρ o.op = some s) (h : spt r P s (fun _ w => K w) w) : ∃ w', (execOp ρ o).run P w = .ok .skip w' ∧ (r ≠ .full → w' = w) ∧ K w' := by
  obtain ⟨x, w', hr, hq, hk⟩ := spt_run _ h
  refine ⟨w', ?_, hq, hk⟩
  rw [unitSem_exec hs, run_bind, hr]; rfl

theorem urun_out {P : Program} {ρ : Operand → Value} {o : Oper} {s : Sem Unit} {r : Md} {K : World → Prop} {w : World} (hs : unitSem ρ o.op = some s) (h : urun r P s K w) : ∃ w', (execOp ρ o).run P w = .ok .skip w' ∧ (r ≠ .full → w' = w) ∧ K w' := by
  obtain ⟨w', hr, hq, hk⟩ := h
  refine ⟨w', ?_, hq, hk⟩
  rw [unitSem_exec hs, run_bind, hr]; rfl

theorem run_store1 {P : Program} {t : TypeId} {a : Addr} {v : Value} {K : World → Prop} {w : World} (h3 : sizeB P t 1 = true) (h : st a v K w) : ∃ w', (Instr.storeAt t (.pointer (some a)) v).run P w = .ok () w' ∧ K w' := by
  obtain ⟨hv, ⟨u, hu⟩, hf, hk⟩ := h
  refine ⟨_, ?_, hk⟩
  have hc : v.cells = #[v] := by cases v <;> first | rfl | simp [Value.oneCell'] at hv
  have e : (storeVar t a v).run P w = .ok () (w.setCell a v) := by
    unfold storeVar
    show ((sizeOf t).bind _).run P w = _
    rw [run_bind, run_sizeOf h3]
    simp only [hc]
    simp only [List.size_toArray, List.length_cons, List.length_nil, Nat.zero_add, ne_eq, not_true_eq_false, if_false]
    simp only [storeCells, Sem.run_bind, Addr.add, if_true, run_store P w a v .plain hv, hu, hf]
    rfl
  simp [Instr.storeAt, Instr.sureAddr, e]

theorem callFunc_go {P : Program} {g : FuncId} {args : Array Value} {w : World} (hg : isGo P g = true) : (callFunc g args).run P w = .ok (.enter g args) w := by
    unfold isGo at hg
    unfold callFunc
    show (match P.funcs[g]? with | none => _ | some fn => _ : Sem Next).run P w = _
    cases hf : P.funcs[g]? with
    | none => rw [hf] at hg; cases hg
    | some fn =>
      rw [hf] at hg
      simp only [Bool.and_eq_true, Bool.not_eq_true'] at hg
      have hb : fn.body.isNone = false := by
        cases hbd : fn.body
        · rw [hbd] at hg; simp at hg
        · rfl
      simp only [hg.1, hb, Bool.false_eq_true, if_false]
      rfl
theorem call_out {P : Program} {g : FuncId} {args : List Value} {K : KV} {w : World} (h : gocall P g args K w) : Out P w K ((callFunc g args.toArray).run P w) := by
  obtain ⟨hg, hc⟩ := h
  rw [callFunc_go hg]
  exact .enter _ _ hc

theorem evCall_out {r : Md} {P : Program} {ρ : Operand → Value} {o : Oper} {c : Call} {K : KV} {w : World} (ho : o.op = .call c) (h : evCall r P ρ o.type c K w) : Out P w K ((execOp ρ o).run P w) ∧ (r ≠ .full → ∃ v, (execOp ρ o).run P w = .ok (.value v) w ∧ K v w) := by
  have vb : ∀ (s : Sem Value), execOp ρ o = (s.bind fun v => .pure (.value v)) → (∃ v w', s.run P w = .ok v w' ∧ (r ≠ .full → w' = w) ∧ K v w') → Out P w K ((execOp ρ o).run P w) ∧ (r ≠ .full → ∃ v, (execOp ρ o).run P w = .ok (.value v) w ∧ K v w) := by
    intro s hs ⟨v, w', hr, hq, hk⟩
    have e : (execOp ρ o).run P w = .ok (.value v) w' := by rw [hs, run_bind, hr]; rfl
    rw [e]
    exact ⟨.value _ _ hk, fun h => by obtain rfl := hq h; exact ⟨v, rfl, hk⟩⟩
  unfold evCall at h
  split at h
  · rename_i f hf
    split at h
    · rename_i g fs cs hv
      obtain ⟨rfl, h⟩ := wr_out h
      refine ⟨?_, by simp⟩
      have := call_out h
      have e : execOp ρ o = callFunc g (fs.toList ++ c.args.toList.map ρ ++ cs.toList).toArray := by
        simp only [execOp, ho]
        show (do let d ← resolve ρ c o.type; invoke d.target d.args : Sem Next) = _
        simp only [resolve, hf, hv, Deferred.ofValue]
        show invoke (.fn (.func g) cs) (fs ++ c.args.map ρ) = _
        simp only [invoke]
        congr 1
        apply Array.ext'
        simp
      rw [e]
      generalize (callFunc g (fs.toList ++ c.args.toList.map ρ ++ cs.toList).toArray).run P w = res at this
      cases this with
      | value v w' h => exact .value _ _ (asRes_out h)
      | skip w' h => exact .skip _ (asRes_out h)
      | enter f args h => exact .enter _ _ (h.mono fun e w' ⟨v, he, hk⟩ => ⟨v, he, asRes_out hk⟩)
    · exact h.elim
  · rename_i x name hf
    obtain ⟨rfl, h⟩ := wr_out h
    refine ⟨?_, by simp⟩
    obtain ⟨t, v, f, rcv, hx, hm, hg⟩ := h
    have := call_out hg
    have e : (execOp ρ o).run P w = (callFunc f (rcv :: c.args.toList.map ρ).toArray).run P w := by
      simp only [execOp, ho]
      show (do let d ← resolve ρ c o.type; invoke d.target d.args : Sem Next).run P w = _
      simp only [resolve, hf]
      show (invoke (.fn (.method name) #[]) (#[ρ x] ++ c.args.map ρ)).run P w = _
      have e0 : (#[ρ x] ++ c.args.map ρ)[0]? = some (ρ x) := by rw [Array.getElem?_append_left (by simp)]; rfl
      have e1 : (#[ρ x] ++ c.args.map ρ).extract 1 (#[ρ x] ++ c.args.map ρ).size = c.args.map ρ := by
        apply Array.ext'
        simp
        exact List.take_of_length_le (by simp)
      simp only [invoke, e0, e1]
      rw [hx]
      simp only [callMethod]
      show ((program).bind _).run P w = _
      rw [run_bind]
      show ((method (P.types.size + Made.depth) t v name).bind _).run P w = _
      rw [run_bind, hm]
      show (callFunc f (#[rcv] ++ c.args.map ρ)).run P w = _
      congr 2
      apply Array.ext'
      simp
    rw [e]
    generalize (callFunc f (rcv :: c.args.toList.map ρ).toArray).run P w = res at this
    cases this with
    | value v w' h => exact .value _ _ (asRes_out h)
    | skip w' h => exact .skip _ (asRes_out h)
    | enter f args h => exact .enter _ _ (h.mono fun e w' ⟨v, he, hk⟩ => ⟨v, he, asRes_out hk⟩)
  · rename_i b hb
    have ex : execOp ρ o = builtin b c.argTypes o.type (c.args.map fun | .const _ => true | _ => false) (c.args.map ρ) := by
      simp only [execOp, ho]
      show (do let d ← resolve ρ c o.type; invoke d.target d.args : Sem Next) = _
      simp only [resolve, hb]
      rfl
    have args1 : ∀ l, c.args.toList.map ρ = l → c.args.map ρ = l.toArray := by
      intro l hl; apply Array.ext'; simp [hl]
    split at h
    · rename_i x hx; exact vb _ (by rw [ex, args1 _ hx]; rfl) (spt_run _ h)
    · rename_i x hx; exact vb _ (by rw [ex, args1 _ hx]; rfl) (spt_run _ h)
    · rename_i s x hx; exact vb _ (by rw [ex, args1 _ hx]; rfl) (vrun_mono (fun _ _ h => asTy_out h) h)
    · rename_i s x hx; exact vb _ (by rw [ex, args1 _ hx]; rfl) h
    · rename_i s x hx; exact vb _ (by rw [ex, args1 _ hx]; rfl) h
    · rename_i x hx; exact vb _ (by rw [ex, args1 _ hx]; rfl) h
    · rename_i k x k2 y hx; exact vb _ (by rw [ex, args1 _ hx]; rfl) ⟨_, w, rfl, fun _ => rfl, h⟩
    · rename_i k x k2 y hx; exact vb _ (by rw [ex, args1 _ hx]; rfl) ⟨_, w, rfl, fun _ => rfl, h⟩
    · exact h.elim

theorem sOp_out {r : Md} {P : Program} {N : Nat} {o : Oper} {env : Env} {a : Act} {K : Env → World → Prop} {w : World} (hrel : Rel N ds env a) (h : sOp r P N o env K w) :
    Out P w (fun v w' => setE N env o.dst v K w') ((execOp a.eval o).run P w) ∧ (r ≠ .full → ∃ v, ((execOp a.eval o).run P w = .ok (.value v) w ∨ (v = undef ∧ (execOp a.eval o).run P w = .ok .skip w)) ∧ setE N env o.dst v K w) := by
  unfold sOp at h
  split at h
  · rename_i hb hk
    rw [exec_rel hrel hb hk]
    have ub : (∃ w', (execOp (rho env) o).run P w = .ok .skip w' ∧ (r ≠ .full → w' = w) ∧ setE N env o.dst undef K w') → Out P w (fun v w' => setE N env o.dst v K w') ((execOp (rho env) o).run P w) ∧ (r ≠ .full → ∃ v, ((execOp (rho env) o).run P w = .ok (.value v) w ∨ (v = undef ∧ (execOp (rho env) o).run P w = .ok .skip w)) ∧ setE N env o.dst v K w) := by
      rintro ⟨w', hr, hq, hk⟩
      rw [hr]
      exact ⟨.skip _ hk, fun h => by obtain rfl := hq h; exact ⟨undef, .inr ⟨rfl, rfl⟩, hk⟩⟩
    have vb : (∃ v w', (execOp (rho env) o).run P w = .ok (.value v) w' ∧ (r ≠ .full → w' = w) ∧ setE N env o.dst v K w') → Out P w (fun v w' => setE N env o.dst v K w') ((execOp (rho env) o).run P w) ∧ (r ≠ .full → ∃ v, ((execOp (rho env) o).run P w = .ok (.value v) w ∨ (v = undef ∧ (execOp (rho env) o).run P w = .ok .skip w)) ∧ setE N env o.dst v K w) := by
      rintro ⟨v, w', hr, hq, hk⟩
      rw [hr]
      exact ⟨.value _ _ hk, fun h => by obtain rfl := hq h; exact ⟨v, .inl rfl, hk⟩⟩
    split at h
    · rename_i t x v ho
      split at h
      · rename_i p hp
        split at h
        · rename_i _ _ h3
          obtain ⟨rfl, h⟩ := wr_out h
          obtain ⟨w', hr, hk⟩ := run_store1 h3 h
          refine ub ⟨w', ?_, by simp, hk⟩
          rw [unitSem_exec (s := Instr.storeAt t (rho env x) (rho env v)) (by rw [ho]; rfl), run_bind, hp, hr]; rfl
        · split at h
          · rename_i _ _ _ n cs hb hv
            obtain ⟨rfl, h⟩ := wr_out h
            obtain ⟨h1, h2, h3, h4, hk⟩ := h
            obtain ⟨-, -, -, hi⟩ := bigA_out hb
            obtain ⟨b, off, sp⟩ := p
            simp only at h2 h3 hk
            subst h2
            have hr := run_storeVar_mid (P := P) w b off t cs (by rw [h1]; exact h3) (by rw [h1]; exact hi) h4
            refine ub ⟨_, ?_, by simp, hk⟩
            rw [unitSem_exec (s := Instr.storeAt t (rho env x) (rho env v)) (by rw [ho]; rfl), run_bind, hp, hv]
            simp [Instr.storeAt, Instr.sureAddr, hr]
          · obtain ⟨x', w', hr, hq, hk⟩ := spt_run _ h
            refine ub ⟨w', ?_, hq, hk⟩
            rw [unitSem_exec (s := Instr.storeAt t (rho env x) (rho env v)) (by rw [ho]; rfl), run_bind, hp]
            simp [Instr.storeAt, Instr.sureAddr, hr]
        · exact h.elim
      · exact h.elim
    · rename_i ho; exact ub (urun_out (by rw [ho]; rfl) h)
    · rename_i ho; exact ub (urun_out (by rw [ho]; rfl) h)
    · rename_i ho; exact ub (urun_out (by rw [ho]; rfl) h)
    · rename_i c ho
      obtain ⟨h1, h2⟩ := evCall_out ho h
      refine ⟨h1, fun hr => ?_⟩
      obtain ⟨v, hv, hk⟩ := h2 hr
      exact ⟨v, .inl hv, hk⟩
    · exact vb (evV_run h)
  · exact h.elim



def gtmp : List Oper → Nat → Option Tmp
  | [], _ => none
  | o :: _, 0 => o.dst
  | _ :: os, n + 1 => gtmp os n
theorem gtmp_eq : ∀ (l : List Oper) (j : Nat), gtmp l j = (l[j]?).bind (·.dst)
  | [], j => by simp [gtmp]
  | o :: _, 0 => by simp [gtmp]
  | _ :: os, n + 1 => by simp [gtmp, gtmp_eq os n]

/-- it takes a part of a map's entry -/
def isEnt (ops : List Oper) (o : Oper) : Bool := match o.op with
  | .extract (.tmp t) _ => ops.any (fun q => (match q.op with | .entry _ => true | _ => false) && (match q.dst with | some d => Nat.beq d t | none => false))
  | _ => false
/-- it looks whether an interface value is nil -/
def isIfN (P : Program) (ops : List Oper) (o : Oper) : Bool := match o.op with
  | .nilCheck (.tmp t) => ops.any (fun q => (match q.op with | .load ty _ => isIfTy P ty | _ => false) && (match q.dst with | some d => Nat.beq d t | none => false))
  | _ => false
def nif (v : Value) (X : World → Prop) (w : World) : Prop := (∃ t x, v = .iface t x) ∧ X w
theorem nif_run {P : Program} {ρ : Operand → Value} {o : Oper} {x : Operand} {X : World → Prop} {w : World} (ho : o.op = .nilCheck x) (h : nif (ρ x) X w) : (execOp ρ o).run P w = .ok (.value (ρ x)) w := by
  obtain ⟨⟨t, y, he⟩, -⟩ := h
  simp only [execOp, ho]
  rw [he]
  rfl
def nckX : Op → Operand
  | .nilCheck x => x
  | _ => .const undef
def sOpE (r : Md) (P : Program) (N : Nat) (ops : List Oper) (o : Oper) (env : Env) (K : Env → World → Prop) (w : World) : Prop :=
  match isEnt ops o, isIfN P ops o with
  | true, _ => (match badOp o.op, knowsAll env (opers o.op) with
    | false, true => evV r P (rho env) o.type o.op (fun v w => asTy P o.type v (fun v w => setE N env o.dst v K w) w) w
    | _, _ => fls "operand" w)
  | false, true => (match knowsAll env (opers o.op) with
    | true => nif (rho env (nckX o.op)) (fun w => setE N env o.dst (rho env (nckX o.op)) K w) w
    | false => fls "operand" w)
  | false, false => sOp r P N o env K w
theorem isIfN_out {P : Program} {ops : List Oper} {o : Oper} (h : isIfN P ops o = true) : ∃ x, o.op = .nilCheck x ∧ nckX o.op = x ∧ badOp o.op = false := by
  unfold isIfN at h
  split at h
  · rename_i t ho; exact ⟨_, ho, by rw [ho]; rfl, by rw [ho]; rfl⟩
  · cases h
theorem sOpE_out {r : Md} {P : Program} {N : Nat} {ops : List Oper} {o : Oper} {env : Env} {a : Act} {K : Env → World → Prop} {w : World} (hrel : Rel N ds env a) (h : sOpE r P N ops o env K w) :
    Out P w (fun v w' => setE N env o.dst v K w') ((execOp a.eval o).run P w) ∧ (r ≠ .full → ∃ v, ((execOp a.eval o).run P w = .ok (.value v) w ∨ (v = undef ∧ (execOp a.eval o).run P w = .ok .skip w)) ∧ setE N env o.dst v K w) := by
  unfold sOpE at h
  split at h
  · split at h
    · rename_i hb hk
      rw [exec_rel hrel hb hk]
      obtain ⟨v, w', hr, hq, hk⟩ := evV_run h
      rw [hr]
      exact ⟨.value _ _ (asTy_out hk), fun h => by obtain rfl := hq h; exact ⟨v, .inl rfl, asTy_out hk⟩⟩
    · exact h.elim
  · rename_i hi
    split at h
    · rename_i hk
      obtain ⟨x, ho, hx, hb⟩ := isIfN_out hi
      rw [exec_rel hrel hb hk]
      rw [hx] at h
      rw [nif_run ho h]
      exact ⟨.value _ _ h.2, fun _ => ⟨_, .inl rfl, h.2⟩⟩
    · exact h.elim
  · exact sOp_out hrel h
theorem sOpE_good {r : Md} {P : Program} {N : Nat} {ops : List Oper} {o : Oper} {env : Env} {K : Env → World → Prop} {w : World} (h : sOpE r P N ops o env K w) (hg : sOp r P N o env K w → badOp o.op = false) : badOp o.op = false := by
  unfold sOpE at h
  split at h
  · split at h
    · assumption
    · exact h.elim
  · rename_i hi; obtain ⟨x, ho, hx, hb⟩ := isIfN_out hi; exact hb
  · exact hg h

/-- the operations of a region, one behind the other -/
def sOps (r : Md) (P : Program) (N : Nat) (ops : List Oper) : List Oper → Env → (Env → World → Prop) → World → Prop
  | [], env, K, w => K env w
  | o :: rest, env, K, w => (match o.guard with
    | none => sOpE r P N ops o env (fun env w => sOps r P N ops rest env K w) w
    | some (j, want) => (match gtmp ops j with
      | some t => (match eget env t with
        | some (.bool b) => br b
          (match want with
            | true => sOpE r P N ops o ((t, .bool true) :: env) (fun env w => sOps r P N ops rest env K w)
            | false => setE N ((t, .bool true) :: env) o.dst undef (fun env w => sOps r P N ops rest env K w))
          (match want with
            | false => sOpE r P N ops o ((t, .bool false) :: env) (fun env w => sOps r P N ops rest env K w)
            | true => setE N ((t, .bool false) :: env) o.dst undef (fun env w => sOps r P N ops rest env K w)) w
        | some (.tuple _) => setE N env o.dst undef (fun env w => sOps r P N ops rest env K w) w
        | _ => fls "guard" w)
      | none => fls "guard" w))

def dsts : List Oper → List Nat
  | [] => []
  | o :: os => (match o.dst with | some d => d :: dsts os | none => dsts os)

def Ext (wrs : List Nat) (env env' : Env) : Prop := ∀ t, t ∉ wrs → eget env' t = eget env t
theorem Ext.refl (wrs : List Nat) (env : Env) : Ext wrs env env := fun _ _ => rfl
theorem Ext.mono {l l' : List Nat} {env env' : Env} (h : Ext l env env') (hl : ∀ t ∈ l, t ∈ l') : Ext l' env env' := fun t ht => h t (fun hm => ht (hl t hm))
theorem Ext.trans {l : List Nat} {a b c : Env} (h : Ext l a b) (k : Ext l b c) : Ext l a c := fun t ht => (k t ht).trans (h t ht)

theorem setE_ext {N : Nat} {env : Env} {a : Act} (h : Rel N ds env a) {dst : Option Tmp} {v : Value} {K : Env → World → Prop} {w : World} {l : List Nat} (hl : ∀ d, dst = some d → d ∈ l) (hk : setE N env dst v K w) : ∃ env', Rel N ds env' (a.put dst v) ∧ Ext l env env' ∧ K env' w := by
  unfold setE at hk
  split at hk
  · exact ⟨env, h, Ext.refl _ _, hk⟩
  · split at hk
    · rename_i d _ hb
      refine ⟨_, h.put (by simpa [Nat.blt_eq] using hb) v, fun t ht => ?_, hk⟩
      rw [eget_cons, if_neg (fun (e : d = t) => ht (by rw [← e]; exact hl d rfl))]
    · exact hk.elim

theorem Rel.lit {N : Nat} {env : Env} {a : Act} (h : Rel N ds env a) {t : Nat} {b : Bool} (ht : eget env t = some (.bool b)) : Rel N ds ((t, .bool b) :: env) a := by
  refine ⟨h.size, h.defers, fun u v hu => ?_⟩
  rw [eget_cons] at hu
  split at hu
  · rename_i e; subst e; cases hu; exact h.val _ _ ht
  · exact h.val _ _ hu
theorem Ext.lit {l : List Nat} {env : Env} {t : Nat} {b : Bool} (ht : eget env t = some (.bool b)) : Ext l env ((t, .bool b) :: env) := by
  intro u _
  rw [eget_cons]
  split
  · rename_i e; subst e; exact ht.symm
  · rfl

theorem rel_yield {N : Nat} {env : Env} {a : Act} (h : Rel N ds env a) {ops : List Oper} {j t : Nat} {b : Bool} (hj : gtmp ops j = some t) (ht : eget env t = some (.bool b)) : yielded ops.toArray a.tmps j = some b := by
  unfold yielded
  rw [gtmp_eq] at hj
  have hv := h.val t _ ht
  have : a.tmps[t]? = some (.bool b) := by
    rw [Array.getD_eq_getD_getElem?] at hv
    cases hg : a.tmps[t]? with
    | none => rw [hg] at hv; simp [undef] at hv
    | some v => rw [hg] at hv; simp at hv; rw [hv]
  simp [hj, this]

theorem rel_yield' {N : Nat} {env : Env} {a : Act} (h : Rel N ds env a) {ops : List Oper} {j t : Nat} {vs : Array Value} (hj : gtmp ops j = some t) (ht : eget env t = some (.tuple vs)) : yielded ops.toArray a.tmps j = none := by
  unfold yielded
  rw [gtmp_eq] at hj
  have hv := h.val t _ ht
  cases hg : a.tmps[t]? with
  | none => simp [hj, hg]
  | some v =>
    rw [Array.getD_eq_getD_getElem?, hg] at hv
    simp at hv
    simp [hj, hg, hv]

theorem sOps_wp {P : Program} {N : Nat} {ops : List Oper} {Q : Exit → Act → World → Prop} {L : List Nat} : ∀ (l : List Oper) {env : Env} {a : Act} {K : Env → World → Prop} {w : World}, (∀ t ∈ dsts l, t ∈ L) → sOps .full P N ops l env K w → Rel N ds env a →
    (∀ env' a' w', Rel N ds env' a' → Ext L env env' → K env' w' → Q .normal a' w') → wpList P ops.toArray Q l a w
  | [], env, a, K, w, _, h, hrel, hK => hK env a w hrel (Ext.refl _ _) h
  | o :: rest, env, a, K, w, hL, h, hrel, hK => by
    have hd : ∀ d, o.dst = some d → d ∈ L := fun d hd => hL d (by simp [dsts, hd])
    have hL' : ∀ t ∈ dsts rest, t ∈ L := fun t ht => hL t (by unfold dsts; split <;> simp [ht])
    have run : ∀ (env1 : Env), Ext L env env1 → Rel N ds env1 a → sOpE .full P N ops o env1 (fun env w => sOps .full P N ops rest env K w) w → o.wp P a w (wpList P ops.toArray Q rest) Q := by
      intro env1 he hr hs
      refine (sOpE_out hr hs).1.wp (fun v w' hk => ?_)
      obtain ⟨env2, hr2, he2, hk2⟩ := setE_ext hr hd hk
      exact sOps_wp rest hL' hk2 hr2 (fun env' a' w' h1 h2 h3 => hK env' a' w' h1 ((he.trans he2).trans h2) h3)
    have skp : ∀ (env1 : Env), Ext L env env1 → Rel N ds env1 a → setE N env1 o.dst undef (fun env w => sOps .full P N ops rest env K w) w → wpList P ops.toArray Q rest (a.put o.dst undef) w := by
      intro env1 he hr hs
      obtain ⟨env2, hr2, he2, hk2⟩ := setE_ext hr hd hs
      exact sOps_wp rest hL' hk2 hr2 (fun env' a' w' h1 h2 h3 => hK env' a' w' h1 ((he.trans he2).trans h2) h3)
    unfold wpList
    unfold sOps at h
    split at h
    · rename_i hg
      rw [if_pos (by simp [Region.wanted, hg])]
      exact .inl (run env (Ext.refl _ _) hrel h)
    · rename_i j want hg
      split at h
      · rename_i t ht
        split at h
        · rename_i b hb
          have hy := rel_yield hrel ht hb
          unfold br at h
          cases b <;> cases want <;> simp only [if_true, if_false, Bool.false_eq_true] at h
          · rw [if_pos (by simp [Region.wanted, hg, hy])]; exact .inl (run _ (Ext.lit hb) (hrel.lit hb) h)
          · rw [if_neg (by simp [Region.wanted, hg, hy])]; exact skp _ (Ext.lit hb) (hrel.lit hb) h
          · rw [if_neg (by simp [Region.wanted, hg, hy])]; exact skp _ (Ext.lit hb) (hrel.lit hb) h
          · rw [if_pos (by simp [Region.wanted, hg, hy])]; exact .inl (run _ (Ext.lit hb) (hrel.lit hb) h)
        · rename_i vs hb
          have hy := rel_yield' hrel ht hb
          rw [if_neg (by simp [Region.wanted, hg, hy])]; exact skp _ (Ext.refl _ _) hrel h
        · exact h.elim
      · exact h.elim

theorem sOps_still {P : Program} {N : Nat} {ops : List Oper} {Q : Act → Prop} {L : List Nat} : ∀ (l : List Oper) {env : Env} {a : Act} {K : Env → World → Prop} {w : World}, (∀ t ∈ dsts l, t ∈ L) → sOps .see P N ops l env K w → Rel N ds env a →
    (∀ env' a', Rel N ds env' a' → Ext L env env' → K env' w → Q a') → wpStill P ops.toArray w Q l a
  | [], env, a, K, w, _, h, hrel, hK => hK env a hrel (Ext.refl _ _) h
  | o :: rest, env, a, K, w, hL, h, hrel, hK => by
    have hd : ∀ d, o.dst = some d → d ∈ L := fun d hd => hL d (by simp [dsts, hd])
    have hL' : ∀ t ∈ dsts rest, t ∈ L := fun t ht => hL t (by unfold dsts; split <;> simp [ht])
    have run : ∀ (env1 : Env), Ext L env env1 → Rel N ds env1 a → sOpE .see P N ops o env1 (fun env w => sOps .see P N ops rest env K w) w → o.still P a w (wpStill P ops.toArray w Q rest) := by
      intro env1 he hr hs
      obtain ⟨v, hv, hk⟩ := (sOpE_out hr hs).2 (by simp)
      obtain ⟨env2, hr2, he2, hk2⟩ := setE_ext hr hd hk
      have fin := sOps_still rest hL' hk2 hr2 (fun env' a' h1 h2 h3 => hK env' a' h1 ((he.trans he2).trans h2) h3)
      unfold Oper.still
      rcases hv with hv | ⟨rfl, hv⟩ <;> rw [hv] <;> exact ⟨rfl, fin⟩
    have skp : ∀ (env1 : Env), Ext L env env1 → Rel N ds env1 a → setE N env1 o.dst undef (fun env w => sOps .see P N ops rest env K w) w → wpStill P ops.toArray w Q rest (a.put o.dst undef) := by
      intro env1 he hr hs
      obtain ⟨env2, hr2, he2, hk2⟩ := setE_ext hr hd hs
      exact sOps_still rest hL' hk2 hr2 (fun env' a' h1 h2 h3 => hK env' a' h1 ((he.trans he2).trans h2) h3)
    unfold wpStill
    unfold sOps at h
    split at h
    · rename_i hg
      rw [if_pos (by simp [Region.wanted, hg])]
      exact run env (Ext.refl _ _) hrel h
    · rename_i j want hg
      split at h
      · rename_i t ht
        split at h
        · rename_i b hb
          have hy := rel_yield hrel ht hb
          unfold br at h
          cases b <;> cases want <;> simp only [if_true, if_false, Bool.false_eq_true] at h
          · rw [if_pos (by simp [Region.wanted, hg, hy])]; exact run _ (Ext.lit hb) (hrel.lit hb) h
          · rw [if_neg (by simp [Region.wanted, hg, hy])]; exact skp _ (Ext.lit hb) (hrel.lit hb) h
          · rw [if_neg (by simp [Region.wanted, hg, hy])]; exact skp _ (Ext.lit hb) (hrel.lit hb) h
          · rw [if_pos (by simp [Region.wanted, hg, hy])]; exact run _ (Ext.lit hb) (hrel.lit hb) h
        · rename_i vs hb
          have hy := rel_yield' hrel ht hb
          rw [if_neg (by simp [Region.wanted, hg, hy])]; exact skp _ (Ext.refl _ _) hrel h
        · exact h.elim
      · exact h.elim

/-! ### regions -/
def readOp : Op → Bool
  | .move _ | .assign _ | .pick .. | .load .. | .nilCheck _ | .index .. | .indexAddr .. | .slice .. | .binOp .. | .unOp .. | .build .. | .field .. | .fieldAddr .. | .extract .. | .lookup .. | .makeFunc .. | .makeInterface .. => true
  | .call c => (match c.callee with
    | .builtin .len | .builtin .cap | .builtin .min | .builtin .max => true
    | _ => false)
  | _ => false
def frontN : List Oper → Nat
  | [] => 0
  | o :: os => (match readOp o.op with | true => frontN os + 1 | false => 0)
def takeL {α : Type} : Nat → List α → List α
  | 0, _ => []
  | _, [] => []
  | n + 1, x :: xs => x :: takeL n xs
def dropL {α : Type} : Nat → List α → List α
  | 0, l => l
  | _, [] => []
  | n + 1, _ :: xs => dropL n xs
theorem takeL_eq {α : Type} : ∀ (n : Nat) (l : List α), takeL n l = l.take n
  | 0, l => by simp [takeL]
  | n + 1, [] => by simp [takeL]
  | n + 1, x :: xs => by simp [takeL, takeL_eq n xs]
theorem dropL_eq {α : Type} : ∀ (n : Nat) (l : List α), dropL n l = l.drop n
  | 0, l => by simp [dropL]
  | n + 1, [] => by simp [dropL]
  | n + 1, x :: xs => by simp [dropL, dropL_eq n xs]

def sReg (P : Program) (N : Nat) (ops : List Oper) (draw : Bool) (env : Env) (K : Env → World → Prop) (w : World) : Prop :=
  match draw with
  | false => sOps .full P N ops ops env K w
  | true => sOps .see P N ops (takeL (frontN ops) ops) env (fun env w => sOps .full P N ops (dropL (frontN ops) ops) env K w) w.drew

/-- that a region that draws may be walked in the text's order (a closed test) -/
def regOk (ops : Array Oper) : Bool :=
  if frontN ops.toList < ops.size then Region.lexTailB .any ops (frontN ops.toList) else Region.lexB .any ops

theorem dsts_take {l : List Oper} {n : Nat} : ∀ t ∈ dsts (l.take n), t ∈ dsts l := by
  induction l generalizing n with
  | nil => simp
  | cons o l ih =>
    cases n with
    | zero => simp [dsts]
    | succ n =>
      intro t ht
      simp only [List.take_succ_cons, dsts] at ht ⊢
      cases hd : o.dst with
      | none => rw [hd] at ht; exact ih _ ht
      | some d =>
        rw [hd] at ht
        rcases List.mem_cons.1 ht with rfl | ht
        · exact List.mem_cons_self
        · exact List.mem_cons_of_mem _ (ih _ ht)
theorem dsts_drop {l : List Oper} {n : Nat} : ∀ t ∈ dsts (l.drop n), t ∈ dsts l := by
  induction l generalizing n with
  | nil => simp
  | cons o l ih =>
    cases n with
    | zero => simp
    | succ n =>
      intro t ht
      simp only [List.drop_succ_cons] at ht
      have := ih _ ht
      unfold dsts; split <;> simp [this]

theorem sReg_wp {P : Program} {N : Nat} {id : Nat} {ops : Array Oper} {draw : Bool} {Q : Exit → Act → World → Prop} {env : Env} {a : Act} {K : Env → World → Prop} {w : World} (hm : P.follows .mixedOrders = true) (hok : draw = true → regOk ops = true)
    (h : sReg P N ops.toList draw env K w) (hrel : Rel N ds env a) (hK : ∀ env' a' w', Rel N ds env' a' → Ext (dsts ops.toList) env env' → K env' w' → Q .normal a' w') : (Code.region id ops draw).wp P Q a w := by
  cases draw
  · refine wp_region_list ?_
    have := sOps_wp (Q := Q) ops.toList (fun t ht => ht) h hrel hK
    simpa using this
  · have hB := hok rfl
    unfold regOk at hB
    obtain ⟨l⟩ := ops
    have h' : sOps .see P N l (takeL (frontN l) l) env (fun env w => sOps .full P N l (dropL (frontN l) l) env K w) w.drew := h
    rw [takeL_eq, dropL_eq] at h'
    split at hB
    · refine wp_region_still_tail (frontN l) hm hB ?_
      exact sOps_still (L := dsts l) (l.take (frontN l)) dsts_take h' hrel (fun env' a' h1 h2 h3 => sOps_wp (L := dsts l) (l.drop (frontN l)) dsts_drop h3 h1 (fun env2 a2 w2 g1 g2 g3 => hK env2 a2 w2 g1 (h2.trans g2) g3))
    · rename_i hlt
      have e : l.take (frontN l) = l := List.take_of_length_le (by simpa using hlt)
      have e2 : l.drop (frontN l) = [] := List.drop_eq_nil_of_le (by simpa using hlt)
      rw [e, e2] at h'
      refine wp_region_still_lit hm hB ?_
      exact sOps_still (L := dsts l) l (fun t ht => ht) h' hrel (fun env' a' h1 h2 h3 => hK env' a' _ h1 h2 h3)


/-! ### loops: the slots that a round writes and that hold something when it begins -/
def leafV : Value → Leaf
  | .int k _ => .int k
  | .bool _ => .bool
  | .string _ => .str
  | .slice _ _ _ => .slice
  | .pointer _ => .ptr
  | .map _ => .map
  | _ => .any
abbrev SlotsP : List (Nat × Leaf) → Type
  | [] => Unit
  | (_, l) :: r => l.P × SlotsP r
def slotsE : (s : List (Nat × Leaf)) → SlotsP s → Env
  | [], _ => []
  | (t, l) :: r, x => (t, l.val x.1) :: slotsE r x.2
def unval : (l : Leaf) → Value → Option l.P
  | .int k, .int k' n => (match decide (k = k') with | true => some n | false => none)
  | .bool, .bool b => some b
  | .str, .string s => some s
  | .slice, .slice a n c => some (a, n, c)
  | .ptr, .pointer p => some p
  | .map, .map m => some m
  | .any, v => some v
  | _, _ => none
def unslots : (s : List (Nat × Leaf)) → Env → Option (SlotsP s)
  | [], _ => some ()
  | (t, l) :: r, env => (match eget env t with
    | some v => (match unval l v, unslots r env with
      | some x, some y => some (x, y)
      | _, _ => none)
    | none => none)
def memN (t : Nat) : List Nat → Bool
  | [] => false
  | u :: us => (match Nat.beq t u with | true => true | false => memN t us)
def dropE (l : List Nat) : Env → Env
  | [] => []
  | (t, v) :: r => (match memN t l with | true => dropE l r | false => (t, v) :: dropE l r)
def slotsOf (l : List Nat) : Env → List Nat → List (Nat × Leaf)
  | [], _ => []
  | (t, v) :: r, seen => (match memN t l, memN t seen with
    | true, false => (t, leafV v) :: slotsOf l r (t :: seen)
    | _, _ => slotsOf l r seen)
def inL (l : List Nat) : List (Nat × Leaf) → Bool
  | [] => true
  | (t, _) :: r => (match memN t l with | true => inL l r | false => false)

theorem memN_iff {t : Nat} : ∀ {l : List Nat}, memN t l = true ↔ t ∈ l
  | [] => by simp [memN]
  | u :: us => by
    simp only [memN, List.mem_cons]
    cases hb : Nat.beq t u
    · have : t ≠ u := fun e => by subst e; simp at hb
      simp [this, memN_iff (l := us)]
    · simp [Nat.eq_of_beq_eq_true hb]

theorem unval_some {l : Leaf} {v : Value} {x : l.P} (h : unval l v = some x) : v = l.val x := by
  cases l <;> cases v <;> simp only [unval, Option.some.injEq, reduceCtorEq] at h <;> try (subst h; rfl)
  · rename_i k k' n
    split at h
    · rename_i hk
      have hk' : k = k' := by simpa using hk
      subst hk'
      cases h; rfl
    · cases h

theorem unslots_some : ∀ {s : List (Nat × Leaf)} {env : Env} {x : SlotsP s}, unslots s env = some x → ∀ t v, eget (slotsE s x) t = some v → eget env t = some v
  | [], env, x, h, t, v, hv => by cases hv
  | (u, l) :: r, env, x, h, t, v, hv => by
    simp only [unslots] at h
    split at h
    · rename_i uv hu
      split at h
      · rename_i y z hy hz
        cases h
        simp only [slotsE] at hv
        rw [eget_cons] at hv
        split at hv
        · rename_i e; subst e
          cases hv
          rw [hu, unval_some hy]
        · exact unslots_some hz t v hv
      · cases h
    · cases h

theorem eget_dropE {l : List Nat} {t : Nat} (ht : t ∉ l) : ∀ {env : Env}, eget (dropE l env) t = eget env t
  | [] => rfl
  | (u, v) :: r => by
    simp only [dropE]
    split
    · rename_i hm
      have : u ≠ t := fun e => ht (e ▸ memN_iff.1 hm)
      rw [eget_cons, if_neg this]; exact eget_dropE ht
    · rw [eget_cons, eget_cons, eget_dropE ht]
theorem eget_dropE_in {l : List Nat} {t : Nat} (ht : t ∈ l) : ∀ {env : Env}, eget (dropE l env) t = none
  | [] => rfl
  | (u, v) :: r => by
    simp only [dropE]
    split
    · exact eget_dropE_in ht
    · rename_i hm
      have : u ≠ t := fun e => by subst e; rw [memN_iff.2 ht] at hm; cases hm
      rw [eget_cons, if_neg this]; exact eget_dropE_in ht
theorem eget_append {a b : Env} {t : Nat} : eget (a ++ b) t = match eget a t with | some v => some v | none => eget b t := by
  induction a with
  | nil => rfl
  | cons x r ih =>
    obtain ⟨u, v⟩ := x
    simp only [List.cons_append]
    rw [eget_cons, eget_cons]
    split
    · rfl
    · exact ih
theorem inL_slots {l : List Nat} : ∀ {s : List (Nat × Leaf)} (_ : inL l s = true) (x : SlotsP s) {t : Nat}, t ∉ l → eget (slotsE s x) t = none
  | [], _, _, _, _ => rfl
  | (u, lf) :: r, h, x, t, ht => by
    simp only [inL] at h
    split at h
    · rename_i hm
      simp only [slotsE]
      rw [eget_cons, if_neg (fun (e : u = t) => ht (e ▸ memN_iff.1 hm))]
      exact inL_slots h x.2 ht
    · cases h

def kindL : Nat → Leaf
  | 0 => .int .i64
  | 1 => .bool
  | 2 => .str
  | 3 => .slice
  | 4 => .ptr
  | 5 => .map
  | 7 => .int .u8
  | _ => .any
def slotsJ : List Nat → List (Nat × Leaf)
  | t :: k :: r => (t, kindL k) :: slotsJ r
  | _ => []
def join {X : Type} (A : (X → World → Prop) → World → Prop) (B : X → World → Prop) (w : World) : Prop := ∃ I : X → World → Prop, A I w ∧ ∀ x w, I x w → B x w
/-- what is known where ways of a region come together -/
theorem Rel.jn {N : Nat} {ds : List Deferred} {l L : List Nat} {s : List (Nat × Leaf)} {env env' : Env} {a : Act} {x : SlotsP s} (hr : Rel N ds env' a) (he : Ext l env env') (hx : unslots s env' = some x) : Rel N ds (slotsE s x ++ dropE l env) a := by
  refine ⟨hr.size, hr.defers, fun t v hv => ?_⟩
  rw [eget_append] at hv
  split at hv
  · rename_i u hu
    cases hv
    exact hr.val t _ (unslots_some hx t _ hu)
  · have ht : t ∉ l := fun h => by rw [eget_dropE_in h] at hv; cases hv
    rw [eget_dropE ht] at hv
    exact hr.val t v (by rw [he t ht]; exact hv)
theorem Ext.jn {l L : List Nat} {s : List (Nat × Leaf)} {env : Env} {x : SlotsP s} (hl : ∀ t ∈ l, t ∈ L) (hin : inL l s = true) : Ext L env (slotsE s x ++ dropE l env) := by
  intro t ht
  have ht' : t ∉ l := fun h => ht (hl t h)
  rw [eget_append, inL_slots hin x ht', eget_dropE ht']


/-! ### a frame that may be a round's: the call of a round -/
abbrev Fr (r : Option Nat) : Fence := { Fence.wide with round := r }
/-- the call of yield -/
def goyield (P : Program) (l : Nat) (args : List Value) (K : KV) (w : World) : Prop :=
  ∃ fn tmps assign body, (Instr.yield l args.toArray).run P w = .ok (.round l fn tmps assign body) w ∧ RoundIn Fence.wide 0 P l fn tmps assign body w (fun e w' => ∃ v, e = .returned v ∧ K v w')
inductive OutY (P : Program) (w : World) (K : Value → World → Prop) : Result Next → Prop where
  | of (res : Result Next) (h : Out P w K res) : OutY P w K res
  | round (l : Nat) (f : FuncId) (tmps : Array Value) (assign body : Code) (h : RoundIn Fence.wide 0 P l f tmps assign body w (fun e w' => ∃ v, e = .returned v ∧ K v w')) : OutY P w K (.ok (.round l f tmps assign body) w)
theorem Out.monoK {P : Program} {w : World} {K K' : Value → World → Prop} {r : Result Next} (h : Out P w K r) (hk : ∀ v w', K v w' → K' v w') : Out P w K' r := by
  cases h with
  | value v w' h => exact .value _ _ (hk _ _ h)
  | skip w' h => exact .skip _ (hk _ _ h)
  | enter f args h => exact .enter _ _ (h.mono fun e w' ⟨v, he, hv⟩ => ⟨v, he, hk _ _ hv⟩)
theorem OutY.mono {P : Program} {w : World} {K K' : Value → World → Prop} {r : Result Next} (h : OutY P w K r) (hk : ∀ v w', K v w' → K' v w') : OutY P w K' r := by
  cases h with
  | of _ h => exact .of _ (h.monoK hk)
  | round l f tmps assign body h => exact .round _ _ _ _ _ (h.mono fun e w' ⟨v, he, hv⟩ => ⟨v, he, hk _ _ hv⟩)
theorem roundIn_Fr {r : Option Nat} {n : Nat} {P : Program} {l : Nat} {f : FuncId} {tmps : Array Value} {assign body : Code} {w : World} {R : Ending → World → Prop} (h : RoundIn Fence.wide 0 P l f tmps assign body w R) : RoundIn (Fr r) n P l f tmps assign body w R :=
  ⟨trivial, fun c cs _ => h.2 c cs (room_wide _)⟩
theorem callsIn_Fr {r : Option Nat} {n : Nat} {P : Program} {f : FuncId} {args : Array Value} {w : World} {R : Ending → World → Prop} (h : Calls P f args w R) : CallsIn (Fr r) n P f args w R :=
  ⟨trivial, fun cs _ => (callsIn_wide (n := 0)).2 h |>.2 cs (room_wide _)⟩
theorem OutY.wpIn {r : Option Nat} {n : Nat} {P : Program} {o : Oper} {a : Act} {w : World} {K : Value → World → Prop} {next : Act → World → Prop} {Q : Exit → Act → World → Prop} (hnd : ∀ c, o.op ≠ .defer c)
    (h : OutY P w K ((execOp a.eval o).run P w)) (hn : ∀ v w', K v w' → next (a.put o.dst v) w') : o.wpIn (Fr r) n P a w next Q := by
  refine ⟨fun _ _ => trivial, ?_⟩
  rw [Oper.semAt_eq _ _ _ hnd]
  generalize (execOp a.eval o).run P w = res at h
  cases h with
  | of _ h =>
    cases h with
    | value v w' h => exact hn _ _ h
    | skip w' h => exact hn _ _ h
    | enter f args h =>
      refine ⟨fun h => by simp [Fence.wide] at h, ?_⟩
      exact callsIn_Fr (h.mono fun e w' ⟨v, he, hk⟩ => by subst he; exact hn _ _ hk)
  | round l f tmps assign body h =>
    refine ⟨fun h => by simp [Fence.wide] at h, ?_⟩
    exact roundIn_Fr (h.mono fun e w' ⟨v, he, hk⟩ => by subst he; exact hn _ _ hk)
def isYld (env : Env) : Op → Option (Nat × List Value)
  | .call c => (match c.callee with
    | .value f => (match rho env f with
      | .func (.yield l) fs _ => some (l, fs.toList ++ c.args.toList.map (rho env))
      | _ => none)
    | _ => none)
  | _ => none
def sOpY (P : Program) (N : Nat) (o : Oper) (env : Env) (K : Env → World → Prop) (w : World) : Prop :=
  match isYld env o.op with
  | some (l, args) => (match knowsAll env (opers o.op) with
    | true => goyield P l args (fun v w => asRes P o.type v (fun v w => setE N env o.dst v K w) w) w
    | false => fls "operand" w)
  | none => sOp .full P N o env K w
theorem sOp_good {r : Md} {P : Program} {N : Nat} {o : Oper} {env : Env} {K : Env → World → Prop} {w : World} (h : sOp r P N o env K w) : badOp o.op = false := by
  unfold sOp at h
  split at h
  · assumption
  · exact h.elim
theorem good_defer {op : Op} (h : badOp op = false) : ∀ c, op ≠ .defer c := fun c e => by subst e; cases h
theorem isYld_good {env : Env} {op : Op} {x : Nat × List Value} (h : isYld env op = some x) : badOp op = false := by
  cases op <;> first | rfl | cases h
theorem sOpY_nd {P : Program} {N : Nat} {o : Oper} {env : Env} {K : Env → World → Prop} {w : World} (h : sOpY P N o env K w) : ∀ c, o.op ≠ .defer c := by
  unfold sOpY at h
  split at h
  · rename_i hy; exact good_defer (isYld_good hy)
  · exact good_defer (sOp_good h)
theorem sOpY_out {P : Program} {N : Nat} {o : Oper} {env : Env} {a : Act} {K : Env → World → Prop} {w : World} (hrel : Rel N ds env a) (h : sOpY P N o env K w) :
    OutY P w (fun v w' => setE N env o.dst v K w') ((execOp a.eval o).run P w) := by
  unfold sOpY at h
  split at h
  · rename_i l args hy
    split at h
    · rename_i hk
      rw [exec_rel hrel (isYld_good hy) hk]
      cases ho : o.op <;> rw [ho] at hy <;> try (cases hy; done)
      rename_i c
      simp only [isYld] at hy
      split at hy
      · rename_i f hf
        split at hy
        · rename_i l' fs cs hv
          cases hy
          obtain ⟨fn, tmps, assign, body, h1, h2⟩ := h
          have e : (execOp (rho env) o).run P w = (Instr.yield l (fs.toList ++ c.args.toList.map (rho env)).toArray).run P w := by
            simp only [execOp, ho]
            show (do let d ← resolve (rho env) c o.type; invoke d.target d.args : Sem Next).run P w = _
            simp only [resolve, hf, hv, Deferred.ofValue]
            show (invoke (.fn (.yield l) cs) (fs ++ c.args.map (rho env))).run P w = _
            simp only [invoke]
            congr 2
            apply Array.ext'
            simp
          rw [e, h1]
          exact .round _ _ _ _ _ (h2.mono fun e w' ⟨v, he, hk⟩ => ⟨v, he, asRes_out hk⟩)
        · cases hy
      · cases hy
    · exact h.elim
  · exact .of _ (sOp_out hrel h).1

def sOpYE (P : Program) (N : Nat) (ops : List Oper) (o : Oper) (env : Env) (K : Env → World → Prop) (w : World) : Prop :=
  match isEnt ops o || isIfN P ops o with
  | true => sOpE .full P N ops o env K w
  | false => sOpY P N o env K w
theorem sOpYE_nd {P : Program} {N : Nat} {ops : List Oper} {o : Oper} {env : Env} {K : Env → World → Prop} {w : World} (h : sOpYE P N ops o env K w) : ∀ c, o.op ≠ .defer c := by
  unfold sOpYE at h
  split at h
  · exact good_defer (sOpE_good h sOp_good)
  · exact sOpY_nd h
theorem sOpYE_out {P : Program} {N : Nat} {ops : List Oper} {o : Oper} {env : Env} {a : Act} {K : Env → World → Prop} {w : World} (hrel : Rel N ds env a) (h : sOpYE P N ops o env K w) :
    OutY P w (fun v w' => setE N env o.dst v K w') ((execOp a.eval o).run P w) := by
  unfold sOpYE at h
  split at h
  · exact .of _ (sOpE_out hrel h).1
  · exact sOpY_out hrel h
def sOpsY (P : Program) (N : Nat) (ops : List Oper) : List Oper → Env → (Env → World → Prop) → World → Prop
  | [], env, K, w => K env w
  | o :: rest, env, K, w => (match o.guard with
    | none => sOpYE P N ops o env (fun env w => sOpsY P N ops rest env K w) w
    | some (j, want) => (match gtmp ops j with
      | some t => (match eget env t with
        | some (.bool b) => br b
          (match want with
            | true => sOpYE P N ops o ((t, .bool true) :: env) (fun env w => sOpsY P N ops rest env K w)
            | false => setE N ((t, .bool true) :: env) o.dst undef (fun env w => sOpsY P N ops rest env K w))
          (match want with
            | false => sOpYE P N ops o ((t, .bool false) :: env) (fun env w => sOpsY P N ops rest env K w)
            | true => setE N ((t, .bool false) :: env) o.dst undef (fun env w => sOpsY P N ops rest env K w)) w
        | some (.tuple _) => setE N env o.dst undef (fun env w => sOpsY P N ops rest env K w) w
        | _ => fls "guard" w)
      | none => fls "guard" w))
theorem sOpsY_wp {r : Option Nat} {n : Nat} {P : Program} {N : Nat} {ops : List Oper} {Q : Exit → Act → World → Prop} {L : List Nat} : ∀ (l : List Oper) {env : Env} {a : Act} {K : Env → World → Prop} {w : World}, (∀ t ∈ dsts l, t ∈ L) → sOpsY P N ops l env K w → Rel N ds env a →
    (∀ env' a' w', Rel N ds env' a' → Ext L env env' → K env' w' → Q .normal a' w') → wpListIn (Fr r) n P ops.toArray Q l a w
  | [], env, a, K, w, _, h, hrel, hK => hK env a w hrel (Ext.refl _ _) h
  | o :: rest, env, a, K, w, hL, h, hrel, hK => by
    have hd : ∀ d, o.dst = some d → d ∈ L := fun d hd => hL d (by simp [dsts, hd])
    have hL' : ∀ t ∈ dsts rest, t ∈ L := fun t ht => hL t (by unfold dsts; split <;> simp [ht])
    have run : ∀ (env1 : Env), Ext L env env1 → Rel N ds env1 a → sOpYE P N ops o env1 (fun env w => sOpsY P N ops rest env K w) w → o.wpIn (Fr r) n P a w (wpListIn (Fr r) n P ops.toArray Q rest) Q := by
      intro env1 he hr hs
      refine (sOpYE_out hr hs).wpIn (sOpYE_nd hs) (fun v w' hk => ?_)
      obtain ⟨env2, hr2, he2, hk2⟩ := setE_ext hr hd hk
      exact sOpsY_wp rest hL' hk2 hr2 (fun env' a' w' h1 h2 h3 => hK env' a' w' h1 ((he.trans he2).trans h2) h3)
    have skp : ∀ (env1 : Env), Ext L env env1 → Rel N ds env1 a → setE N env1 o.dst undef (fun env w => sOpsY P N ops rest env K w) w → wpListIn (Fr r) n P ops.toArray Q rest (a.put o.dst undef) w := by
      intro env1 he hr hs
      obtain ⟨env2, hr2, he2, hk2⟩ := setE_ext hr hd hs
      exact sOpsY_wp rest hL' hk2 hr2 (fun env' a' w' h1 h2 h3 => hK env' a' w' h1 ((he.trans he2).trans h2) h3)
    unfold wpListIn
    unfold sOpsY at h
    split at h
    · rename_i hg
      rw [if_pos (by simp [Region.wanted, hg])]
      exact run env (Ext.refl _ _) hrel h
    · rename_i j want hg
      split at h
      · rename_i t ht
        split at h
        · rename_i b hb
          have hy := rel_yield hrel ht hb
          unfold br at h
          cases b <;> cases want <;> simp only [if_true, if_false, Bool.false_eq_true] at h
          · rw [if_pos (by simp [Region.wanted, hg, hy])]; exact run _ (Ext.lit hb) (hrel.lit hb) h
          · rw [if_neg (by simp [Region.wanted, hg, hy])]; exact ⟨fun _ _ => trivial, skp _ (Ext.lit hb) (hrel.lit hb) h⟩
          · rw [if_neg (by simp [Region.wanted, hg, hy])]; exact ⟨fun _ _ => trivial, skp _ (Ext.lit hb) (hrel.lit hb) h⟩
          · rw [if_pos (by simp [Region.wanted, hg, hy])]; exact run _ (Ext.lit hb) (hrel.lit hb) h
        · rename_i vs hb
          have hy := rel_yield' hrel ht hb
          rw [if_neg (by simp [Region.wanted, hg, hy])]; exact ⟨fun _ _ => trivial, skp _ (Ext.refl _ _) hrel h⟩
        · exact h.elim
      · exact h.elim
/-- a region, in a frame that may be a round's -/
def sRegY (P : Program) (N : Nat) (ops : List Oper) (draw : Bool) (env : Env) (K : Env → World → Prop) (w : World) : Prop :=
  match draw with
  | false => sOpsY P N ops ops env K w
  | true => sReg P N ops true env K w
theorem sRegY_wp {r : Option Nat} {n : Nat} {P : Program} {N : Nat} {id : Nat} {ops : Array Oper} {draw : Bool} {Q : Exit → Act → World → Prop} {env : Env} {a : Act} {K : Env → World → Prop} {w : World} (hm : P.follows .mixedOrders = true) (hok : draw = true → regOk ops = true ∧ r = none)
    (h : sRegY P N ops.toList draw env K w) (hrel : Rel N ds env a) (hK : ∀ env' a' w', Rel N ds env' a' → Ext (dsts ops.toList) env env' → K env' w' → Q .normal a' w') : (Code.region id ops draw).wpIn (Fr r) n P Q a w := by
  cases draw
  · refine wpIn_region_list ?_
    have := sOpsY_wp (r := r) (n := n) (Q := Q) ops.toList (fun t ht => ht) h hrel hK
    simpa using this
  · obtain ⟨h1, rfl⟩ := hok rfl
    exact wpIn_wide.2 (sReg_wp hm (fun _ => h1) h hrel hK)

theorem wpIn_scope_straight {F : Fence} {n : Nat} {P : Program} {c : Code} {Q : Exit → Act → World → Prop} {a : Act} {w : World} (h : c.wpIn F n P (Exit.noGoto Q) a w) : (Code.scope c).wpIn F n P Q a w := by
  intro b k cs hro hb hr
  have h0 : (lone (b.atR a (.code (.scope c) :: k)) cs w).fenced P F := fenced_calm hb hr rfl
  have s0 : step P (lone (b.atR a (.code (.scope c) :: k)) cs w) = .next (lone (b.atR a (.code c :: .inScope c :: k)) cs w) := step_lone_go (by simp [stepG, stepG.exec, Frame.atR])
  have s1 : ∀ {a : Act} {w : World}, step P (lone (b.atR a (.inScope c :: k)) cs w) = .next (lone (b.atR a k) cs w) := step_lone_go (by simp [stepG, stepG.exec, Frame.atR])
  have hx : ∀ id, exitTo id (.inScope c :: k) = exitTo id k := fun id => by simp [exitTo]
  obtain ⟨e, a₁, w₁, hq, harr⟩ := h b (.inScope c :: k) cs hro hb hr
  cases e with
  | normal => exact ⟨.normal, a₁, w₁, hq, .head h0 s0 (StepsIn.trans harr (.one (fenced_calm hb hr rfl) s1))⟩
  | exit id =>
    exact ⟨.exit id, a₁, w₁, hq, fun k' hk => .head h0 s0 (harr.1 k' (by rw [hx]; exact hk)),
      fun hr' hk => let ⟨k₁, h1, h2⟩ := harr.2 hr' (by rw [hx]; exact hk); ⟨k₁, h1, .head h0 s0 h2⟩⟩
  | goto l => exact hq.elim
  | ret => exact ⟨_, a₁, w₁, hq, .of_steps (.one h0 s0) harr⟩
  | panic ch => exact ⟨_, a₁, w₁, hq, .of_steps (.one h0 s0) harr⟩
  | outgrown => exact ⟨_, a₁, w₁, hq, .of_steps (.one h0 s0) harr⟩



/-! ### a region that draws and holds calls: readers first, the rest in its one order; 'S' is what all of it keeps -/
theorem asV_tr {l : Leaf} {v : Value} {K K' : KV} {w w' : World} (hk : K v w → K' v w') (h : asV l v K w) : asV l v K' w' := by
  cases l <;> simp only [asV, asI, asBoo, asStr, asSl, asPtr, asMap] at h ⊢
  case int k => obtain ⟨n, rfl, h⟩ := h; exact ⟨n, rfl, hk h⟩
  case bool => obtain ⟨n, rfl, h⟩ := h; exact ⟨n, rfl, hk h⟩
  case str => obtain ⟨n, rfl, h⟩ := h; exact ⟨n, rfl, hk h⟩
  case slice => obtain ⟨a, n, c, rfl, h⟩ := h; exact ⟨a, n, c, rfl, hk h⟩
  case ptr => obtain ⟨n, rfl, h⟩ := h; exact ⟨n, rfl, hk h⟩
  case map => obtain ⟨n, rfl, h⟩ := h; exact ⟨n, rfl, hk h⟩
  case any => exact hk h
theorem cellsV_tr {f : Nat → Value} : ∀ (ls : List Leaf) (i : Nat) (acc : List Value) {K K' : KV} {w w' : World}, (∀ v, K v w → K' v w') → cellsV f i ls acc K w → cellsV f i ls acc K' w'
  | [], i, acc, K, K', w, w', hk, h => hk _ h
  | l :: ls, i, acc, K, K', w, w', hk, h => asV_tr (fun h => cellsV_tr ls _ _ hk h) h
theorem asTy_tr {P : Program} {t : TypeId} {v : Value} {K K' : KV} {w w' : World} (hk : ∀ v, K v w → K' v w') (h : asTy P t v K w) : asTy P t v K' w' := by
  unfold asTy at h ⊢
  cases hb : isAggB P t
  · rw [hb] at h; exact asV_tr (hk v) h
  · rw [hb] at h
    obtain ⟨f, rfl, h⟩ := h
    exact ⟨f, rfl, cellsV_tr _ _ _ hk h⟩
theorem tupV_tr {P : Program} {f : Nat → Value} : ∀ (ts : List TypeId) (i : Nat) (acc : List Value) {K K' : KV} {w w' : World}, (∀ v, K v w → K' v w') → tupV P f i ts acc K w → tupV P f i ts acc K' w'
  | [], i, acc, K, K', w, w', hk, h => hk _ h
  | t :: ts, i, acc, K, K', w, w', hk, h => by
    simp only [tupV] at h ⊢
    have h1 := asTy_out h
    exact asTy_tr (K := fun v w => tupV P f (i + 1) ts (acc ++ [v]) K w) (fun v h => tupV_tr ts _ _ hk h) h
theorem asRes_tr {P : Program} {t : TypeId} {v : Value} {K K' : KV} {w w' : World} (hk : ∀ v, K v w → K' v w') (h : asRes P t v K w) : asRes P t v K' w' := by
  unfold asRes at h ⊢
  split at h
  · rename_i ts hd
    obtain ⟨f, rfl, h⟩ := h
    exact ⟨f, rfl, tupV_tr _ _ _ hk h⟩
  · exact asTy_tr hk h

/-- operations that look at no memory -/
def evP (P : Program) (ρ : Operand → Value) (ty : TypeId) (op : Op) (K : KV) (w : World) : Prop :=
  match op with
  | .move x | .assign x => K (ρ x) w
  | .pick c x y => (match ρ c with | .bool b => br b (K (ρ x)) (K (ρ y)) w | _ => fls "pick" w)
  | .nilCheck x => (match ρ x with
    | .pointer p => nn p (fun a w => K (.pointer (some a)) w) w
    | _ => fls "nilCheck" w)
  | .binOp op t x y _ => evBin .bare P op t x y (ρ x) (ρ y) K w
  | .build t parts => (match buildL P t (parts.toList.map fun (i, x) => (i, ρ x)) with | some cs => K (.agg cs.toArray) w | none => fls "build" w)
  | .field t x f => (match ρ x with
    | .agg cs => (match fieldL P t f cs.toList with | some v => K v w | none => fls "field" w)
    | _ => fls "field" w)
  | .fieldAddr s x f => spt .bare P (Instr.fieldAt s (ρ x) f) K w
  | .unOp op _ x => spt .bare P (Op.unary op (ρ x)) K w
  | .extract x i => spt .bare P (Instr.extract (ρ x) i) K w
  | .makeInterface t x => spt .bare P (Instr.makeInterface t (ρ x)) K w
  | .index t x i => (match ρ x, ρ i with
    | .string s, .int _ i => (match isStr P t with | true => strAt s i (fun b w => K (.int .u8 b.toNat) w) w | false => fls "index" w)
    | _, _ => fls "index" w)
  | .indexAddr t x i => (match ρ x, ρ i with
    | .slice b n _, .int _ i => (match slElem P t with | some z => slAt b n i z (fun a w => K (.pointer (some a)) w) w | none => fls "indexAddr" w)
    | .pointer (some a), .int _ i => (match arElemA P t with | some (n, z) => arAt a n i z (fun a w => K (.pointer (some a)) w) w | none => fls "indexAddr" w)
    | _, _ => fls "indexAddr" w)
  | .slice t x lo hi none => (match ρ x, lo.map ρ, hi.map ρ with
    | .string s, none, none => (match isStr P t with | true => strSl s 0 s.size (fun r w => K (.string r) w) w | false => fls "slice" w)
    | .string s, some (.int _ l), none => (match isStr P t with | true => strSl s l s.size (fun r w => K (.string r) w) w | false => fls "slice" w)
    | .string s, none, some (.int _ h) => (match isStr P t with | true => strSl s 0 h (fun r w => K (.string r) w) w | false => fls "slice" w)
    | .string s, some (.int _ l), some (.int _ h) => (match isStr P t with | true => strSl s l h (fun r w => K (.string r) w) w | false => fls "slice" w)
    | .slice a n c, none, none => (match slElem P t with | some z => slSl a c 0 n z (fun a n c w => K (.slice a n c) w) w | none => fls "slice" w)
    | .slice a n c, some (.int _ l), none => (match slElem P t with | some z => slSl a c l n z (fun a n c w => K (.slice a n c) w) w | none => fls "slice" w)
    | .slice a _ c, none, some (.int _ h) => (match slElem P t with | some z => slSl a c 0 h z (fun a n c w => K (.slice a n c) w) w | none => fls "slice" w)
    | .slice a _ c, some (.int _ l), some (.int _ h) => (match slElem P t with | some z => slSl a c l h z (fun a n c w => K (.slice a n c) w) w | none => fls "slice" w)
    | _, _, _ => fls "slice" w)
  | .call c => (match c.callee, c.args.toList.map ρ with
    | .builtin .len, [x] => spt .bare P (Builtin.len_ c.argTypes ty #[x]) K w
    | .builtin .min, [.int k x, .int _ y] => K (.int k (if y < x then y else x)) w
    | .builtin .max, [.int k x, .int _ y] => K (.int k (if y > x then y else x)) w
    | _, _ => fls "call" w)
  | _ => fls "bare" w

/-- one answer, in every world -/
def Sole (X : KV → World → Prop) (K : KV) (w : World) : Prop := ∃ v0, K v0 w ∧ ∀ w', X (fun v _ => v = v0) w'

theorem evEq_val {P : Program} {neg : Bool} {t : TypeId} {x y : Operand} {a b : Value} {K : KV} {w : World} (h : evEq .bare P neg t x y a b K w) : Sole (evEq .bare P neg t x y a b) K w := by
  unfold evEq at h
  split at h
  · split at h
    · rename_i hty; exact ⟨_, h, fun w' => by unfold evEq; simp [hty]⟩
    · exact h.elim
  · split at h
    · rename_i hty; exact ⟨_, h, fun w' => by unfold evEq; simp [hty]⟩
    · exact h.elim
  · split at h
    · rename_i hty; exact ⟨_, h, fun w' => by unfold evEq; simp [hty]⟩
    · exact h.elim
  · exact ⟨_, h, fun w' => by unfold evEq; simp⟩
  · split at h
    · rename_i hty; exact ⟨_, h, fun w' => by unfold evEq; simp [hty]⟩
    · exact h.elim
  · split at h
    · rename_i hi; exact ⟨_, h.2, fun w' => by unfold evEq; simp only [hi]; exact ⟨h.1, trivial⟩⟩
    · exact h.elim
  · rename_i h1 h2 h3 h4 h5 h6
    obtain ⟨v0, hv, hw⟩ := spt_val _ h
    refine ⟨v0, hv, fun w' => ?_⟩
    unfold evEq
    split <;> first | exact hw w' | (exfalso; first | exact h1 _ rfl rfl | exact h2 _ _ _ _ _ rfl rfl | exact h3 _ rfl rfl | exact h4 _ _ rfl rfl | exact h5 _ _ rfl rfl | exact h6 _ _ rfl rfl)

theorem evBin0_val {P : Program} {op : BinOp} {t : TypeId} {x y : Operand} {a b : Value} {K : KV} {w : World} (h : evBin0 .bare P op t x y a b K w) : Sole (evBin0 .bare P op t x y a b) K w := by
  unfold evBin0 at h
  split at h
  · exact ⟨_, h.2, fun w' => ⟨h.1, rfl⟩⟩
  · split at h
    · rename_i hk; exact ⟨_, h.2, fun w' => by unfold evBin0; simp only [hk]; exact ⟨h.1, trivial⟩⟩
    · exact h.elim
  · split at h
    · rename_i hk; exact ⟨_, h.2, fun w' => by unfold evBin0; simp only [hk]; exact ⟨h.1, trivial⟩⟩
    · exact h.elim
  · rename_i k m k' n h1 h2
    obtain ⟨v0, hv, hw⟩ := spt_val _ h
    refine ⟨v0, hv, fun w' => ?_⟩
    have e : ∀ K w, evBin0 .bare P op t x y (.int k m) (.int k' n) K w = spt .bare P (binOp op t (.int k m) (.int k' n)) K w := by
      intro K w
      clear h hw hv; cases op <;> first | rfl | (exact absurd rfl h1) | (exact absurd rfl h2) | (exfalso; simp_all)
    rw [e]
    exact hw w'
  · rename_i h1
    obtain ⟨v0, hv, hw⟩ := evEq_val h
    refine ⟨v0, hv, fun w' => ?_⟩
    unfold evBin0
    split <;> first | exact hw w' | (exfalso; simp_all)
  · rename_i h1
    obtain ⟨v0, hv, hw⟩ := evEq_val h
    refine ⟨v0, hv, fun w' => ?_⟩
    unfold evBin0
    split <;> first | exact hw w' | (exfalso; simp_all)
  · exact h.elim

theorem evBin_val {P : Program} {op : BinOp} {t : TypeId} {x y : Operand} {a b : Value} {K : KV} {w : World} (h : evBin .bare P op t x y a b K w) : Sole (evBin .bare P op t x y a b) K w := by
  unfold evBin at h
  split at h
  · rename_i hy
    unfold evNil at h
    split at h
    · rename_i hty
      obtain ⟨r, hr, hk⟩ := h
      exact ⟨_, hk, fun w' => by unfold evBin evNil; simp only [hy, hty]; exact ⟨r, hr, rfl⟩⟩
    · rename_i hty
      obtain ⟨r, hr, hk⟩ := h
      exact ⟨_, hk, fun w' => by unfold evBin evNil; simp only [hy, hty]; exact ⟨r, hr, rfl⟩⟩
    · exact h.elim
  · rename_i hy0 hy
    unfold evNilF at h
    split at h
    · rename_i hty
      obtain ⟨r, hr, hk⟩ := h
      exact ⟨_, hk, fun w' => by unfold evBin evNilF; simp only [hy0, hy, hty]; exact ⟨r, hr, rfl⟩⟩
    · rename_i hty
      obtain ⟨r, hr, hk⟩ := h
      exact ⟨_, hk, fun w' => by unfold evBin evNilF; simp only [hy0, hy, hty]; exact ⟨r, hr, rfl⟩⟩
    · exact h.elim
  · rename_i hy0 hy
    obtain ⟨v0, hv, hw⟩ := evBin0_val h
    exact ⟨v0, hv, fun w' => by unfold evBin; simp only [hy0, hy]; exact hw w'⟩



theorem br_sole {b : Bool} {X Y : KV → World → Prop} {K : KV} {w : World} (hx : b = true → X K w → Sole X K w) (hy : b = false → Y K w → Sole Y K w) (h : br b (X K) (Y K) w) : Sole (fun K w => br b (X K) (Y K) w) K w := by
  cases b
  · obtain ⟨v0, h1, h2⟩ := hy rfl h; exact ⟨v0, h1, h2⟩
  · obtain ⟨v0, h1, h2⟩ := hx rfl h; exact ⟨v0, h1, h2⟩

theorem evP_val {P : Program} {ρ : Operand → Value} {ty : TypeId} {op : Op} {K : KV} {w : World} (h : evP P ρ ty op K w) : Sole (evP P ρ ty op) K w := by
  cases op <;> simp only [evP] at h
  case move x => exact ⟨_, h, fun _ => rfl⟩
  case assign x => exact ⟨_, h, fun _ => rfl⟩
  case pick c x y =>
    split at h
    · rename_i b hb
      obtain ⟨v0, h1, h2⟩ := br_sole (X := fun K w => K (ρ x) w) (Y := fun K w => K (ρ y) w) (fun _ h => ⟨_, h, fun _ => rfl⟩) (fun _ h => ⟨_, h, fun _ => rfl⟩) h
      exact ⟨v0, h1, fun w' => by simp only [evP, hb]; exact h2 w'⟩
    · exact h.elim
  case nilCheck x =>
    split at h
    · rename_i p hp
      obtain ⟨a, rfl, h⟩ := h
      exact ⟨_, h, fun w' => by simp only [evP, hp]; exact ⟨a, rfl, rfl⟩⟩
    · exact h.elim
  case binOp op t x y yt => exact evBin_val h
  case build t parts =>
    split at h
    · rename_i cs hb; exact ⟨_, h, fun w' => by simp only [evP, hb]⟩
    · exact h.elim
  case field t x f =>
    split at h
    · rename_i cs hx
      split at h
      · rename_i v hv; exact ⟨_, h, fun w' => by simp only [evP, hx, hv]⟩
      · exact h.elim
    · exact h.elim
  case fieldAddr s x f => exact spt_val _ h
  case unOp op t x => exact spt_val _ h
  case extract x i => exact spt_val _ h
  case makeInterface t x => exact spt_val _ h
  case index t x i =>
    split at h
    · rename_i s k i hx hi
      split at h
      · rename_i hz
        obtain ⟨b, h0, hb, h⟩ := h
        exact ⟨_, h, fun w' => by simp only [evP, hx, hi, hz]; exact ⟨b, h0, hb, rfl⟩⟩
      · exact h.elim
    · exact h.elim
  case indexAddr t x i =>
    split at h
    · rename_i b n c k i hx hi
      split at h
      · rename_i z hz
        obtain ⟨a, h0, h1, h2, h⟩ := h
        exact ⟨_, h, fun w' => by simp only [evP, hx, hi, hz]; exact ⟨a, h0, h1, h2, rfl⟩⟩
      · exact h.elim
    · rename_i a k i hx hi
      split at h
      · rename_i n z hz
        obtain ⟨h0, h1, h⟩ := h
        exact ⟨_, h, fun w' => by simp only [evP, hx, hi, hz]; exact ⟨h0, h1, rfl⟩⟩
      · exact h.elim
    · exact h.elim
  case slice t x lo hi mx =>
    cases mx with
    | some m => exact h.elim
    | none =>
      simp only at h
      split at h
      case h_1 s hx hl hh => split at h; (rename_i hz; obtain ⟨h0, h1, h2, h⟩ := h; exact ⟨_, h, fun w' => by simp only [evP, hx, hl, hh, hz]; exact ⟨h0, h1, h2, rfl⟩⟩); exact h.elim
      case h_2 s k l hx hl hh => split at h; (rename_i hz; obtain ⟨h0, h1, h2, h⟩ := h; exact ⟨_, h, fun w' => by simp only [evP, hx, hl, hh, hz]; exact ⟨h0, h1, h2, rfl⟩⟩); exact h.elim
      case h_3 s k l hx hl hh => split at h; (rename_i hz; obtain ⟨h0, h1, h2, h⟩ := h; exact ⟨_, h, fun w' => by simp only [evP, hx, hl, hh, hz]; exact ⟨h0, h1, h2, rfl⟩⟩); exact h.elim
      case h_4 s k l k2 l2 hx hl hh => split at h; (rename_i hz; obtain ⟨h0, h1, h2, h⟩ := h; exact ⟨_, h, fun w' => by simp only [evP, hx, hl, hh, hz]; exact ⟨h0, h1, h2, rfl⟩⟩); exact h.elim
      case h_5 a n c hx hl hh => split at h; (rename_i hz; obtain ⟨h0, h1, h2, h⟩ := h; exact ⟨_, h, fun w' => by simp only [evP, hx, hl, hh, hz]; exact ⟨h0, h1, h2, rfl⟩⟩); exact h.elim
      case h_6 a n c k l hx hl hh => split at h; (rename_i hz; obtain ⟨h0, h1, h2, h⟩ := h; exact ⟨_, h, fun w' => by simp only [evP, hx, hl, hh, hz]; exact ⟨h0, h1, h2, rfl⟩⟩); exact h.elim
      case h_7 a n c k l hx hl hh => split at h; (rename_i hz; obtain ⟨h0, h1, h2, h⟩ := h; exact ⟨_, h, fun w' => by simp only [evP, hx, hl, hh, hz]; exact ⟨h0, h1, h2, rfl⟩⟩); exact h.elim
      case h_8 a n c k l k2 l2 hx hl hh => split at h; (rename_i hz; obtain ⟨h0, h1, h2, h⟩ := h; exact ⟨_, h, fun w' => by simp only [evP, hx, hl, hh, hz]; exact ⟨h0, h1, h2, rfl⟩⟩); exact h.elim
      case h_9 => exact h.elim
  case call c =>
    split at h
    · rename_i x hc hx
      obtain ⟨v0, h1, h2⟩ := spt_val _ h
      exact ⟨v0, h1, fun w' => by simp only [evP, hc, hx]; exact h2 w'⟩
    · rename_i hc hx; exact ⟨_, h, fun w' => by simp only [evP, hc, hx]⟩
    · rename_i hc hx; exact ⟨_, h, fun w' => by simp only [evP, hc, hx]⟩
    · exact h.elim
  all_goals exact h.elim

/-- it is one of the operations of 'evV', 'evCall' -/
theorem evP_run {P : Program} {ρ : Operand → Value} {o : Oper} {K : KV} {w : World} (h : evP P ρ o.type o.op K w) : ∃ v, (execOp ρ o).run P w = .ok (.value v) w ∧ K v w := by
  have fin : evV .bare P ρ o.type o.op K w → ∃ v, (execOp ρ o).run P w = .ok (.value v) w ∧ K v w := by
    intro h
    obtain ⟨v, w', hr, hq, hk⟩ := evV_run h
    obtain rfl := hq (by simp)
    exact ⟨v, hr, hk⟩
  cases ho : o.op <;> rw [ho] at h fin <;> simp only [evP] at h
  case call c =>
    split at h
    · rename_i x hc hx
      obtain ⟨_, h2⟩ := evCall_out (r := .bare) ho (show evCall .bare P ρ o.type c K w by unfold evCall; simp only [hc, hx]; exact h)
      exact h2 (by simp)
    · rename_i hc hx
      obtain ⟨_, h2⟩ := evCall_out (r := .bare) ho (show evCall .bare P ρ o.type c K w by unfold evCall; simp only [hc, hx]; exact h)
      exact h2 (by simp)
    · rename_i hc hx
      obtain ⟨_, h2⟩ := evCall_out (r := .bare) ho (show evCall .bare P ρ o.type c K w by unfold evCall; simp only [hc, hx]; exact h)
      exact h2 (by simp)
    · exact h.elim
  case nilCheck x =>
    refine fin ?_
    simp only [evV]
    split at h
    · rename_i p hp; simp only [hp]; exact h
    · exact h.elim
  case index t x i =>
    refine fin ?_
    simp only [evV]
    split at h
    · rename_i s k i hx hi; simp only [hx, hi]; exact h
    · exact h.elim
  case slice t x lo hi mx =>
    cases mx with
    | some m => exact h.elim
    | none =>
      refine fin ?_
      simp only [evV] at h ⊢
      split at h <;> first | exact h.elim | exact h | (rename_i hx hl hh; simp only [hx, hl, hh]; exact h)
  all_goals first | exact h.elim | exact fin h

def ldS (S : World → Prop) (a : Addr) (K : KV) (w : World) : Prop := ∃ v, (∀ w', S w' → w'.cell? a = some v) ∧ K v w
def ldCellsS (S : World → Prop) (a : Addr) : (i : Nat) → List Leaf → List Value → KV → World → Prop
  | _, [], acc, K, w => K (.agg acc.toArray) w
  | i, l :: ls, acc, K, w => ldS S (a.add i) (fun v w => asV l v (fun v w => ldCellsS S a (i + 1) ls (acc ++ [v]) K w) w) w
def ldTS (S : World → Prop) (P : Program) (t : TypeId) (a : Addr) (K : KV) (w : World) : Prop :=
  match isTyB P t, isAggB P t with
  | true, true => (match sizeB P t (leavesOf P 20 t).length with | true => ldCellsS S a 0 (leavesOf P 20 t) [] K w | false => fls "load" w)
  | true, false => ldS S a (fun v w => asV (leaf1 P t) v K w) w
  | false, _ => fls "load" w

theorem ldCellsS_run {S : World → Prop} {P : Program} {a : Addr} : ∀ (ls : List Leaf) (i : Nat) (acc : List Value) {K : KV} {w : World}, ldCellsS S a i ls acc K w →
    ∃ vs, (∀ w', S w' → (loadCellsFrom a i ls.length acc.toArray).run P w' = .ok vs w') ∧ K (.agg vs) w
  | [], i, acc, K, w, h => ⟨acc.toArray, fun _ _ => rfl, h⟩
  | l :: ls, i, acc, K, w, h => by
    obtain ⟨v, hv, h⟩ := h
    obtain ⟨vs, hr, hk⟩ := ldCellsS_run (P := P) ls (i + 1) (acc ++ [v]) (asV_out h)
    refine ⟨vs, fun w' hw' => ?_, hk⟩
    have e : (loadCellsFrom a i (l :: ls).length acc.toArray).run P w' = (loadCellsFrom a (i + 1) ls.length (acc.toArray.push v)).run P w' := by
      simp only [List.length_cons, loadCellsFrom]
      show Sem.run P (Sem.load .plain (a.add i) _) w' = _
      simp only [Sem.run, hv w' hw']
      rfl
    rw [e]
    simpa using hr w' hw'

theorem ldTS_run {S : World → Prop} {P : Program} {t : TypeId} {a : Addr} {K : KV} {w : World} (h : ldTS S P t a K w) : ∃ v, (∀ w', S w' → (loadVar t a).run P w' = .ok v w') ∧ K v w := by
  unfold ldTS at h
  split at h
  · rename_i hty hag
    split at h
    · rename_i hs
      obtain ⟨vs, hr, hk⟩ := ldCellsS_run (P := P) _ _ _ h
      refine ⟨_, fun w' hw' => ?_, hk⟩
      unfold loadVar
      show ((isAgg t).bind _).run P w' = _
      rw [run_bind, run_isAgg hty, hag]
      show ((sizeOf t).bind _).run P w' = _
      rw [run_bind, run_sizeOf hs]
      show ((loadCells a _).bind _).run P w' = _
      rw [run_bind]
      unfold loadCells
      rw [show (#[] : Array Value) = ([] : List Value).toArray from rfl, hr w' hw']
      rfl
    · exact h.elim
  · rename_i hty hag
    obtain ⟨v, hv, h⟩ := h
    refine ⟨v, fun w' hw' => ?_, asV_out h⟩
    unfold loadVar
    show ((isAgg t).bind _).run P w' = _
    rw [run_bind, run_isAgg hty, hag]
    show Sem.run P (Sem.load .plain a _) w' = _
    simp only [Sem.run, hv w' hw']
  · exact h.elim

def kp (S X : World → Prop) (w : World) : Prop := S w ∧ X w
inductive Kd where
  | bare | load | eff
def kindS : Op → Kd
  | .load .. => .load
  | .move _ | .assign _ | .pick .. | .nilCheck _ | .binOp .. | .build .. | .field .. | .fieldAddr .. | .unOp .. | .extract .. | .makeInterface .. | .index .. | .indexAddr .. | .slice .. => .bare
  | .call c => (match c.callee with | .builtin .len | .builtin .min | .builtin .max => .bare | _ => .eff)
  | _ => .eff

def opS (S : World → Prop) (P : Program) (N : Nat) (o : Oper) (env : Env) (K : Env → World → Prop) (w : World) : Prop :=
  match kindS o.op with
  | .bare => (match badOp o.op, knowsAll env (opers o.op) with
    | false, true => evP P (rho env) o.type o.op (fun v w => setE N env o.dst v K w) w
    | _, _ => fls "operand" w)
  | .load => (match o.op with
    | .load t x => (match knows env x, rho env x with
      | true, .pointer (some a) => ldTS S P t a (fun v w => setE N env o.dst v K w) w
      | _, _ => fls "load" w)
    | _ => fls "load" w)
  | .eff => sOpY P N o env (fun env w => kp S (fun w => K env w) w) w

/-- j is behind L, in two edges at most -/
def dn2 (ops : Array Oper) (o : Oper) (j : Nat) : Bool := o.after.toList.any fun e => (match Region.binds .any e with
  | true => (match Nat.beq e.on j with
    | true => true
    | false => (match ops[e.on]? with
      | some o' => o'.after.toList.any fun e' => Region.binds .any e' && Nat.beq e'.on j
      | none => false))
  | false => false)
/-- the operation L waits for every other one -/
def lastB (ops : Array Oper) (L : Nat) : Bool := (match ops[L]? with
  | some o => (List.range ops.size).all fun j => Nat.beq j L || dn2 ops o j
  | none => false)
def isStB : Op → Bool
  | .store .. => true
  | _ => false
def effB (o : Oper) : Bool := (match kindS o.op with | .eff => true | _ => false)
/-- two stores or more and no other effect, and each of them waits for i -/
def preB (ops : List Oper) (i : Nat) : Bool := Nat.blt 1 ((ops.filter effB).length) && (ops.filter effB).all fun o => isStB o.op && dn2 ops.toArray o i
/-- a load that all effects wait for -/
def opP (P : Program) (N : Nat) (o : Oper) (env : Env) (K : Env → World → Prop) (w : World) : Prop :=
  match o.op with
    | .load t x => (match knows env x, rho env x with
      | true, .pointer (some a) => ldT P t a (fun v w => setE N env o.dst v K w) w
      | _, _ => fls "load" w)
    | _ => fls "load" w
/-- as opS; the last one's effect asks nothing behind it; a load that all effects wait for asks nothing but of the world as it is -/
def opT (S : World → Prop) (P : Program) (N : Nat) (last pre : Bool) (o : Oper) (env : Env) (K : Env → World → Prop) (w : World) : Prop :=
  match last, pre, kindS o.op with
  | true, _, .eff => sOpY P N o env (fun env w => K env w) w
  | _, true, .load => opP P N o env K w
  | _, _, _ => opS S P N o env K w
/-- as opT; an interface value may be looked at for nil -/
def opU (S : World → Prop) (P : Program) (N : Nat) (ops : List Oper) (last pre : Bool) (o : Oper) (env : Env) (K : Env → World → Prop) (w : World) : Prop :=
  match isIfN P ops o with
  | true => (match knowsAll env (opers o.op) with
    | true => nif (rho env (nckX o.op)) (fun w => setE N env o.dst (rho env (nckX o.op)) K w) w
    | false => fls "operand" w)
  | false => opT S P N last pre o env K w
def isLst (lst : Option Nat) (i : Nat) : Bool := match lst with | some l => Nat.beq l i | none => false
/-- an order of a region's operations; it may part where effects are ready side by side -/
inductive OT where
  | nil
  | one (i : Nat) (r : OT)
  | two (a b : OT)
  | jn (a : OT) (ts : List Nat) (r : OT)
def OT.dec : Nat → List Nat → OT
  | 0, _ => .nil
  | _ + 1, [] => .nil
  | f + 1, i :: r => (match Nat.blt 19999 i with
    | true => (match r with
      | lt :: r => .jn (OT.dec f (takeL (Nat.sub i 20000) (dropL lt r))) (takeL lt r) (OT.dec f (dropL (Nat.sub i 20000) (dropL lt r)))
      | [] => .nil)
    | false => match Nat.blt 4999 i with
    | true => .two (OT.dec f (takeL (Nat.sub i 5000) r)) (OT.dec f (dropL (Nat.sub i 5000) r))
    | false => .one i (OT.dec f r))
/-- '30000' ahead of an order: behind an effect that all loads come ahead of nothing is kept -/
def flagO (l : List Nat) : Bool := match l with | i :: _ => Nat.blt 29999 i | [] => false
def bodyO (l : List Nat) : List Nat := match flagO l with | true => dropL 1 l | false => l
def OT.of (l : List Nat) : OT := OT.dec ((bodyO l).length + 1) (bodyO l)
def OT.len : OT → Nat
  | .nil => 0
  | .one _ r => r.len + 1
  | .two a _ => a.len
  | .jn a _ r => a.len + r.len
def OT.heads : OT → List Nat
  | .nil => []
  | .one i _ => [i]
  | .two a b => a.heads ++ b.heads
  | .jn a _ _ => a.heads
def OT.last : OT → Option Nat
  | .nil => none
  | .one i .nil => some i
  | .one _ r => r.last
  | .two a _ => a.last
  | .jn _ _ r => r.last
/-- what is listed behind an order -/
def OT.marks : OT → Array Bool → Array Bool
  | .nil, l => l
  | .one i r, l => r.marks (l.setIfInBounds i true)
  | .two a _, l => a.marks l
  | .jn a _ r, l => r.marks (a.marks l)
def both (X Y : World → Prop) (w : World) : Prop := X w ∧ Y w
def lastR (lst : Option Nat) (i : Nat) : OT → Bool
  | .nil => isLst lst i
  | _ => false
def ldB (o : Oper) : Bool := (match kindS o.op with | .load => true | _ => false)
def isAppB : Op → Bool
  | .call c => (match c.callee with | .builtin .append => true | _ => false)
  | _ => false
def isCallB : Op → Bool
  | .call c => (match c.callee with | .builtin _ => false | _ => true)
  | _ => false
/-- a region in which something is appended, or of many calls -/
def appR (ops : List Oper) : Bool := (ops.any fun o => isAppB o.op) || (Nat.blt 2 ((ops.filter fun o => isCallB o.op).length) && Nat.blt 4 ((ops.filter effB).length))
def predsL (o : Oper) : List Nat := (o.after.toList.filter (Region.binds .any)).map (·.on)
def memQ (l : List Nat) (i : Nat) : Bool := (match l with | [] => false | x :: r => Nat.beq x i || memQ r i)
/-- all that comes ahead -/
def clo (ops : Array Oper) : Nat → List Nat → List Nat → List Nat
  | 0, _, seen => seen
  | _ + 1, [], seen => seen
  | f + 1, i :: r, seen => (match memQ seen i with
    | true => clo ops f r seen
    | false => clo ops f ((match ops[i]? with | some o => predsL o | none => []) ++ r) (i :: seen))
def allLd (c : List Nat) : List Oper → Nat → Bool
  | [], _ => true
  | o :: r, j => (!ldB o || memQ c j) && allLd c r (j + 1)
/-- all loads come ahead of i -/
def loadsB (ops : List Oper) (i : Nat) : Bool := (match nth ops i with
  | some o => allLd (clo ops.toArray 3000 (predsL o) []) ops 0
  | none => false)
/-- behind an effect nothing that is kept is asked for -/
def frB (lst : Option Nat) (ops : List Oper) (i : Nat) : Bool := isLst lst i || ((appR ops || isLst lst ops.length) && loadsB ops i)
def quiet (lst : Option Nat) (ops : List Oper) (i : Nat) (rest : OT) : Bool := lastR lst i rest || ((appR ops || isLst lst ops.length) && loadsB ops i)
def sOpsS (S : World → Prop) (P : Program) (N : Nat) (lst : Option Nat) (ops : List Oper) : OT → Env → (Env → World → Prop) → World → Prop
  | .nil, env, K, w => K env w
  | .two a b, env, K, w => both (fun w => sOpsS S P N lst ops a env K w) (fun w => sOpsS S P N lst ops b env K w) w
  | .jn a ts rest, env, K, w => (match inL (dsts ops) (slotsJ ts) with
    | true => join (X := SlotsP (slotsJ ts)) (fun I w => sOpsS S P N lst ops a env (fun env' w => match unslots (slotsJ ts) env' with | some x => I x w | none => fls "join" w) w)
        (fun x w => sOpsS S P N lst ops rest (slotsE (slotsJ ts) x ++ dropE (dsts ops) env) K w) w
    | false => fls "join" w)
  | .one i rest, env, K, w => (match nth ops i with
    | none => fls "order" w
    | some o => (match o.guard with
      | none => opU S P N ops (quiet lst ops i rest) (preB ops i) o env (fun env w => sOpsS S P N lst ops rest env K w) w
      | some (j, want) => (match gtmp ops j with
        | some t => (match eget env t with
          | some (.bool b) => br b
            (match want with
              | true => opU S P N ops (quiet lst ops i rest) (preB ops i) o ((t, .bool true) :: env) (fun env w => sOpsS S P N lst ops rest env K w)
              | false => setE N ((t, .bool true) :: env) o.dst undef (fun env w => sOpsS S P N lst ops rest env K w))
            (match want with
              | false => opU S P N ops (quiet lst ops i rest) (preB ops i) o ((t, .bool false) :: env) (fun env w => sOpsS S P N lst ops rest env K w)
              | true => setE N ((t, .bool false) :: env) o.dst undef (fun env w => sOpsS S P N lst ops rest env K w)) w
          | some (.tuple _) => setE N env o.dst undef (fun env w => sOpsS S P N lst ops rest env K w) w
          | _ => fls "guard" w)
        | none => fls "guard" w)))
def keeps (X : (World → Prop) → World → Prop) (w : World) : Prop := ∃ S : World → Prop, S w ∧ X S w



section anyE
variable {P : Program} {md : Region.Mode} {ops : Array Oper} {S : World → Prop} {lst : Option Nat} {fr : Nat → Bool}

/-- what is listed is listed with all that comes ahead of it -/
def Shut (md : Region.Mode) (ops : Array Oper) (listed : Array Bool) : Prop := ∀ j o, ops[j]? = some o → listed.getD j false = true → ∀ e ∈ o.after, Region.binds md e = true → listed.getD e.on false = true
/-- a load that is not listed yet -/
def Need (ops : Array Oper) (listed : Array Bool) : Prop := ∃ j o, ops[j]? = some o ∧ ldB o = true ∧ listed.getD j false = false
theorem getD_unset {listed : Array Bool} {i j : Nat} (h : (listed.setIfInBounds i true).getD j false = false) : listed.getD j false = false := by
  rw [Array.getD_eq_getD_getElem?] at h ⊢
  rw [Array.getElem?_setIfInBounds] at h
  split at h
  · rename_i e; subst e
    split at h
    · cases h
    · rename_i hlt
      rw [Array.getElem?_eq_none (by omega)]; rfl
  · exact h
theorem Need.mono {listed : Array Bool} {i : Nat} (h : Need ops (listed.setIfInBounds i true)) : Need ops listed := by
  obtain ⟨j, o, h1, h2, h3⟩ := h
  exact ⟨j, o, h1, h2, getD_unset h3⟩
/-- where one of those is ready no load is left -/
def FrOk (md : Region.Mode) (ops : Array Oper) (fr : Nat → Bool) : Prop := ∀ j o, ops[j]? = some o → effB o = true → fr j = true → ∀ listed, Shut md ops listed → j ∈ Region.ready md ops listed → ¬ Need ops listed
def stE (P : Program) (ops : Array Oper) (S : World → Prop) (fr : Nat → Bool) (i : Nat) (K : Act → World → Prop) (a : Act) (w : World) : Prop :=
  match ops[i]? with
  | none => K a w
  | some o => if Region.wanted o (yielded ops a.tmps) = true then (∀ c, o.op ≠ .defer c) ∧ OutY P w (fun v w' => ((effB o = true → fr i = false → S w') ∧ (effB o = false → w' = w)) ∧ K (a.put o.dst v) w') ((execOp a.eval o).run P w) else K (a.put o.dst undef) w

def wpAnyE (P : Program) (md : Region.Mode) (ops : Array Oper) (S : World → Prop) (fr : Nat → Bool) (Q : Act → World → Prop) : Nat → Array Bool → Act → World → Prop
  | 0, listed, a, w => Region.ready md ops listed = [] ∧ Q a w
  | fuel + 1, listed, a, w => (Region.ready md ops listed = [] → Q a w) ∧ ∀ i ∈ Region.ready md ops listed, stE P ops S fr i (wpAnyE P md ops S fr Q fuel (listed.setIfInBounds i true)) a w

theorem stE_mono {i : Nat} {a : Act} {w : World} {K K' : Act → World → Prop} (h : ∀ a w', (w' = w ∨ (fr i = false → S w')) → ((∀ o, ops[i]? = some o → effB o = false) → w' = w) → K a w' → K' a w') (hh : stE P ops S fr i K a w) : stE P ops S fr i K' a w := by
  unfold stE at *
  split
  · rename_i ho; simp only [ho] at hh; exact h _ _ (.inl rfl) (fun _ => rfl) hh
  · rename_i o ho
    simp only [ho] at hh
    split
    · rename_i hwd; rw [if_pos hwd] at hh
      refine ⟨hh.1, hh.2.mono fun v w' ⟨h1, h2⟩ => ⟨h1, h _ _ ?_ (fun hq => h1.2 (hq o ho)) h2⟩⟩
      cases he : effB o with
      | true => exact .inr (h1.1 he)
      | false => exact .inl (h1.2 he)
    · rename_i hwd; rw [if_neg hwd] at hh; exact h _ _ (.inl rfl) (fun _ => rfl) hh

theorem isLst_iff {i : Nat} : isLst lst i = true ↔ lst = some i := by
  unfold isLst
  cases lst with
  | none => simp
  | some l => simp [Nat.beq_eq]
theorem Shut.put {i : Nat} {listed : Array Bool} (h : Shut md ops listed) (hr : i ∈ Region.ready md ops listed) : Shut md ops (listed.setIfInBounds i true) := by
  obtain ⟨h0, oi, hoi, hall⟩ := mem_ready.1 hr
  intro j o ho hj e he hb
  by_cases hji : i = j
  · subst hji
    rw [hoi] at ho; cases ho
    exact getD_set_true (hall e he hb)
  · rw [getD_set_ne false hji] at hj
    exact getD_set_true (h j o ho hj e he hb)
theorem getD_both {listed : Array Bool} {j : Nat} (h : listed.getD j false = true) : listed.getD j true = true := by
  rcases Nat.lt_or_ge j listed.size with h' | h'
  · simp [h'] at h ⊢; exact h
  · simp [Array.getElem?_eq_none h'] at h
def LstOk (md : Region.Mode) (ops : Array Oper) (lst : Option Nat) : Prop := ∀ L o, lst = some L → ops[L]? = some o → ∀ j, j < ops.size → j ≠ L → ∃ e ∈ o.after, Region.binds md e = true ∧ (e.on = j ∨ ∃ o', ops[e.on]? = some o' ∧ ∃ e' ∈ o'.after, Region.binds md e' = true ∧ e'.on = j)
/-- where the last one is ready all others are listed -/
theorem LstOk.all {L : Nat} {listed : Array Bool} (hlst : LstOk md ops lst) (hL : lst = some L) (hsh : Shut md ops listed) (hr : L ∈ Region.ready md ops listed) : ∀ j, j < ops.size → j ≠ L → listed.getD j false = true := by
  intro j hj hne
  obtain ⟨h1, o', ho', hall⟩ := mem_ready.1 hr
  obtain ⟨e, he, hb, hc⟩ := hlst L o' hL ho' j hj hne
  have h2 := hall e he hb
  rcases hc with hc | ⟨o2, ho2, e2, he2, hb2, hc⟩
  · rw [hc] at h2; exact h2
  · have h3 := hsh _ o2 ho2 h2 e2 he2 hb2
    rw [hc] at h3; exact h3
theorem lt_size {j : Nat} {o : Oper} (h : ops[j]? = some o) : j < ops.size := by
  rcases Nat.lt_or_ge j ops.size with h' | h'
  · exact h'
  · rw [Array.getElem?_eq_none h'] at h; cases h
/-- behind the last one nothing is ready -/
theorem ready_done {i : Nat} {listed : Array Bool} (hl : ∀ j, j < ops.size → j ≠ i → listed.getD j false = true) (hr : i ∈ Region.ready md ops listed) : Region.ready md ops (listed.setIfInBounds i true) = [] := by
  rw [List.eq_nil_iff_forall_not_mem]
  intro j hj
  obtain ⟨h0, oj, hoj, -⟩ := mem_ready.1 hj
  obtain ⟨h1, -⟩ := mem_ready.1 hr
  by_cases hji : j = i
  · subst hji
    rcases Nat.lt_or_ge j listed.size with h | h
    · simp [h] at h0
    · simp at h0
  · rw [getD_set_ne true (Ne.symm hji)] at h0
    rw [getD_both (hl j (lt_size hoj) hji)] at h0
    cases h0
theorem wpAny_of_E {r : Option Nat} {n : Nat} {Q : Act → World → Prop} {Q' : Exit → Act → World → Prop} (hQ : ∀ a w, Q a w → Q' .normal a w) : ∀ (fuel : Nat) (listed : Array Bool) (a : Act) (w : World), wpAnyE P md ops S fr Q fuel listed a w → wpAnyIn (Fr r) n P md ops Q' fuel listed a w
  | 0, _, _, _, h => ⟨h.1, hQ _ _ h.2⟩
  | fuel + 1, _, _, _, h => ⟨fun h0 => hQ _ _ (h.1 h0), fun i hi => by
      have h2 := h.2 i hi
      unfold stE at h2
      unfold wpOpIn
      split
      · rename_i ho; simp only [ho] at h2; exact wpAny_of_E hQ fuel _ _ _ h2
      · rename_i o ho
        simp only [ho] at h2
        split
        · rename_i hwd; rw [if_pos hwd] at h2
          exact h2.2.wpIn h2.1 fun v w' ⟨h3, h4⟩ => wpAny_of_E hQ fuel _ _ _ h4
        · rename_i hwd; rw [if_neg hwd] at h2; exact ⟨fun _ _ => trivial, wpAny_of_E hQ fuel _ _ _ h2⟩⟩

/-- one value, in every world that is kept -/
def YieldE (P : Program) (ops : Array Oper) (S : World → Prop) (o : Oper) (v : Value) (a : Act) : Prop :=
  (Region.wanted o (yielded ops a.tmps) = true ∧ ∀ w, S w → (execOp a.eval o).run P w = .ok (.value v) w) ∨ (Region.wanted o (yielded ops a.tmps) = false ∧ v = undef)

theorem YieldE.st {V : World → Prop} {i : Nat} {o : Oper} {v : Value} {a : Act} {w : World} (hnd : ∀ c, o.op ≠ .defer c) (hne : effB o = false) (hi : ops[i]? = some o) (hV : V w) (hy : YieldE P ops V o v a) {K : Act → World → Prop} (h : K (a.put o.dst v) w) : stE P ops S fr i K a w := by
  unfold stE
  simp only [hi]
  rcases hy with ⟨h1, h2⟩ | ⟨h1, rfl⟩
  · rw [if_pos h1, h2 w hV]; exact ⟨hnd, .of _ (.value _ _ ⟨⟨fun e => (by rw [hne] at e; cases e), fun _ => rfl⟩, h⟩)⟩
  · rw [if_neg (by simp [h1])]; exact h

theorem YieldE.same {o : Oper} {v : Value} {a a' : Act} (hy : YieldE P ops S o v a) (he : execOp a'.eval o = execOp a.eval o) (hw : Region.wanted o (yielded ops a'.tmps) = Region.wanted o (yielded ops a.tmps)) : YieldE P ops S o v a' := by
  unfold YieldE at *
  rw [he, hw]; exact hy

theorem stE_put {V : World → Prop} {j : Nat} {oi oj : Oper} {v : Value} {w : World} (hj : ops[j]? = some oj) (hap : oi.apart ops oj = true) (hsi : ∀ cs b, oi.op ≠ .select cs b) (hsj : ∀ cs b, oj.op ≠ .select cs b) {K : Act → World → Prop} {a : Act}
    (hy : YieldE P ops V oi v a) (h : stE P ops S fr j K (a.put oi.dst v) w) : stE P ops S fr j (fun a' w' => YieldE P ops V oi v a' ∧ K (a'.put oi.dst v) w') a w := by
  obtain ⟨h1, h2, h3⟩ := Oper.apart_spec hap
  have keep : ∀ u, YieldE P ops V oi v (a.put oj.dst u) := fun u => hy.same (execOp_put oi hsi a oj.dst u h3) (wanted_put oi a oj.dst u h3)
  unfold stE at *
  simp only [hj] at *
  rw [wanted_put oj a oi.dst v h1] at h
  split
  · rename_i hw
    rw [if_pos hw, execOp_put oj hsj a oi.dst v h1] at h
    exact ⟨h.1, h.2.mono fun u w' ⟨g1, g2⟩ => ⟨g1, keep u, by rw [← Act.put_comm a v u h2]; exact g2⟩⟩
  · rename_i hw
    rw [if_neg hw] at h
    exact ⟨keep _, by rw [← Act.put_comm a v undef h2]; exact h⟩

/-- each effect waits for i -/
def PreOk (md : Region.Mode) (ops : Array Oper) (i : Nat) : Prop := ∀ (j : Nat) (o : Oper), ops[j]? = some o → effB o = true → ∃ e ∈ o.after, Region.binds md e = true ∧ (e.on = i ∨ ∃ o', ops[e.on]? = some o' ∧ ∃ e' ∈ o'.after, Region.binds md e' = true ∧ e'.on = i)
theorem PreOk.none {i j : Nat} {listed : Array Bool} (h : PreOk md ops i) (hsh : Shut md ops listed) (hr : j ∈ Region.ready md ops listed) (hi : listed.getD i false = false) : ∀ o, ops[j]? = some o → effB o = false := by
  intro o ho
  cases he : effB o with
  | false => rfl
  | true =>
    obtain ⟨h1, o', ho', hall⟩ := mem_ready.1 hr
    rw [ho] at ho'; cases ho'
    obtain ⟨e, hm, hb, hc⟩ := h j o ho he
    have h2 := hall e hm hb
    rcases hc with hc | ⟨o2, ho2, e2, he2, hb2, hc⟩
    · rw [hc, hi] at h2; cases h2
    · have h3 := hsh _ o2 ho2 h2 e2 he2 hb2
      rw [hc, hi] at h3; cases h3
theorem getD_ff {listed : Array Bool} {i : Nat} (h : listed.getD i true = false) : listed.getD i false = false := by
  rcases Nat.lt_or_ge i listed.size with h' | h'
  · simp [h'] at h ⊢; exact h
  · simp [Array.getElem?_eq_none h'] at h
/-- what is kept holds behind a step as long as a load is left -/
theorem keep_step {j : Nat} {listed : Array Bool} {w w' : World} (hfr : FrOk md ops fr) (hsh : Shut md ops listed) (hj : j ∈ Region.ready md ops listed) (hS : Need ops listed → S w) (h1 : w' = w ∨ (fr j = false → S w')) (h2 : (∀ o, ops[j]? = some o → effB o = false) → w' = w) : Need ops (listed.setIfInBounds j true) → S w' := by
  intro n
  rcases h1 with rfl | h1
  · exact hS n.mono
  · cases hf : fr j with
    | false => exact h1 hf
    | true =>
      obtain ⟨-, oj, hoj, -⟩ := mem_ready.1 hj
      cases he : effB oj with
      | true => exact absurd n.mono (hfr j oj hoj he hf listed hsh hj)
      | false =>
        have := h2 (fun o ho => by rw [hoj] at ho; cases ho; exact he)
        subst this
        exact hS n.mono
theorem wpAnyE_first {V : World → Prop} {Q : Act → World → Prop} {i : Nat} {oi : Oper} {v : Value} (hnd : ∀ c, oi.op ≠ .defer c) (hne : effB oi = false) (hfr : FrOk md ops fr) (hi : ops[i]? = some oi) (hsel : ∀ (j : Nat) (o : Oper) cs b, ops[j]? = some o → o.op ≠ .select cs b) (hcl : (∀ w, (ldB oi = true → S w) → V w) ∨ PreOk md ops i) :
    ∀ (fuel : Nat) (listed : Array Bool) (a : Act) (w : World), Shut md ops listed → (Need ops listed → S w) → V w →
      (∀ j oj, ops[j]? = some oj → j ≠ i → listed.getD j true = false → (∀ e ∈ oj.after, Region.binds md e = true → e.on ≠ i) → oi.apart ops oj = true) →
      i ∈ Region.ready md ops listed → YieldE P ops V oi v a →
      wpAnyE P md ops S fr Q fuel (listed.setIfInBounds i true) (a.put oi.dst v) w → wpAnyE P md ops S fr Q (fuel + 1) listed a w := by
  intro fuel
  induction fuel with
  | zero =>
    intro listed a w _ hS hV _ hr hy H
    refine ⟨fun h => (by rw [h] at hr; cases hr), fun j hj => ?_⟩
    by_cases hji : j = i
    · subst hji; exact hy.st hnd hne hi hV H
    · have := ready_mono hj hji
      rw [H.1] at this
      cases this
  | succ fuel ih =>
    intro listed a w hsh hS hV hfree hr hy H
    refine ⟨fun h => (by rw [h] at hr; cases hr), fun j hj => ?_⟩
    by_cases hji : j = i
    · subst hji; exact hy.st hnd hne hi hV H
    · have h1 := H.2 j (ready_mono hj hji)
      obtain ⟨hjun, oj, hoj, hall⟩ := mem_ready.1 hj
      have hnot : ∀ e ∈ oj.after, Region.binds md e = true → e.on ≠ i := fun e he hb heq => by
        have h1 := hall e he hb
        have h0 := (mem_ready.1 hr).1
        rw [heq] at h1
        rcases Nat.lt_or_ge i listed.size with h' | h'
        · simp [h'] at h0 h1; rw [h0] at h1; cases h1
        · simp [Array.getElem?_eq_none h'] at h1
      have hiun : (listed.setIfInBounds j true).getD i false = false := by
        rw [getD_set_ne false hji]; exact getD_ff (mem_ready.1 hr).1
      have h2 := stE_put hoj (hfree j oj hoj hji hjun hnot) (fun cs b => hsel i oi cs b hi) (fun cs b => hsel j oj cs b hoj) hy h1
      have hfree' : ∀ k ok, ops[k]? = some ok → k ≠ i → (listed.setIfInBounds j true).getD k true = false →
          (∀ e ∈ ok.after, Region.binds md e = true → e.on ≠ i) → oi.apart ops ok = true := fun k ok hk hki hun hno => by
        refine hfree k ok hk hki ?_ hno
        by_cases hjk : j = k
        · subst hjk; exact hjun
        · rw [getD_set_ne true hjk] at hun; exact hun
      refine stE_mono (fun a' w' hc he h3 => ?_) h2
      have hS' := keep_step hfr hsh hj hS hc he
      have hV' : V w' := by
        rcases hcl with hc | hc
        · exact hc _ (fun hl => hS' ⟨i, oi, hi, hl, hiun⟩)
        · rw [he (hc.none hsh hj (getD_ff (mem_ready.1 hr).1))]; exact hV
      refine ih (listed.setIfInBounds j true) a' w' (hsh.put hj) hS' hV' hfree' (ready_mono hr (Ne.symm hji)) h3.1 ?_
      rw [Array.setIfInBounds_comm _ _ hji]
      exact h3.2

def eqBs : List Bool → List Bool → Bool
  | [], [] => true
  | true :: r, true :: q => eqBs r q
  | false :: r, false :: q => eqBs r q
  | _, _ => false
theorem eqBs_iff : ∀ {a b : List Bool}, eqBs a b = true → a = b
  | [], [], _ => rfl
  | true :: r, true :: q, h => by rw [eqBs_iff (a := r) (b := q) h]
  | false :: r, false :: q, h => by rw [eqBs_iff (a := r) (b := q) h]
  | [], _ :: _, h => by cases h
  | _ :: _, [], h => by cases ‹Bool› <;> cases h
  | true :: _, false :: _, h => by cases h
  | false :: _, true :: _, h => by cases h
/-- the order that is walked (a closed test); 'full': all that is ready is walked; 'fin': what is listed at the end -/
def canB (ops : Array Oper) (lst : Option Nat) : OT → Array Bool → Bool → Array Bool → Bool
  | .nil, fin, full, listed => full && eqBs listed.toList fin.toList
  | .one i rest, fin, full, listed => (match ops[i]? with
    | some o => (match kindS o.op with
      | .eff => (match full with
        | true => Region.ready .any ops listed == [i]
        | false => (Region.ready .any ops listed).contains i)
      | _ => (match full with
        | true => Region.ready .any ops listed == [i] || ((Region.ready .any ops listed).contains i && Region.free .any ops listed i)
        | false => (Region.ready .any ops listed).contains i))
    | none => false) && canB ops lst rest fin true (listed.setIfInBounds i true)
  | .two a b, fin, full, listed => canB ops lst a fin false listed && canB ops lst b fin false listed && Nat.beq a.len b.len && Nat.blt 0 a.len && (!full || (!(Region.ready .any ops listed).isEmpty && (Region.ready .any ops listed).all fun i => (a.heads ++ b.heads).contains i))
  | .jn a _ rest, fin, full, listed => canB ops lst a (a.marks listed) full listed && canB ops lst rest fin true (a.marks listed) && Nat.blt 0 a.len

theorem opS_yield {N : Nat} {o : Oper} {env : Env} {a : Act} {K : Env → World → Prop} {w : World} (hr : Rel N ds env a) (hk : (match kindS o.op with | .eff => false | _ => true) = true) (h : opS S P N o env K w) :
    ∃ v, (∀ w', (ldB o = true → S w') → (execOp a.eval o).run P w' = .ok (.value v) w') ∧ setE N env o.dst v K w := by
  unfold opS at h
  split at h
  · split at h
    · rename_i hb hkn
      rw [exec_rel hr hb hkn]
      obtain ⟨v0, h1, h2⟩ := evP_val h
      refine ⟨v0, fun w' _ => ?_, h1⟩
      obtain ⟨v, h3, h4⟩ := evP_run (o := o) (h2 w')
      rw [h3]; exact congrArg (fun v => Result.ok (Next.value v) w') h4
    · exact h.elim
  · split at h
    · rename_i t x ho
      split at h
      · rename_i p hkn hp
        have hx : a.eval x = .pointer (some p) := by rw [hr.eval hkn, hp]
        obtain ⟨v, h1, h2⟩ := ldTS_run h
        refine ⟨v, fun w' hw' => ?_, h2⟩
        replace hw' : S w' := hw' (by unfold ldB; rw [ho]; rfl)
        rw [valSem_exec (s := Instr.loadAt t (a.eval x)) (by rw [ho]; rfl), run_bind, hx]
        simp [Instr.loadAt, Instr.sureAddr, h1 w' hw']
      · exact h.elim
    · exact h.elim
  · rename_i hkd; rw [hkd] at hk; cases hk

theorem opP_yield {N : Nat} {o : Oper} {env : Env} {a : Act} {K : Env → World → Prop} {w : World} (hr : Rel N ds env a) (h : opP P N o env K w) :
    ∃ v, (execOp a.eval o).run P w = .ok (.value v) w ∧ setE N env o.dst v K w := by
  unfold opP at h
  split at h
  · rename_i t x ho
    split at h
    · rename_i p hkn hp
      have hx : a.eval x = .pointer (some p) := by rw [hr.eval hkn, hp]
      obtain ⟨v, h1, h2⟩ := ldT_run h
      refine ⟨v, ?_, h2⟩
      rw [valSem_exec (s := Instr.loadAt t (a.eval x)) (by rw [ho]; rfl), run_bind, hx]
      simp [Instr.loadAt, Instr.sureAddr, h1]
    · exact h.elim
  · exact h.elim
theorem opU_eff {N : Nat} {ops : List Oper} {last pre : Bool} {o : Oper} {env : Env} {K : Env → World → Prop} {w : World} (hk : kindS o.op = .eff) (h : opU S P N ops last pre o env K w) : opT S P N last pre o env K w := by
  unfold opU at h
  split at h
  · rename_i hi
    obtain ⟨x, ho, -, -⟩ := isIfN_out hi
    rw [ho] at hk; cases hk
  · exact h
theorem opU_out {N : Nat} {ops : List Oper} {last pre : Bool} {o : Oper} {env : Env} {a : Act} {K : Env → World → Prop} {w : World} (hr : Rel N ds env a) (h : opU S P N ops last pre o env K w) :
    (∃ v, (∀ w', (execOp a.eval o).run P w' = .ok (.value v) w') ∧ setE N env o.dst v K w) ∨ opT S P N last pre o env K w := by
  unfold opU at h
  split at h
  · rename_i hi
    split at h
    · rename_i hk
      obtain ⟨x, ho, hx, hb⟩ := isIfN_out hi
      rw [hx] at h
      refine .inl ⟨rho env x, fun w' => ?_, h.2⟩
      rw [exec_rel hr hb hk]
      exact nif_run (X := fun _ => True) ho ⟨h.1, trivial⟩
    · exact h.elim
  · exact .inr h
theorem dn2_ok {o : Oper} {j : Nat} (h : dn2 ops o j = true) : ∃ e ∈ o.after, Region.binds .any e = true ∧ (e.on = j ∨ ∃ o', ops[e.on]? = some o' ∧ ∃ e' ∈ o'.after, Region.binds .any e' = true ∧ e'.on = j) := by
  unfold dn2 at h
  rw [List.any_eq_true] at h
  obtain ⟨e, he, h⟩ := h
  refine ⟨e, by simpa using he, ?_⟩
  split at h
  · rename_i hb
    refine ⟨hb, ?_⟩
    split at h
    · rename_i hj; exact .inl (Nat.eq_of_beq_eq_true hj)
    · split at h
      · rename_i o' ho'
        rw [List.any_eq_true] at h
        obtain ⟨e', he', h⟩ := h
        simp only [Bool.and_eq_true] at h
        exact .inr ⟨o', ho', e', by simpa using he', h.1, Nat.eq_of_beq_eq_true h.2⟩
      · cases h
  · cases h
theorem preB_ok {i : Nat} (h : preB ops.toList i = true) : PreOk .any ops i := by
  intro j o ho he
  unfold preB at h
  simp only [Bool.and_eq_true, List.all_eq_true, List.mem_filter] at h
  have hm : o ∈ ops.toList := List.mem_of_getElem? (i := j) (by simpa using ho)
  have := (h.2 o ⟨hm, he⟩).2
  exact dn2_ok (by simpa using this)
theorem sOpsS_any {N : Nat} {Q : Act → World → Prop} (hfr : FrOk .any ops (frB lst ops.toList)) (hsel : Region.noSelect ops = true) : ∀ (l : OT) (L : List Nat) (hL : ∀ t ∈ dsts ops.toList, t ∈ L) (m : Nat) (fin : Array Bool) (full : Bool) (listed : Array Bool) {env : Env} {a : Act} {K : Env → World → Prop} {w : World}, Shut .any ops listed → (Need ops listed → S w) → canB ops lst l fin full listed = true → sOpsS S P N lst ops.toList l env K w → Rel N ds env a →
    (∀ env' a' w', Shut .any ops fin → (Need ops fin → S w') → Rel N ds env' a' → Ext L env env' → K env' w' → wpAnyE P .any ops S (frB lst ops.toList) Q m fin a' w') → (full = true → wpAnyE P .any ops S (frB lst ops.toList) Q (m + l.len) listed a w) ∧ (full = false → ∀ i ∈ l.heads, i ∈ Region.ready .any ops listed ∧ stE P ops S (frB lst ops.toList) i (wpAnyE P .any ops S (frB lst ops.toList) Q (m + (l.len - 1)) (listed.setIfInBounds i true)) a w)
  | .nil, L, hL, m, fin, full, listed, env, a, K, w, hsh, hS, hB, h, hrel, hK => by
    simp only [canB, Bool.and_eq_true] at hB
    have e : listed = fin := Array.ext' (eqBs_iff hB.2)
    subst e
    exact ⟨fun _ => hK env a w hsh hS hrel (Ext.refl _ _) h, fun hf => (by rw [hB.1] at hf; cases hf)⟩
  | .jn x ts rest, L, hL, m, fin, full, listed, env, a, K, w, hsh, hS, hB, h, hrel, hK => by
    simp only [canB, Bool.and_eq_true] at hB
    obtain ⟨⟨hx, hy⟩, hpos⟩ := hB
    have hpos' : 0 < x.len := by simpa [Nat.blt_eq] using hpos
    simp only [sOpsS] at h
    split at h
    case h_2 => exact h.elim
    rename_i hin
    obtain ⟨I, hI, hgo⟩ := h
    have g := sOpsS_any hfr hsel x (dsts ops.toList) (fun _ h => h) (m + rest.len) (x.marks listed) full listed hsh hS hx hI hrel (fun env' a' w' hsh' hS' hr' he' hk' => by
      split at hk'
      case h_2 => exact hk'.elim
      rename_i z hz
      exact (sOpsS_any hfr hsel rest L hL m fin true (x.marks listed) hsh' hS' hy (hgo z w' hk') (Rel.jn (L := L) hr' he' hz) (fun env2 a2 w2 q1 q2 q3 q4 q5 => hK env2 a2 w2 q1 q2 q3 ((Ext.jn hL hin).trans q4) q5)).1 rfl)
    have e1 : m + (OT.jn x ts rest).len = (m + rest.len) + x.len := by simp only [OT.len]; omega
    have e2 : m + ((OT.jn x ts rest).len - 1) = (m + rest.len) + (x.len - 1) := by simp only [OT.len]; omega
    rw [e1, e2]
    exact g
  | .two x y, L, hL, m, fin, full, listed, env, a, K, w, hsh, hS, hB, h, hrel, hK => by
    simp only [canB, Bool.and_eq_true] at hB
    obtain ⟨⟨⟨⟨hx, hy⟩, hlen⟩, hpos⟩, hfull⟩ := hB
    have hlen' : x.len = y.len := Nat.eq_of_beq_eq_true hlen
    have hpos' : 0 < x.len := by simpa [Nat.blt_eq] using hpos
    obtain ⟨h1, h2⟩ := h
    have g1 := (sOpsS_any hfr hsel x L hL m fin false listed hsh hS hx h1 hrel hK).2 rfl
    have g2 := (sOpsS_any hfr hsel y L hL m fin false listed hsh hS hy h2 hrel hK).2 rfl
    have g : ∀ i ∈ (OT.two x y).heads, i ∈ Region.ready .any ops listed ∧ stE P ops S (frB lst ops.toList) i (wpAnyE P .any ops S (frB lst ops.toList) Q (m + ((OT.two x y).len - 1)) (listed.setIfInBounds i true)) a w := by
      intro i hi
      simp only [OT.heads, List.mem_append] at hi
      simp only [OT.len]
      rcases hi with hi | hi
      · exact g1 i hi
      · have := g2 i hi
        rw [← hlen'] at this
        exact this
    refine ⟨fun hf => ?_, fun _ => g⟩
    subst hf
    simp only [Bool.not_true, Bool.false_or, Bool.and_eq_true, List.all_eq_true] at hfull
    obtain ⟨hne, hall⟩ := hfull
    obtain ⟨n, hn⟩ : ∃ n, (OT.two x y).len = n + 1 := ⟨x.len - 1, by simp only [OT.len]; omega⟩
    rw [hn] at g ⊢
    simp only [Nat.add_sub_cancel] at g
    refine ⟨fun h0 => (by rw [h0] at hne; simp at hne), fun j hj => ?_⟩
    have hj' : j ∈ (OT.two x y).heads := by simpa [OT.heads] using hall j hj
    exact (g j hj').2
  | .one i rest, L, hL, m, fin, full, listed, env, a, K, w, hsh, hS, hB, h, hrel, hK => by
    simp only [canB, Bool.and_eq_true] at hB
    obtain ⟨hB1, hB2⟩ := hB
    simp only [sOpsS] at h
    split at h
    · exact h.elim
    rename_i o ho
    rw [nth_eq] at ho
    have ho' : ops[i]? = some o := by simpa using ho
    simp only [ho'] at hB1
    have hmem : o ∈ ops.toList := List.mem_of_getElem? ho
    have hd : ∀ d, o.dst = some d → d ∈ L := fun d hd => hL d (by
      clear hB1 h
      generalize ops.toList = l at hmem
      induction l with
      | nil => cases hmem
      | cons x xs ih =>
        unfold dsts
        rcases List.mem_cons.1 hmem with rfl | hm
        · simp [hd]
        · split <;> simp [ih hm])
    have hri : i ∈ Region.ready .any ops listed := by
      clear h
      have e1 : ((Region.ready .any ops listed == [i]) = true) → i ∈ Region.ready .any ops listed := fun h => by
        have hre : Region.ready .any ops listed = [i] := by simpa using h
        rw [hre]; exact List.mem_singleton.2 rfl
      have e2 : (Region.ready .any ops listed).contains i = true → i ∈ Region.ready .any ops listed := fun h => by simpa using h
      cases hkd : kindS o.op <;> rw [hkd] at hB1 <;> cases full <;> simp only [Bool.or_eq_true, Bool.and_eq_true] at hB1 <;> first | exact e1 hB1 | exact e2 hB1 | (rcases hB1 with hB1 | hB1 <;> first | exact e1 hB1 | exact e2 hB1.1)
    -- the operation, from whatever temporaries are known
    have go : ∀ (env1 : Env), Ext L env env1 → Rel N ds env1 a →
        ((Region.wanted o (yielded ops a.tmps) = true ∧ opU S P N ops.toList (quiet lst ops.toList i rest) (preB ops.toList i) o env1 (fun env w => sOpsS S P N lst ops.toList rest env K w) w) ∨ (Region.wanted o (yielded ops a.tmps) = false ∧ setE N env1 o.dst undef (fun env w => sOpsS S P N lst ops.toList rest env K w) w)) →
        (full = true → wpAnyE P .any ops S (frB lst ops.toList) Q (m + rest.len + 1) listed a w) ∧ (full = false → ∀ j ∈ [i], j ∈ Region.ready .any ops listed ∧ stE P ops S (frB lst ops.toList) j (wpAnyE P .any ops S (frB lst ops.toList) Q (m + rest.len) (listed.setIfInBounds j true)) a w) := by
      intro env1 he hr hcase
      have next : ∀ v w', (Need ops (listed.setIfInBounds i true) → S w') → setE N env1 o.dst v (fun env w => sOpsS S P N lst ops.toList rest env K w) w' → wpAnyE P .any ops S (frB lst ops.toList) Q (m + rest.len) (listed.setIfInBounds i true) (a.put o.dst v) w' := by
        intro v w' hS' hk
        obtain ⟨env2, hr2, he2, hk2⟩ := setE_ext hr hd hk
        exact (sOpsS_any hfr hsel rest L hL m fin true _ (hsh.put hri) hS' hB2 hk2 hr2 (fun env' a' w' q1 q2 h1 h2 h3 => hK env' a' w' q1 q2 h1 ((he.trans he2).trans h2) h3)).1 rfl
      have fin : stE P ops S (frB lst ops.toList) i (wpAnyE P .any ops S (frB lst ops.toList) Q (m + rest.len) (listed.setIfInBounds i true)) a w → (full = true → (Region.ready .any ops listed == [i]) = true ∨ wpAnyE P .any ops S (frB lst ops.toList) Q (m + rest.len + 1) listed a w) →
          (full = true → wpAnyE P .any ops S (frB lst ops.toList) Q (m + rest.len + 1) listed a w) ∧ (full = false → ∀ j ∈ [i], j ∈ Region.ready .any ops listed ∧ stE P ops S (frB lst ops.toList) j (wpAnyE P .any ops S (frB lst ops.toList) Q (m + rest.len) (listed.setIfInBounds j true)) a w) := by
        intro hst hor
        refine ⟨fun hf => ?_, fun _ j hj => by obtain rfl : j = i := (by simpa using hj); exact ⟨hri, hst⟩⟩
        rcases hor hf with hre | h
        · have hre : Region.ready .any ops listed = [i] := by simpa using hre
          refine ⟨fun h0 => (by rw [hre] at h0; cases h0), fun j hj => ?_⟩
          rw [hre] at hj
          obtain rfl : j = i := by simpa using hj
          exact hst
        · exact h
      cases hkd : kindS o.op
      case eff =>
        rw [hkd] at hB1
        refine fin ?_ (fun hf => .inl (by subst hf; exact hB1))
        unfold stE
        simp only [ho']
        rcases hcase with ⟨hw, h⟩ | ⟨hw, h⟩
        · rw [if_pos hw]
          have heff : effB o = true := by unfold effB; rw [hkd]
          replace h := opU_eff hkd h
          cases hil : quiet lst ops.toList i rest with
          | true =>
            unfold opT at h
            rw [hil, hkd] at h
            have hil' : frB lst ops.toList i = true := by
              unfold quiet at hil
              unfold frB
              rw [Bool.or_eq_true] at hil ⊢
              rcases hil with hil | hil
              · left
                cases rest with
                | nil => exact hil
                | _ => cases hil
              · exact .inr hil
            refine ⟨sOpY_nd h, (sOpY_out hr h).mono fun v w' hk => ⟨⟨fun _ h => (by rw [hil'] at h; cases h), fun h => (by rw [heff] at h; cases h)⟩, ?_⟩⟩
            exact next v w' (fun n => absurd n.mono (hfr i o ho' heff hil' listed hsh hri)) hk
          | false =>
            have h : opS S P N o env1 (fun env w => sOpsS S P N lst ops.toList rest env K w) w := by
              unfold opT at h
              rw [hil, hkd] at h
              cases hpr : preB ops.toList i <;> rw [hpr] at h <;> exact h
            unfold opS at h
            rw [hkd] at h
            refine ⟨sOpY_nd h, (sOpY_out hr h).mono fun v w' hk => ?_⟩
            have hsplit : ∀ w', setE N env1 o.dst v (fun env w => kp S (fun w => sOpsS S P N lst ops.toList rest env K w) w) w' → S w' ∧ setE N env1 o.dst v (fun env w => sOpsS S P N lst ops.toList rest env K w) w' := by
              intro w' hk
              unfold setE at hk ⊢
              split at hk
              · exact hk
              · split at hk
                · simp only; exact hk
                · exact hk.elim
            obtain ⟨g1, g2⟩ := hsplit _ hk
            exact ⟨⟨fun _ _ => g1, fun h => (by rw [heff] at h; cases h)⟩, next v w' (fun _ => g1) g2⟩
        · rw [if_neg (by simp [hw])]
          exact next undef w (fun n => hS n.mono) h
      all_goals
        have hndo : ∀ c, o.op ≠ .defer c := fun c e => by rw [e] at hkd; cases hkd
        have hneo : effB o = false := by unfold effB; rw [hkd]
        rw [hkd] at hB1
        have hor : full = true → (Region.ready .any ops listed == [i]) = true ∨ Region.free .any ops listed i = true := fun hf => by
          subst hf
          simp only [Bool.or_eq_true, Bool.and_eq_true] at hB1
          exact hB1.imp id (·.2)
        rcases hcase with ⟨hw, h⟩ | ⟨hw, h⟩
        · have hh0 : (∃ v, (∀ w', (execOp a.eval o).run P w' = .ok (.value v) w') ∧ setE N env1 o.dst v (fun env w => sOpsS S P N lst ops.toList rest env K w) w) ∨ opT S P N (quiet lst ops.toList i rest) (preB ops.toList i) o env1 (fun env w => sOpsS S P N lst ops.toList rest env K w) w := opU_out hr h
          rcases hh0 with ⟨v, hv, hk⟩ | h
          · have hy : YieldE P ops (fun w' => ldB o = true → S w') o v a := .inl ⟨hw, fun w' _ => hv w'⟩
            have hV : ldB o = true → S w := fun hl => hS ⟨i, o, ho', hl, getD_ff (mem_ready.1 hri).1⟩
            exact fin (hy.st (V := fun w' => ldB o = true → S w') hndo hneo ho' hV (next v w (fun n => hS n.mono) hk)) (fun hf => (hor hf).imp id fun hf1 => wpAnyE_first hndo hneo hfr ho' (Region.noSelect_spec hsel) (V := fun w' => ldB o = true → S w') (.inl fun _ h => h) (m + rest.len) listed a w hsh hS hV (Region.free_spec ho' hf1) hri hy (next v w (fun n => hS n.mono) hk))
          have hh : opS S P N o env1 (fun env w => sOpsS S P N lst ops.toList rest env K w) w ∨ (PreOk .any ops i ∧ opP P N o env1 (fun env w => sOpsS S P N lst ops.toList rest env K w) w) := by
            unfold opT at h
            rw [hkd] at h
            cases hil : quiet lst ops.toList i rest <;> cases hpr : preB ops.toList i <;> rw [hil, hpr] at h <;> first | exact .inl h | exact .inr ⟨preB_ok hpr, h⟩
          rcases hh with h | ⟨hpre, h⟩
          case inr =>
            obtain ⟨v, hv, hk⟩ := opP_yield hr h
            have hy : YieldE P ops (fun w' => w' = w) o v a := .inl ⟨hw, fun w' e => by rw [e]; exact hv⟩
            exact fin (hy.st (V := fun w' => w' = w) hndo hneo ho' rfl (next v w (fun n => hS n.mono) hk)) (fun hf => (hor hf).imp id fun hf1 => wpAnyE_first hndo hneo hfr ho' (Region.noSelect_spec hsel) (V := fun w' => w' = w) (.inr hpre) (m + rest.len) listed a w hsh hS rfl (Region.free_spec ho' hf1) hri hy (next v w (fun n => hS n.mono) hk))
          obtain ⟨v, hv, hk⟩ := opS_yield hr (by rw [hkd]) h
          have hy : YieldE P ops (fun w' => ldB o = true → S w') o v a := .inl ⟨hw, hv⟩
          have hV : ldB o = true → S w := fun hl => hS ⟨i, o, ho', hl, getD_ff (mem_ready.1 hri).1⟩
          exact fin (hy.st (V := fun w' => ldB o = true → S w') hndo hneo ho' hV (next v w (fun n => hS n.mono) hk)) (fun hf => (hor hf).imp id fun hf1 => wpAnyE_first hndo hneo hfr ho' (Region.noSelect_spec hsel) (V := fun w' => ldB o = true → S w') (.inl fun _ h => h) (m + rest.len) listed a w hsh hS hV (Region.free_spec ho' hf1) hri hy (next v w (fun n => hS n.mono) hk))
        · have hy : YieldE P ops (fun _ => True) o undef a := .inr ⟨hw, rfl⟩
          exact fin (hy.st (V := fun _ => True) hndo hneo ho' trivial (next undef w (fun n => hS n.mono) h)) (fun hf => (hor hf).imp id fun hf1 => wpAnyE_first hndo hneo hfr ho' (Region.noSelect_spec hsel) (V := fun _ => True) (.inl fun _ _ => trivial) (m + rest.len) listed a w hsh hS trivial (Region.free_spec ho' hf1) hri hy (next undef w (fun n => hS n.mono) h))
    split at h
    · rename_i hg
      exact go env (Ext.refl _ _) hrel (.inl ⟨by simp [Region.wanted, hg], h⟩)
    · rename_i j want hg
      split at h
      · rename_i t ht
        split at h
        · rename_i b hb
          have hy : yielded ops a.tmps j = some b := by
            have := rel_yield hrel ht hb
            simpa using this
          unfold br at h
          cases b <;> cases want <;> simp only [if_true, if_false, Bool.false_eq_true] at h
          · exact go _ (Ext.lit hb) (hrel.lit hb) (.inl ⟨by simp [Region.wanted, hg, hy], h⟩)
          · exact go _ (Ext.lit hb) (hrel.lit hb) (.inr ⟨by simp [Region.wanted, hg, hy], h⟩)
          · exact go _ (Ext.lit hb) (hrel.lit hb) (.inr ⟨by simp [Region.wanted, hg, hy], h⟩)
          · exact go _ (Ext.lit hb) (hrel.lit hb) (.inl ⟨by simp [Region.wanted, hg, hy], h⟩)
        · rename_i vs hb
          have hy : yielded ops a.tmps j = none := by
            have := rel_yield' hrel ht hb
            simpa using this
          exact go _ (Ext.refl _ _) hrel (.inr ⟨by simp [Region.wanted, hg, hy], h⟩)
        · exact h.elim
      · exact h.elim
end anyE

def lstOf (ops : Array Oper) (ord : List Nat) : Option Nat := match flagO ord, (OT.of ord).last with
  | true, _ => some ops.toList.length
  | false, some l => (match lastB ops l with | true => some l | false => none)
  | false, none => none
theorem lstOf_ok (ops : Array Oper) (ord : List Nat) : LstOk .any ops (lstOf ops ord) := by
  intro L o hL ho j hj hne
  have hb : lastB ops L = true := by
    unfold lstOf at hL
    split at hL
    · cases hL
      have := lt_size ho
      simp at this
    · split at hL
      · rename_i hb; cases hL; exact hb
      · cases hL
    · cases hL
  unfold lastB at hb
  rw [ho] at hb
  simp only [List.all_eq_true, List.mem_range, Bool.or_eq_true] at hb
  rcases hb j hj with h | h
  · exact absurd (Nat.eq_of_beq_eq_true h) hne
  · unfold dn2 at h
    rw [List.any_eq_true] at h
    obtain ⟨e, he, h⟩ := h
    refine ⟨e, by simpa using he, ?_⟩
    split at h
    · rename_i hb
      refine ⟨hb, ?_⟩
      split at h
      · rename_i hj; exact .inl (Nat.eq_of_beq_eq_true hj)
      · split at h
        · rename_i o' ho'
          rw [List.any_eq_true] at h
          obtain ⟨e', he', h⟩ := h
          simp only [Bool.and_eq_true] at h
          exact .inr ⟨o', ho', e', by simpa using he', h.1, Nat.eq_of_beq_eq_true h.2⟩
        · cases h
    · cases h
theorem memQ_iff {l : List Nat} {i : Nat} (h : memQ l i = true) : i ∈ l := by
  induction l with
  | nil => simp [memQ] at h
  | cons x r ih =>
    simp only [memQ, Bool.or_eq_true] at h
    rcases h with h | h
    · have := Nat.eq_of_beq_eq_true h; subst this; exact List.mem_cons_self ..
    · exact List.mem_cons_of_mem _ (ih h)
theorem predsL_mem {o : Oper} {j : Nat} (h : j ∈ predsL o) : ∃ e ∈ o.after, Region.binds .any e = true ∧ e.on = j := by
  unfold predsL at h
  obtain ⟨e, he, rfl⟩ := List.mem_map.1 h
  obtain ⟨h1, h2⟩ := List.mem_filter.1 he
  exact ⟨e, by simpa using h1, h2, rfl⟩
theorem clo_ok {ops : Array Oper} {listed : Array Bool} (hsh : Shut .any ops listed) : ∀ (f : Nat) (todo seen : List Nat), (∀ i ∈ todo, listed.getD i false = true) → (∀ i ∈ seen, listed.getD i false = true) → ∀ i ∈ clo ops f todo seen, listed.getD i false = true
  | 0, _, seen, _, hs, i, hi => hs i (by simpa [clo] using hi)
  | f + 1, [], seen, _, hs, i, hi => hs i (by simpa [clo] using hi)
  | f + 1, x :: r, seen, ht, hs, i, hi => by
    simp only [clo] at hi
    split at hi
    · exact clo_ok hsh f r seen (fun j hj => ht j (List.mem_cons_of_mem _ hj)) hs i hi
    · refine clo_ok hsh f _ _ (fun j hj => ?_) (fun j hj => ?_) i hi
      · rcases List.mem_append.1 hj with hj | hj
        · split at hj
          · rename_i o ho
            obtain ⟨e, he, hb, rfl⟩ := predsL_mem hj
            exact hsh x o ho (ht x (List.mem_cons_self ..)) e he hb
          · cases hj
        · exact ht j (List.mem_cons_of_mem _ hj)
      · rcases List.mem_cons.1 hj with rfl | hj
        · exact ht _ (List.mem_cons_self ..)
        · exact hs j hj
theorem allLd_at {c : List Nat} : ∀ {l : List Oper} {k : Nat}, allLd c l k = true → ∀ j o, l[j]? = some o → ldB o = true → memQ c (k + j) = true
  | [], _, _, j, o, h, _ => by simp at h
  | x :: r, k, h, 0, o, ho, hl => by
    simp only [allLd, Bool.and_eq_true] at h
    simp at ho; subst ho
    have := h.1
    rw [hl] at this
    simpa using this
  | x :: r, k, h, j + 1, o, ho, hl => by
    simp only [allLd, Bool.and_eq_true] at h
    have := allLd_at h.2 j o (by simpa using ho) hl
    rw [show k + (j + 1) = k + 1 + j by omega]; exact this
theorem frB_ok (ops : Array Oper) (ord : List Nat) : FrOk .any ops (frB (lstOf ops ord) ops.toList) := by
  intro j o ho he hf listed hsh hr
  rintro ⟨i, oi, hoi, hl, hun⟩
  unfold frB at hf
  rw [Bool.or_eq_true] at hf
  rcases hf with hf | hf
  · have := LstOk.all (lstOf_ok ops ord) (isLst_iff.1 hf) hsh hr i (lt_size hoi) (fun e => by
      subst e
      rw [ho] at hoi; cases hoi
      unfold effB at he; unfold ldB at hl
      cases hk : kindS o.op <;> rw [hk] at he hl <;> simp at he hl)
    rw [hun] at this; cases this
  · rw [Bool.and_eq_true] at hf
    have h2 := hf.2
    unfold loadsB at h2
    rw [nth_eq] at h2
    have hoj : ops.toList[j]? = some o := by simpa using ho
    rw [hoj] at h2
    have h3 := memQ_iff (allLd_at h2 i oi (by simpa using hoi) hl)
    rw [Nat.zero_add] at h3
    obtain ⟨-, o', ho', hall⟩ := mem_ready.1 hr
    rw [ho] at ho'; cases ho'
    have hsh' : Shut .any ops.toList.toArray listed := by simpa using hsh
    have := clo_ok hsh' 3000 _ _ (fun k hk => by
      obtain ⟨e, he, hb, rfl⟩ := predsL_mem hk
      exact hall e he hb) (fun k hk => by simp at hk) i h3
    rw [hun] at this; cases this
def canOk (ops : Array Oper) (l : List Nat) : Bool := Nat.beq (OT.of l).len ops.size && Region.noSelect ops && canB ops (lstOf ops l) (OT.of l) ((OT.of l).marks (Array.replicate ops.size false)) true (Array.replicate ops.size false) && (Region.ready .any ops ((OT.of l).marks (Array.replicate ops.size false))).isEmpty

theorem shut0 (md : Region.Mode) (ops : Array Oper) : Shut md ops (Array.replicate ops.size false) := by
  intro j o ho hj
  rw [Array.getD_eq_getD_getElem?] at hj
  simp only [Array.getElem?_replicate] at hj
  split at hj <;> cases hj
theorem sRegS_wp {r : Option Nat} {n : Nat} {P : Program} {N : Nat} {id : Nat} {ops : Array Oper} {ord : List Nat} {Q : Exit → Act → World → Prop} {env : Env} {a : Act} {K : Env → World → Prop} {w : World} (hm : P.follows .mixedOrders = true) (hok : canOk ops ord = true)
    (h : keeps (fun S w => sOpsS S P N (lstOf ops ord) ops.toList (OT.of ord) env K w) w.drew) (hrel : Rel N ds env a) (hK : ∀ env' a' w', Rel N ds env' a' → Ext (dsts ops.toList) env env' → K env' w' → Q .normal a' w') : (Code.region id ops true).wpIn (Fr r) n P Q a w := by
  simp only [canOk, Bool.and_eq_true] at hok
  obtain ⟨⟨⟨h1, h2⟩, h3⟩, h4⟩ := hok
  have hlen : (OT.of ord).len = ops.size := Nat.eq_of_beq_eq_true h1
  obtain ⟨S, hS, h⟩ := h
  refine wpIn_region_any hm ?_
  have := sOpsS_any (frB_ok ops ord) (Q := fun a w => Q .normal a w) h2 (OT.of ord) (dsts ops.toList) (fun t ht => ht) 0 _ true _ (shut0 _ _) (fun _ => hS) h3 h hrel (fun env' a' w' _ _ q1 q2 q3 => ⟨by simpa using h4, hK env' a' w' q1 q2 q3⟩)
  replace this := this.1 rfl
  rw [Nat.zero_add, hlen] at this
  exact wpAny_of_E (S := S) (fun _ _ h => h) _ _ _ _ this



def loop {X : Type} (x0 : X) (body : X → (X → World → Prop) → World → Prop) (w : World) : Prop :=
  ∃ (I : X → World → Prop) (m : X → World → Nat), I x0 w ∧ ∀ x w, I x w → body x (fun x' w' => I x' w' ∧ m x' w' < m x w) w

/-! ### code -/
def wrs : Code → List Nat
  | .region _ ops _ => dsts ops.toList
  | .seq a b => wrs a ++ wrs b
  | .cond _ a b => wrs a ++ wrs b
  | .block _ c => wrs c
  | .loop c => wrs c
  | .scope c => wrs c
  | .rangeFunc .. => []
  | _ => []

/-! ### a range over a function -/
abbrev Rt := LoopState → Option Code → Obj
def yv (l : Nat) : Value := .func (.yield l) #[] #[]
/-- entering: 'X' at the new blocks (for deferred calls; the loop's record, as 'R' says), 'Y' what a round is -/
def rfn (P : Program) (X : Nat → Nat → Rt → World → Prop) (Y : Nat → Rt → List Value → KV → World → Prop) (w : World) : Prop :=
  ∀ R : Rt, (∀ args K' w', w'.heap[w.heap.size + 1]? = some (R .ready none) → Y (w.heap.size + 1) R args K' w' → goyield P (w.heap.size + 1) args K' w') →
    X w.heap.size (w.heap.size + 1) R ((w.alloc (.deferred (some []))).alloc (R .ready none))
/-- a round begins -/
def rfb (l : Nat) (R : Rt) (X : World → Prop) (w : World) : Prop := w.heap[l]? = some (R .ready none) ∧ X (w.putObj l (R .busy none))
/-- a round goes on -/
def rfy (l : Nat) (R : Rt) (K' : KV) (w : World) : Prop := w.heap[l]? = some (R .busy none) ∧ K' (.bool true) (w.putObj l (R .ready none))
/-- a round leaves the loop -/
def rfx (l : Nat) (R : Rt) (j : Code) (K' : KV) (w : World) : Prop := w.heap[l]? = some (R .busy none) ∧ K' (.bool false) (w.putObj l (R .done (some j)))
/-- behind the function that was ranged over -/
def rfe (l : Nat) (R : Rt) (J : Option Code → World → Prop) (w : World) : Prop := ∃ st pe, st ≠ .busy ∧ w.heap[l]? = some (R st pe) ∧ J pe (w.putObj l (R .exhausted pe))
def lookJ : List (Nat × (World → Prop)) → Nat → World → Prop
  | [], _, w => fls "jump" w
  | (i, X) :: r, j, w => (match Nat.beq i j with | true => X w | false => lookJ r j w)
def rfj (Kn Kr : World → Prop) (Ke : List (Nat × (World → Prop))) (pe : Option Code) (w : World) : Prop :=
  match pe with
  | none => Kn w
  | some .ret => Kr w
  | some (.exit id) => lookJ Ke id w
  | _ => fls "jump" w
/-- the deferred calls' blocks at a function's end -/
def dfr (D : Nat) (X : World → Prop) (w : World) : Prop := w.heap[D]? = some (.deferred (some [])) ∧ X (w.putObj D (.deferred none))
def dfrs : List Nat → (World → Prop) → World → Prop
  | [], X, w => X w
  | D :: r, X, w => dfr D (fun w => dfrs r X w) w
def asFn (v : Value) (K : FuncId → Array Value → World → Prop) (w : World) : Prop := ∃ f cs, v = .func (.func f) #[] cs ∧ K f cs w
def headN : List Nat → Nat
  | [] => 0
  | t :: _ => t
def exitsC : Code → List Nat
  | .exit id => [id]
  | .seq a b | .cond _ a b | .rangeFunc _ _ a b => exitsC a ++ exitsC b
  | .block _ c | .loop c | .scope c => exitsC c
  | _ => []
def zipE : List Nat → List Value → Env → Option Env
  | [], [], env => some env
  | p :: ps, v :: vs, env => (match zipE ps vs env with | some e => some ((p, v) :: e) | none => none)
  | _, _, _ => none
def noRF : Code → Bool
  | .rangeFunc .. => false
  | .seq a b | .cond _ a b => noRF a && noRF b
  | .block _ c | .loop c | .scope c => noRF c
  | _ => true
def allLt (N : Nat) : List Nat → Bool
  | [] => true
  | t :: r => (match Nat.blt t N with | true => allLt N r | false => false)
def dupE (N : Nat) : List Nat → Bool
  | [] => true
  | t :: r => (match memN t r, Nat.blt t N with | false, true => dupE N r | _, _ => false)

abbrev KC := Exit → Env → List Nat → World → Prop
def litE (env : Env) (c : Operand) (b : Bool) : Env := match c with | .tmp t => (t, .bool b) :: env | _ => env

def look : List (Nat × List Nat) → Nat → Option (List Nat)
  | [], _ => none
  | (i, l) :: r, j => (match Nat.beq i j with | true => some l | false => look r j)

def exK (K : KC) (env : Env) (dl : List Nat) : List Nat → List (Nat × (World → Prop))
  | [] => []
  | i :: r => (i, K (.exit i) env dl) :: exK K env dl r

/-! a place where ways come together ('T' names it, and what is handed on) -/
def firstR : Code → Nat
  | .region id _ _ => id
  | .seq a _ => firstR a
  | .cond _ a _ => firstR a
  | .block _ c | .loop c | .scope c => firstR c
  | _ => 999999

def sCode (P : Program) (N : Nat) (T : List (Nat × List Nat)) : Code → Env → List Nat → KC → World → Prop
  | .skip, env, dl, K, w => K .normal env dl w
  | .label _, env, dl, K, w => K .normal env dl w
  | .exit id, env, dl, K, w => K (.exit id) env dl w
  | .goto l, env, dl, K, w => K (.goto l) env dl w
  | .ret, env, dl, K, w => K .ret env dl w
  | .region id ops draw, env, dl, K, w => (match draw, look T id with
    | true, some ord => keeps (fun S w => sOpsS S P N (lstOf ops ord) ops.toList (OT.of ord) env (fun env w => K .normal env dl w) w) w.drew
    | _, _ => sRegY P N ops.toList draw env (fun env w => K .normal env dl w) w)
  | .seq a b, env, dl, K, w => (match look T (4000000 + firstR b) with
    | some l => (match inL (wrs a) (slotsJ l), noRF a with
      | true, true => join (X := SlotsP (slotsJ l)) (fun I w => sCode P N T a env dl (fun ex env' dl' w => match ex with
          | .normal => (match unslots (slotsJ l) env' with | some x => I x w | none => fls "join" w)
          | ex => K ex env' dl' w) w) (fun x w => sCode P N T b (slotsE (slotsJ l) x ++ dropE (wrs a) env) dl K w) w
      | _, _ => fls "join" w)
    | none => sCode P N T a env dl (fun ex env dl w => match ex with | .normal => sCode P N T b env dl K w | ex => K ex env dl w) w)
  | .cond c a b, env, dl, K, w => (match knows env c, rho env c with
    | true, .bool t => br t (sCode P N T a (litE env c true) dl K) (sCode P N T b (litE env c false) dl K) w
    | _, _ => fls "cond" w)
  | .block id c, env, dl, K, w => sCode P N T c env dl (fun ex env dl w => match ex with | .exit id' => (match Nat.beq id' id with | true => K .normal env dl w | false => K (.exit id') env dl w) | ex => K ex env dl w) w
  | .scope c, env, dl, K, w => sCode P N T c env dl (fun ex env dl w => match ex with | .goto _ => fls "goto" w | ex => K ex env dl w) w
  | .loop c, env, dl, K, w =>
    (match unslots (slotsOf (wrs c) env []) env, inL (wrs c) (slotsOf (wrs c) env []), noRF c with
    | some x0, true, true => loop x0 (fun x rec w => sCode P N T c (slotsE (slotsOf (wrs c) env []) x ++ dropE (wrs c) env) dl (fun ex env' _ w => match ex with
        | .normal => (match unslots (slotsOf (wrs c) env []) env' with | some x' => rec x' w | none => fls "loop" w)
        | ex => K ex env' dl w) w) w
    | _, _, _ => fls "loop" w)
  | .rangeFunc g ps assign body, env, dl, K, w => (match knows env g, look T (1000000 + headN ps.toList) with
    | true, some ts => asFn (rho env g) (fun f cs w => rfn P
        (fun D l R w => gocall P f (yv l :: cs.toList) (fun _ w => rfe l R (rfj (K .normal env (D :: dl)) (K .ret env (D :: dl)) (exK K env (D :: dl) (exitsC body))) w) w)
        (fun l R args K' w => asT ts.length (.tuple args.toArray) (fun h w => tupV P h 0 ts [] (fun v w => (match v with
          | .tuple vs => (match zipE ps.toList vs.toList env, dupE N ps.toList with
            | some env0, true => sCode P N T assign env0 [] (fun ex env1 _ w => match ex with
              | .normal => rfb l R (fun w => sCode P N T body env1 [] (fun ex _ _ w => match ex with
                | .normal => rfy l R K' w
                | .ret => rfx l R .ret K' w
                | .exit id => rfx l R (.exit id) K' w
                | _ => fls "round" w) w) w
              | _ => fls "round" w) w
            | _, _ => fls "yield" w)
          | _ => fls "yield" w)) w) w) w) w
    | _, _ => fls "rangeFunc" w)
  | .refuse _, _, _, _, w => fls "refuse" w

/-- the regions that draw may be walked in the text's order (a closed test) -/
def codeOk (T : List (Nat × List Nat)) : Code → Bool
  | .region id ops draw => !draw || (match look T id with | some ord => canOk ops ord | none => regOk ops)
  | .seq a b | .cond _ a b => codeOk T a && codeOk T b
  | .block _ c | .loop c | .scope c => codeOk T c
  | .rangeFunc _ _ a b => roundOk T a && roundOk T b
  | _ => true
where
  /-- the same, in a round -/
  roundOk (T : List (Nat × List Nat)) : Code → Bool
  | .region id ops draw => !draw || (match look T id with | some ord => canOk ops ord | none => false)
  | .seq a b | .cond _ a b => roundOk T a && roundOk T b
  | .block _ c | .loop c | .scope c => roundOk T c
  | .rangeFunc .. => false
  | _ => true
def okAt (T : List (Nat × List Nat)) : Option Nat → Code → Bool
  | none, c => codeOk T c
  | some _, c => codeOk.roundOk T c

def mkD (D : Nat) : Deferred := { target := .collected D, args := #[] }
def Post (N : Nat) (L : List Nat) (fl : Bool) (env : Env) (dl : List Nat) (K : KC) (ex : Exit) (a : Act) (w : World) : Prop := ∃ env' dl', Rel N (dl'.map mkD) env' a ∧ Ext L env env' ∧ (fl = true → dl' = dl) ∧ K ex env' dl' w

theorem litE_rel {N : Nat} {env : Env} {a : Act} {c : Operand} {b : Bool} (h : Rel N ds env a) (hk : knows env c = true) (hb : rho env c = .bool b) : Rel N ds (litE env c b) a ∧ ∀ L, Ext L env (litE env c b) := by
  cases c with
  | tmp t =>
    have : eget env t = some (.bool b) := by
      simp only [knows] at hk
      split at hk
      · rename_i v hv; simp only [rho, hv] at hb; rw [hv, hb]
      · cases hk
    exact ⟨h.lit this, fun L => Ext.lit this⟩
  | const v => exact ⟨h, fun L => Ext.refl _ _⟩
  | global g => exact ⟨h, fun L => Ext.refl _ _⟩
  | func f => exact ⟨h, fun L => Ext.refl _ _⟩

theorem Post.of {N : Nat} {L L' : List Nat} {f f' : Bool} {env env1 : Env} {dl dl1 : List Nat} {K : KC} {ex : Exit} {a : Act} {w : World} (he : Ext L' env env1) (hl : ∀ t ∈ L, t ∈ L') (hf : f' = true → f = true ∧ dl1 = dl) (h : Post N L f env1 dl1 K ex a w) : Post N L' f' env dl K ex a w := by
  obtain ⟨env', dl', h1, h2, h3, h4⟩ := h
  exact ⟨env', dl', h1, he.trans (h2.mono hl), fun h => (h3 (hf h).1).trans (hf h).2, h4⟩

theorem wpIn_loopX {r : Option Nat} {n : Nat} {P : Program} {Q : Exit → Act → World → Prop} {a : Act} {w : World} {c : Code} {X : Type} (I : X → Act → World → Prop) (μ : X → World → Nat) (x0 : X) (h₀ : I x0 a w)
    (round : ∀ x a w, I x a w → c.wpIn (Fr r) n P (Exit.then (fun a' w' => ∃ x', I x' a' w' ∧ μ x' w' < μ x w) Q) a w) : (Code.loop c).wpIn (Fr r) n P Q a w := by
  intro b k cs hro hb hr
  have key : ∀ m x a w, μ x w = m → I x a w →
      ∃ e a' w', Q e a' w' ∧ ArrivesIn (Machine.fenced P (Fr r)) P (lone (b.atR a (.code c :: .inLoop c :: k)) cs w) b k cs e a' w' := by
    intro m
    induction m using Nat.strongRecOn with
    | _ m ih =>
      intro x a w hn hI
      obtain ⟨e, a₁, w₁, hq, harr⟩ := round x a w hI b (.inLoop c :: k) cs hro hb hr
      cases e with
      | normal =>
        obtain ⟨x₁, hI₁, hlt⟩ := hq
        obtain ⟨e₂, a₂, w₂, hq₂, harr₂⟩ := ih (μ x₁ w₁) (hn ▸ hlt) x₁ a₁ w₁ rfl hI₁
        exact ⟨e₂, a₂, w₂, hq₂, .of_steps (StepsIn.trans harr (.one (fenced_calm hb hr rfl) stepR_inLoop)) harr₂⟩
      | exit id => exact ⟨_, a₁, w₁, hq, .pass (x := .inLoop c) rfl (fun _ _ => .inl (by simp)) harr⟩
      | goto l => exact ⟨_, a₁, w₁, hq, .pass (x := .inLoop c) rfl (fun _ _ => .inl (by simp)) harr⟩
      | ret => exact ⟨_, a₁, w₁, hq, .pass (x := .inLoop c) rfl (fun _ _ => .inl (by simp)) harr⟩
      | panic ch => exact ⟨_, a₁, w₁, hq, .pass (x := .inLoop c) rfl (fun _ _ => .inl (by simp)) harr⟩
      | outgrown => exact ⟨_, a₁, w₁, hq, .pass (x := .inLoop c) rfl (fun _ _ => .inl (by simp)) harr⟩
  obtain ⟨e, a', w', hq, harr⟩ := key _ x0 a w rfl h₀
  exact ⟨e, a', w', hq, .of_steps (.one (fenced_calm hb hr rfl) stepR_loop) harr⟩

theorem fold_size (l : List (Nat × Value)) (tm : Array Value) : (l.foldl (fun tm x => tm.setIfInBounds x.1 x.2) tm).size = tm.size := by
  induction l generalizing tm with
  | nil => rfl
  | cons x l ih => simp [ih]
theorem zipE_rel {N : Nat} : ∀ {ps : List Nat} {vs : List Value} {env env0 : Env} {tmps : Array Value}, zipE ps vs env = some env0 → dupE N ps = true → tmps.size = N → (∀ t v, eget env t = some v → tmps.getD t undef = v) →
    ps.length = vs.length ∧ ((ps.zip vs).foldl (fun tm x => tm.setIfInBounds x.1 x.2) tmps).size = N ∧ ∀ t v, eget env0 t = some v → ((ps.zip vs).foldl (fun tm x => tm.setIfInBounds x.1 x.2) tmps).getD t undef = v
  | [], [], env, env0, tmps, h, _, hs, hv => by cases h; exact ⟨rfl, hs, hv⟩
  | p :: ps, v :: vs, env, env0, tmps, h, hd, hs, hv => by
    simp only [zipE] at h
    split at h
    · rename_i e he
      cases h
      simp only [dupE] at hd
      split at hd
      · rename_i hm hlt
        have hlt' : p < N := by simpa [Nat.blt_eq] using hlt
        have hnm : p ∉ ps := fun hm' => by rw [memN_iff.2 hm'] at hm; cases hm
        have other : ∀ (l : List (Nat × Value)) (tm : Array Value), (∀ x ∈ l, x.1 ≠ p) → (l.foldl (fun tm x => tm.setIfInBounds x.1 x.2) tm).getD p undef = tm.getD p undef := by
          intro l
          induction l with
          | nil => intro tm _; rfl
          | cons x l ih =>
            intro tm hx
            simp only [List.foldl_cons]
            rw [ih _ (fun y hy => hx y (by simp [hy]))]
            have := hx x (by simp)
            simp only [Array.getD_eq_getD_getElem?, Array.getElem?_setIfInBounds]
            rw [if_neg this]
        have swap : ∀ (l : List (Nat × Value)) (tm : Array Value), (∀ x ∈ l, x.1 ≠ p) → ∀ u, u ≠ p → (l.foldl (fun tm x => tm.setIfInBounds x.1 x.2) (tm.setIfInBounds p v)).getD u undef = (l.foldl (fun tm x => tm.setIfInBounds x.1 x.2) tm).getD u undef := by
          intro l
          induction l with
          | nil =>
            intro tm _ u hu
            simp only [List.foldl_nil, Array.getD_eq_getD_getElem?, Array.getElem?_setIfInBounds]
            rw [if_neg (Ne.symm hu)]
          | cons x l ih =>
            intro tm hx u hu
            simp only [List.foldl_cons]
            rw [Array.setIfInBounds_comm _ _ (Ne.symm (hx x (by simp)))]
            exact ih _ (fun y hy => hx y (by simp [hy])) u hu
        have hzip : ∀ x ∈ ps.zip vs, x.1 ≠ p := fun x hx e => hnm (e ▸ (List.of_mem_zip hx).1)
        obtain ⟨g1, g2, g3⟩ := zipE_rel he hd hs hv
        refine ⟨by simp [g1], ?_, ?_⟩
        · rw [fold_size]; exact hs
        · intro t u hu
          simp only [List.zip_cons_cons, List.foldl_cons]
          rw [eget_cons] at hu
          by_cases htp : p = t
          · subst htp
            rw [if_pos rfl] at hu
            cases hu
            rw [other _ _ hzip]
            simp only [Array.getD_eq_getD_getElem?, Array.getElem?_setIfInBounds, if_true]
            rw [if_pos (by omega)]
            rfl
          · rw [if_neg htp] at hu
            rw [swap _ _ hzip t (Ne.symm htp)]
            exact g3 t u hu
      · cases hd
    · cases h

theorem roundOk_noRF {T : List (Nat × List Nat)} : ∀ {c : Code}, codeOk.roundOk T c = true → noRF c = true := by
  intro c
  induction c with
  | seq a b iha ihb => intro h; simp only [codeOk.roundOk, Bool.and_eq_true] at h; simp [noRF, iha h.1, ihb h.2]
  | cond _ a b iha ihb => intro h; simp only [codeOk.roundOk, Bool.and_eq_true] at h; simp [noRF, iha h.1, ihb h.2]
  | block _ c ih => intro h; exact ih h
  | loop c ih => intro h; exact ih h
  | scope c ih => intro h; exact ih h
  | rangeFunc => intro h; cases h
  | _ => intro _; rfl
theorem lookJ_exK {K : KC} {env : Env} {dl : List Nat} : ∀ {l : List Nat} {i : Nat} {w : World}, lookJ (exK K env dl l) i w → K (.exit i) env dl w
  | [], i, w, h => h.elim
  | j :: l, i, w, h => by
    simp only [exK, lookJ] at h
    split at h
    · rename_i hb; rw [← Nat.eq_of_beq_eq_true hb]; exact h
    · exact lookJ_exK h
theorem Rel.marks {N : Nat} {env : Env} {a : Act} {dl : List Nat} (h : Rel N (dl.map mkD) env a) (D : Nat) : Rel N ((D :: dl).map mkD) env { a with defers := [mkD D] ++ a.defers } := ⟨h.size, by simp [h.defers], h.val⟩

theorem sCode_wp {P : Program} (hm : P.follows .mixedOrders = true) {N : Nat} {T : List (Nat × List Nat)} {n : Nat} : ∀ (c : Code) {r : Option Nat}, okAt T r c = true → ∀ {env : Env} {a : Act} {dl : List Nat} {K : KC} {w : World}, sCode P N T c env dl K w → Rel N (dl.map mkD) env a → c.wpIn (Fr r) n P (Post N (wrs c) (noRF c) env dl K) a w := by
  intro c
  induction c generalizing n with
  | skip => intro r _ env a dl K w h hr; exact wpIn_skip ⟨env, dl, hr, Ext.refl _ _, fun _ => rfl, h⟩
  | label l => intro r _ env a dl K w h hr; exact wpIn_label ⟨env, dl, hr, Ext.refl _ _, fun _ => rfl, h⟩
  | exit id => intro r _ env a dl K w h hr; exact wpIn_exit ⟨env, dl, hr, Ext.refl _ _, fun _ => rfl, h⟩
  | goto l => intro r _ env a dl K w h hr; exact wpIn_goto ⟨env, dl, hr, Ext.refl _ _, fun _ => rfl, h⟩
  | ret => intro r _ env a dl K w h hr; exact wpIn_ret ⟨env, dl, hr, Ext.refl _ _, fun _ => rfl, h⟩
  | region id ops draw =>
    intro r hok env a dl K w h hr
    simp only [sCode] at h
    split at h
    · rename_i ord ho
      have hok' : canOk ops ord = true := by cases r <;> simpa [okAt, codeOk, codeOk.roundOk, ho] using hok
      exact sRegS_wp hm hok' h hr (fun env' a' w' h1 h2 h3 => ⟨env', dl, h1, h2, fun _ => rfl, h3⟩)
    · rename_i hno
      refine sRegY_wp hm (fun hd => ?_) h hr (fun env' a' w' h1 h2 h3 => ⟨env', dl, h1, h2, fun _ => rfl, h3⟩)
      subst hd
      cases hl : look T id with
      | none =>
        cases r with
        | none => exact ⟨by simpa [okAt, codeOk, hl] using hok, rfl⟩
        | some l => simp [okAt, codeOk.roundOk, hl] at hok
      | some ord => exact absurd hl (hno ord rfl)
  | seq x y ihx ihy =>
    intro r hok env a dl K w h hr
    have hok' : okAt T r x = true ∧ okAt T r y = true := by cases r <;> simpa [okAt, codeOk, codeOk.roundOk] using hok
    simp only [sCode] at h
    split at h
    · rename_i l hl
      split at h
      · rename_i hin hrf
        obtain ⟨I, hA, hB⟩ := h
        refine wpIn_seq (wpIn_mono (ihx hok'.1 hA hr) ?_)
        rintro ex a' w' ⟨env', dl', h1, h2, h3, h4⟩
        obtain rfl := h3 hrf
        cases ex with
        | normal =>
          simp only at h4
          split at h4
          · rename_i y hy
            have ext0 : Ext (wrs x) env (slotsE (slotsJ l) y ++ dropE (wrs x) env) := by
              intro t ht
              rw [eget_append, inL_slots hin y ht, eget_dropE ht]
            have rel0 : Rel N (dl'.map mkD) (slotsE (slotsJ l) y ++ dropE (wrs x) env) a' := by
              refine ⟨h1.size, h1.defers, fun t v hv => ?_⟩
              rw [eget_append] at hv
              split at hv
              · rename_i v' hv'
                cases hv
                exact h1.val t _ (unslots_some hy t _ hv')
              · by_cases ht : t ∈ wrs x
                · rw [eget_dropE_in ht] at hv; cases hv
                · rw [eget_dropE ht] at hv
                  exact h1.val t v (by rw [h2 t ht]; exact hv)
            exact wpIn_mono (ihy hok'.2 (hB y w' h4) rel0) (fun e a w hp => Post.of (ext0.mono (by simp [wrs]; intro t ht; exact .inl ht)) (by simp [wrs]; intro t ht; exact .inr ht) (fun hf => by
              simp only [noRF, Bool.and_eq_true] at hf
              exact ⟨hf.2, rfl⟩) hp)
          · exact h4.elim
        | _ => exact ⟨env', dl', h1, h2.mono (by simp [wrs]; intro t ht; exact .inl ht), fun hf => rfl, h4⟩
      · exact h.elim
    · rename_i hnone
      refine wpIn_seq (wpIn_mono (ihx hok'.1 h hr) ?_)
      rintro ex a' w' ⟨env', dl', h1, h2, h3, h4⟩
      have h5 : noRF (.seq x y) = true → noRF y = true ∧ dl' = dl := fun hf => by
        simp only [noRF, Bool.and_eq_true] at hf
        exact ⟨hf.2, h3 hf.1⟩
      cases ex with
      | normal =>
        exact wpIn_mono (ihy hok'.2 h4 h1) (fun e a w hp => Post.of (h2.mono (by simp [wrs]; intro t ht; exact .inl ht)) (by simp [wrs]; intro t ht; exact .inr ht) h5 hp)
      | _ => exact ⟨env', dl', h1, h2.mono (by simp [wrs]; intro t ht; exact .inl ht), fun hf => (h5 hf).2, h4⟩
  | cond c x y ihx ihy =>
    intro r hok env a dl K w h hr
    have hok' : okAt T r x = true ∧ okAt T r y = true := by cases r <;> simpa [okAt, codeOk, codeOk.roundOk] using hok
    simp only [sCode] at h
    split at h
    · rename_i t hk hb
      refine wpIn_cond (t := t) (by rw [hr.eval hk, hb]) ?_
      unfold br at h
      have h5 : noRF (.cond c x y) = true → noRF x = true ∧ noRF y = true := fun hf => by simpa [noRF] using hf
      cases t
      · simp only [Bool.false_eq_true, if_false] at h ⊢
        obtain ⟨r1, r2⟩ := litE_rel hr hk hb
        exact wpIn_mono (ihy hok'.2 h r1) (fun e a w hp => Post.of (r2 _) (by simp [wrs]; intro t ht; exact .inr ht) (fun hf => ⟨(h5 hf).2, rfl⟩) hp)
      · simp only [if_true] at h ⊢
        obtain ⟨r1, r2⟩ := litE_rel hr hk hb
        exact wpIn_mono (ihx hok'.1 h r1) (fun e a w hp => Post.of (r2 _) (by simp [wrs]; intro t ht; exact .inl ht) (fun hf => ⟨(h5 hf).1, rfl⟩) hp)
    · exact h.elim
  | block id x ih =>
    intro r hok env a dl K w h hr
    have hok' : okAt T r x = true := by cases r <;> exact hok
    refine wpIn_block (wpIn_mono (ih hok' h hr) ?_)
    rintro ex a' w' ⟨env', dl', h1, h2, h3, h4⟩
    cases ex with
    | exit id' =>
      simp only [Exit.inBlock]
      cases hb : Nat.beq id' id
      · rw [if_neg (fun e => by subst e; simp at hb)]
        simp only [hb] at h4
        exact ⟨env', dl', h1, h2, h3, h4⟩
      · rw [if_pos (Nat.eq_of_beq_eq_true hb)]
        simp only [hb] at h4
        exact ⟨env', dl', h1, h2, h3, h4⟩
    | _ => exact ⟨env', dl', h1, h2, h3, h4⟩
  | scope x ih =>
    intro r hok env a dl K w h hr
    have hok' : okAt T r x = true := by cases r <;> exact hok
    refine wpIn_scope_straight (wpIn_mono (ih hok' h hr) ?_)
    rintro ex a' w' ⟨env', dl', h1, h2, h3, h4⟩
    cases ex with
    | goto l => exact h4.elim
    | _ => exact ⟨env', dl', h1, h2, h3, h4⟩
  | loop x ih =>
    intro r hok env a dl K w h hr
    have hok' : okAt T r x = true := by cases r <;> exact hok
    simp only [sCode] at h
    split at h
    · rename_i x0 hx0 hin hrf
      obtain ⟨I, m, h0, hstep⟩ := h
      have ext0 : ∀ (y : SlotsP (slotsOf (wrs x) env [])), Ext (wrs x) env (slotsE _ y ++ dropE (wrs x) env) := by
        intro y t ht
        rw [eget_append, inL_slots hin y ht, eget_dropE ht]
      have rel0 : ∀ (y : SlotsP (slotsOf (wrs x) env [])) (env' : Env) (a' : Act), Rel N (dl.map mkD) env' a' → Ext (wrs x) env env' → unslots (slotsOf (wrs x) env []) env' = some y → Rel N (dl.map mkD) (slotsE _ y ++ dropE (wrs x) env) a' := by
        intro y env' a' hr' he hy
        refine ⟨hr'.size, hr'.defers, fun t v hv => ?_⟩
        rw [eget_append] at hv
        split at hv
        · rename_i v' hv'
          cases hv
          exact hr'.val t _ (unslots_some hy t _ hv')
        · by_cases ht : t ∈ wrs x
          · rw [eget_dropE_in ht] at hv; cases hv
          · rw [eget_dropE ht] at hv
            exact hr'.val t v (by rw [he t ht]; exact hv)
      refine wpIn_loopX (fun y a' w' => Rel N (dl.map mkD) (slotsE _ y ++ dropE (wrs x) env) a' ∧ I y w') m x0 ⟨rel0 x0 env a hr (Ext.refl _ _) hx0, h0⟩ ?_
      rintro y a1 w1 ⟨hr1, hI⟩
      refine wpIn_mono (ih hok' (hstep y w1 hI) hr1) ?_
      rintro ex a2 w2 ⟨env2, dl2, g1, g2, g3, g4⟩
      obtain rfl := g3 hrf
      cases ex with
      | normal =>
        simp only at g4
        split at g4
        · rename_i x' hx'
          exact ⟨x', ⟨rel0 x' env2 a2 g1 ((ext0 y).trans g2) hx', g4.1⟩, g4.2⟩
        · exact g4.elim
      | _ => exact ⟨env2, dl2, g1, (ext0 y).trans g2, fun _ => rfl, g4⟩
    · exact h.elim
  | rangeFunc g ps x y ihx ihy =>
    intro r hok env a dl K w h hr
    cases r with
    | some l => simp [okAt, codeOk.roundOk] at hok
    | none =>
      have hok' : codeOk.roundOk T x = true ∧ codeOk.roundOk T y = true := by simpa [okAt, codeOk] using hok
      simp only [sCode] at h
      split at h
      · rename_i ts hk _
        obtain ⟨f, cs, hg, h⟩ := h
        refine wpIn_rangeFunc fun fn _ => ?_
        have hcl := h (fun st pe => .loop { state := st, pending := pe, fn := fn, tmps := a.tmps, params := ps, assign := x, body := y, defers := w.heap.size }) ?_
        · obtain ⟨hgo, hcall⟩ := hcl
          refine ⟨w.heap.size + 1, [mkD w.heap.size], ((w.alloc (.deferred (some []))).alloc (.loop { state := .ready, pending := none, fn := fn, tmps := a.tmps, params := ps, assign := x, body := y, defers := w.heap.size })), { target := .fn (.func f) cs, args := #[] ++ #[yv (w.heap.size + 1)] }, ((w.alloc (.deferred (some []))).alloc (.loop { state := .ready, pending := none, fn := fn, tmps := a.tmps, params := ps, assign := x, body := y, defers := w.heap.size })), f, (yv (w.heap.size + 1) :: cs.toList).toArray, ((w.alloc (.deferred (some []))).alloc (.loop { state := .ready, pending := none, fn := fn, tmps := a.tmps, params := ps, assign := x, body := y, defers := w.heap.size })), run_enterLoop_outer fn a.tmps ps x y, ?_, fun _ _ => trivial, ?_, fun h => by simp [Fence.wide] at h, ?_⟩
          · have e : (#[Operand.const (.func (.yield (w.heap.size + 1)) #[] #[])] : Array Operand).map a.eval = #[yv (w.heap.size + 1)] := by simp [Act.eval, yv]
            simp only [resolve, hr.eval hk, hg, Deferred.ofValue, e]
            rfl
          · simp only [invoke]
            have e : #[] ++ #[yv (w.heap.size + 1)] ++ cs = (yv (w.heap.size + 1) :: cs.toList).toArray := by apply Array.ext'; simp
            rw [e]
            exact callFunc_go hgo
          · refine callsIn_Fr (hcall.mono ?_)
            rintro e w3 ⟨v, rfl, st, pe, hst, hl, hj⟩
            refine ⟨pe, _, run_endLoop hl hst, ?_⟩
            have hrel := hr.marks w.heap.size
            have post : ∀ {ex : Exit} {w4 : World}, K ex env (w.heap.size :: dl) w4 → Post N (wrs (.rangeFunc g ps x y)) (noRF (.rangeFunc g ps x y)) env dl K ex { a with defers := [mkD w.heap.size] ++ a.defers } w4 := fun hk => ⟨env, _, hrel, Ext.refl _ _, (fun h => by cases h), hk⟩
            cases pe with
            | none => exact post hj
            | some c =>
              cases c with
              | ret => exact wpIn_ret (post hj)
              | exit id => exact wpIn_exit (post (lookJ_exK hj))
              | _ => exact hj.elim
        · intro args K' w' hrec hy
          obtain ⟨hh, he, hy⟩ := hy
          replace hy := tupV_out _ _ _ hy
          have he2 : args = (List.range' 0 ts.length).map hh := by
            injection he with he
            have := congrArg Array.toList he
            rw [List.range_eq_range'] at this
            exact this
          rw [List.nil_append, ← he2] at hy
          simp only at hy
          split at hy
          · rename_i env0 hz hd
            rw [List.toList_toArray] at hz
            obtain ⟨z1, z2, z3⟩ := zipE_rel hz hd hr.size hr.val
            have hps : args.toArray.size = ps.size := by
              have := z1
              simp only [Array.length_toList] at this
              simp [this]
            have ef : ((ps.zip args.toArray).foldl (fun tmps (t, a) => tmps.setIfInBounds t a) a.tmps) = (ps.toList.zip args).foldl (fun tm x => tm.setIfInBounds x.1 x.2) a.tmps := by
              rw [← Array.foldl_toList, Array.toList_zip]
            refine ⟨fn, _, x, y, run_yield hrec hps, ?_⟩
            refine roundIn_of_wpIn (F := Fence.wide) trivial ?_
            show x.wpIn (Fr (some (w.heap.size + 1))) 0 P _ _ _
            refine wpIn_mono (ihx (r := some (w.heap.size + 1)) hok'.1 hy ⟨by rw [ef]; exact z2, rfl, by rw [ef]; exact z3⟩) ?_
            rintro ex a1 w1 ⟨env1, dl1, h1, h2, h3, h4⟩
            cases ex with
            | normal =>
              obtain ⟨hl, hX⟩ := h4
              obtain rfl := h3 (roundOk_noRF hok'.1)
              refine ⟨_, run_beginRound hl rfl, ?_⟩
              show y.wpIn (Fr (some (w.heap.size + 1))) 0 P _ _ _
              refine wpIn_mono (ihy (r := some (w.heap.size + 1)) hok'.2 hX h1) ?_
              rintro ex a2 w2 ⟨env2, dl2, g1, g2, g3, g4⟩
              cases ex with
              | normal => exact ⟨_, _, run_endRound none g4.1, _, rfl, g4.2⟩
              | ret => exact ⟨_, _, run_endRound (some .ret) g4.1, _, rfl, g4.2⟩
              | exit id => exact ⟨_, _, run_endRound (some (.exit id)) g4.1, _, rfl, g4.2⟩
              | _ => exact g4.elim
            | _ => exact h4.elim
          · exact hy.elim
      · exact h.elim
  | refuse why => intro r _ env a dl K w h hr; exact h.elim


/-! ### a function's body -/
def initE : Nat → List Value → Env
  | _, [] => []
  | i, v :: vs => (i, v) :: initE (i + 1) vs
def resV (P : Program) : List ResultVar → Env → List Value → (List Value → World → Prop) → World → Prop
  | [], _, acc, K, w => K acc w
  | .tmp t :: rs, env, acc, K, w => (match eget env t with
    | some v => resV P rs env (acc ++ [v]) K w
    | none => fls "result" w)
  | .cell t ty :: rs, env, acc, K, w => (match eget env t with
    | some (.pointer (some a)) => ldT P ty a (fun v w => resV P rs env (acc ++ [v]) K w) w
    | _ => fls "result" w)
def one : List Value → Value
  | [v] => v
  | vs => .tuple vs.toArray

def sBody (P : Program) (T : List (Nat × List Nat)) (fn : Func) (args : List Value) (R : KV) (w : World) : Prop :=
  match fn.body, Nat.ble args.length fn.ntmps with
  | some c, true => sCode P fn.ntmps T c (initE 0 args) [] (fun ex env dl w => match ex with
    | .normal => dfrs dl (fun w => resV P fn.results.toList env [] (fun vs w => R (one vs) w) w) w
    | .ret => dfrs dl (fun w => resV P fn.results.toList env [] (fun vs w => R (one vs) w) w) w
    | _ => fls "exit" w) w
  | _, _ => fls "body" w

theorem eget_init : ∀ (vs : List Value) (i t : Nat), eget (initE i vs) t = if i ≤ t then vs[t - i]? else none
  | [], i, t => by simp [initE, eget]
  | v :: vs, i, t => by
    simp only [initE]
    rw [eget_cons, eget_init vs (i + 1) t]
    by_cases h : i = t
    · subst h; simp
    · rw [if_neg h]
      by_cases h2 : i ≤ t
      · rw [if_pos h2, if_pos (by omega)]
        obtain ⟨k, hk⟩ : ∃ k, t - i = k + 1 := ⟨t - i - 1, by omega⟩
        have hk2 : t - (i + 1) = k := by omega
        rw [hk, hk2]; rfl
      · rw [if_neg h2, if_neg (by omega)]

def resF (tmps : Array Value) : ResultVar → Sem Value
  | .tmp t => pure (tmps.getD t undef)
  | .cell a' t => do loadVar t (← asAddr (tmps.getD a' undef))
theorem run_resT {P : Program} {tmps : Array Value} {t : Tmp} {v : Value} (hv : tmps.getD t undef = v) (w : World) : (resF tmps (.tmp t)).run P w = .ok v w := by
  simp only [resF, hv]; rfl
theorem run_resC {P : Program} {tmps : Array Value} {t : Tmp} {ty : TypeId} {p : Addr} {v : Value} {w : World} (hv : tmps.getD t undef = .pointer (some p)) (hl : (loadVar ty p).run P w = .ok v w) : (resF tmps (.cell t ty)).run P w = .ok v w := by
  simp only [resF, hv]
  exact hl
theorem resV_run {P : Program} {N : Nat} {env : Env} {a : Act} (hr : Rel N ds env a) : ∀ (rs : List ResultVar) (acc : List Value) {K : List Value → World → Prop} {w : World}, resV P rs env acc K w →
    ∃ vs, (rs.mapM (m := Sem) (resF a.tmps)).run P w = .ok vs w ∧ K (acc ++ vs) w
  | [], acc, K, w, h => ⟨[], by simp, by rw [List.append_nil]; exact h⟩
  | .tmp t :: rs, acc, K, w, h => by
    simp only [resV] at h
    split at h
    · rename_i v hv
      obtain ⟨vs, h1, h2⟩ := resV_run hr rs _ h
      refine ⟨v :: vs, ?_, by simpa using h2⟩
      rw [List.mapM_cons, Sem.run_bind, run_resT (hr.val t v hv), Result.andThen_ok, Sem.run_bind, h1]
      rfl
    · exact h.elim
  | .cell t ty :: rs, acc, K, w, h => by
    simp only [resV] at h
    split at h
    · rename_i p hv
      obtain ⟨v, hl, h⟩ := ldT_run h
      obtain ⟨vs, h1, h2⟩ := resV_run hr rs _ h
      refine ⟨v :: vs, ?_, by simpa using h2⟩
      rw [List.mapM_cons, Sem.run_bind, run_resC (hr.val t _ hv) hl, Result.andThen_ok, Sem.run_bind, h1]
      rfl
    · exact h.elim

theorem one_eq (vs : Array Value) : one vs.toList = if h : vs.size = 1 then vs[0] else .tuple vs := by
  obtain ⟨l⟩ := vs
  cases l with
  | nil => rfl
  | cons v l => cases l <;> simp [one]

theorem leaves_dfrs {P : Program} {fn : Func} {tmps : Array Value} {R : Ending → World → Prop} {X : World → Prop} (hX : ∀ w, X w → ∃ v, (results fn tmps).run P w = .ok v w ∧ R (.returned v) w) : ∀ {dl : List Nat} {w : World}, dfrs dl X w → LeavesInM Fence.wide 0 P fn tmps R (dl.map mkD) .returning w
  | [], w, h => hX w h
  | D :: dl, w, h => ⟨by simp, .inl ⟨D, _, rfl, run_takeDeferred h.1, leaves_dfrs hX h.2⟩⟩
/-- **What the shallow reading asks gives the call.** -/
theorem calls_of_sBody {P : Program} {T : List (Nat × List Nat)} (hm : P.follows .mixedOrders = true) {f : FuncId} {fn : Func} (hf : P.funcs[f]? = some fn) (hok : (match fn.body with | some c => codeOk T c | none => false) = true) {args : List Value} {R : KV} {w : World} (h : sBody P T fn args R w) :
    Calls P f args.toArray w (fun e w' => ∃ v, e = .returned v ∧ R v w') := by
  unfold sBody at h
  split at h
  · rename_i c hb hle
    rw [hb] at hok
    have hle' : args.length ≤ fn.ntmps := Nat.le_of_ble_eq_true hle
    refine callsIn_wide.1 (callsIn_of_wp_marks (F := Fence.wide) (n := 0) hf hb trivial ?_)
    show c.wpIn (Fr none) 0 P _ _ _
    refine wpIn_mono (sCode_wp hm c (r := none) hok h ⟨by simp; omega, rfl, fun t v hv => ?_⟩) ?_
    · rw [eget_init] at hv
      simp only [Nat.zero_le, if_true, Nat.sub_zero] at hv
      have hlt : t < args.length := (List.getElem?_eq_some_iff.1 hv).1
      rw [Array.getD_eq_getD_getElem?, Array.getElem?_append_left (by simpa using hlt)]
      simp [hv]
    · rintro ex a w' ⟨env', dl', h1, h2, h3, h4⟩
      have fin : dfrs dl' (fun w => resV P fn.results.toList env' [] (fun vs w => R (one vs) w) w) w' → LeavesInM Fence.wide 0 P fn a.tmps (fun e w' => ∃ v, e = .returned v ∧ R v w') a.defers .returning w' := by
        intro hd
        rw [h1.defers]
        refine leaves_dfrs (fun w1 hres => ?_) hd
        obtain ⟨vs, g1, g2⟩ := resV_run h1 _ _ hres
        refine ⟨one vs, ?_, one vs, rfl, by simpa using g2⟩
        have e : results fn a.tmps = (do let vs ← fn.results.mapM (resF a.tmps); pure (if h : vs.size = 1 then vs[0] else .tuple vs)) := by
          unfold results
          congr 1
        rw [e, Array.mapM_eq_mapM_toList, Sem.run_bind, Sem.run_map, g1, Result.andThen_ok, Result.andThen_ok]
        have := one_eq vs.toArray
        simp only at this
        rw [this]
        rfl
      cases ex with
      | normal => exact fin h4
      | ret => exact fin h4
      | _ => exact h4.elim
  · exact h.elim


end Go.Sh
