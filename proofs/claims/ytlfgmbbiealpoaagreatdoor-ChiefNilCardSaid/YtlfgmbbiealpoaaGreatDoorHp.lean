/- A small store of facts about the heap: which blocks hold which objects; what the words of the shallow reading ask of it. Conditions: none. -/
import Derived.Test.YtlfgmbbiealpoaaGreatDoorSh
import Derived.Below
import Derived.Maps.AppendAt
import Derived.Laws.BitsLemmas
import Derived.Laws.BytesString
import Derived.Deep.AppendSrc
set_option linter.unusedVariables false
namespace Go.Sh
open Go Go.RowKit

theorem wrap64 {n : Int} (h0 : -9223372036854775808 ≤ n) (h1 : n ≤ 9223372036854775807) : IntKind.i64.wrap n = n := by
  rw [IntKind.wrap_i64]; omega

abbrev Hp := List (Nat × Obj)
structure Holds (w0 : World) (hs : List Hp) (w : World) : Prop where
  below : Below w0.heap.size w0 w
  nodup : (hs.flatten.map (·.1)).Nodup
  new : ∀ x ∈ hs.flatten, w0.heap.size ≤ x.1
  held : ∀ x ∈ hs.flatten, w.heap[x.1]? = some x.2

theorem lt_of_some {α : Type} {a : Array α} {i : Nat} {x : α} (h : a[i]? = some x) : i < a.size := by
  rcases Nat.lt_or_ge i a.size with h' | h'
  · exact h'
  · rw [Array.getElem?_eq_none h'] at h; cases h

theorem Holds.init (w : World) : Holds w [] w := ⟨Below.refl _ _, by simp, by simp, by simp⟩
theorem Holds.perm {w0 w : World} {a b : List Hp} (p : a.flatten.Perm b.flatten) (H : Holds w0 a w) : Holds w0 b w :=
  ⟨H.below, (p.map _).nodup_iff.1 H.nodup, fun x hx => H.new x (p.mem_iff.2 hx), fun x hx => H.held x (p.mem_iff.2 hx)⟩
theorem flat_bring {α : Type} : ∀ (i : Nat) {hs : List (List α)} {c : List α}, hs[i]? = some c → hs.flatten.Perm (c :: hs.eraseIdx i).flatten
  | _, [], c, h => by simp at h
  | 0, a :: r, c, h => by simp at h; subst h; exact List.Perm.refl _
  | i + 1, a :: r, c, h => by
    have p := flat_bring i (hs := r) (by simpa using h)
    simp only [List.flatten_cons, List.eraseIdx_cons_succ] at p ⊢
    refine (p.append_left a).trans ?_
    rw [← List.append_assoc, ← List.append_assoc]
    exact List.Perm.append_right _ List.perm_append_comm
theorem Holds.bring (i : Nat) {w0 w : World} {hs : List Hp} {c : Hp} (H : Holds w0 hs w) (h : hs[i]? = some c) : Holds w0 (c :: hs.eraseIdx i) w := H.perm (flat_bring i h)
theorem Holds.tail {w0 w : World} {hs : List Hp} {c : Hp} (H : Holds w0 (c :: hs) w) : Holds w0 hs w := by
  refine ⟨H.below, ?_, fun x hx => H.new x (by simp only [List.flatten_cons, List.mem_append]; exact .inr hx), fun x hx => H.held x (by simp only [List.flatten_cons, List.mem_append]; exact .inr hx)⟩
  have := H.nodup
  simp only [List.flatten_cons, List.map_append] at this
  exact (List.nodup_append.1 this).2.1
theorem Holds.split {w0 w : World} {hs : List Hp} {c d : Hp} (H : Holds w0 ((c ++ d) :: hs) w) : Holds w0 (c :: d :: hs) w := H.perm (by simp)
theorem Holds.join {w0 w : World} {hs : List Hp} {c d : Hp} (H : Holds w0 (c :: d :: hs) w) : Holds w0 ((c ++ d) :: hs) w := H.perm (by simp)
theorem Holds.drop1 {w0 w : World} {hs : List Hp} {c d : Hp} (H : Holds w0 (c :: d :: hs) w) : Holds w0 (c :: hs) w := (H.bring 1 rfl).tail
theorem Holds.nil {w0 w : World} {hs : List Hp} (H : Holds w0 hs w) : Holds w0 ([] :: hs) w := H.perm (by simp)

theorem Holds.drew {w0 w : World} {hs : List Hp} (H : Holds w0 hs w) : Holds w0 hs w.drew := ⟨⟨H.below.os, H.below.tape, H.below.output, H.below.size, H.below.block⟩, H.nodup, H.new, H.held⟩
theorem Holds.mem (i : Nat) {w0 w : World} {hs : List Hp} (H : Holds w0 hs w) {k : Nat} {o : Obj} (h : hs[i]? = some [(k, o)]) : w.heap[k]? = some o :=
  H.held (k, o) (by have := (flat_bring i h).mem_iff (a := (k, o)); exact this.2 (by simp))
theorem Holds.lt {w0 w : World} {hs : List Hp} (H : Holds w0 hs w) {x : Nat × Obj} (h : x ∈ hs.flatten) : x.1 < w.heap.size := lt_of_some (H.held x h)

theorem Holds.alloc {w0 w : World} {hs : List Hp} (H : Holds w0 hs w) (o : Obj) : Holds w0 ([(w.heap.size, o)] :: hs) (w.alloc o) := by
  have hs' := H.below.size
  refine ⟨⟨H.below.os, H.below.tape, H.below.output, ?_, fun k hk => ?_⟩, ?_, ?_, ?_⟩
  · simp only [World.alloc, Array.size_push]; omega
  · rw [heap_alloc_old w o (r := k) (by omega)]; exact H.below.block k hk
  · simp only [List.flatten_cons, List.cons_append, List.nil_append, List.map_cons, List.nodup_cons]
    refine ⟨fun hm => ?_, H.nodup⟩
    obtain ⟨x, hx, he⟩ := List.mem_map.1 hm
    have := H.lt hx
    omega
  · intro x hx
    simp only [List.flatten_cons, List.cons_append, List.nil_append, List.mem_cons] at hx
    rcases hx with rfl | hx
    · exact hs'
    · exact H.new x hx
  · intro x hx
    simp only [List.flatten_cons, List.cons_append, List.nil_append, List.mem_cons] at hx
    rcases hx with rfl | hx
    · exact heap_alloc_new w o
    · rw [heap_alloc_old w o (H.lt hx)]; exact H.held x hx

/-- one block of the store turned -/
theorem Holds.put {w0 w : World} {hs : List Hp} {k : Nat} {o o' : Obj} (H : Holds w0 ([(k, o)] :: hs) w) (w' : World) (hos : w'.os = w.os) (ht : w'.tape = w.tape) (ho : w'.output = w.output)
    (hsz : w.heap.size ≤ w'.heap.size) (hk : w'.heap[k]? = some o') (hr : ∀ j, j < w.heap.size → j ≠ k → w'.heap[j]? = w.heap[j]?) : Holds w0 ([(k, o')] :: hs) w' := by
  have hn := H.nodup
  simp only [List.flatten_cons, List.cons_append, List.nil_append, List.map_cons, List.nodup_cons] at hn
  have hk0 := H.new (k, o) (by simp)
  refine ⟨⟨hos.trans H.below.os, ht.trans H.below.tape, ho.trans H.below.output, Nat.le_trans H.below.size hsz, fun j hj => ?_⟩, ?_, ?_, ?_⟩
  · rw [hr j (by have := H.below.size; omega) (by simp only at hk0; omega)]; exact H.below.block j hj
  · simp only [List.flatten_cons, List.cons_append, List.nil_append, List.map_cons, List.nodup_cons]; exact hn
  · intro x hx
    simp only [List.flatten_cons, List.cons_append, List.nil_append, List.mem_cons] at hx
    rcases hx with rfl | hx
    · exact hk0
    · exact H.tail.new x hx
  · intro x hx
    simp only [List.flatten_cons, List.cons_append, List.nil_append, List.mem_cons] at hx
    rcases hx with rfl | hx
    · exact hk
    · rw [hr x.1 (H.tail.lt hx) (fun e => hn.1 (List.mem_map.2 ⟨x, hx, e⟩))]; exact H.tail.held x hx

/-- the world grew: the store is as it was -/
theorem Holds.grown {w0 w w' : World} {hs : List Hp} (H : Holds w0 hs w) (g : w.grownBy w' none) : Holds w0 hs w' := by
  obtain ⟨h1, h2, h3, h4, h5⟩ := g
  refine ⟨⟨h1.trans H.below.os, h2.trans H.below.tape, h3.trans H.below.output, Nat.le_trans H.below.size h4, fun j hj => ?_⟩, H.nodup, H.new, fun x hx => ?_⟩
  · rw [h5 j (by have := H.below.size; omega) (by simp)]; exact H.below.block j hj
  · rw [h5 x.1 (H.lt hx) (by simp)]; exact H.held x hx

/-! ### what the words ask -/
section
variable {w0 w : World} {hs : List Hp}

theorem ld_h (i : Nat) {k off : Nat} {cs : Array Value} {e : TypeId} {z : Nat × Nat} {v : Value} {K : KV} (H : Holds w0 hs w) (h : hs[i]? = some [(k, .cells cs e z)]) (hv : cs[off]? = some v) (hk : K v w) : ld ⟨k, off, none⟩ K w := by
  refine ⟨v, ?_, hk⟩
  simp [World.cell?, H.mem i h, hv]
theorem ldS_h (i : Nat) {k off : Nat} {cs : Array Value} {e : TypeId} {z : Nat × Nat} {v : Value} {K : KV} (h : hs[i]? = some [(k, .cells cs e z)]) (hv : cs[off]? = some v) (hk : K v w) : ldS (Holds w0 hs) ⟨k, off, none⟩ K w := by
  refine ⟨v, fun w' H => ?_, hk⟩
  simp [World.cell?, H.mem i h, hv]
theorem keeps_h {X : (World → Prop) → World → Prop} (H : Holds w0 hs w) (h : X (Holds w0 hs) w) : keeps X w := ⟨_, H, h⟩
theorem kp_h {X : World → Prop} (H : Holds w0 hs w) (h : X w) : kp (Holds w0 hs) X w := ⟨H, h⟩
theorem nw_h {o : Obj} {K : Nat → World → Prop} (H : Holds w0 hs w) (h : ∀ k w', Holds w0 ([(k, o)] :: hs) w' → K k w') : nw o K w := h _ _ (H.alloc o)
theorem set_bring {α : Type} : ∀ (i : Nat) {hs : List (List α)} {c c' : List α}, hs[i]? = some c → (c' :: hs.eraseIdx i).flatten.Perm (hs.set i c').flatten
  | _, [], c, c', h => by simp at h
  | 0, a :: r, c, c', h => List.Perm.refl _
  | i + 1, a :: r, c, c', h => by
    have p := set_bring i (hs := r) (c' := c') (by simpa using h)
    simp only [List.flatten_cons, List.eraseIdx_cons_succ, List.set_cons_succ] at p ⊢
    refine List.Perm.trans ?_ (p.append_left a)
    rw [← List.append_assoc, ← List.append_assoc]
    exact List.Perm.append_right _ List.perm_append_comm
theorem st_h (i : Nat) {k off : Nat} {cs : Array Value} {e : TypeId} {v u : Value} {K : World → Prop} (H : Holds w0 hs w) (h : hs[i]? = some [(k, .cells cs e (0, 0))]) (hv1 : v.oneCell' = true) (hv : cs[off]? = some u)
    (hk : ∀ w', Holds w0 (hs.set i [(k, .cells (cs.setIfInBounds off v) e (0, 0))]) w' → K w') : st ⟨k, off, none⟩ v K w := by
  have hm := H.mem i h
  refine ⟨hv1, ⟨u, by simp [World.cell?, hm, hv]⟩, by simp [World.frozen?, hm], hk _ (Holds.perm (set_bring i h) ((H.bring i h).put _ rfl rfl rfl ?_ ?_ ?_))⟩
  · simp [World.setCell]
  · simp [World.setCell, Array.getElem?_modify, hm]
  · intro j hj hne
    simp only [World.setCell, Array.getElem?_modify]
    rw [if_neg (fun e => hne e.symm)]

theorem br_t {b : Bool} {X Y : World → Prop} (h : b = true) (hx : X w) : br b X Y w := by subst h; exact hx
theorem br_f {b : Bool} {X Y : World → Prop} (h : b = false) (hx : Y w) : br b X Y w := by subst h; exact hx
theorem br_s {b : Bool} {X Y : World → Prop} (hx : b = true → X w) (hy : b = false → Y w) : br b X Y w := by cases b <;> simp_all [br]
theorem asBoo_h {b : Bool} {K : Bool → World → Prop} (h : K b w) : asBoo (.bool b) K w := ⟨b, rfl, h⟩
theorem asI_h {k : IntKind} {n : Int} {K : Int → World → Prop} (h : K n w) : asI k (.int k n) K w := ⟨n, rfl, h⟩
theorem asStr_h {b : ByteArray} {K : ByteArray → World → Prop} (h : K b w) : asStr (.string b) K w := ⟨b, rfl, h⟩
theorem asSl_h {a : Option Addr} {n c : Nat} {K : Option Addr → Nat → Nat → World → Prop} (h : K a n c w) : asSl (.slice a n c) K w := ⟨_, _, _, rfl, h⟩
theorem asPtr_h {a : Option Addr} {K : Option Addr → World → Prop} (h : K a w) : asPtr (.pointer a) K w := ⟨_, rfl, h⟩
theorem asMap_h {a : Option Nat} {K : Option Nat → World → Prop} (h : K a w) : asMap (.map a) K w := ⟨_, rfl, h⟩
theorem asBoo_e {v : Value} {b : Bool} {K : Bool → World → Prop} (e : v = .bool b) (h : K b w) : asBoo v K w := ⟨b, e, h⟩
theorem asI_e {k : IntKind} {v : Value} {n : Int} {K : Int → World → Prop} (e : v = .int k n) (h : K n w) : asI k v K w := ⟨n, e, h⟩
theorem asStr_e {v : Value} {b : ByteArray} {K : ByteArray → World → Prop} (e : v = .string b) (h : K b w) : asStr v K w := ⟨b, e, h⟩
theorem asSl_e {v : Value} {a : Option Addr} {n c : Nat} {K : Option Addr → Nat → Nat → World → Prop} (e : v = .slice a n c) (h : K a n c w) : asSl v K w := ⟨_, _, _, e, h⟩
theorem asPtr_e {v : Value} {a : Option Addr} {K : Option Addr → World → Prop} (e : v = .pointer a) (h : K a w) : asPtr v K w := ⟨_, e, h⟩
theorem asMap_e {v : Value} {a : Option Nat} {K : Option Nat → World → Prop} (e : v = .map a) (h : K a w) : asMap v K w := ⟨_, e, h⟩
theorem nn_e {p : Option Addr} {a : Addr} {K : Addr → World → Prop} (e : p = some a) (h : K a w) : nn p K w := ⟨_, e, h⟩
def fld : List Value → Nat → Value
  | [], _ => undef
  | v :: _, 0 => v
  | _ :: r, i + 1 => fld r i
theorem asT_e {n : Nat} (l : List Value) {v : Value} {K : (Nat → Value) → World → Prop} (e : v = .tuple l.toArray) (hn : ((List.range n).map (fld l)) = l) (h : K (fld l) w) : asT n v K w := ⟨fld l, by rw [hn]; exact e, h⟩
theorem asN_e {n : Nat} (l : List Value) {v : Value} {K : (Nat → Value) → World → Prop} (e : v = .agg l.toArray) (hn : ((List.range n).map (fld l)) = l) (h : K (fld l) w) : asN n v K w := ⟨fld l, by rw [hn]; exact e, h⟩
theorem nn_h {a : Addr} {K : Addr → World → Prop} (h : K a w) : nn (some a) K w := ⟨_, rfl, h⟩
end

/-! ### rows: the arrays behind slices -/
structure Row where
  g : Option Nat
  n : Nat
  c : Nat
  cur : Array Value
def Row.p (r : Row) : Option Addr := r.g.map fun g => ⟨g, 0, none⟩
abbrev Row.v (r : Row) : Value := .slice r.p r.n r.c
def Row.hp (e : TypeId) (r : Row) : Hp := match r.g with | none => [] | some g => [(g, .cells r.cur e (0, 0))]
structure Row.Ok (size : Nat) (r : Row) (xs : List Value) : Prop where
  len : xs.length = r.n * size
  no : r.g = none → r.n = 0 ∧ r.c = 0
  yes : ∀ g, r.g = some g → r.n ≤ r.c ∧ r.c ≤ maxLen ∧ r.cur.size = r.c * size ∧ r.cur.toList.take (r.n * size) = xs
def Row.nil : Row := ⟨none, 0, 0, #[]⟩
theorem Row.nil_ok (size : Nat) : Row.nil.Ok size [] := ⟨by simp [Row.nil], fun _ => ⟨rfl, rfl⟩, fun g h => by simp [Row.nil] at h⟩

structure ElTy (P : Program) (t e : TypeId) (size bytes : Nat) : Prop where
  all : ∃ i z, P.underlying t = some (.slice e) ∧ P.info? e = some i ∧ i.zero = some z ∧ i.size = size ∧ i.bytes = bytes ∧ z.cells.size = size
  pos : 0 < size

section
variable {w0 w w' : World} {hs : List Hp}

/-- after a step that turned at most the head's block: the rest is as it was -/
theorem Holds.rest {c : Hp} (H : Holds w0 (c :: hs) w) {row : Option Nat} (g : w.grownBy w' row) (hc : ∀ k, row = some k → ∃ o, (k, o) ∈ c) : Holds w0 hs w' := by
  obtain ⟨h1, h2, h3, h4, h5⟩ := g
  have hnd := H.nodup
  simp only [List.flatten_cons, List.map_append] at hnd
  have hne : ∀ k, w0.heap.size ≤ k ∨ some k ≠ row := fun k => by
    by_cases hk : some k = row
    · obtain ⟨o, ho⟩ := hc k hk.symm
      exact .inl (H.new (k, o) (by simp [ho]))
    · exact .inr hk
  refine ⟨⟨h1.trans H.below.os, h2.trans H.below.tape, h3.trans H.below.output, Nat.le_trans H.below.size h4, fun j hj => ?_⟩, H.tail.nodup, H.tail.new, fun x hx => ?_⟩
  · rw [h5 j (by have := H.below.size; omega) (by rcases hne j with h | h; · omega
                                                  · exact h)]
    exact H.below.block j hj
  · rw [h5 x.1 (H.tail.lt hx) (fun e => ?_)]
    · exact H.tail.held x hx
    · obtain ⟨o, ho⟩ := hc x.1 e.symm
      exact (List.nodup_append.1 hnd).2.2 x.1 (List.mem_map.2 ⟨_, ho, rfl⟩) x.1 (List.mem_map.2 ⟨x, hx, rfl⟩) rfl
/-- a block that is not of the store comes to it -/
theorem Holds.add (H : Holds w0 hs w) {k : Nat} {o : Obj} (hk : w0.heap.size ≤ k) (ho : w.heap[k]? = some o) (hn : ∀ x ∈ hs.flatten, x.1 ≠ k) : Holds w0 ([(k, o)] :: hs) w := by
  refine ⟨H.below, ?_, ?_, ?_⟩
  · simp only [List.flatten_cons, List.cons_append, List.nil_append, List.map_cons, List.nodup_cons]
    refine ⟨fun hm => ?_, H.nodup⟩
    obtain ⟨x, hx, he⟩ := List.mem_map.1 hm
    exact hn x hx he
  · intro x hx
    simp only [List.flatten_cons, List.cons_append, List.nil_append, List.mem_cons] at hx
    rcases hx with rfl | hx
    · exact hk
    · exact H.new x hx
  · intro x hx
    simp only [List.flatten_cons, List.cons_append, List.nil_append, List.mem_cons] at hx
    rcases hx with rfl | hx
    · exact ho
    · exact H.held x hx

theorem Row.owns {e : TypeId} {size : Nat} {r : Row} {xs : List Value} (h : r.Ok size xs) (H : Holds w0 (r.hp e :: hs) w) : w.ownsRow w0.heap.size e size r.v r.n xs := by
  refine ⟨h.len, ?_⟩
  cases hg : r.g with
  | none =>
    obtain ⟨h1, h2⟩ := h.no hg
    exact .inl ⟨by simp [Row.v, Row.p, hg, h1, h2], h1⟩
  | some g =>
    obtain ⟨h1, h2, h3, h4⟩ := h.yes g hg
    have hm : (g, Obj.cells r.cur e (0, 0)) ∈ (r.hp e :: hs).flatten := by simp [Row.hp, hg]
    exact .inr ⟨g, r.c, r.cur, by simp [Row.v, Row.p, hg], H.new _ hm, H.held _ hm, h1, h2, h3, h4⟩

theorem Row.back {e : TypeId} {size base : Nat} {v : Value} {n : Nat} {xs : List Value} (h : w.ownsRow base e size v n xs) : ∃ r : Row, r.v = v ∧ r.n = n ∧ r.Ok size xs ∧ v.ownBlock = r.g ∧ (∀ g, r.g = some g → base ≤ g ∧ w.heap[g]? = some (.cells r.cur e (0, 0))) := by
  obtain ⟨hl, h⟩ := h
  rcases h with ⟨rfl, rfl⟩ | ⟨g, cap, cur, rfl, hb, hg, h1, h2, h3, h4⟩
  · exact ⟨Row.nil, rfl, rfl, ⟨by simpa [Row.nil] using hl, fun _ => ⟨rfl, rfl⟩, fun g h => by simp [Row.nil] at h⟩, rfl, fun g h => by simp [Row.nil] at h⟩
  · refine ⟨⟨some g, n, cap, cur⟩, rfl, rfl, ⟨hl, fun h => (by cases h), fun g' h => ?_⟩, rfl, fun g' h => ?_⟩
    · cases h; exact ⟨h1, h2, h3, h4⟩
    · cases h; exact ⟨hb, hg⟩

theorem bapp_h {P : Program} {t ty e : TypeId} {size bytes : Nat} (T : ElTy P t e size bytes) {r : Row} {xs news : List Value} {a : Addr} {m c : Nat} {K : KV}
    (H : Holds w0 (r.hp e :: hs) w) (h : r.Ok size xs) (hl : news.length = m * size) (hnews : ∀ j u, news[j]? = some u → w.cell? (a.add j) = some u) (h1 : ∀ u ∈ news, u.oneCell' = true)
    (hb : (r.n + m) * bytes ≤ 140737488355328) (h63 : r.n + m ≤ maxLen)
    (hk : ∀ (r' : Row) w', r'.n = r.n + m → r'.Ok size (xs ++ news) → Holds w0 (r'.hp e :: hs) w' → K r'.v w') :
    bapp .full P #[t, t] ty r.v (.slice (some a) m c) K w := by
  obtain ⟨⟨i, z, ht, hi, hz, hs1, hb1, hzs⟩, hpos⟩ := T
  obtain ⟨v', w', hr, hown, hgr, -, hat⟩ := run_append_own_at (P := P) w w0.heap.size t ty e i z size bytes ht hi hz hs1 hb1 hzs hpos r.v r.n xs (Row.owns h H) a m c news hl hnews h1 h63 hb H.below.size
  obtain ⟨r', rfl, hn', hok', hob, hg'⟩ := Row.back hown
  refine ⟨r'.v, w', hr, fun h => absurd rfl h, hk r' w' hn' hok' ?_⟩
  have hob0 : r.v.ownBlock = r.g := by cases hg : r.g <;> simp [Row.v, Row.p, hg, Value.ownBlock]
  have hin : ∀ k, r.v.ownBlock = some k → ∃ o, (k, o) ∈ r.hp e := fun k hk' => by rw [hob0] at hk'; exact ⟨_, by simp only [Row.hp, hk', List.mem_singleton]; rfl⟩
  have HR := H.rest hgr hin
  cases hg : r'.g with
  | none => simpa [Row.hp, hg] using HR.nil
  | some g =>
    obtain ⟨hb', hh⟩ := hg' g hg
    have : Row.hp e r' = [(g, .cells r'.cur e (0, 0))] := by simp [Row.hp, hg]
    rw [this]
    refine HR.add hb' hh (fun x hx hxg => ?_)
    rw [hob, hg] at hat
    rcases hat with hat | hat
    · obtain ⟨o, ho⟩ := hin g hat.symm
      have hnd := H.nodup
      simp only [List.flatten_cons, List.map_append] at hnd
      exact (List.nodup_append.1 hnd).2.2 g (List.mem_map.2 ⟨_, ho, rfl⟩) g (List.mem_map.2 ⟨x, hx, hxg⟩) rfl
    · cases hat
      have := H.tail.lt hx
      omega
/-- the news lie in a block of the store -/
theorem bapp1_h {P : Program} {t ty e : TypeId} {size bytes : Nat} (T : ElTy P t e size bytes) {r : Row} {xs : List Value} {k : Nat} {news : List Value} {e' : TypeId} {zz : Nat × Nat} {m c : Nat} (j : Nat) {K : KV}
    (H : Holds w0 (r.hp e :: hs) w) (hj : hs[j]? = some [(k, .cells news.toArray e' zz)]) (h : r.Ok size xs) (hl : news.length = m * size) (h1 : ∀ u ∈ news, u.oneCell' = true)
    (hb : (r.n + m) * bytes ≤ 140737488355328) (h63 : r.n + m ≤ maxLen)
    (hk : ∀ (r' : Row) w', r'.n = r.n + m → r'.Ok size (xs ++ news) → Holds w0 (r'.hp e :: hs) w' → K r'.v w') :
    bapp .full P #[t, t] ty r.v (.slice (some ⟨k, 0, none⟩) m c) K w :=
  bapp_h T H h hl (fun q u hu => by
    have := H.mem (j + 1) (k := k) (by simpa using hj)
    rw [Addr.add_lit]
    simp [World.cell?, this, hu]) h1 hb h63 hk

theorem slAt_h {size : Nat} {r : Row} {xs : List Value} {i : Int} {K : Addr → World → Prop} (h : r.Ok size xs) (h0 : 0 ≤ i) (h1 : i < (r.n : Int)) (hk : ∀ g, r.g = some g → K ⟨g, i.toNat * size, none⟩ w) : slAt r.p r.n i size K w := by
  cases hg : r.g with
  | none => have := (h.no hg).1; omega
  | some g =>
    refine ⟨⟨g, 0, none⟩, by simp [Row.p, hg], h0, h1, ?_⟩
    have := hk g hg
    rwa [Addr.add_lit, Nat.zero_add]
theorem Row.cur_at {size : Nat} {r : Row} {xs : List Value} (h : r.Ok size xs) {g off : Nat} {v : Value} (hg : r.g = some g) (hv : xs[off]? = some v) : r.cur[off]? = some v := by
  obtain ⟨h1, h2, h3, h4⟩ := h.yes g hg
  rw [← h4, List.getElem?_take] at hv
  split at hv
  · rwa [Array.getElem?_toList] at hv
  · cases hv
theorem ldR_h (i : Nat) {e : TypeId} {size : Nat} {r : Row} {xs : List Value} {g off : Nat} {v : Value} {K : KV} (H : Holds w0 hs w) (hi : hs[i]? = some (r.hp e)) (h : r.Ok size xs) (hg : r.g = some g) (hv : xs[off]? = some v) (hk : K v w) : ld ⟨g, off, none⟩ K w :=
  ld_h (cs := r.cur) (e := e) (z := (0, 0)) i H (by rw [hi]; simp [Row.hp, hg]) (Row.cur_at h hg hv) hk
theorem flat_at {α : Type} {f : α → List Value} {z : Nat} (hz : ∀ a, (f a).length = z) : ∀ {l : List α} {i : Nat} {a : α} {j : Nat}, l[i]? = some a → j < z → (l.flatMap f)[i * z + j]? = (f a)[j]?
  | [], i, a, j, h, hj => by simp at h
  | x :: l, 0, a, j, h, hj => by
    simp at h; subst h
    rw [Nat.zero_mul, Nat.zero_add, List.flatMap_cons, List.getElem?_append_left (by rw [hz]; exact hj)]
  | x :: l, i + 1, a, j, h, hj => by
    rw [List.flatMap_cons, List.getElem?_append_right (by rw [hz, Nat.succ_mul]; omega), hz, show (i + 1) * z + j - z = i * z + j by rw [Nat.succ_mul]; omega]
    exact flat_at hz (by simpa using h) hj
theorem flat_len {α : Type} {f : α → List Value} {z : Nat} (hz : ∀ a, (f a).length = z) (l : List α) : (l.flatMap f).length = l.length * z := by
  induction l with
  | nil => simp
  | cons a l ih => rw [List.flatMap_cons, List.length_append, ih, hz, List.length_cons, Nat.succ_mul]; omega

/-- some of the chunks, in another order -/
inductive Sub : List Hp → List Hp → Prop
  | refl (a : List Hp) : Sub a a
  | nil (b : List Hp) : Sub [] b
  | skip {a b : List Hp} {c : Hp} : Sub a b → Sub a (c :: b)
  | cons {a b : List Hp} {c : Hp} (i : Nat) : b[i]? = some c → Sub a (b.eraseIdx i) → Sub (c :: a) b
theorem Sub.holds {a b : List Hp} (s : Sub a b) : ∀ {w0 w : World}, Holds w0 b w → Holds w0 a w := by
  have key : ∀ {a b : List Hp}, Sub a b → ∃ r, (a ++ r).flatten.Perm b.flatten := by
    intro a b s
    induction s with
    | refl a => exact ⟨[], by simp⟩
    | nil b => exact ⟨b, by simp⟩
    | @skip a b c _ ih =>
      obtain ⟨r, hr⟩ := ih
      refine ⟨c :: r, ?_⟩
      simp only [List.flatten_append, List.flatten_cons] at hr ⊢
      refine List.Perm.trans ?_ (hr.append_left c)
      rw [← List.append_assoc, ← List.append_assoc]
      exact List.Perm.append_right _ List.perm_append_comm
    | @cons a b c i h _ ih =>
      obtain ⟨r, hr⟩ := ih
      refine ⟨r, List.Perm.trans ?_ (flat_bring i h).symm⟩
      simpa using hr.append_left c
  intro w0 w H
  obtain ⟨r, hr⟩ := key s
  have H' := H.perm hr.symm
  clear hr
  refine ⟨H'.below, ?_, fun x hx => H'.new x (by simp only [List.flatten_append, List.mem_append]; exact .inl hx), fun x hx => H'.held x (by simp only [List.flatten_append, List.mem_append]; exact .inl hx)⟩
  have := H'.nodup
  simp only [List.flatten_append, List.map_append] at this
  exact (List.nodup_append.1 this).1
theorem keeps_s {hs' : List Hp} {X : (World → Prop) → World → Prop} (H : Holds w0 hs w) (s : Sub hs' hs) (h : X (Holds w0 hs') w) : keeps X w := ⟨_, s.holds H, h⟩
theorem kp_s {hs' : List Hp} {X : World → Prop} (H : Holds w0 hs w) (s : Sub hs' hs) (h : X w) : kp (Holds w0 hs') X w := ⟨s.holds H, h⟩
theorem Holds.open2 (i : Nat) {c d : Hp} (H : Holds w0 hs w) (hi : hs[i]? = some (c ++ d)) : Holds w0 (c :: d :: hs.eraseIdx i) w := (H.bring i hi).split
theorem Holds.close2 (i : Nat) {x c d : Hp} (H : Holds w0 (c :: d :: hs.eraseIdx i) w) (hi : hs[i]? = some x) : Holds w0 (hs.set i (c ++ d)) w := H.join.perm (set_bring i hi)
theorem set_same {α : Type} : ∀ (i : Nat) {l : List α} {x : α}, l[i]? = some x → l.set i x = l
  | _, [], x, h => by simp at h
  | 0, a :: r, x, h => by simp at h; simp [h]
  | i + 1, a :: r, x, h => by simp at h; simp [set_same i h]
theorem Holds.shut2 (i : Nat) {c d : Hp} (H : Holds w0 (c :: d :: hs.eraseIdx i) w) (hi : hs[i]? = some (c ++ d)) : Holds w0 hs w := by
  have := H.close2 i hi
  rwa [set_same i hi] at this

/-- a slice that is only read -/
structure Sl (S : World → Prop) (p : Option Addr) (n size : Nat) (vals : List Value) : Prop where
  len : vals.length = n * size
  no : p = none → n = 0
  yes : ∀ a, p = some a → (n = 0 ∨ a.spot = none) ∧ ∀ j v, vals[j]? = some v → ∀ w, S w → w.cell? ⟨a.block, a.off + j, none⟩ = some v
theorem Sl.mono {S S' : World → Prop} {p : Option Addr} {n size : Nat} {vals : List Value} (h : Sl S p n size vals) (hs : ∀ w, S' w → S w) : Sl S' p n size vals :=
  ⟨h.len, h.no, fun a ha => ⟨(h.yes a ha).1, fun j v hv w hw => (h.yes a ha).2 j v hv w (hs w hw)⟩⟩
theorem Sl.nil {S : World → Prop} {size : Nat} : Sl S none 0 size [] := ⟨by simp, fun _ => rfl, fun a h => by cases h⟩
theorem Sl.block (i : Nat) {k n size : Nat} {vals : List Value} {e : TypeId} {z : Nat × Nat} (hi : hs[i]? = some [(k, .cells vals.toArray e z)]) (hl : vals.length = n * size) : Sl (Holds w0 hs) (some ⟨k, 0, none⟩) n size vals := by
  refine ⟨hl, fun h => (by cases h), fun a ha => ?_⟩
  cases ha
  exact ⟨.inr rfl, fun j v hv w H => by simp [World.cell?, H.mem i hi, hv]⟩
theorem Sl.row (i : Nat) {e : TypeId} {size : Nat} {r : Row} {xs : List Value} (hi : hs[i]? = some (r.hp e)) (ok : r.Ok size xs) : Sl (Holds w0 hs) r.p r.n size xs := by
  refine ⟨ok.len, fun h => ?_, fun a ha => ?_⟩
  · cases hg : r.g with
    | none => exact (ok.no hg).1
    | some g => simp [Row.p, hg] at h
  · cases hg : r.g with
    | none => simp [Row.p, hg] at ha
    | some g =>
      simp [Row.p, hg] at ha
      subst ha
      refine ⟨.inr rfl, fun j v hv w H => ?_⟩
      have := Holds.mem i H (k := g) (o := .cells r.cur e (0, 0)) (by rw [hi]; simp [Row.hp, hg])
      simp [World.cell?, this, Row.cur_at ok hg hv]
theorem slAt_s {S : World → Prop} {p : Option Addr} {n size : Nat} {vals : List Value} {i : Int} {K : Addr → World → Prop} (h : Sl S p n size vals) (h0 : 0 ≤ i) (h1 : i < (n : Int)) (hk : ∀ b o, p = some ⟨b, o, none⟩ → K ⟨b, o + i.toNat * size, none⟩ w) : slAt p n i size K w := by
  cases p with
  | none => have := h.no rfl; omega
  | some a =>
    obtain ⟨b, o, sp⟩ := a
    have := (h.yes _ rfl).1.resolve_left (by omega)
    simp only at this
    subst this
    refine ⟨_, rfl, h0, h1, ?_⟩
    rw [Addr.add_lit]
    exact hk b o rfl
theorem ldS_s {S : World → Prop} {p : Option Addr} {n size : Nat} {vals : List Value} {b o j : Nat} {v : Value} {K : KV} (h : Sl S p n size vals) (hp : p = some ⟨b, o, none⟩) (hS : S w) (hv : vals[j]? = some v) (hk : K v w) : ld ⟨b, o + j, none⟩ K w :=
  ⟨v, (h.yes _ hp).2 j v hv w hS, hk⟩

structure BytesTy (P : Program) (src dst : TypeId) : Prop where
  all : ∃ e, P.underlying src = some (.slice e) ∧ P.underlying e = some (.int .u8) ∧ P.underlying dst = some .string
def bytesOf (ns : List Int) : ByteArray := ns.foldl (fun r n => r.push (UInt8.ofNat n.toNat)) ByteArray.empty
theorem cnv_h {P : Program} {src dst : TypeId} (T : BytesTy P src dst) {ns : List Int} (i : Nat) {k n c : Nat} {e : TypeId} {z : Nat × Nat} {K : KV} (H : Holds w0 hs w) (hi : hs[i]? = some [(k, .cells (ns.map (Value.int .u8)).toArray e z)]) (hn : n = ns.length) (hk : K (.string (bytesOf ns)) w) : cnv .full P src dst (.slice (some ⟨k, 0, none⟩) n c) K w := by
  obtain ⟨e1, h1, h2, h3⟩ := T.all
  subst hn
  refine ⟨_, w, ?_, fun h => rfl, hk⟩
  rw [run_convert_bytes_string w src dst e1 _ _ _ h1 h2 h3]
  have hl := run_loadCells_list (P := P) w ⟨k, 0, none⟩ (ns.map (Value.int .u8)) (fun j v hj => by
    rw [Addr.add_lit]
    simp only [Nat.zero_add, World.cell?, H.mem i hi]
    simpa using hj)
  simp only [List.length_map] at hl
  rw [run_bytesToString w _ _ c ns hl]
  rfl
/-- append of nothing, onto a row with a block -/
theorem bapp0_h {P : Program} {t ty e : TypeId} {size bytes : Nat} (T : ElTy P t e size bytes) {b n c c' : Nat} {K : KV} (hn : n ≤ c) (hk : K (.slice (some ⟨b, 0, none⟩) n c) w) :
    bapp .full P #[t, t] ty (.slice (some ⟨b, 0, none⟩) n c) (.slice none 0 c') K w := by
  obtain ⟨⟨i, z, ht, hi, hz, hs1, hb1, hzs⟩, hpos⟩ := T
  refine ⟨_, w, ?_, fun h => rfl, hk⟩
  have := run_append_room_src (P := P) w t t ty e i ht hi b 0 n c (.slice none 0 c') 0 [] (Src.ofNil w ht c') (by omega) (by simp) (by simp)
  rw [this]
  simp [World.setCells]

def pick (is : List Nat) (hs : List Hp) : List Hp := is.map fun i => hs.getD i []
theorem keeps_p (is : List Nat) {X : (World → Prop) → World → Prop} (H : Holds w0 hs w) (s : Sub (pick is hs) hs) (h : X (Holds w0 (pick is hs)) w) : keeps X w := ⟨_, s.holds H, h⟩
theorem Holds.open3 (i : Nat) {c d e : Hp} (H : Holds w0 hs w) (hi : hs[i]? = some (c ++ (d ++ e))) : Holds w0 (c :: d :: e :: hs.eraseIdx i) w := (((H.open2 i hi).bring 1 rfl).split.bring 2 rfl)
theorem Holds.close3 (i : Nat) {x c d e : Hp} (H : Holds w0 (c :: d :: e :: hs.eraseIdx i) w) (hi : hs[i]? = some x) : Holds w0 (hs.set i (c ++ (d ++ e))) w := by
  have h1 : Holds w0 ((d ++ e) :: c :: hs.eraseIdx i) w := ((H.bring 1 rfl).bring 2 rfl |>.bring 1 rfl).join
  exact Holds.close2 i (h1.bring 1 rfl) hi
theorem Holds.shut3 (i : Nat) {c d e : Hp} (H : Holds w0 (c :: d :: e :: hs.eraseIdx i) w) (hi : hs[i]? = some (c ++ (d ++ e))) : Holds w0 hs w := by
  have := H.close3 i hi
  rwa [set_same i hi] at this
theorem slAt_b {k n z : Nat} {i : Int} {K : Addr → World → Prop} (h0 : 0 ≤ i) (h1 : i < (n : Int)) (hk : K ⟨k, i.toNat * z, none⟩ w) : slAt (some ⟨k, 0, none⟩) n i z K w := by
  refine ⟨_, rfl, h0, h1, ?_⟩
  rw [Addr.add_lit, Nat.zero_add]
  exact hk
theorem Holds.open4 (i : Nat) {c d e f : Hp} (H : Holds w0 hs w) (hi : hs[i]? = some (c ++ (d ++ (e ++ f)))) : Holds w0 (c :: d :: e :: f :: hs.eraseIdx i) w := (H.bring i hi).perm (by simp)
theorem Holds.close4 (i : Nat) {x c d e f : Hp} (H : Holds w0 (c :: d :: e :: f :: hs.eraseIdx i) w) (hi : hs[i]? = some x) : Holds w0 (hs.set i (c ++ (d ++ (e ++ f)))) w :=
  Holds.perm (set_bring i hi) (Holds.perm (b := (c ++ (d ++ (e ++ f))) :: hs.eraseIdx i) (by simp) H)
theorem Holds.shut4 (i : Nat) {c d e f : Hp} (H : Holds w0 (c :: d :: e :: f :: hs.eraseIdx i) w) (hi : hs[i]? = some (c ++ (d ++ (e ++ f)))) : Holds w0 hs w := by
  have := H.close4 i hi
  rwa [set_same i hi] at this
end
end Go.Sh
