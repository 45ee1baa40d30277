/- Steps that find their place in the store by themselves (by instances). Conditions: none. -/
import Derived.Test.YtlfgmbbiealpoaaGreatDoorHp
set_option linter.unusedVariables false
namespace Go.Sh
open Go Go.RowKit

class NthL (l : List Value) (n : Nat) (v : outParam Value) : Prop where at_ : l[n]? = some v
instance NthL.zero {l : List Value} {v : Value} : NthL (v :: l) 0 v := ⟨rfl⟩
instance NthL.succ {l : List Value} {u v : Value} {n : Nat} [h : NthL l n v] : NthL (u :: l) (n + 1) v := ⟨by simpa using h.at_⟩
class SetL (l : List Value) (n : Nat) (v : Value) (l' : outParam (List Value)) : Prop where eq_ : l.set n v = l'
instance SetL.zero {l : List Value} {u v : Value} : SetL (u :: l) 0 v (v :: l) := ⟨rfl⟩
instance SetL.succ {l l' : List Value} {u v : Value} {n : Nat} [h : SetL l n v l'] : SetL (u :: l) (n + 1) v (u :: l') := ⟨by rw [List.set_cons_succ, h.eq_]⟩

/-- a cell of the store -/
class CellAt (hs : List Hp) (k off : Nat) (v : outParam Value) : Prop where at_ : ∀ {w0 w : World}, Holds w0 hs w → w.cell? ⟨k, off, none⟩ = some v
instance CellAt.here {hs : List Hp} {k off : Nat} {l : List Value} {e : TypeId} {z : Nat × Nat} {v : Value} [h : NthL l off v] : CellAt ([(k, .cells l.toArray e z)] :: hs) k off v :=
  ⟨fun H => by simp [World.cell?, H.mem 0 rfl, h.at_]⟩
instance (priority := low) CellAt.skip {hs : List Hp} {c : Hp} {k off : Nat} {v : Value} [h : CellAt hs k off v] : CellAt (c :: hs) k off v := ⟨fun H => h.at_ H.tail⟩
/-- the store with one cell turned -/
class CellSt (hs : List Hp) (k off : Nat) (v : Value) (hs' : outParam (List Hp)) : Prop where
  put : ∃ (i : Nat) (cs : Array Value) (e : TypeId) (u : Value), hs[i]? = some [(k, .cells cs e (0, 0))] ∧ cs[off]? = some u ∧ hs' = hs.set i [(k, .cells (cs.setIfInBounds off v) e (0, 0))]
instance CellSt.here {hs : List Hp} {k off : Nat} {l l' : List Value} {e : TypeId} {u v : Value} [h1 : NthL l off u] [h2 : SetL l off v l'] : CellSt ([(k, .cells l.toArray e (0, 0))] :: hs) k off v ([(k, .cells l'.toArray e (0, 0))] :: hs) :=
  ⟨0, l.toArray, e, u, rfl, by simpa using h1.at_, by rw [← h2.eq_]; simp⟩
instance (priority := low) CellSt.skip {hs hs' : List Hp} {c : Hp} {k off : Nat} {v : Value} [h : CellSt hs k off v hs'] : CellSt (c :: hs) k off v (c :: hs') := by
  obtain ⟨i, cs, e, u, h1, h2, h3⟩ := h.put
  exact ⟨i + 1, cs, e, u, by simpa using h1, h2, by rw [h3]; rfl⟩
/-- a chunk taken out -/
class Del (hs : List Hp) (c : Hp) (hs' : outParam (List Hp)) : Prop where del : ∃ i : Nat, hs[i]? = some c ∧ hs' = hs.eraseIdx i
instance Del.here {hs : List Hp} {c : Hp} : Del (c :: hs) c hs := ⟨0, rfl, rfl⟩
instance (priority := low) Del.skip {hs hs' : List Hp} {c d : Hp} [h : Del hs c hs'] : Del (d :: hs) c (d :: hs') := by
  obtain ⟨i, h1, h2⟩ := h.del
  exact ⟨i + 1, by simpa using h1, by rw [h2]; rfl⟩
/-- some of the chunks, in another order -/
class Re (a b : List Hp) : Prop where sub : ∃ r : List Hp, (a ++ r).flatten.Perm b.flatten
instance Re.nil {b : List Hp} : Re [] b := ⟨b, by simp⟩
instance Re.rfl' {b : List Hp} : Re b b := ⟨[], by simp⟩
instance Re.cons {a b b' : List Hp} {c : Hp} [h1 : Del b c b'] [h2 : Re a b'] : Re (c :: a) b := by
  obtain ⟨i, hi, rfl⟩ := h1.del
  obtain ⟨r, hr⟩ := h2.sub
  refine ⟨r, List.Perm.trans ?_ (flat_bring i hi).symm⟩
  simpa using hr.append_left c
instance (priority := low) Re.skip {a b : List Hp} {c : Hp} [h : Re a b] : Re a (c :: b) := by
  obtain ⟨r, hr⟩ := h.sub
  refine ⟨c :: r, ?_⟩
  simp only [List.flatten_append, List.flatten_cons] at hr ⊢
  refine List.Perm.trans ?_ (hr.append_left c)
  rw [← List.append_assoc, ← List.append_assoc]
  exact List.Perm.append_right _ List.perm_append_comm
section
variable {w0 w : World} {hs hs' : List Hp}
theorem Holds.part {a r b : List Hp} (h : (a ++ r).flatten.Perm b.flatten) (H : Holds w0 b w) : Holds w0 a w := by
  have H' := H.perm h.symm
  refine ⟨H'.below, ?_, fun x hx => H'.new x (by simp only [List.flatten_append, List.mem_append]; exact .inl hx), fun x hx => H'.held x (by simp only [List.flatten_append, List.mem_append]; exact .inl hx)⟩
  have := H'.nodup
  simp only [List.flatten_append, List.map_append] at this
  exact (List.nodup_append.1 this).1
theorem Holds.re {a b : List Hp} (H : Holds w0 b w) [h : Re a b] : Holds w0 a w := by
  obtain ⟨r, hr⟩ := h.sub
  exact H.part hr
/-- the chunk 'c' to the head -/
theorem Holds.get (c : Hp) (H : Holds w0 hs w) [h : Del hs c hs'] : Holds w0 (c :: hs') w := by
  obtain ⟨i, hi, rfl⟩ := h.del
  exact H.bring i hi
theorem Sl.re {a b : List Hp} {p : Option Addr} {n size : Nat} {vals : List Value} (h : Sl (Holds w0 a) p n size vals) [r : Re a b] : Sl (Holds w0 b) p n size vals := h.mono fun w H => H.re
theorem ldA {k off : Nat} {v : Value} {K : KV} (H : Holds w0 hs w) [h : CellAt hs k off v] (hk : K v w) : ld ⟨k, off, none⟩ K w := ⟨v, h.at_ H, hk⟩
theorem ldSA {k off : Nat} {v : Value} {K : KV} [h : CellAt hs k off v] (hk : K v w) : ldS (Holds w0 hs) ⟨k, off, none⟩ K w := ⟨v, fun w' H => h.at_ H, hk⟩
theorem stA {k off : Nat} {v : Value} {K : World → Prop} (H : Holds w0 hs w) [h : CellSt hs k off v hs'] (h1 : v.oneCell' = true) (hk : ∀ w', Holds w0 hs' w' → K w') : st ⟨k, off, none⟩ v K w := by
  obtain ⟨i, cs, e, u, hi, hu, rfl⟩ := h.put
  exact st_h i H hi h1 hu hk
theorem kpA {a b : List Hp} {X : World → Prop} (H : Holds w0 b w) [h : Re a b] (hk : X w) : kp (Holds w0 a) X w := ⟨H.re, hk⟩
theorem keepsA (a : List Hp) {b : List Hp} {X : (World → Prop) → World → Prop} (H : Holds w0 b w) [h : Re a b] (hk : X (Holds w0 a) w) : keeps X w := ⟨_, H.re, hk⟩
theorem ldD {k off : Nat} {v : Value} {K : KV} (H : Holds w0 hs w) [h : CellAt hs k off v] (hk : K v w.drew) : ld ⟨k, off, none⟩ K w.drew := ldA H.drew hk
theorem nwD {o : Obj} {K : Nat → World → Prop} (H : Holds w0 hs w) (hk : ∀ k w', Holds w0 ([(k, o)] :: hs) w' → K k w') : nw o K w.drew := nw_h H.drew hk
/-- a step that needs nothing of the store -/
class Stp (P : Prop) (Q : outParam Prop) : Prop where imp : Q → P
instance {k : IntKind} {n : Int} {K : Int → World → Prop} : Stp (asI k (.int k n) K w) (K n w) := ⟨asI_h⟩
instance {b : Bool} {K : Bool → World → Prop} : Stp (asBoo (.bool b) K w) (K b w) := ⟨asBoo_h⟩
instance {b : ByteArray} {K : ByteArray → World → Prop} : Stp (asStr (.string b) K w) (K b w) := ⟨asStr_h⟩
instance {a : Option Addr} {n c : Nat} {K : Option Addr → Nat → Nat → World → Prop} : Stp (asSl (.slice a n c) K w) (K a n c w) := ⟨asSl_h⟩
instance {a : Option Addr} {K : Option Addr → World → Prop} : Stp (asPtr (.pointer a) K w) (K a w) := ⟨asPtr_h⟩
instance {a : Option Nat} {K : Option Nat → World → Prop} : Stp (asMap (.map a) K w) (K a w) := ⟨asMap_h⟩
instance {a : Addr} {K : Addr → World → Prop} : Stp (nn (some a) K w) (K a w) := ⟨nn_h⟩
theorem both_h {X Y : World → Prop} (h1 : X w) (h2 : Y w) : both X Y w := ⟨h1, h2⟩
theorem ivk_h {P : Program} {t : TypeId} {v : Value} {nm : String} {args : List Value} {K : KV} {f : FuncId} {rcv : Value} (hm : (method (P.types.size + Made.depth) t v nm).run P w = .ok (f, rcv) w) (hk : gocall P f (rcv :: args) K w) : ivk P (.iface t v) nm args K w := ⟨t, v, f, rcv, rfl, hm, hk⟩
end
end Go.Sh
