/- An executor for the shallow reading: stores and new blocks. Conditions: none. -/
import Derived.Test.YtlfgmbbiealpoaaGreatDoorE7
set_option linter.unusedVariables false
namespace Go.Sh
open Go Go.RowKit
section
variable {P : Program} {w0 w : World} {v : Vl} {s : XSt}
theorem one_ok {x : EV} {y : Value} (h : x.one = true) (hs : sh v x = some y) : y.oneCell' = true := by
  cases x <;> simp only [EV.one, Bool.false_eq_true] at h <;> (try simp only [sh] at hs) <;> first
    | (cases hs; rfl)
    | (split at hs <;> cases hs; rfl)
    | (split at hs
       · split at hs <;> cases hs; rfl
       · cases hs)
    | (rename_i l i; cases l <;> cases hs <;> rfl)
theorem allOne_ok : ∀ {l : List EV} {us : List Value}, allOne l = true → shL v l = some us → us.all (·.oneCell') = true
  | [], us, _, h => by rw [shL_nil] at h; subst h; rfl
  | x :: r, us, h, hs => by
    have h' : (Bool.rec (motive := fun _ => Bool) false (allOne r) x.one) = true := h
    obtain ⟨y, l, hy, hl, rfl⟩ := shL_cons.1 hs
    cases hx : x.one with
    | false => rw [hx] at h'; cases h'
    | true =>
      rw [hx] at h'
      simp only [List.all_cons, one_ok hx hy, allOne_ok h' hl, Bool.and_self]
theorem Rep.congr {s' : XSt} (H : Rep w0 v s w) (h1 : ∀ k, s'.get k = s.get k) (h2 : s'.nx = s.nx) (h3 : s'.lim = s.lim) : Rep w0 v s' w := by
  refine ⟨H.below, fun k o h => H.held k o (by rw [← h1]; exact h), fun k k' o o' b b' ha hb => H.inj k k' o o' b b' (by rw [← h1]; exact ha) (by rw [← h1]; exact hb), fun k ha hb => H.fresh k (by rw [← h2]; exact ha) (by rw [← h3]; exact hb), H.dom, by rw [h3]; exact H.lim⟩
/-- one cell turned -/
theorem Rep.set1 (H : Rep w0 v s w) {k off : Nat} {l : List EV} {e : TypeId} {z : Nat} {b : Nat × Nat} {x : EV} {u : Value} (ho : s.get k = some (.cells l e z)) (hb : v.β k = some b) (hl : off < l.length) (hx : sh v x = some u) :
    (∃ c, w.cell? ⟨b.1, off, none⟩ = some c) ∧ w.frozen? ⟨b.1, off, none⟩ = false ∧ Rep w0 v (s.put k (.cells (l.set off x) e z)) (w.setCell ⟨b.1, off, none⟩ u) := by
  obtain ⟨b', O, hb', h0, hO, vs, rest, h1, rfl, h3, h4⟩ := H.held _ _ ho
  rw [hb] at hb'; cases hb'
  have hv : off < vs.length := by rw [shL_len h1]; exact hl
  refine ⟨⟨vs[off], ?_⟩, ?_, ?_⟩
  · simp only [World.cell?, hO]
    rw [if_neg (by simp), List.getElem?_toArray, List.getElem?_append_left hv]
    exact List.getElem?_eq_getElem hv
  · simp [World.frozen?, hO]
  · refine H.put ho hb _ rfl rfl rfl ?_ (O' := .cells (vs.set off u ++ rest).toArray e (0, 0)) ?_ ?_ ?_
    · simp [World.setCell]
    · simp only [World.setCell, Array.getElem?_modify, hO]
      simp [List.set_append_left _ _ hv]
    · intro j hj hne
      simp only [World.setCell, Array.getElem?_modify]
      rw [if_neg (fun e => hne e.symm)]
    · exact ⟨vs.set off u, rest, shL_set off h1 hx, rfl, h3, fun hz => by
        obtain ⟨c, hc, h5⟩ := h4 hz
        exact ⟨c, hc, by simpa using h5⟩⟩
/-- cells turned, one behind the other -/
theorem Rep.setN : ∀ {cs : List EV} {us : List Value} {w : World} {s : XSt} {k off : Nat} {l : List EV} {e : TypeId} {z : Nat} {b : Nat × Nat}, Rep w0 v s w → s.get k = some (.cells l e z) → v.β k = some b → off + cs.length ≤ l.length → shL v cs = some us → us.all (·.oneCell') = true →
    Rep w0 v (s.put k (.cells (putL l off cs) e z)) (w.setCells b.1 off us) ∧ ∀ (a : Addr) (i : Nat) (K : World → Prop), (∀ j, a.add (i + j) = ⟨b.1, off + j, none⟩) → K (w.setCells b.1 off us) → spt .full P (storeCells a us i) (fun _ w => K w) w
  | [], us, w, s, k, off, l, e, z, b, H, ho, hb, hl, hs, h1 => by
    rw [shL_nil] at hs; subst hs
    refine ⟨?_, fun a i K _ hK => hK⟩
    have hlt := H.lt ho
    refine H.congr (fun j => ?_) rfl rfl
    rw [XSt.get_put hlt]
    split
    · rename_i e1; subst e1; exact ho.symm
    · rfl
  | x :: cs, us, w, s, k, off, l, e, z, b, H, ho, hb, hl, hs, h1 => by
    obtain ⟨u, q, hu, hq, rfl⟩ := shL_cons.1 hs
    simp only [List.all_cons, Bool.and_eq_true] at h1
    simp only [List.length_cons] at hl
    have hlt := H.lt ho
    obtain ⟨⟨c, hc⟩, hf, H1⟩ := H.set1 ho hb (by omega : off < l.length) hu
    have hg : (s.put k (.cells (l.set off x) e z)).get k = some (.cells (l.set off x) e z) := by rw [XSt.get_put hlt, if_pos rfl]
    obtain ⟨H2, hst⟩ := Rep.setN (off := off + 1) H1 hg hb (by rw [List.length_set]; omega) hq h1.2
    refine ⟨?_, fun a i K ha hK => ?_⟩
    · refine H2.congr (fun j => ?_) rfl rfl
      rw [XSt.get_put hlt, XSt.get_put hlt]
      split
      · rfl
      · rename_i hne; rw [XSt.get_put hlt, if_neg hne]
    · unfold storeCells
      have ha0 := ha 0
      simp only [Nat.add_zero] at ha0
      refine spt_bind (store (a.add i) u) ?_
      rw [ha0]
      exact ⟨h1.1, ⟨c, hc⟩, hf, hst a (i + 1) K (fun j => by rw [show i + 1 + j = i + (j + 1) by omega, ha (j + 1)]; congr 1; omega) hK⟩
theorem Rep.there (H : Rep w0 v s w) {k off n : Nat} {l : List EV} {e : TypeId} {z : Nat} {b : Nat × Nat} (ho : s.get k = some (.cells l e z)) (hb : v.β k = some b) (hl : off + n ≤ l.length) : w.there b.1 off n := by
  intro j hj
  obtain ⟨b', O, hb', h0, hO, vs, rest, h1, rfl, h3, h4⟩ := H.held _ _ ho
  rw [hb] at hb'; cases hb'
  have hv : off + j < vs.length := by rw [shL_len h1]; omega
  refine ⟨?_, by simp [World.frozen?, hO]⟩
  simp only [World.cell?, hO]
  rw [if_neg (by simp), List.getElem?_toArray, List.getElem?_append_left hv, List.getElem?_eq_getElem hv]
  rfl
/-- what a store asks -/
def stWord (P : Program) (t : TypeId) (a x : Value) (X : World → Prop) (w : World) : Prop := match a with
      | .pointer (some a) => (match isTyB P t, isAggB P t, sizeB P t 1 with
        | true, false, true => wr .full (fun w => st a x (fun w => X w) w) w
        | true, true, _ => (match bigA P t, x with
          | some n, .agg cs => wr .full (fun w => stN a n cs (fun w => X w) w) w
          | _, v => spt .full P (storeVar t a v) (fun _ w => X w) w)
        | _, _, _ => fls "store" w)
      | _ => fls "store" w
theorem cstore_ok {cx : XCx} {t : TypeId} {f : Sr_} {p x : EV} {k : XSt → Bool} {y z : Value} (h : cstore cx t = .mk f) (H : Rep w0 v s w) (hp : sh v p = some y) (hx : sh v x = some z) (hk : f p x s k = true) :
    ∃ s' w', k s' = true ∧ Rep w0 v s' w' ∧ ∀ X : World → Prop, X w' → stWord cx.P t y z X w := by
  unfold cstore at h
  split at h
  · rename_i h1 h2 h3
    cases h
    obtain ⟨s', hs', hk⟩ := oB_out hk
    unfold xwrite1 at hs'
    split at hs'
    · rename_i b off
      obtain ⟨bb, hb, rfl⟩ := ptr_out hp
      split at hs'
      · rename_i l e zz ho
        split at hs' <;> cases hs'
        rename_i hlt h1x
        rw [lenX_eq] at hlt
        obtain ⟨hc, hf, H1⟩ := H.set1 ho hb (by simpa [Nat.blt_eq] using hlt) hx
        refine ⟨_, _, hk, by rw [set1_eq]; exact H1, fun X hX => ?_⟩
        simp only [stWord, h1, h2, h3]
        exact ⟨one_ok h1x hx, hc, hf, hX⟩
      · cases hs'
    · cases hs'
  · rename_i h1 h2
    cases h
    simp only at hk
    split at hk
    · rename_i cs
      obtain ⟨hsz, hk⟩ := bB_out hk
      obtain ⟨s', hs', hk⟩ := oB_out hk
      unfold xwrite at hs'
      split at hs'
      · rename_i b off _
        obtain ⟨bb, hb, rfl⟩ := ptr_out hp
        split at hs'
        · rename_i l e zz ho
          split at hs' <;> cases hs'
          rename_i hle h1x
          rw [lenX_eq, lenX_eq] at hle
          rw [lenX_eq] at hsz
          have hle' : off + cs.length ≤ l.length := Nat.le_of_ble_eq_true hle
          simp only [sh] at hx
          cases hus : shL v cs with
          | none => rw [hus] at hx; cases hx
          | some us =>
          rw [hus] at hx; cases hx
          have hone := allOne_ok h1x hus
          obtain ⟨H1, hst⟩ := Rep.setN (P := cx.P) H ho hb hle' hus hone
          refine ⟨_, _, hk, by rw [putC_eq]; exact H1, fun X hX => ?_⟩
          have hlen := shL_len hus
          have fin : (match bigA cx.P t, (Value.agg us.toArray) with
              | some n, .agg cs => wr .full (fun w => stN ⟨bb.1, off, none⟩ n cs (fun w => X w) w) w
              | _, v => spt .full cx.P (storeVar t ⟨bb.1, off, none⟩ v) (fun _ w => X w) w) := by
            cases hn : bigA cx.P t with
            | some n =>
              obtain ⟨-, -, hsn, -⟩ := bigA_out hn
              have hn2 : us.length = n := by
                rw [hlen]
                unfold sizeB at hsz hsn
                split at hsz
                · rename_i i hi
                  rw [hi] at hsn
                  rw [← Nat.eq_of_beq_eq_true hsz, Nat.eq_of_beq_eq_true hsn]
                · cases hsz
              refine ⟨by simpa using hn2, rfl, ?_, by simpa using hone, by simpa using hX⟩
              exact H.there ho hb (by show off + n ≤ l.length; omega)
            | none =>
              show spt .full cx.P (storeVar t ⟨bb.1, off, none⟩ (.agg us.toArray)) (fun _ w => X w) w
              unfold storeVar
              refine spt_bind (sizeOf t) (spt_size hsz ?_)
              have : (Value.agg us.toArray).cells = us.toArray := rfl
              rw [this]
              rw [if_neg (by simp [hlen])]
              exact hst _ 0 X (fun j => by rw [Addr.add_lit, Nat.zero_add]) hX
          simp only [stWord, h1, h2]
          cases sizeB cx.P t 1 <;> exact fin
        · cases hs'
      · cases hs'
    · cases hk
  · cases h
/-- a new block -/
theorem newE_ok {l : List EV} {e : TypeId} {x : EV} {s' : XSt} {us : List Value} (h : newE s l e = some (x, s')) (H : Rep w0 v s w) (hs : shL v l = some us) : ∃ v', v.le v' ∧ Rep w0 v' s' (w.alloc (.cells us.toArray e (0, 0))) ∧ sh v' x = some (.pointer (some ⟨w.heap.size, 0, none⟩)) := by
  unfold newE at h
  split at h <;> cases h
  rename_i k ho hn
  have hnone : v.β k = none := by
    obtain ⟨rfl, h1, -⟩ := new_out hn
    exact (H.fresh _ (Nat.le_refl _) h1).1
  obtain ⟨hle, H'⟩ := H.nw hn 0 (O := .cells us.toArray e (0, 0)) (fun _ _ => default) ⟨us, [], shL_mono (Vl.put_le hnone) hs, by simp, fun _ => rfl, fun hz => absurd hz (by omega)⟩
  exact ⟨_, hle, H', by simp only [sh, Vl.put_self]⟩
theorem spt_zero {r : Md} {t : TypeId} {i : TypeInfo} {z : Value} {K : Value → World → Prop} (hi : P.info? t = some i) (hz : i.zero = some z) (h : K z w) : spt r P (zeroValue t) K w := by
  unfold zeroValue
  refine spt_bind (typeInfo t) ?_
  show spt r P (match P.info? t with | some i => Sem.pure i | none => _ : Sem TypeInfo) _ w
  rw [hi]
  show spt r P (match i.zero with | some v => pure v | none => _ : Sem Value) K w
  rw [hz]; exact h
theorem spt_new {o : Obj} {K : Nat → World → Prop} (h : K w.heap.size (w.alloc o)) : spt .full P (newObj o) K w := h
end
end Go.Sh
