/- Contracts of the reference's SameInts and SameEntry, of law4's same. Conditions: none. -/
import Derived.Test.YteppbgalecjlfaaDoorCJ3
import Derived.Test.YteppbgalecjlfaaDoorFD
set_option linter.unusedVariables false
set_option maxRecDepth 100000
namespace Go.Proofs.YteppbgalecjlfaaDoor
open Go Go.Sh

theorem SameInts_c {w0 w : World} {hs : List Hp} {K : KV} {l m : List Int} {p q : Option Addr} {n n' c c' : Nat} (H : Sh.Holds w0 hs w) (hsl : Sl (Sh.Holds w0 hs) p n 1 (l.map I)) (hsm : Sl (Sh.Holds w0 hs) q n' 1 (m.map I)) (hl : l.length < 1000000)
    (k : ∀ w', Sh.Holds w0 hs w' → K (.bool (eqB l m)) w') : gocall Tryd.prog 40 [.slice p n c, .slice q n' c'] K w := by
  have hn : n = l.length := by have := hsl.len; simp at this; omega
  have hn' : n' = m.length := by have := hsm.len; simp at this; omega
  have bad : l ≠ m → ∀ w, Sh.Holds w0 hs w → K (.bool false) w := fun h w H => by have := k w H; rwa [show eqB l m = false by simp [eqB, h]] at this
  apply F40_go; unfold F40
  refine br_s (fun h => ?_) (fun h => ?_)
  · refine bad (fun e => ?_) _ H
    subst e; simp [hn, hn'] at h
  have hlen : l.length = m.length := by simp at h; omega
  refine ⟨fun y w => Sh.Holds w0 hs w ∧ 0 ≤ y.1 ∧ y.1 ≤ l.length ∧ ∀ j : Nat, (j : Int) < y.1 → l[j]? = m[j]?, fun y _ => (l.length - y.1).toNat, ⟨H, by simp, by simp, fun j hj => by simp at hj; omega⟩, ?_⟩
  rintro ⟨y, b, u⟩ w ⟨H, h0, h1, hf⟩
  simp only at h0 h1 hf
  refine br_s (fun h2 => ?_) (fun h2 => ?_)
  · simp only [decide_eq_true_eq] at h2
    have hx : y.toNat < l.length := by omega
    have hy : y.toNat < m.length := by omega
    have hp' := List.getElem?_eq_getElem hx
    have hq' := List.getElem?_eq_getElem hy
    replace H := H.drew
    refine slAt_s hsl h0 h2 (fun b1 o1 hp => ?_)
    refine ldS_s hsl hp H (v := I l[y.toNat]) (by simp [hp']) ?_
    refine asI_h ?_
    refine slAt_s hsm h0 (by omega) (fun b2 o2 hq => ?_)
    refine ldS_s hsm hq H (v := I m[y.toNat]) (by simp [hq']) ?_
    refine asI_h ?_
    refine br_s (fun h3 => ?_) (fun h3 => ?_)
    · refine bad (fun e => ?_) _ H
      subst e; simp at h3
    · have hw : IntKind.wrap .i64 (y + 1) = y + 1 := wrap64 (by omega) (by omega)
      simp only [hw]
      refine ⟨⟨H, by omega, by omega, fun j hj => ?_⟩, by omega⟩
      by_cases hj' : (j : Int) < y
      · exact hf j hj'
      · have : j = y.toNat := by omega
        subst this
        rw [hp', hq']
        simp at h3
        rw [h3]
  · simp only [decide_eq_false_iff_not] at h2
    have e : l = m := by
      apply List.ext_getElem?
      intro j
      by_cases hj : j < l.length
      · exact hf j (by omega)
      · rw [List.getElem?_eq_none (by omega), List.getElem?_eq_none (by omega)]
    have := k _ H
    rwa [show eqB l m = true by simp [eqB, e]] at this
theorem refSame_c {w0 w : World} {hs : List Hp} {K : KV} {a b : En} {p q : Option Addr} {n n' c c' : Nat} (H : Sh.Holds w0 hs w) (hsl : Sl (Sh.Holds w0 hs) p n 1 (a.l.map I)) (hsm : Sl (Sh.Holds w0 hs) q n' 1 (b.l.map I)) (hl : a.l.length < 1000000)
    (k : ∀ w', Sh.Holds w0 hs w' → K (.bool (sameE a b)) w') : gocall Tryd.prog 32 [enV a (.slice p n c), enV b (.slice q n' c')] K w := by
  apply F32_go; unfold F32
  refine nwE_h H (fun k1 w H => ?_)
  refine nwE_h H (fun k2 w H => ?_)
  have H' := H
  unfold eHp at H'
  have bad : ∀ w', sameE a b = false → Sh.Holds w0 (eHp k2 b.k b.id (.slice q n' c') :: eHp k1 a.k a.id (.slice p n c) :: hs) w' → K (.bool false) w' := fun w' e H => by
    have := k w' H.tail.tail
    rwa [e] at this
  apply ld_h 1 H' rfl rfl; refine asStr_h ?_
  apply ld_h 0 H' rfl rfl; refine asStr_h ?_
  rw [strEq_B]
  refine br_s (fun e1 => ?_) (fun e1 => bad _ (by simp only [sameE, e1, Bool.false_and]) H)
  apply ld_h 1 H' rfl rfl; refine asI_h ?_
  apply ld_h 0 H' rfl rfl; refine asI_h ?_
  refine br_s (fun e2 => ?_) (fun e2 => bad _ (by simp only [sameE, e2, Bool.false_and, Bool.and_false]) H)
  apply ld_h 1 H' rfl rfl; refine asSl_h ?_
  apply ld_h 0 H' rfl rfl; refine asSl_h ?_
  refine SameInts_c H (hsl.mono fun w H => H.tail.tail) (hsm.mono fun w H => H.tail.tail) hl (fun w H => ?_)
  refine asBoo_h ?_
  have := k _ H.tail.tail
  rwa [show sameE a b = eqB a.l b.l by simp only [sameE, e1, e2, Bool.true_and]] at this

/-- an entry with where its numbers lie -/
structure Xe where
  e : En
  p : Option Addr
  n : Nat
  c : Nat
def Xe.cells (x : Xe) : List Value := [.string (B x.e.k), I x.e.id, .slice x.p x.n x.c]
structure EntSl (S : World → Prop) (p : Option Addr) (n : Nat) (xs : List Xe) : Prop where
  sl : Sl S p n 3 (xs.flatMap Xe.cells)
  num : ∀ x ∈ xs, Sl S x.p x.n 1 (x.e.l.map I)
theorem EntSl.len {S : World → Prop} {p : Option Addr} {n : Nat} {xs : List Xe} (h : EntSl S p n xs) : n = xs.length := by
  have h1 := h.sl.len
  have h2 : (xs.flatMap Xe.cells).length = xs.length * 3 := Sh.flat_len (f := Xe.cells) (z := 3) (fun _ => rfl) xs
  omega
theorem EntSl.mono {S S' : World → Prop} {p : Option Addr} {n : Nat} {xs : List Xe} (h : EntSl S p n xs) (hs : ∀ w, S' w → S w) : EntSl S' p n xs := ⟨h.sl.mono hs, fun x hx => (h.num x hx).mono hs⟩
theorem ld3S_s {w0 w : World} {hs : List Hp} {p : Option Addr} {n i b o : Nat} {xs : List Xe} {x : Xe} {X : ByteArray → Int → Option Addr → Nat → Nat → World → Prop} (h : EntSl (Sh.Holds w0 hs) p n xs) (hx : xs[i]? = some x) (hp : p = some ⟨b, o, none⟩) (H : Sh.Holds w0 hs w)
    (hk : X (B x.e.k) x.e.id x.p x.n x.c w) :
    ld ⟨b, o + i * 3, none⟩ (fun v1 w1 => asStr v1 (fun s w2 => ld ⟨b, o + i * 3 + 1, none⟩ (fun v3 w3 => asI .i64 v3 (fun n2 w4 => ld ⟨b, o + i * 3 + 2, none⟩ (fun v5 w5 => asSl v5 (fun p n c w6 => X s n2 p n c w6) w5) w4) w3) w2) w1) w := by
  have h0 := Sh.flat_at (f := Xe.cells) (z := 3) (fun _ => rfl) hx (j := 0) (by omega)
  have h1 := Sh.flat_at (f := Xe.cells) (z := 3) (fun _ => rfl) hx (j := 1) (by omega)
  have h2 := Sh.flat_at (f := Xe.cells) (z := 3) (fun _ => rfl) hx (j := 2) (by omega)
  refine ldS_s h.sl hp H h0 (asStr_h ?_)
  refine ldS_s (j := i * 3 + 1) h.sl hp H h1 (asI_h ?_)
  exact ldS_s (j := i * 3 + 2) h.sl hp H h2 (asSl_h hk)
theorem same_c {w0 w : World} {hs : List Hp} {K : KV} {xs ys : List Xe} {p q : Option Addr} {n n' c c' : Nat} (H : Sh.Holds w0 hs w) (hx : EntSl (Sh.Holds w0 hs) p n xs) (hy : EntSl (Sh.Holds w0 hs) q n' ys) (hn : xs.length ≤ 100000) (hl : ∀ x ∈ xs, x.e.l.length < 1000000)
    (k : ∀ (b : Bool) w', (b = true ↔ xs.map Xe.e = ys.map Xe.e) → Sh.Holds w0 hs w' → K (.bool b) w') : gocall Tryd.prog 18 [.slice p n c, .slice q n' c'] K w := by
  have h1 := hx.len
  have h2 := hy.len
  have bad : xs.map Xe.e ≠ ys.map Xe.e → ∀ w, Sh.Holds w0 hs w → K (.bool false) w := fun h w H => k false w (by simp [h]) H
  apply F18_go; unfold F18
  refine br_s (fun h => ?_) (fun h => ?_)
  · refine bad (fun e => ?_) _ H
    have := congrArg List.length e
    simp only [List.length_map] at this
    simp [h1, h2, this] at h
  have hlen : xs.length = ys.length := by simp at h; omega
  refine ⟨fun y w => Sh.Holds w0 hs w ∧ 0 ≤ y.1 ∧ y.1 ≤ xs.length ∧ (xs.take y.1.toNat).map Xe.e = (ys.take y.1.toNat).map Xe.e, fun y _ => (xs.length - y.1).toNat, ⟨H, by simp, by simp, by simp⟩, ?_⟩
  clear H
  rintro ⟨y, b, u⟩ w ⟨H, g0, g1, hf⟩
  simp only at g0 g1 hf
  refine br_s (fun h3 => ?_) (fun h3 => ?_)
  · simp only [decide_eq_true_eq] at h3
    have hyx : y.toNat < xs.length := by omega
    have hyy : y.toNat < ys.length := by omega
    have ex := List.getElem?_eq_getElem hyx
    have ey := List.getElem?_eq_getElem hyy
    replace H := H.drew
    refine slAt_s hx.sl g0 h3 (fun b1 o1 hp => ?_)
    refine ld3S_s hx ex hp H ?_
    refine slAt_s hy.sl g0 (by omega) (fun b2 o2 hq => ?_)
    refine ld3S_s hy ey hq H ?_
    refine refSame_c (a := xs[y.toNat].e) (b := ys[y.toNat].e) H (hx.num _ (List.getElem_mem hyx)) (hy.num _ (List.getElem_mem hyy)) (hl _ (List.getElem_mem hyx)) (fun w H => ?_)
    refine asBoo_h ?_
    refine br_s (fun h4 => ?_) (fun h4 => ?_)
    · refine bad (fun e => ?_) _ H
      have e2 := congrArg (fun l => l[y.toNat]?) e
      simp only [List.getElem?_map, ex, ey, Option.map_some, Option.some.injEq] at e2
      rw [sameE_iff.2 e2] at h4
      cases h4
    · have e2 : xs[y.toNat].e = ys[y.toNat].e := sameE_iff.1 (by simpa using h4)
      have hw : IntKind.wrap .i64 (y + 1) = y + 1 := wrap64 (by omega) (by omega)
      simp only [hw]
      refine ⟨⟨H, by omega, by omega, ?_⟩, by omega⟩
      rw [show (y + 1).toNat = y.toNat + 1 by omega, List.take_add_one, List.take_add_one, ex, ey, List.map_append, List.map_append, hf]
      simp [e2]
  · simp only [decide_eq_false_iff_not] at h3
    rw [List.take_of_length_le (by omega), List.take_of_length_le (by omega)] at hf
    exact k true w (by simp [hf]) H
end Go.Proofs.YteppbgalecjlfaaDoor
