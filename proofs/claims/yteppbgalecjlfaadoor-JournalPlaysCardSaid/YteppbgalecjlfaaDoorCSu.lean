/- What law4's few and JournalSure compute. Conditions: none. -/
import Derived.Test.YteppbgalecjlfaaDoorCSm
import Derived.Test.YteppbgalecjlfaaDoorCAg
import Derived.Test.YteppbgalecjlfaaDoorFS2
set_option linter.unusedVariables false
set_option maxRecDepth 100000
namespace Go.Proofs.YteppbgalecjlfaaDoor
open Go Go.Sh

/-- a call of law4, with where its entry's numbers lie -/
structure Xc where
  d : Int
  s : Int
  t : Int
  x : Xe
def Xc.cells (q : Xc) : List Value := [I q.d, I q.s, I q.t, .string (B q.x.e.k), I q.x.e.id, .slice q.x.p q.x.n q.x.c]
structure CallSl (S : World → Prop) (p : Option Addr) (n : Nat) (qs : List Xc) : Prop where
  sl : Sl S p n 6 (qs.flatMap Xc.cells)
  num : ∀ q ∈ qs, Sl S q.x.p q.x.n 1 (q.x.e.l.map I)
theorem CallSl.len {S : World → Prop} {p : Option Addr} {n : Nat} {qs : List Xc} (h : CallSl S p n qs) : n = qs.length := by
  have h1 := h.sl.len
  have h2 : (qs.flatMap Xc.cells).length = qs.length * 6 := Sh.flat_len (f := Xc.cells) (z := 6) (fun _ => rfl) qs
  omega
theorem CallSl.mono {S S' : World → Prop} {p : Option Addr} {n : Nat} {qs : List Xc} (h : CallSl S p n qs) (hs : ∀ w, S' w → S w) : CallSl S' p n qs := ⟨h.sl.mono hs, fun x hx => (h.num x hx).mono hs⟩
theorem ld6S_s {w0 w : World} {hs : List Hp} {p : Option Addr} {n i b o : Nat} {qs : List Xc} {q : Xc} {X : Int → Int → Int → ByteArray → Int → Option Addr → Nat → Nat → World → Prop} (h : CallSl (Sh.Holds w0 hs) p n qs) (hx : qs[i]? = some q) (hp : p = some ⟨b, o, none⟩) (H : Sh.Holds w0 hs w)
    (hk : X q.d q.s q.t (B q.x.e.k) q.x.e.id q.x.p q.x.n q.x.c w) :
    ld ⟨b, o + i * 6, none⟩ (fun v1 w1 => asI .i64 v1 (fun n1 w2 => ld ⟨b, o + i * 6 + 1, none⟩ (fun v3 w3 => asI .i64 v3 (fun n2 w4 => ld ⟨b, o + i * 6 + 2, none⟩ (fun v5 w5 => asI .i64 v5 (fun n3 w6 =>
      ld ⟨b, o + i * 6 + 3, none⟩ (fun v7 w7 => asStr v7 (fun s w8 => ld ⟨b, o + i * 6 + 4, none⟩ (fun v9 w9 => asI .i64 v9 (fun n5 w10 => ld ⟨b, o + i * 6 + 5, none⟩ (fun v11 w11 => asSl v11 (fun p n c w12 => X n1 n2 n3 s n5 p n c w12) w11) w10) w9) w8) w7) w6) w5) w4) w3) w2) w1) w := by
  have hz : ∀ a : Xc, (Xc.cells a).length = 6 := fun _ => rfl
  have h0 := Sh.flat_at hz hx (j := 0) (by omega)
  have h1 := Sh.flat_at hz hx (j := 1) (by omega)
  have h2 := Sh.flat_at hz hx (j := 2) (by omega)
  have h3 := Sh.flat_at hz hx (j := 3) (by omega)
  have h4 := Sh.flat_at hz hx (j := 4) (by omega)
  have h5 := Sh.flat_at hz hx (j := 5) (by omega)
  refine ldS_s h.sl hp H h0 (asI_h ?_)
  refine ldS_s (j := i * 6 + 1) h.sl hp H h1 (asI_h ?_)
  refine ldS_s (j := i * 6 + 2) h.sl hp H h2 (asI_h ?_)
  refine ldS_s (j := i * 6 + 3) h.sl hp H h3 (asStr_h ?_)
  refine ldS_s (j := i * 6 + 4) h.sl hp H h4 (asI_h ?_)
  exact ldS_s (j := i * 6 + 5) h.sl hp H h5 (asSl_h hk)
def qHp (k : Nat) (q : Xc) : Hp := [(k, .cells #[I q.d, I q.s, I q.t, .string (B q.x.e.k), I q.x.e.id, .slice q.x.p q.x.n q.x.c] 46 (0, 0))]
theorem nw6q_h {w0 w : World} {hs : List Hp} {q : Xc} {X : Nat → World → Prop} (H : Sh.Holds w0 hs w) (hk : ∀ k w', Sh.Holds w0 (qHp k q :: hs) w' → X k w') :
    nw (Obj.cells #[I 0, I 0, I 0, .string (B []), I 0, .slice none 0 0] 46 (0, 0)) (fun k w => st ⟨k, 0, none⟩ (I q.d) (fun w => st ⟨k, 1, none⟩ (I q.s) (fun w => st ⟨k, 2, none⟩ (I q.t) (fun w => st ⟨k, 3, none⟩ (.string (B q.x.e.k)) (fun w => st ⟨k, 4, none⟩ (I q.x.e.id) (fun w => st ⟨k, 5, none⟩ (.slice q.x.p q.x.n q.x.c) (fun w => X k w) w) w) w) w) w) w) w := by
  refine nw_h H (fun k w H => ?_)
  apply st_h 0 H rfl rfl rfl; intro w H
  apply st_h 0 H rfl rfl rfl; intro w H
  apply st_h 0 H rfl rfl rfl; intro w H
  apply st_h 0 H rfl rfl rfl; intro w H
  apply st_h 0 H rfl rfl rfl; intro w H
  apply st_h 0 H rfl rfl rfl; intro w H
  exact hk _ _ H
theorem few_c {w0 w : World} {hs : List Hp} {K : KV} {p : Option Addr} {n c : Nat} {qs : List Xc} (H : Sh.Holds w0 hs w) (hq : CallSl (Sh.Holds w0 hs) p n qs)
    (k : ∀ (b : Bool) w', (b = true → qs.length ≤ 100 ∧ ∀ q ∈ qs, q.x.e.k.length ≤ 50 ∧ q.x.n ≤ 20) → Sh.Holds w0 hs w' → K (.bool b) w') : gocall Tryd.prog 19 [.slice p n c] K w := by
  have hn := hq.len
  apply F19_go; unfold F19
  refine ⟨fun y w => Sh.Holds w0 hs w ∧ 0 ≤ y.1 ∧ y.1 ≤ qs.length ∧ y.1 ≤ 100 ∧ ∀ (j : Nat) q, (j : Int) < y.1 → qs[j]? = some q → q.x.e.k.length ≤ 50 ∧ q.x.n ≤ 20, fun y _ => (qs.length - y.1).toNat, ⟨H, by simp, by simp, by simp, fun j q hj => by simp at hj; omega⟩, ?_⟩
  clear H
  rintro ⟨y, b, u⟩ w ⟨H, g0, g1, g2, hf⟩
  simp only at g0 g1 g2 hf
  refine br_s (fun h3 => ?_) (fun h3 => ?_)
  · simp only [decide_eq_true_eq] at h3
    have hy : y.toNat < qs.length := by omega
    have ex := List.getElem?_eq_getElem hy
    generalize hqe : qs[y.toNat] = q at *
    refine slAt_s hq.sl g0 h3 (fun b1 o1 hp => ?_)
    refine ld6S_s hq ex hp H ?_
    refine nw6q_h (q := q) H (fun k35 w H => ?_)
    have H' := H
    unfold qHp at H'
    refine br_s (fun _ => k false _ (by simp) H.tail) (fun h4 => ?_)
    apply ld_h 0 H' rfl rfl; refine asStr_h ?_
    rw [B_size]
    refine br_s (fun _ => k false _ (by simp) H.tail) (fun h5 => ?_)
    apply ld_h 0 H' rfl rfl; refine asSl_h ?_
    refine br_s (fun _ => k false _ (by simp) H.tail) (fun h6 => ?_)
    simp only [decide_eq_false_iff_not] at h4 h5 h6
    have hw : IntKind.wrap .i64 (y + 1) = y + 1 := wrap64 (by omega) (by omega)
    simp only [hw]
    refine ⟨⟨H.tail, by omega, by omega, by omega, fun j q' hj hq' => ?_⟩, by omega⟩
    by_cases hjy : (j : Int) < y
    · exact hf j q' hjy hq'
    · have : j = y.toNat := by omega
      subst this
      rw [ex] at hq'; cases hq'
      exact ⟨by omega, by omega⟩
  · simp only [decide_eq_false_iff_not] at h3
    refine k true w (fun _ => ⟨by omega, fun q hq' => ?_⟩) H
    obtain ⟨j, hj, rfl⟩ := List.getElem_of_mem hq'
    exact hf j _ (by omega) (List.getElem?_eq_getElem hj)
/-- what a recovery finds behind a crash: the lines that stayed -/
theorem good_crash {es : List En} (h : ∀ e ∈ es, mayN e = true) {sure stay torn : Int} {m : Nat} (hm : sure + cutI ((es.length : Int) - sure) stay = m) (hle : m ≤ es.length) : goodL (crashL (es.map LB) sure stay torn) = (es.take m).map LB := by
  have hlen : (es.map LB).length = es.length := by simp
  have ht : ∀ e ∈ es.take m, mayN e = true := fun e he => h e (List.mem_of_mem_take he)
  by_cases hml : m = es.length
  · rw [crashL_none (m := m) (by rw [hlen]; exact hm) (by rw [List.getElem?_eq_none (by omega)]), good_ents h, hml, List.take_length]
  · have hlt : m < es.length := by omega
    have hg : (es.map LB)[m]? = some (LB es[m]) := by rw [List.getElem?_map, List.getElem?_eq_getElem hlt]; rfl
    rw [crashL_at (m := m) (by rw [hlen]; exact hm) hg, ← List.map_take]
    have hmm := h _ (List.getElem_mem hlt)
    split
    · exact good_ents ht
    · have hbad : okS (pieceB (LB es[m]) torn) = false := by
        have hs := line_size hmm
        have h6 : 0 < (lineL es[m]).length := by rw [lineL, signL_len]; omega
        have hq : (cutI (((LB es[m]).size : Int) - 1) torn).toNat < (lineL es[m]).length := by
          show (cutI (((lineL es[m]).length : Int) - 1) torn).toNat < _
          unfold cutI; split <;> (try split) <;> omega
        exact okS_cut hmm hq
      unfold goodL
      rw [List.takeWhile_append_of_pos (fun s hs => by
        obtain ⟨e, he, rfl⟩ := List.mem_map.1 hs
        exact okS_line (ht e he))]
      simp [hbad]
end Go.Proofs.YteppbgalecjlfaaDoor
