/- Contracts of the reference's hold and service. Conditions: none. -/
import Derived.Test.YtcfmnoimehcfnaaGreatDoorR2
import Derived.Test.YtcfmnoimehcfnaaGreatDoorV2
import Derived.Test.YtcfmnoimehcfnaaGreatDoorFRv
import Derived.Test.YtcfmnoimehcfnaaGreatDoorGa
set_option linter.unusedVariables false
set_option linter.unusedSimpArgs false
set_option maxRecDepth 100000
namespace Go.Proofs.YtcfmnoimehcfnaaGreatDoor
open Go Go.Sh

theorem sum_put : ∀ {l : List Int} {j : Nat} {v q : Int}, l[j]? = some v → (l.set j q).sum = l.sum - v + q
  | [], j, v, q, h => by simp at h
  | a :: l, 0, v, q, h => by simp at h; subst h; simp; omega
  | a :: l, j + 1, v, q, h => by
    simp only [List.getElem?_cons_succ] at h
    simp only [List.set_cons_succ, List.sum_cons, sum_put h]; omega
theorem sum_part : ∀ {l : List Int} {j : Nat} {v : Int}, l[j]? = some v → (∀ x ∈ l, 0 ≤ x) → 0 ≤ v ∧ v ≤ l.sum ∧ 0 ≤ l.sum
  | [], j, v, h, _ => by simp at h
  | a :: l, 0, v, h, hk => by
    simp at h; subst h
    have h1 := hk a (by simp)
    have : 0 ≤ l.sum := by
      clear h1
      induction l with
      | nil => simp
      | cons b l ih =>
        have h2 := hk b (by simp)
        have := ih (fun x hx => hk x (by rcases List.mem_cons.1 hx with rfl | hx <;> simp [*]))
        simp only [List.sum_cons]; omega
    simp only [List.sum_cons]; omega
  | a :: l, j + 1, v, h, hk => by
    have := sum_part (l := l) (by simpa using h) (fun x hx => hk x (by simp [hx]))
    have h1 := hk a (by simp)
    simp only [List.sum_cons]; omega
/-- a table of a thousand numbers, as a function -/
def Fn1 (l : List Int) (f : Int → Int) : Prop := l.length = 1000 ∧ ∀ i : Int, 0 ≤ i → i < 1000 → l[i.toNat]? = some (f i)
theorem Fn1.put {l : List Int} {f : Int → Int} (h : Fn1 l f) {j q : Int} (h0 : 0 ≤ j) (h1 : j < 1000) : Fn1 (l.set j.toNat q) (fun x => if x = j then q else f x) := by
  refine ⟨by rw [List.length_set]; exact h.1, fun i g0 g1 => ?_⟩
  rw [List.getElem?_set]
  have hl := h.1
  split
  · rename_i e
    have : i = j := by omega
    subst this
    rw [if_pos (by omega)]
    simp
  · rename_i e
    have : i ≠ j := by omega
    simp only [if_neg this]; exact h.2 i g0 g1
theorem Fn1.zero : Fn1 (List.replicate 1000 0) (fun _ => 0) := ⟨List.length_replicate, fun i h0 h1 => by rw [List.getElem?_replicate, if_pos (by omega)]⟩
theorem Fn1.ext {l : List Int} {f g : Int → Int} (h : Fn1 l f) (e : ∀ x, g x = f x) : Fn1 l g := ⟨h.1, fun i h0 h1 => by rw [h.2 i h0 h1, e]⟩

structure Rh where
  b : Nat
  left : Int
  hh : List Int
def Rh.hp (B : Rh) : Hp := [(B.b, .cells (I B.left :: B.hh.map I).toArray 75 (0, 0))]
abbrev Rh.v (B : Rh) : Value := .pointer (some ⟨B.b, 0, none⟩)
structure Rh.Ok (B : Rh) (h : Int → Int) : Prop where
  fn : Fn1 B.hh h
  lo : 0 ≤ B.left
  held : ∀ x ∈ B.hh, 0 ≤ x
  sum : B.left + B.hh.sum ≤ 1000000000
theorem rep_I (n : Nat) : List.replicate n (I 0) = (List.replicate n (0 : Int)).map I := by rw [List.map_replicate]
theorem tk (l : List Value) (x : Value) (n : Nat) : (x :: l)[n + 1]? = l[n]? := by simp
section
variable {w0 w : World} {hs R : List Hp} {K : KV}
theorem arAt1_h {k n q : Nat} {i : Int} {K : Addr → World → Prop} (h0 : 0 ≤ i) (h1 : i < (n : Int)) (hk : K ⟨k, q + i.toNat, none⟩ w) : arAt ⟨k, q, none⟩ n i 1 K w := by
  refine ⟨h0, h1, ?_⟩
  rw [Addr.add_lit, Nat.mul_one]
  exact hk
theorem clamp7_c {x : Int} (H : Sh.Holds w0 hs w) (k : ∀ w', Sh.Holds w0 hs w' → K (I (clampB x)) w') : gocall Tryz.prog 227 [I x] K w := by
  apply F227_go; unfold F227
  exact k _ H
theorem newH7_c {x : Int} (H : Sh.Holds w0 hs w) (k : ∀ (B : Rh) w', B.Ok (fun _ => 0) → B.left = clampB x → Sh.Holds w0 (B.hp :: hs) w' → K B.v w') : gocall Tryz.prog 135 [I x] K w := by
  apply F135_go; unfold F135
  refine clamp7_c H (fun w H => ?_)
  refine asI_h ?_
  refine nw_h H (fun k5 w H => ?_)
  have hc : 0 ≤ clampB x ∧ clampB x ≤ 1000000000 := by simp only [clampB]; split <;> (try split) <;> omega
  refine k ⟨k5, clampB x, List.replicate 1000 0⟩ w ⟨Fn1.zero, hc.1, fun y hy => by rw [List.eq_of_mem_replicate hy]; omega, ?_⟩ rfl ?_
  · show clampB x + (List.replicate 1000 (0 : Int)).sum ≤ _
    rw [show (List.replicate 1000 (0 : Int)).sum = 0 by simp [List.sum_replicate_int]]; omega
  · unfold Rh.hp
    rw [rep_I] at H
    exact H
theorem take7_c {B : Rh} {h : Int → Int} {id n : Int} (H : Sh.Holds w0 hs w) [D : Del hs B.hp R] (ok : B.Ok h)
    (k : ∀ (B' : Rh) w', B'.b = B.b → B'.Ok (fun x => if takeA B.left h id n = 0 ∧ x = id then n else h x) → B'.left = (if takeA B.left h id n = 0 then B.left - n else B.left) → Sh.Holds w0 (B'.hp :: R) w' → K (I (takeA B.left h id n)) w') :
    gocall Tryz.prog 137 [B.v, I id, I n] K w := by
  replace H := H.get B.hp
  have stay : ∀ {w}, takeA B.left h id n ≠ 0 → Sh.Holds w0 (B.hp :: R) w → K (I (takeA B.left h id n)) w := fun hn H => k B _ rfl ⟨ok.fn.ext (fun x => by simp [hn]), ok.lo, ok.held, ok.sum⟩ (by rw [if_neg hn]) H
  apply F137_go; unfold F137
  refine id1_c H (fun w H => ?_)
  refine asBoo_h ?_
  refine br_s (fun g => ?_) (fun g1 => ?_)
  · have e : takeA B.left h id n = 1 := by unfold takeA; rw [if_pos (by simp at g; omega)]
    have := stay (by omega) H
    rwa [e] at this
  refine above7_c H (fun w H => ?_)
  refine asBoo_h ?_
  refine br_s (fun g => ?_) (fun g2 => ?_)
  · have e : takeA B.left h id n = 1 := by unfold takeA; rw [if_pos (by simp at g; omega)]
    have := stay (by omega) H
    rwa [e] at this
  have hg : ¬ (id < 1 ∨ 999 < id ∨ n < 1 ∨ 1000000000 < n) := by simp at g1 g2; omega
  refine nn_h ?_
  refine arAt1_h (q := 1) (by omega) (by omega) ?_
  have hv := ok.fn.2 id (by omega) (by omega)
  refine ld_h (v := I (h id)) 0 H rfl (by rw [Nat.add_comm]; simp [hv]) ?_
  refine asI_h ?_
  refine br_s (fun g => ?_) (fun g3 => ?_)
  · have e : takeA B.left h id n = 8 := by unfold takeA; rw [if_neg hg, if_pos (by simpa using g)]
    have := stay (by omega) H
    rwa [e] at this
  refine nn_h ?_
  refine ld_h (v := I B.left) 0 H rfl rfl ?_
  refine asI_h ?_
  refine br_s (fun g => ?_) (fun g4 => ?_)
  · have e : takeA B.left h id n = 9 := by unfold takeA; rw [if_neg hg, if_neg (by simpa using g3), if_pos (by simpa using g)]
    have := stay (by omega) H
    rwa [e] at this
  have e : takeA B.left h id n = 0 := by unfold takeA; rw [if_neg hg, if_neg (by simpa using g3), if_neg (by simpa using g4)]
  simp only [decide_eq_false_iff_not] at g3 g4
  have hlo := ok.lo
  have hpa := sum_part hv ok.held
  have hsu := ok.sum
  have hw : IntKind.wrap .i64 (B.left - n) = B.left - n := wrap64 (by omega) (by omega)
  refine nn_h ?_
  refine ld_h (v := I B.left) 0 H rfl rfl ?_
  refine asI_h ?_
  rw [hw]
  refine nn_h ?_
  refine st_h 0 H rfl rfl (u := I B.left) rfl (fun w H => ?_)
  have H2 : Sh.Holds w0 ([(B.b, .cells (I (B.left - n) :: B.hh.map I).toArray 75 (0, 0))] :: R) w := H
  refine nn_h ?_
  refine arAt1_h (q := 1) (by omega) (by omega) ?_
  refine st_h 0 H2 rfl rfl (u := I (h id)) (by rw [Nat.add_comm]; simp [hv]) (fun w H => ?_)
  have H3 : Sh.Holds w0 (Rh.hp ⟨B.b, B.left - n, B.hh.set id.toNat n⟩ :: R) w := by
    have e1 : (I (B.left - n) :: B.hh.map I).toArray.setIfInBounds (1 + id.toNat) (I n) = (I (B.left - n) :: (B.hh.set id.toNat n).map I).toArray := by rw [Nat.add_comm]; simp
    have H4 : Sh.Holds w0 ([(B.b, .cells ((I (B.left - n) :: B.hh.map I).toArray.setIfInBounds (1 + id.toNat) (I n)) 75 (0, 0))] :: R) w := H
    rw [e1] at H4
    exact H4
  rw [e] at k
  refine k ⟨B.b, B.left - n, B.hh.set id.toNat n⟩ w rfl ⟨?_, ?_, fun x hx => ?_, ?_⟩ (by rw [if_pos rfl]) H3
  · exact (ok.fn.put (q := n) (j := id) (by omega) (by omega)).ext (fun x => by simp)
  · show 0 ≤ B.left - n
    omega
  · rcases List.mem_or_eq_of_mem_set hx with hx | hx
    · exact ok.held x hx
    · omega
  · show B.left - n + (B.hh.set id.toNat n).sum ≤ _
    rw [sum_put hv]; omega
theorem back7_c {B : Rh} {h : Int → Int} {id : Int} (H : Sh.Holds w0 hs w) [D : Del hs B.hp R] (ok : B.Ok h) (hh0 : (id < 1 ∨ 999 < id) → h id = 0)
    (k : ∀ (B' : Rh) c w', B'.b = B.b → B'.Ok (fun x => if x = id then 0 else h x) → B'.left = B.left + h id → Sh.Holds w0 (B'.hp :: R) w' → K (I c) w') :
    gocall Tryz.prog 138 [B.v, I id] K w := by
  replace H := H.get B.hp
  have stay : ∀ {w c}, h id = 0 → Sh.Holds w0 (B.hp :: R) w → K (I c) w := fun hn H => k B _ _ rfl ⟨ok.fn.ext (fun x => by split <;> simp [*]), ok.lo, ok.held, ok.sum⟩ (by rw [hn]; omega) H
  apply F138_go; unfold F138
  refine id1_c H (fun w H => ?_)
  refine asBoo_h ?_
  refine br_s (fun g => stay (hh0 (by simp at g; omega)) H) (fun g1 => ?_)
  simp at g1
  refine nn_h ?_
  refine arAt1_h (q := 1) (by omega) (by omega) ?_
  have hv := ok.fn.2 id (by omega) (by omega)
  refine ld_h (v := I (h id)) 0 H rfl (by rw [Nat.add_comm]; simp [hv]) ?_
  refine asI_h ?_
  refine br_s (fun g => stay (by simpa using g) H) (fun g2 => ?_)
  have hlo := ok.lo
  have hpa := sum_part hv ok.held
  have hsu := ok.sum
  have hw : IntKind.wrap .i64 (B.left + h id) = B.left + h id := wrap64 (by omega) (by omega)
  replace H := H.drew
  refine nn_h ?_
  refine ld_h (v := I B.left) 0 H rfl rfl ?_
  refine asI_h ?_
  refine nn_h ?_
  refine arAt1_h (q := 1) (by omega) (by omega) ?_
  refine ld_h (v := I (h id)) 0 H rfl (by rw [Nat.add_comm]; simp [hv]) ?_
  refine asI_h ?_
  rw [hw]
  refine nn_h ?_
  refine st_h 0 H rfl rfl (u := I B.left) rfl (fun w H => ?_)
  have H2 : Sh.Holds w0 ([(B.b, .cells (I (B.left + h id) :: B.hh.map I).toArray 75 (0, 0))] :: R) w := H
  refine nn_h ?_
  refine arAt1_h (q := 1) (by omega) (by omega) ?_
  refine st_h 0 H2 rfl rfl (u := I (h id)) (by rw [Nat.add_comm]; simp [hv]) (fun w H => ?_)
  have H3 : Sh.Holds w0 (Rh.hp ⟨B.b, B.left + h id, B.hh.set id.toNat 0⟩ :: R) w := by
    have e1 : (I (B.left + h id) :: B.hh.map I).toArray.setIfInBounds (1 + id.toNat) (I 0) = (I (B.left + h id) :: (B.hh.set id.toNat 0).map I).toArray := by rw [Nat.add_comm]; simp
    have H4 : Sh.Holds w0 ([(B.b, .cells ((I (B.left + h id) :: B.hh.map I).toArray.setIfInBounds (1 + id.toNat) (I 0)) 75 (0, 0))] :: R) w := H
    rw [e1] at H4
    exact H4
  refine k ⟨B.b, B.left + h id, B.hh.set id.toNat 0⟩ _ w rfl ⟨?_, ?_, fun x hx => ?_, ?_⟩ rfl H3
  · exact ok.fn.put (q := 0) (j := id) (by omega) (by omega)
  · show 0 ≤ B.left + h id
    omega
  · rcases List.mem_or_eq_of_mem_set hx with hx | hx
    · exact ok.held x hx
    · omega
  · show B.left + h id + (B.hh.set id.toNat 0).sum ≤ _
    rw [sum_put hv]; omega
end
end Go.Proofs.YtcfmnoimehcfnaaGreatDoor
