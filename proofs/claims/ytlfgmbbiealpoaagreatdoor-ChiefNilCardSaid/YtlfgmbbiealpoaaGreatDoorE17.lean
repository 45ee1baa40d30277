/- An executor for the shallow reading: a drawn order, walked. Conditions: none. -/
import Derived.Test.YtlfgmbbiealpoaaGreatDoorE16
set_option linter.unusedVariables false
namespace Go.Sh
open Go Go.RowKit
/-! ### equality -/
theorem leafB_eq : ∀ {a b : Leaf}, leafB a b = true → a = b := by
  intro a b h
  cases a <;> cases b <;> simp [leafB] at h <;> first | rfl | (subst h; rfl)
mutual
theorem EV.beq_eq : ∀ {a b : EV}, a.beq b = true → a = b
  | .int k n, b, h => by cases b <;> simp [EV.beq] at h; simp [h]
  | .bool x, b, h => by cases b <;> simp [EV.beq] at h; simp [h]
  | .str x, b, h => by cases b <;> simp [EV.beq, beqS_eq] at h; simp [h]
  | .nilp, b, h => by cases b <;> simp [EV.beq] at h; rfl
  | .ptr x y, b, h => by cases b <;> simp [EV.beq] at h; simp [h]
  | .glob x y, b, h => by cases b <;> simp [EV.beq] at h; simp [h]
  | .nils, b, h => by cases b <;> simp [EV.beq] at h; rfl
  | .sl x y z u, b, h => by cases b <;> simp [EV.beq] at h; simp [h]
  | .slo x y z u t, b, h => by cases b <;> simp [EV.beq] at h; simp [h]
  | .nilm, b, h => by cases b <;> simp [EV.beq] at h; rfl
  | .map x, b, h => by cases b <;> simp [EV.beq] at h; simp [h]
  | .nilf, b, h => by cases b <;> simp [EV.beq] at h; rfl
  | .fn f l, b, h => by
    cases b <;> simp [EV.beq] at h
    rw [h.1, EV.beqL_eq h.2]
  | .yld x, b, h => by cases b <;> simp [EV.beq] at h; simp [h]
  | .nili, b, h => by cases b <;> simp [EV.beq] at h; rfl
  | .ifc t x, b, h => by
    cases b <;> simp [EV.beq] at h
    rw [h.1, EV.beq_eq h.2]
  | .agg l, b, h => by
    cases b <;> simp [EV.beq] at h
    rw [EV.beqL_eq h]
  | .tup l, b, h => by
    cases b <;> simp [EV.beq] at h
    rw [EV.beqL_eq h]
  | .opq l i, b, h => by
    cases b <;> simp [EV.beq] at h
    rw [leafB_eq h.1, h.2]
theorem EV.beqL_eq : ∀ {a b : List EV}, EV.beqL a b = true → a = b
  | [], [], h => rfl
  | [], b :: q, h => by simp [EV.beqL] at h
  | a :: r, [], h => by simp [EV.beqL] at h
  | a :: r, b :: q, h => by
    simp only [EV.beqL] at h
    split at h
    · rename_i h1; rw [EV.beq_eq h1, EV.beqL_eq h]
    · cases h
end
theorem beqN_eq : ∀ {a b : List Nat}, beqN a b = true → a = b
  | [], [], h => rfl
  | [], b :: q, h => by simp [beqN] at h
  | a :: r, [], h => by simp [beqN] at h
  | a :: r, b :: q, h => by
    simp only [beqN] at h
    split at h
    · rename_i h1; rw [Nat.eq_of_beq_eq_true h1, beqN_eq h]
    · cases h
theorem beqX_eq : ∀ {a b : List XTri}, beqX a b = true → a = b
  | [], [], h => rfl
  | [], b :: q, h => by simp [beqX] at h
  | a :: r, [], h => by obtain ⟨x, y, z⟩ := a; simp [beqX] at h
  | (a, x, n) :: r, (b, y, m) :: q, h => by
    simp only [beqX] at h
    split at h
    · rename_i h1 h2 h3; rw [of_decide_eq_true h1, EV.beq_eq h2, Nat.eq_of_beq_eq_true h3, beqX_eq h]
    · cases h
theorem beqJ_eq : ∀ {a b : Option (Option Nat)}, beqJ a b = true → a = b
  | none, none, h => rfl
  | none, some _, h => by simp [beqJ] at h
  | some none, none, h => by simp [beqJ] at h
  | some none, some none, h => rfl
  | some none, some (some _), h => by simp [beqJ] at h
  | some (some _), none, h => by simp [beqJ] at h
  | some (some _), some none, h => by simp [beqJ] at h
  | some (some a), some (some b), h => by rw [Nat.eq_of_beq_eq_true h]
theorem EObj.beq_eq : ∀ {a b : EObj}, a.beq b = true → a = b
  | .cells l e z, b, h => by
    cases b <;> simp [EObj.beq] at h
    rw [EV.beqL_eq h.1, h.2.1, h.2.2]
  | .map l c, b, h => by
    cases b <;> simp [EObj.beq] at h
    rw [beqX_eq h.1, h.2]
  | .it m s l c, b, h => by
    cases b <;> simp [EObj.beq] at h
    rw [h.1, h.2.1, beqN_eq h.2.2.1, h.2.2.2]
  | .dfr a, b, h => by cases b <;> simp [EObj.beq] at h; rw [h]
  | .lp s j, b, h => by
    cases b <;> simp [EObj.beq] at h
    rw [h.1, beqJ_eq h.2]
theorem Tr.beq_eq : ∀ {a b : Tr}, a.beq b = true → a = b
  | .lf, .lf, _ => rfl
  | .lf, .nd _ _ _, h => by simp [Tr.beq] at h
  | .nd _ _ _, .lf, h => by simp [Tr.beq] at h
  | .nd l o r, .nd l' o' r', h => by
    simp only [Tr.beq] at h
    split at h
    · rename_i h1 h2 h3
      rw [Tr.beq_eq h1, Tr.beq_eq h3]
      cases o with
      | none =>
        cases o' with
        | none => rfl
        | some b => cases h2
      | some a =>
        cases o' with
        | none => cases h2
        | some b => rw [EObj.beq_eq (a := a) (b := b) h2]
    · cases h
theorem beqO_eq {a b : Option EV} (h : beqO a b = true) : a = b := by
  cases a <;> cases b <;> simp [beqO] at h <;> first | rfl | rw [EV.beq_eq h]
theorem ET.beq_eq : ∀ {a b : ET}, a.beq b = true → a = b
  | .v a, .v b, h => by
    have h' : beqO a b = true := by simpa [ET.beq] using h
    rw [beqO_eq h']
  | .v _, .n _ _ _ _ _ _ _ _, h => by simp [ET.beq] at h
  | .n _ _ _ _ _ _ _ _, .v _, h => by simp [ET.beq] at h
  | .n a0 a1 a2 a3 a4 a5 a6 a7, .n b0 b1 b2 b3 b4 b5 b6 b7, h => by
    simp only [ET.beq] at h
    obtain ⟨h0, h⟩ := bB_out h
    obtain ⟨h1, h⟩ := bB_out h
    obtain ⟨h2, h⟩ := bB_out h
    obtain ⟨h3, h⟩ := bB_out h
    obtain ⟨h4, h⟩ := bB_out h
    obtain ⟨h5, h⟩ := bB_out h
    obtain ⟨h6, h7⟩ := bB_out h
    rw [ET.beq_eq h0, ET.beq_eq h1, ET.beq_eq h2, ET.beq_eq h3, ET.beq_eq h4, ET.beq_eq h5, ET.beq_eq h6, ET.beq_eq h7]
/-! ### names in a drawn region -/
def Vl.wa (v : Vl) (A : Nat → Prop) : Vl := ⟨v.β, v.R, v.ν, A⟩
theorem Vl.wa_sub (v : Vl) (A : Nat → Prop) : v.sub (v.wa A) := ⟨fun _ _ h => h, fun _ _ _ => rfl, rfl⟩
theorem Vl.sub_wa (v : Vl) (A : Nat → Prop) : (v.wa A).sub v := ⟨fun _ _ h => h, fun _ _ _ => rfl, rfl⟩
section
variable {cx : XCx} {w0 w : World} {v v0 : Vl} {s s0 : XSt}
/-- as long as operations are left -/
structure M2 (z : Nat) (w0 : World) (v0 : Vl) (s0 : XSt) (m : Nat) (t : List Nat) (v : Vl) (s : XSt) (w : World) : Prop where
  rep : Rep w0 v ⟨s.h, 0, 0⟩ w
  free : ∀ i ∈ t, ∀ k, s0.nx + z * i ≤ k → k < s0.nx + z * i + z → v.β k = none
  dm : ∀ k b, v.β k = some b → (∃ b, v0.β k = some b) ∨ (s0.nx ≤ k ∧ k < s0.nx + z * m)
def iv (z : Nat) (s0 s : XSt) (i : Nat) : XSt := ⟨s.h, Nat.add s0.nx (Nat.mul z i), Nat.add (Nat.add s0.nx (Nat.mul z i)) z⟩
theorem share_le {z m i : Nat} (h : i < m) : z * i + z ≤ z * m := by
  have := Nat.mul_le_mul_left z h
  rw [Nat.mul_succ] at this; exact this
theorem share_ne {z i j : Nat} (h : i ≠ j) : z * i + z ≤ z * j ∨ z * j + z ≤ z * i := by
  rcases Nat.lt_or_gt_of_ne h with h | h
  · exact .inl (share_le h)
  · exact .inr (share_le h)
theorem M2.open {z m i : Nat} {t : List Nat} (M : M2 z w0 v0 s0 m (i :: t) v s w) (hi : i < m) (hl : s0.nx + z * m ≤ 1000000000) : Rep w0 (v.wa fun k => (∃ b, v.β k = some b) ∨ (s0.nx + z * i ≤ k ∧ k < s0.nx + z * i + z)) (iv z s0 s i) w := by
  have e1 : (iv z s0 s i).nx = s0.nx + z * i := rfl
  have e2 : (iv z s0 s i).lim = s0.nx + z * i + z := rfl
  refine ⟨M.rep.below, fun k o h => ?_, M.rep.inj, fun k h1 h2 => ?_, fun k b h => ⟨(M.rep.dom k b h).1, .inl ⟨b, h⟩⟩, ?_⟩
  · obtain ⟨b, O, g1, g2, g3, g4⟩ := M.rep.held k o h
    exact ⟨b, O, g1, g2, g3, g4.sub (v.wa_sub _) g1⟩
  · rw [e1] at h1; rw [e2] at h2
    exact ⟨M.free i (List.mem_cons_self ..) k h1 h2, .inr ⟨h1, h2⟩⟩
  · rw [e2]
    have := share_le (z := z) hi
    omega
theorem M2.shut {z m i : Nat} {t : List Nat} {v' : Vl} {s' : XSt} {w' : World} (M : M2 z w0 v0 s0 m (i :: t) v s w) (hi : i < m) (hni : i ∉ t) (h : (v.wa fun k => (∃ b, v.β k = some b) ∨ (s0.nx + z * i ≤ k ∧ k < s0.nx + z * i + z)).le v') (H : Rep w0 v' s' w') : M2 z w0 v0 s0 m t v' s' w' := by
  have hd : ∀ k b, v'.β k = some b → (∃ b, v.β k = some b) ∨ (s0.nx + z * i ≤ k ∧ k < s0.nx + z * i + z) := fun k b hk => by
    have := (H.dom k b hk).2
    rw [h.A] at this; exact this
  refine ⟨⟨H.below, H.held, H.inj, fun k h1 h2 => absurd h2 (by simp), H.dom, by simp⟩, fun j hj k h1 h2 => ?_, fun k b hk => ?_⟩
  · cases hk : v'.β k with
    | none => rfl
    | some b =>
      exfalso
      rcases hd k b hk with ⟨b2, hb2⟩ | ⟨h3, h4⟩
      · have := M.free j (List.mem_cons_of_mem _ hj) k h1 h2
        rw [hb2] at this; cases this
      · have := share_ne (z := z) (fun e => hni (e ▸ hj) : i ≠ j)
        omega
  · rcases hd k b hk with ⟨b2, hb2⟩ | ⟨h3, h4⟩
    · exact M.dm k b2 hb2
    · have := share_le (z := z) hi
      exact .inr (by omega)
theorem M2.skip {z m i : Nat} {t : List Nat} (M : M2 z w0 v0 s0 m (i :: t) v s w) : M2 z w0 v0 s0 m t v s w := ⟨M.rep, fun j hj => M.free j (List.mem_cons_of_mem _ hj), M.dm⟩
theorem memNB_ok {i : Nat} : ∀ {l : List Nat}, memNB i l = false → i ∉ l
  | [], _ => by simp
  | j :: r, h => by
    simp only [memNB] at h
    split at h
    · cases h
    · rename_i hb
      intro hm
      rcases List.mem_cons.1 hm with e | hm
      · rw [e, Nat.beq_refl] at hb; cases hb
      · exact memNB_ok h hm
/-- the state of affairs ahead of an order -/
def Mde (z : Nat) (tw : Bool) (w0 : World) (v0 : Vl) (s0 : XSt) (m : Nat) (t : List Nat) (v : Vl) (s : XSt) (w : World) : Prop := match tw with
  | false => v0.le v ∧ Rep w0 v s w
  | true => v0.sub v ∧ M2 z w0 v0 s0 m t v s w
theorem Mde.sub {z : Nat} {tw : Bool} {m : Nat} {t : List Nat} (M : Mde z tw w0 v0 s0 m t v s w) : v0.sub v := by
  cases tw
  · exact M.1.tosub
  · exact M.1
theorem Mde.skip {z : Nat} {tw : Bool} {m i : Nat} {t : List Nat} (M : Mde z tw w0 v0 s0 m (i :: t) v s w) : Mde z tw w0 v0 s0 m t v s w := by
  cases tw
  · exact M
  · exact ⟨M.1, M.2.skip⟩
theorem Mde.less {z : Nat} {tw : Bool} {m : Nat} {t t' : List Nat} (M : Mde z tw w0 v0 s0 m t v s w) (h : ∀ i ∈ t', i ∈ t) : Mde z tw w0 v0 s0 m t' v s w := by
  cases tw
  · exact M
  · exact ⟨M.1, M.2.rep, fun i hi => M.2.free i (h i hi), M.2.dm⟩
def stI (z : Nat) (tw : Bool) (s0 s : XSt) (i : Nat) : XSt := match tw with | false => s | true => iv z s0 s i
/-- one operation in such a region -/
theorem Mde.op {z : Nat} {tw : Bool} {m i : Nat} {t : List Nat} (M : Mde z tw w0 v0 s0 m (i :: t) v s w) (hi : i < m) (hl : s0.nx + z * m ≤ 1000000000) (hni : tw = true → i ∉ t) :
    ∃ v1 : Vl, v.sub v1 ∧ Rep w0 v1 (stI z tw s0 s i) w ∧ ∀ (v' : Vl) (s' : XSt) (w' : World), v1.le v' → Rep w0 v' s' w' → Mde z tw w0 v0 s0 m t v' s' w' := by
  cases tw
  · exact ⟨v, Vl.le.rfl'.tosub, M.2, fun v' s' w' h H => ⟨M.1.trans h, H⟩⟩
  · exact ⟨_, v.wa_sub _, M.2.open hi hl, fun v' s' w' h H => ⟨M.1.trans ((v.wa_sub _).trans h.tosub), M.2.shut hi (hni rfl) h H⟩⟩
end
end Go.Sh
