/- What law20's KeeperLasts computes: true. Conditions: none. -/
import Derived.Test.YtcfmnoimehcfnaaGreatDoorKLa
import Derived.Test.YtcfmnoimehcfnaaGreatDoorFLk
import Derived.Test.YtcfmnoimehcfnaaGreatDoorGb
set_option linter.unusedVariables false
set_option linter.unusedSimpArgs false
set_option maxRecDepth 100000
namespace Go.Proofs.YtcfmnoimehcfnaaGreatDoor
open Go Go.Sh

structure Kc where
  d : Int
  s : Int
  t : Int
  y : Bool
  k : Int
  f : Int
  o : Int
  i : Int
  p : Int
  a : Int
  b : Int
def Kc.cells (q : Kc) : List Value := [I q.d, I q.s, I q.t, .bool q.y, I q.k, I q.f, I q.o, I q.i, I q.p, I q.a, I q.b]
def wrows (rs : List Row) : Hp := (rs.map (Row.hp 3)).flatten
def wcell (k : Nat) (rs : List Row) : Hp := [(k, .cells (rs.map Row.v).toArray 87 (0, 0))]
theorem erase_map {α β : Type} (f : α → β) : ∀ (l : List α) (i : Nat), (l.map f).eraseIdx i = (l.eraseIdx i).map f
  | [], i => by simp
  | a :: l, 0 => by simp
  | a :: l, i + 1 => by simp [erase_map f l i]
theorem erase_set {α : Type} : ∀ (l : List α) (i : Nat) (x : α), (l.set i x).eraseIdx i = l.eraseIdx i
  | [], i, x => by simp
  | a :: l, 0, x => by simp
  | a :: l, i + 1, x => by simp [erase_set l i x]
structure Ways (rs : List Row) (W : Nat → List Int) : Prop where
  len : rs.length = 10
  ok : ∀ (i : Nat) r, rs[i]? = some r → r.Ok 1 ((W i).map I)
section
variable {w0 w : World} {hs R : List Hp} {K : KV}
theorem rows_out {rs : List Row} {i : Nat} {r : Row} (h : rs[i]? = some r) (H : Sh.Holds w0 (wrows rs :: R) w) : Sh.Holds w0 (r.hp 3 :: wrows (rs.eraseIdx i) :: R) w := by
  refine H.perm ?_
  simp only [List.flatten_cons]
  rw [← List.append_assoc]
  refine List.Perm.append_right _ ?_
  unfold wrows
  have := flat_bring i (hs := rs.map (Row.hp 3)) (c := r.hp 3) (by rw [List.getElem?_map, h]; rfl)
  rw [List.flatten_cons, erase_map] at this
  exact this
theorem rows_in {rs : List Row} {i : Nat} {r : Row} (h : i < rs.length) (H : Sh.Holds w0 (r.hp 3 :: wrows (rs.eraseIdx i) :: R) w) : Sh.Holds w0 (wrows (rs.set i r) :: R) w := by
  refine H.perm ?_
  simp only [List.flatten_cons]
  rw [← List.append_assoc]
  refine List.Perm.append_right _ (List.Perm.symm ?_)
  unfold wrows
  have := flat_bring i (hs := (rs.set i r).map (Row.hp 3)) (c := r.hp 3) (by rw [List.getElem?_map, List.getElem?_set, if_pos rfl, if_pos h]; rfl)
  rw [List.flatten_cons, erase_map, erase_set] at this
  exact this
theorem ringK_c {S : Kp} {es : List KE} {x : Int} (H : Sh.Holds w0 hs w) [D : Del hs S.hp R] (I0 : KpIs S es false) (k : ∀ (p : Option Addr) (n c : Nat) w', Sh.Holds w0 (S.hp :: R) w' → K (.slice p n c) w') : gocall Tryz.prog 60 [S.v, I x] K w := by
  replace H := H.get S.hp
  apply F60_go; unfold F60
  refine br_f rfl ?_
  refine downK_c (S := S) H (fun w H => ?_)
  refine asBoo_h ?_
  rw [I0.dn]
  refine br_f rfl ?_
  refine stateK_c (S := S) (x := x) H I0.ok (fun w H => ?_)
  refine asI_h ?_
  refine br_s (fun h => k _ _ _ _ H) (fun h => ?_)
  refine nn_h ?_
  have H2 := openK H
  refine ldA H2 ?_; refine asI_h ?_
  refine nw_h H (fun k22 w H => ?_)
  replace H : Sh.Holds w0 ([(k22, .cells #[I 0, I 0, I 0, I 0, I 0, I 0, I 0] 35 (0, 0))] :: S.hp :: R) w := H
  clear H2
  iterate 7 refine stA H rfl fun w H => ?_
  iterate 7 (refine ldA H ?_; refine asI_h ?_)
  refine nw_h H (fun k59 w H => ?_)
  replace H : Sh.Holds w0 ([(k59, .cells #[I 0, I 0, I 0, I 0, I 0, I 0, I 0] 35 (0, 0))] :: [(k22, .cells #[I 12, I 1, I 0, I x, I 0, I 0, I 0] 35 (0, 0))] :: S.hp :: R) w := H
  iterate 7 refine stA H rfl fun w H => ?_
  have H3 : Sh.Holds w0 (S.hp :: [(k59, .cells #[I 12, I 1, I 0, I x, I 0, I 0, I 0] 35 (0, 0))] :: [(k22, .cells #[I 12, I 1, I 0, I x, I 0, I 0, I 0] 35 (0, 0))] :: R) w := Holds.re H
  refine otherK_c (S := S) H3 (fun w H => ?_)
  refine asI_h ?_
  refine stA H rfl fun w H => ?_
  iterate 14 (refine ldA H ?_; refine asI_h ?_)
  refine nw_h H (fun k129 w H => ?_)
  exact k _ _ _ _ (H.tail.drop1.drop1)
theorem final_c {x : Int} (H : Sh.Holds w0 hs w) (k : ∀ w', Sh.Holds w0 hs w' → K (.bool (decide (2 ≤ x ∧ x ≤ 5))) w') : gocall Tryz.prog 153 [I x] K w := by
  apply F153_go; unfold F153
  have := k _ H
  refine br_s (fun h => ?_) (fun h => ?_)
  · have h : 2 ≤ x := by simpa using h
    simpa [h] using this
  · have h : ¬ 2 ≤ x := by simpa using h
    simpa [h] using this
theorem Legal_c {l : List Int} {p : Option Addr} {n c : Nat} (H : Sh.Holds w0 hs w) (hsl : Sl (Sh.Holds w0 hs) p n 1 (l.map I)) (hl : l.length < 1000000) (h0 : ∀ x, l[0]? = some x → x = 0) (hw : wayOk l) (k : ∀ w', Sh.Holds w0 hs w' → K (I l.length) w') : gocall Tryz.prog 66 [.slice p n c] K w := by
  have hn : n = l.length := by have := hsl.len; simp at this; omega
  apply F66_go; unfold F66
  refine ⟨fun y w => Sh.Holds w0 hs w ∧ 0 ≤ y.1 ∧ y.1 ≤ l.length, fun y _ => (l.length - y.1).toNat, ⟨H, by simp, by simp⟩, ?_⟩
  clear H
  rintro ⟨y, z, u⟩ w ⟨H, g0, g1⟩
  simp only at g0 g1
  have hwi : IntKind.wrap .i64 (y + 1) = y + 1 := wrap64 (by omega) (by omega)
  refine br_s (fun h => ?_) (fun h => ?_)
  · have h : y < (n : Int) := of_decide_eq_true h
    obtain ⟨s, hs'⟩ : ∃ s, l[y.toNat]? = some s := ⟨_, List.getElem?_eq_getElem (by omega)⟩
    simp only [hwi]
    refine slAt_s hsl g0 h (fun b1 o1 hp => ?_)
    refine ldS_s hsl hp H (v := I s) (by simp [hs']) ?_; refine asI_h ?_
    refine br_s (fun e => ?_) (fun e => ?_)
    · have e : y = 0 := by simpa using e
      subst e
      have := h0 s hs'
      subst this
      refine br_f rfl ?_
      exact ⟨⟨H, by omega, by omega⟩, by omega⟩
    · have e : y ≠ 0 := by simpa using e
      have hw1 : IntKind.wrap .i64 (y - 1) = y - 1 := wrap64 (by omega) (by omega)
      rw [hw1]
      obtain ⟨t, ht⟩ : ∃ t, l[(y - 1).toNat]? = some t := ⟨_, List.getElem?_eq_getElem (by omega)⟩
      have hst := hw (y - 1).toNat t s ht (by rw [show (y - 1).toNat + 1 = y.toNat by omega]; exact hs')
      refine slAt_s hsl (by omega) (by omega) (fun b1 o1 hp => ?_)
      refine ldS_s hsl hp H (v := I t) (by rw [Nat.mul_one, List.getElem?_map, ht]; rfl) ?_; refine asI_h ?_
      have go : (Sh.Holds w0 hs w ∧ 0 ≤ y + 1 ∧ y + 1 ≤ l.length) ∧ (l.length - (y + 1)).toNat < (l.length - y).toNat := ⟨⟨H, by omega, by omega⟩, by omega⟩
      refine br_s (fun g => ?_) (fun g => go)
      have g : s ≠ t := by simpa using g
      rcases hst with hst | ⟨hst, h1⟩ | ⟨hst, h1⟩
      · exact absurd hst g
      · refine br_t (by simp [hst]) ?_
        rcases h1 with h1 | h1
        · exact br_t (by simp [h1]) go
        · refine br_f (by simp [h1]) ?_
          exact br_f (by simp [h1]) go
      · refine br_f (by simp [hst]) ?_
        refine br_t (by simp [hst]) ?_
        refine final_c H (fun w H => ?_)
        refine asBoo_h ?_
        refine br_f (by simp; omega) ?_
        exact ⟨⟨H, by omega, by omega⟩, by omega⟩
  · rw [hn]
    exact k _ H
end
end Go.Proofs.YtcfmnoimehcfnaaGreatDoor
