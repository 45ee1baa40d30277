/- Contracts of package keeper (goods): Force, New. Conditions: none. -/
import Derived.Test.YtcfmnoimehcfnaaGreatDoorK4
set_option linter.unusedVariables false
set_option maxRecDepth 100000
namespace Go.Proofs.YtcfmnoimehcfnaaGreatDoor
open Go Go.Sh

def fF (s : Int) (yes : Bool) : Int × Int := if ¬ (0 ≤ s ∧ s ≤ 5) then (0, 1) else if s ≠ 1 then (0, 7) else if yes = true then (4, 0) else (5, 0)
theorem fforce_c {w0 w : World} {hs : List Hp} {K : KV} {s : Int} {b : Bool} (H : Sh.Holds w0 hs w) (k : ∀ w', Sh.Holds w0 hs w' → K (.tuple #[I (fF s b).1, I (fF s b).2]) w') : gocall Tryz.prog 148 [I s, .bool b] K w := by
  apply F148_go; unfold F148
  unfold fF at k
  refine vmay_c H (fun w H => ?_)
  refine asBoo_h ?_
  refine br_s (fun h => ?_) (fun h => ?_)
  · have h : ¬ (0 ≤ s ∧ s ≤ 5) := by simp at h; omega
    rw [if_pos h] at k; exact k w H
  have h : ¬ ¬ (0 ≤ s ∧ s ≤ 5) := by simp at h; omega
  rw [if_neg h] at k
  refine br_s (fun h1 => ?_) (fun h1 => ?_)
  · have h1 : s ≠ 1 := by simpa using h1
    rw [if_pos h1] at k; exact k w H
  have h1 : ¬ s ≠ 1 := by simpa using h1
  rw [if_neg h1] at k
  refine br_s (fun h2 => ?_) (fun h2 => ?_)
  · rw [if_pos h2] at k; exact k w H
  · rw [if_neg (by simp [h2])] at k; exact k w H
def forceE (A : KA) (n : Nat) (room id : Int) (yes : Bool) : Option KE × Int :=
  if ¬ (1 ≤ id ∧ id ≤ 999) then (none, 1) else if (fF (A.s id) yes).2 = 0 then (if (n : Int) < room then (some ⟨(fF (A.s id) yes).1, id, []⟩, 0) else (none, 5)) else (none, (fF (A.s id) yes).2)
theorem forceK_c {w0 w : World} {hs R : List Hp} {K : KV} {S : Kp} {es : List KE} {id : Int} {yes : Bool} (T : Tab w0) (H : Sh.Holds w0 hs w) [D : Del hs S.hp R] (I0 : KpIs S es false)
    (k : ∀ (S' : Kp) w', KpIs S' (es ++ (forceE (KA.run S.g es) es.length S.J.room id yes).1.toList) false → KpC S S' → Sh.Holds w0 (S'.hp :: R) w' → K (I (forceE (KA.run S.g es) es.length S.J.room id yes).2) w') :
    gocall Tryz.prog 61 [S.v, I id, .bool yes] K w := by
  replace H := H.get S.hp
  have u := I0.up
  apply F61_go; unfold F61
  unfold forceE at k
  refine br_f rfl ?_
  refine downK_c (S := S) H (fun w H => ?_)
  refine asBoo_h ?_
  rw [I0.dn]
  refine br_f rfl ?_
  refine idK_c H (fun w H => ?_)
  refine asBoo_h ?_
  refine br_s (fun h => ?_) (fun h1 => ?_)
  · have h : ¬ (1 ≤ id ∧ id ≤ 999) := by simp at h; omega
    rw [if_pos h] at k
    exact k S w (by simpa using I0) (.rfl' S) H
  have h1 : 1 ≤ id ∧ id ≤ 999 := by simpa using h1
  rw [if_neg (by omega)] at k
  refine stateK_c (S := S) H I0.ok (fun w H => ?_)
  rw [u.s]
  refine asI_h ?_
  refine fforce_c H (fun w H => ?_)
  obtain ⟨pr, hpr⟩ : ∃ pr, fF ((KA.run S.g es).s id) yes = pr := ⟨_, rfl⟩
  rw [hpr] at k ⊢
  refine asT_e [I pr.1, I pr.2] rfl rfl ?_
  refine asI_h ?_
  refine asI_h ?_
  refine br_s (fun h2 => ?_) (fun h2 => ?_)
  · have h2 : pr.2 = 0 := by simpa using h2
    rw [if_pos h2] at k
    have hp : pr.1 = 4 ∨ pr.1 = 5 := by
      rw [← hpr] at h2 ⊢
      unfold fF at h2 ⊢
      split at h2
      · simp at h2
      · rename_i g0
        rw [if_neg g0]
        split at h2
        · simp at h2
        · rename_i g1
          rw [if_neg g1]
          cases yes <;> simp
    refine notesK_c (e := ⟨pr.1, id, []⟩) T H I0 ⟨by show 1 ≤ pr.1 ∧ pr.1 ≤ 5; omega, h1, .inr ⟨by show pr.1 ≠ 1; omega, rfl⟩⟩ Sl.nil (fun hr w H => ?_) (fun hr S2 w I2 c2 H => ?_)
    · rw [if_neg hr] at k
      refine asBoo_h ?_
      refine br_t rfl ?_
      exact k S w (by simpa using I0) (.rfl' S) H
    · rw [if_pos hr] at k
      refine asBoo_h ?_
      refine br_f rfl ?_
      rw [h2]
      exact k S2 w I2 c2 H
  · have h2 : pr.2 ≠ 0 := by simpa using h2
    rw [if_neg h2] at k
    exact k S w (by simpa using I0) (.rfl' S) H
theorem el25 : ElTy Tryz.prog 56 3 1 8 := ⟨⟨_, _, rfl, rfl, rfl, rfl, rfl, rfl⟩, by decide⟩
theorem clone1_c {w0 w : World} {hs : List Hp} {K : KV} {kk c : Nat} {g : Int} (i : Nat) (H : Sh.Holds w0 hs w) (hi : hs[i]? = some [(kk, .cells #[I g] 3 (0, 0))])
    (k : ∀ (r : Row) w', r.Ok 1 [I g] → r.n = 1 → Sh.Holds w0 (r.hp 3 :: hs) w' → K r.v w') : gocall Tryz.prog 143 [.slice (some ⟨kk, 0, none⟩) 1 c] K w := by
  apply F143_go; unfold F143
  refine br_f rfl ?_
  refine nw_h H (fun k5 w H => ?_)
  have hok : Row.Ok 1 ⟨some k5, 0, 0, #[]⟩ [] := ⟨rfl, fun h => (by cases h), fun g h => ⟨Nat.le_refl _, Nat.zero_le _, rfl, rfl⟩⟩
  refine bapp_s el25 (r := ⟨some k5, 0, 0, #[]⟩) (news := [I g]) H (by simp) hok ?_ (by simp [Value.oneCell']) (by simp) (by simp; decide) (fun r w h1 h2 H => ?_)
  · exact Sl.block (vals := [I g]) (i + 1) (by simpa using hi) rfl
  · refine asSl_h ?_
    exact k r w h2 h1 H
theorem newG_c {w0 w : World} {hs : List Hp} {K : KV} {r : Row} {g : Int} (H : Sh.Holds w0 (r.hp 3 :: hs) w) (ok : r.Ok 1 [I g]) (hn : r.n = 1)
    (k : ∀ (G : Gd) w', G.Ok → G.B = ⟨clampB g, []⟩ → Sh.Holds w0 (G.hp :: r.hp 3 :: hs) w' → K G.v w') : gocall Tryz.prog 234 [r.v] K w := by
  have hsl : Sl (Sh.Holds w0 (r.hp 3 :: hs)) r.p r.n 1 [I g] := Sl.row 0 rfl ok
  apply F234_go; unfold F234
  rw [hn] at hsl ⊢
  refine nw_h H (fun k3 w H => ?_)
  refine nw_h H (fun k5 w H => ?_)
  refine ⟨fun x w => (x.1 = 0 ∨ x.1 = 1) ∧ Sh.Holds w0 ([(k5, .cells #[I (if x.1 = 0 then 0 else clampB g), I 0, I 0, I 0, I 0, I 0, I 0, I 0, I 0, I 0, I 0, I 0, I 0, I 0, I 0, I 0, .map (some k3)] 201 (0, 0))] :: [(k3, mapG [] 0)] :: r.hp 3 :: hs) w, fun x _ => (1 - x.1).toNat, ⟨.inl rfl, H⟩, ?_⟩
  clear H
  rintro ⟨x, u⟩ w ⟨hx, H⟩
  simp only at hx H
  rcases hx with rfl | rfl
  · refine br_t rfl ?_
    replace H := H.drew
    refine slAt_s hsl (by omega) (by omega) (fun bb o hp => ?_)
    refine ldS_s hsl hp H.tail.tail (v := I g) rfl ?_
    refine asI_h ?_
    refine nn_h ?_
    refine arAt_0 (by omega) ?_
    refine stA H rfl (fun w H => ?_)
    exact ⟨⟨.inr rfl, H⟩, by show (1 - IntKind.i64.wrap (0 + 1)).toNat < ((1 : Int) - 0).toNat; decide⟩
  · refine br_f rfl ?_
    refine nn_h ?_
    try simp only [Addr.add_lit]
    refine ldA H ?_; refine asI_h ?_
    refine ldA H ?_; refine asI_h ?_
    refine ldA H ?_; refine asI_h ?_
    refine ldA H ?_; refine asI_h ?_
    refine ldA H ?_; refine asI_h ?_
    refine ldA H ?_; refine asI_h ?_
    refine ldA H ?_; refine asI_h ?_
    refine ldA H ?_; refine asI_h ?_
    refine nn_h ?_
    refine stA H rfl (fun w H => ?_)
    refine stA H rfl (fun w H => ?_)
    refine stA H rfl (fun w H => ?_)
    refine stA H rfl (fun w H => ?_)
    refine stA H rfl (fun w H => ?_)
    refine stA H rfl (fun w H => ?_)
    refine stA H rfl (fun w H => ?_)
    refine stA H rfl (fun w H => ?_)
    have hc : 0 ≤ clampB g ∧ clampB g ≤ 1000000000 := by simp only [clampB]; (repeat' split) <;> omega
    refine k ⟨k5, k3, [], 0, ⟨clampB g, []⟩⟩ w ⟨.nil 0, fun x => rfl, ⟨hc.1, by simp [tot]; omega, by simp, by simp⟩⟩ rfl (shutG (G := ⟨k5, k3, [], 0, ⟨clampB g, []⟩⟩) ?_)
    have eh : GB.hand ⟨clampB g, []⟩ = clampB g := by simp [GB.hand, tot]
    simp only [eh]
    exact H
theorem forgetK_c {w0 w : World} {R : List Hp} {K : KV} {n : Nat} {r : Row} {jv v3 v4 : Value} {g : Int} (H : Sh.Holds w0 ([(n, .cells #[I 1, r.v, jv, v3, v4] 189 (0, 0))] :: r.hp 3 :: R) w) (ok : r.Ok 1 [I g]) (hn : r.n = 1)
    (k : ∀ (G : Gd) m w', G.Ok → G.B = ⟨clampB g, []⟩ → Sh.Holds w0 ([(n, .cells #[I 1, r.v, jv, .iface 196 (.agg #[G.v]), .map (some m)] 189 (0, 0))] :: r.hp 3 :: G.hp :: [(m, mapG [] 0)] :: R) w' → K (.tuple #[]) w') : gocall Tryz.prog 144 [.pointer (some ⟨n, 0, none⟩)] K w := by
  apply F144_go; unfold F144
  refine nw_h H (fun m w H => ?_)
  refine nn_h ?_
  refine stA H rfl (fun w H => ?_)
  refine nn_h ?_
  refine ldA H ?_; refine asI_h ?_
  refine br_t rfl ?_
  refine nn_h ?_
  refine ldA H ?_; refine asSl_h ?_
  replace H := H.get (r.hp 3)
  refine newG_c H ok hn (fun G w g1 g2 H => ?_)
  refine asPtr_h ?_
  refine nn_h ?_
  replace H : Sh.Holds w0 (G.hp :: r.hp 3 :: [(m, mapG [] 0)] :: [(n, .cells #[I 1, r.v, jv, v3, .map (some m)] 189 (0, 0))] :: R) w := H
  refine stA H rfl (fun w H => ?_)
  exact k G m w g1 g2 H.re
theorem newK_c {w0 w : World} {hs : List Hp} {K : KV} {kk c : Nat} {g room : Int} (i : Nat) (H : Sh.Holds w0 hs w) (hi : hs[i]? = some [(kk, .cells #[I g] 3 (0, 0))])
    (k : ∀ (S : Kp) w', KpIs S [] false → S.g = g → S.J.room = roomB room → Sh.Holds w0 (S.hp :: hs) w' → K S.v w') : gocall Tryz.prog 56 [I 1, .slice (some ⟨kk, 0, none⟩) 1 c, I room] K w := by
  apply F56_go; unfold F56
  refine br_f rfl ?_
  refine clone1_c i H hi (fun r w hr hn H => ?_)
  refine asSl_h ?_
  refine newJ_c H (fun J w j1 j2 j3 j4 j5 H => ?_)
  refine asPtr_h ?_
  refine nw_h H (fun n w H => ?_)
  have H2 : Sh.Holds w0 ([(n, .cells #[I 1, r.v, J.v, .nilIface, .map none] 189 (0, 0))] :: r.hp 3 :: J.hp :: hs) w := Holds.re (b := [(n, .cells #[I 1, r.v, J.v, .nilIface, .map none] 189 (0, 0))] :: J.hp :: r.hp 3 :: hs) H
  refine forgetK_c H2 hr hn (fun G m w g1 g2 H => ?_)
  refine asT_e [] rfl rfl ?_
  refine k ⟨n, r, J, G, m, [], 0, g, fun _ => 0⟩ w ⟨⟨hr, j1, g1, .nil 0, fun x => rfl⟩, by rw [j2]; rfl, by simp, by rw [j3]; rfl, j4, by simp, by simp only [Bool.false_eq_true, if_false]; exact ⟨g2, fun x => rfl⟩⟩ rfl j5 (shutK (S := ⟨n, r, J, G, m, [], 0, g, fun _ => 0⟩) H.re)
end Go.Proofs.YtcfmnoimehcfnaaGreatDoor
