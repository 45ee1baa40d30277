/- Contracts of package keeper (money): Force, New. Conditions: none. -/
import Derived.Test.YtjckakeolmbidaaGreatDoorM4
set_option linter.unusedVariables false
set_option maxRecDepth 100000
namespace Go.Proofs.YtjckakeolmbidaaGreatDoor
open Go Go.Sh

def forceM (A : MA) (n : Nat) (room id : Int) (yes : Bool) : Option KE × Int :=
  if ¬ (1 ≤ id ∧ id ≤ 999) then (none, 1) else if (fF (A.s id) yes).2 = 0 then (if (n : Int) < room then (some ⟨(fF (A.s id) yes).1, id, []⟩, 0) else (none, 5)) else (none, (fF (A.s id) yes).2)
theorem forceM_c {w0 w : World} {hs R : List Hp} {K : KV} {S : Mp} {es : List KE} {id : Int} {yes : Bool} (T : Tab w0) (H : Sh.Holds w0 hs w) [D : Del hs S.hp R] (I0 : MpIs S es false)
    (k : ∀ (S' : Mp) w', MpIs S' (es ++ (forceM (MA.run S.g es) es.length S.J.room id yes).1.toList) false → MpC S S' → Sh.Holds w0 (S'.hp :: R) w' → K (I (forceM (MA.run S.g es) es.length S.J.room id yes).2) w') :
    gocall Tryz.prog 49 [S.v, I id, .bool yes] K w := by
  replace H := H.get S.hp
  have u := I0.up
  apply F49_go; unfold F49
  unfold forceM at k
  refine br_f rfl ?_
  refine downM_c (S := S) H (fun w H => ?_)
  refine asBoo_h ?_
  rw [I0.dn]
  refine br_f rfl ?_
  refine idK_c H (fun w H => ?_)
  refine asBoo_h ?_
  refine br_s (fun h => ?_) (fun h1 => ?_)
  · have h : ¬ (1 ≤ id ∧ id ≤ 999) := by simp at h; omega
    rw [if_pos h] at k
    exact k S w (by simpa using I0) (.rfl' S) H
  have h1 : 1 ≤ id ∧ id ≤ 999 := by simpa using h1
  rw [if_neg (by omega)] at k
  refine stateM_c (S := S) H I0.ok (fun w H => ?_)
  rw [u.s]
  refine asI_h ?_
  refine fforce_c H (fun w H => ?_)
  obtain ⟨pr, hpr⟩ : ∃ pr, fF ((MA.run S.g es).s id) yes = pr := ⟨_, rfl⟩
  rw [hpr] at k ⊢
  refine asT_e [I pr.1, I pr.2] rfl rfl ?_
  refine asI_h ?_
  refine asI_h ?_
  refine br_s (fun h2 => ?_) (fun h2 => ?_)
  · have h2 : pr.2 = 0 := by simpa using h2
    rw [if_pos h2] at k
    have hp : pr.1 = 4 ∨ pr.1 = 5 := by
      rw [← hpr] at h2 ⊢
      unfold fF at h2 ⊢
      split at h2
      · simp at h2
      · rename_i g0
        rw [if_neg g0]
        split at h2
        · simp at h2
        · rename_i g1
          rw [if_neg g1]
          cases yes <;> simp
    refine notesM_c (e := ⟨pr.1, id, []⟩) T H I0 ⟨by show 1 ≤ pr.1 ∧ pr.1 ≤ 5; omega, h1, .inr ⟨by show pr.1 ≠ 1; omega, rfl⟩⟩ Sl.nil (fun hr w H => ?_) (fun hr S2 w I2 c2 H => ?_)
    · rw [if_neg hr] at k
      refine asBoo_h ?_
      refine br_t rfl ?_
      exact k S w (by simpa using I0) (.rfl' S) H
    · rw [if_pos hr] at k
      refine asBoo_h ?_
      refine br_f rfl ?_
      rw [h2]
      exact k S2 w I2 c2 H
  · have h2 : pr.2 ≠ 0 := by simpa using h2
    rw [if_neg h2] at k
    exact k S w (by simpa using I0) (.rfl' S) H
theorem forgetM_c {w0 w : World} {R : List Hp} {K : KV} {n : Nat} {r : Row} {jv v3 v4 : Value} {g : Int} (H : Sh.Holds w0 ([(n, .cells #[I 2, r.v, jv, v3, v4] 135 (0, 0))] :: r.hp 3 :: R) w) (ok : r.Ok 1 [I g]) (hn : r.n = 1)
    (k : ∀ (G : Pd) m w', G.Ok → G.B = ⟨clampB g, 0, [], fun _ => none⟩ → Sh.Holds w0 ([(n, .cells #[I 2, r.v, jv, .iface 149 (.agg #[G.v]), .map (some m)] 135 (0, 0))] :: r.hp 3 :: G.hp :: [(m, mapG [] 0)] :: R) w' → K (.tuple #[]) w') : gocall Tryz.prog 91 [.pointer (some ⟨n, 0, none⟩)] K w := by
  apply F91_go; unfold F91
  refine nw_h H (fun m w H => ?_)
  refine nn_h ?_
  refine stA H rfl (fun w H => ?_)
  refine nn_h ?_
  refine ldA H ?_; refine asI_h ?_
  refine br_f rfl ?_
  refine nn_h ?_
  refine ldA H ?_; refine asSl_h ?_
  replace H := H.get (r.hp 3)
  refine newP_c H ok hn (fun G w g1 g2 H => ?_)
  refine asPtr_h ?_
  refine nn_h ?_
  replace H : Sh.Holds w0 (G.hp :: r.hp 3 :: [(m, mapG [] 0)] :: [(n, .cells #[I 2, r.v, jv, v3, .map (some m)] 135 (0, 0))] :: R) w := H
  refine stA H rfl (fun w H => ?_)
  exact k G m w g1 g2 H.re
theorem newM_c {w0 w : World} {hs : List Hp} {K : KV} {kk c : Nat} {g room : Int} (i : Nat) (H : Sh.Holds w0 hs w) (hi : hs[i]? = some [(kk, .cells #[I g] 3 (0, 0))])
    (k : ∀ (S : Mp) w', MpIs S [] false → S.g = g → S.J.room = roomB room → Sh.Holds w0 (S.hp :: hs) w' → K S.v w') : gocall Tryz.prog 40 [I 2, .slice (some ⟨kk, 0, none⟩) 1 c, I room] K w := by
  apply F40_go; unfold F40
  refine br_t rfl ?_
  refine br_f rfl ?_
  refine clone1_c i H hi (fun r w hr hn H => ?_)
  refine asSl_h ?_
  refine newJ_c H (fun J w j1 j2 j3 j4 j5 H => ?_)
  refine asPtr_h ?_
  refine nw_h H (fun n w H => ?_)
  have H2 : Sh.Holds w0 ([(n, .cells #[I 2, r.v, J.v, .nilIface, .map none] 135 (0, 0))] :: r.hp 3 :: J.hp :: hs) w := Holds.re (b := [(n, .cells #[I 2, r.v, J.v, .nilIface, .map none] 135 (0, 0))] :: J.hp :: r.hp 3 :: hs) H
  refine forgetM_c H2 hr hn (fun G m w g1 g2 H => ?_)
  refine asT_e [] rfl rfl ?_
  refine k ⟨n, r, J, G, m, [], 0, g, fun _ => 0⟩ w ⟨⟨hr, j1, g1, .nil 0, fun x => rfl⟩, by rw [j2]; rfl, by simp, by rw [j3]; rfl, j4, by simp, by simp only [Bool.false_eq_true, if_false]; exact ⟨g2, fun x => rfl⟩⟩ rfl j5 (shutM (S := ⟨n, r, J, G, m, [], 0, g, fun _ => 0⟩) H.re)
end Go.Proofs.YtjckakeolmbidaaGreatDoor
