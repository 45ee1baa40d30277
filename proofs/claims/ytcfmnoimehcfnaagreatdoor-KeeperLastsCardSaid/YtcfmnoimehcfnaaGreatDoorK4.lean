/- Contracts of package keeper (goods): Handle, Force, New. Conditions: none. -/
import Derived.Test.YtcfmnoimehcfnaaGreatDoorK3
set_option linter.unusedVariables false
set_option maxRecDepth 100000
namespace Go.Proofs.YtcfmnoimehcfnaaGreatDoor
open Go Go.Sh

def goodK (frm to id : Int) : Prop := to = 1 ∧ (1 ≤ id ∧ id ≤ 999) ∧ (frm = 0 ∨ frm = 2)
instance goodK_dec (frm to id : Int) : Decidable (goodK frm to id) := by unfold goodK; infer_instance
/-- what is noted, and the answer's kind (0: none) -/
def ansK (A : KA) (n : Nat) (room kind frm to id a b : Int) : Option KE × Int :=
  if goodK frm to id then
    (if (vNext (A.s id) kind (canB A kind id b)).1 = A.s id then (none, (vNext (A.s id) kind (canB A kind id b)).2)
     else if (n : Int) < room then (some ⟨(vNext (A.s id) kind (canB A kind id b)).1, id, if (vNext (A.s id) kind (canB A kind id b)).1 = 1 then [a, b] else []⟩, (vNext (A.s id) kind (canB A kind id b)).2)
     else (none, 0))
  else (none, 0)
def toK (kd frm : Int) : Int := if kd = 11 ∨ kd = 17 then 0 else frm
theorem next_new {s kind : Int} {can : Bool} (h : (vNext s kind can).1 ≠ s) : (1 ≤ (vNext s kind can).1 ∧ (vNext s kind can).1 ≤ 3) ∧ ((vNext s kind can).1 = 1 → kind = 6 ∧ can = true) := by
  unfold vNext at h ⊢
  split at h
  · simp at h
  rename_i h0
  rw [if_neg h0]
  split at h
  · rename_i h1
    rw [if_pos h1]
    unfold vAsk at h ⊢
    by_cases e0 : s = 0
    · cases can <;> simp_all
    · rw [if_neg e0] at h
      split at h
      · simp at h
      · split at h <;> simp at h
  rename_i h1
  rw [if_neg h1]
  split at h
  · rename_i h2
    rw [if_pos h2]
    unfold vCom at h ⊢
    by_cases e0 : s = 1 ∨ s = 2
    · rw [if_pos e0]; simp
    · rw [if_neg e0] at h
      split at h
      · simp at h
      · split at h <;> simp at h
  rename_i h2
  rw [if_neg h2]
  split at h
  · rename_i h3
    rw [if_pos h3]
    unfold vAbo at h ⊢
    by_cases e0 : s = 0 ∨ s = 1 ∨ s = 3
    · rw [if_pos e0]; simp
    · rw [if_neg e0] at h
      split at h
      · simp at h
      · split at h <;> simp at h
  rename_i h3
  rw [if_neg h3]
  split at h
  · rename_i h4
    rw [if_pos h4]
    unfold vTel at h ⊢
    by_cases e0 : s = 0 ∨ s = 3
    · rw [if_pos e0]; simp
    · rw [if_neg e0] at h
      split at h <;> simp at h
  · simp at h
theorem resv_range {B : GB} {id q : Int} (h : B.resv id q = 0) : 1 ≤ q ∧ q ≤ 1000000000 := by
  unfold GB.resv at h
  split at h
  · simp at h
  · omega
set_option maxHeartbeats 2000000 in
theorem handleK_c {w0 w : World} {hs R : List Hp} {K : KV} {S : Kp} {es : List KE} {kind frm to id step a b : Int} (T : Tab w0) (H : Sh.Holds w0 hs w) [D : Del hs S.hp R] (I0 : KpIs S es false) (ha : kind = 6 → a = 0)
    (k0 : (ansK (KA.run S.g es) es.length S.J.room kind frm to id a b).2 = 0 → ∀ (S' : Kp) w', KpIs S' (es ++ (ansK (KA.run S.g es) es.length S.J.room kind frm to id a b).1.toList) false → KpC S S' → Sh.Holds w0 (S'.hp :: R) w' → K (.slice none 0 0) w')
    (k1 : (ansK (KA.run S.g es) es.length S.J.room kind frm to id a b).2 ≠ 0 → ∀ q (S' : Kp) w', KpIs S' (es ++ (ansK (KA.run S.g es) es.length S.J.room kind frm to id a b).1.toList) false → KpC S S' →
      Sh.Holds w0 ([(q, .cells #[I (ansK (KA.run S.g es) es.length S.J.room kind frm to id a b).2, I 1, I (toK (ansK (KA.run S.g es) es.length S.J.room kind frm to id a b).2 frm), I id, I 0, I 0, I 0] 35 (0, 0))] :: S'.hp :: R) w' → K (.slice (some ⟨q, 0, none⟩) 1 1) w') :
    gocall Tryz.prog 62 [S.v, msgV kind frm to id step a b] K w := by
  replace H := H.get S.hp
  have u := I0.up
  have bad : ¬ goodK frm to id → ∀ w, Sh.Holds w0 (S.hp :: R) w → K (.slice none 0 0) w := fun h w H => by
    have e : ansK (KA.run S.g es) es.length S.J.room kind frm to id a b = (none, 0) := by unfold ansK; rw [if_neg h]
    rw [e] at k0
    exact k0 rfl S w (by simpa using I0) (.rfl' S) H
  apply F62_go; unfold F62
  refine nw_h H (fun k8 w H => ?_)
  refine ⟨fun _ w => goodK frm to id ∧ Sh.Holds w0 ([(k8, .cells #[I kind, I frm, I to, I id, I step, I a, I b] 35 (0, 0))] :: S.hp :: R) w, ?_, ?_⟩
  · replace H := H.drew
    have back : ∀ {w : World}, Sh.Holds w0 (S.hp :: [(k8, .cells #[I kind, I frm, I to, I id, I step, I a, I b] 35 (0, 0))] :: R) w → Sh.Holds w0 (S.hp :: R) w := fun H => H.re
    have H2 := openK (H.get S.hp)
    refine keepsA [[(S.n, .cells #[I 1, S.L.v, S.J.v, .iface 196 (.agg #[S.G.v]), .map (some S.m)] 189 (0, 0))], [(k8, .cells #[I kind, I frm, I to, I id, I step, I a, I b] 35 (0, 0))]] H2 ?_
    clear H2
    refine br_f rfl ?_
    refine downK_c (S := S) H (fun w H => ?_)
    refine asBoo_h ?_
    refine kpA (openK H) ?_
    rw [I0.dn]
    refine br_f rfl ?_
    refine ldSA ?_; refine asI_h ?_
    refine nn_h ?_
    refine ldSA ?_; refine asI_h ?_
    refine br_s (fun h => ?_) (fun h1 => ?_)
    · exact bad (fun g => by have := g.1; simp at h; omega) _ (back H)
    have h1 : to = 1 := by simpa using h1
    refine ldSA ?_; refine asI_h ?_
    refine idK_c H (fun w H => ?_)
    refine asBoo_h ?_
    refine kpA (openK H) ?_
    refine br_s (fun h => ?_) (fun h2 => ?_)
    · exact bad (fun g => by have := g.2.1; simp at h; omega) _ (back H)
    have h2 : 1 ≤ id ∧ id ≤ 999 := by simpa using h2
    refine ldSA ?_; refine asI_h ?_
    refine br_s (fun h3 => ?_) (fun h3 => ?_)
    · have h3 : frm ≠ 0 := by simpa using h3
      refine ldSA ?_; refine asI_h ?_
      refine otherK_c (S := S) H (fun w H => ?_)
      refine asI_h ?_
      refine kpA (openK H) ?_
      refine br_s (fun h => ?_) (fun h4 => ?_)
      · exact bad (fun g => by have := g.2.2; simp at h; omega) _ (back H)
      have h4 : frm = 2 := by simpa using h4
      exact ⟨⟨h1, h2, .inr h4⟩, H.re⟩
    · have h3 : frm = 0 := by simpa using h3
      exact ⟨⟨h1, h2, .inl h3⟩, H.re⟩
  · clear H bad
    rintro u1 w ⟨hg, H⟩
    obtain ⟨pr, hpr⟩ : ∃ pr, vNext ((KA.run S.g es).s id) kind (canB (KA.run S.g es) kind id b) = pr := ⟨_, rfl⟩
    have hans : ansK (KA.run S.g es) es.length S.J.room kind frm to id a b = if pr.1 = (KA.run S.g es).s id then (none, pr.2) else if (es.length : Int) < S.J.room then (some ⟨pr.1, id, if pr.1 = 1 then [a, b] else []⟩, pr.2) else (none, 0) := by
      unfold ansK; rw [if_pos hg, hpr]
    refine ldA H ?_; refine asI_h ?_
    refine stateK_c (S := S) H I0.ok (fun w H => ?_)
    rw [u.s]
    refine asI_h ?_
    replace H : Sh.Holds w0 (S.hp :: [(k8, .cells #[I kind, I frm, I to, I id, I step, I a, I b] 35 (0, 0))] :: R) w.drew := H.drew
    refine keepsA [[(k8, .cells #[I kind, I frm, I to, I id, I step, I a, I b] 35 (0, 0))]] H ?_
    refine ldSA ?_; refine asI_h ?_
    refine ldSA ?_; refine asI_h ?_
    refine ldSA ?_; refine asI_h ?_
    refine ldSA ?_; refine asI_h ?_
    refine ldSA ?_; refine asI_h ?_
    refine ldSA ?_; refine asI_h ?_
    refine ldSA ?_; refine asI_h ?_
    refine ldSA ?_; refine asI_h ?_
    refine canK_c H I0 ha (fun S1 w I1 c1 eJ H => ?_)
    refine asBoo_h ?_
    refine kpA H ?_
    refine next_c H (fun w H => ?_)
    rw [hpr]
    refine asT_e [I pr.1, I pr.2] rfl rfl ?_
    refine asI_h ?_
    refine asI_h ?_
    refine kpA H ?_
    have rm : S1.J.room = S.J.room := by rw [eJ]
    refine ⟨fun _ w => ∃ (S' : Kp), KpIs S' (es ++ (ansK (KA.run S.g es) es.length S.J.room kind frm to id a b).1.toList) false ∧ KpC S S' ∧ (ansK (KA.run S.g es) es.length S.J.room kind frm to id a b).2 = pr.2 ∧ Sh.Holds w0 (S'.hp :: [(k8, .cells #[I kind, I frm, I to, I id, I step, I a, I b] 35 (0, 0))] :: R) w, ?_, ?_⟩
    · refine br_s (fun h1 => ?_) (fun h1 => ?_)
      · have h1 : pr.1 ≠ (KA.run S.g es).s id := by simpa using h1
        rw [if_neg h1] at hans
        have hnew := next_new (s := (KA.run S.g es).s id) (kind := kind) (can := canB (KA.run S.g es) kind id b) (by rw [hpr]; exact h1)
        rw [hpr] at hnew
        have hwf : KE.wf ⟨pr.1, id, if pr.1 = 1 then [a, b] else []⟩ := by
          refine ⟨⟨hnew.1.1, by have := hnew.1.2; show pr.1 ≤ 5; omega⟩, hg.2.1, ?_⟩
          by_cases e : pr.1 = 1
          · obtain ⟨e6, ec⟩ := hnew.2 e
            have ea := ha e6
            unfold canB at ec
            simp only [Bool.and_eq_true, decide_eq_true_eq] at ec
            have hb := resv_range ec.2.2
            exact .inl ⟨e, b, by simp [e, ea], by omega⟩
          · exact .inr ⟨e, by simp [e]⟩
        refine ⟨fun x w => (pr.1 = 1 ∧ ∃ k9, x = ((some ⟨k9, 0, none⟩, 2, 2), ()) ∧ Sh.Holds w0 ([(k9, .cells #[I a, I b] 3 (0, 0))] :: S1.hp :: [(k8, .cells #[I kind, I frm, I to, I id, I step, I a, I b] 35 (0, 0))] :: R) w) ∨ (pr.1 ≠ 1 ∧ x = ((none, 0, 0), ()) ∧ Sh.Holds w0 (S1.hp :: [(k8, .cells #[I kind, I frm, I to, I id, I step, I a, I b] 35 (0, 0))] :: R) w), ?_, ?_⟩
        · refine br_s (fun h2 => ?_) (fun h2 => ?_)
          · refine ldA H ?_; refine asI_h ?_
            refine ldA H ?_; refine asI_h ?_
            refine nw_h H (fun k9 w H => ?_)
            exact .inl ⟨by simpa using h2, k9, rfl, H⟩
          · exact .inr ⟨by simpa using h2, rfl, H⟩
        · clear H
          rintro x w (⟨h2, k9, rfl, H⟩ | ⟨h2, rfl, H⟩)
          · refine ldA H ?_; refine asI_h ?_
            rw [← c1.n]
            simp only [h2, if_true] at hwf hans
            rw [h2]
            have H3 : Sh.Holds w0 (S1.hp :: [(k9, .cells #[I a, I b] 3 (0, 0))] :: [(k8, .cells #[I kind, I frm, I to, I id, I step, I a, I b] 35 (0, 0))] :: R) w := H.re
            refine notesK_c (e := ⟨1, id, [a, b]⟩) T H3 I1 hwf (Sl.block (vals := [I a, I b]) 0 rfl rfl) (fun hr w H => ?_) (fun hr S2 w I2 c2 H => ?_)
            · rw [rm] at hr
              rw [if_neg hr] at hans
              rw [hans] at k0
              refine asBoo_h ?_
              refine br_t rfl ?_
              exact k0 rfl S1 w (by simpa using I1) c1 H.re
            · rw [rm] at hr
              rw [if_pos hr] at hans
              refine asBoo_h ?_
              refine br_f rfl ?_
              rw [hans]
              exact ⟨S2, I2, ⟨c2.n.trans c1.n, c2.room.trans c1.room, c2.g.trans c1.g⟩, rfl, H.re⟩
          · refine ldA H ?_; refine asI_h ?_
            rw [← c1.n]
            simp only [h2, if_false] at hwf hans
            refine notesK_c (e := ⟨pr.1, id, []⟩) T H I1 hwf Sl.nil (fun hr w H => ?_) (fun hr S2 w I2 c2 H => ?_)
            · rw [rm] at hr
              rw [if_neg hr] at hans
              rw [hans] at k0
              refine asBoo_h ?_
              refine br_t rfl ?_
              exact k0 rfl S1 w (by simpa using I1) c1 H.re
            · rw [rm] at hr
              rw [if_pos hr] at hans
              refine asBoo_h ?_
              refine br_f rfl ?_
              rw [hans]
              exact ⟨S2, I2, ⟨c2.n.trans c1.n, c2.room.trans c1.room, c2.g.trans c1.g⟩, rfl, H⟩
      · have h1 : pr.1 = (KA.run S.g es).s id := by simpa using h1
        rw [if_pos h1] at hans
        rw [hans]
        exact ⟨S1, by simpa using I1, c1, rfl, H⟩
    · clear H
      rintro u2 w ⟨S2, I2, c2, e2, H⟩
      rw [e2] at k0 k1
      refine ldA H ?_; refine asI_h ?_
      refine ⟨fun x w => pr.2 ≠ 0 ∧ x.1 = toK pr.2 frm ∧ Sh.Holds w0 (S2.hp :: [(k8, .cells #[I kind, I frm, I to, I id, I step, I a, I b] 35 (0, 0))] :: R) w, ?_, ?_⟩
      · refine br_s (fun h1 => ?_) (fun h1 => ?_)
        · exact k0 (by simpa using h1) S2 w I2 c2 H.re
        have h1 : pr.2 ≠ 0 := by simpa using h1
        refine br_s (fun h2 => ?_) (fun h2 => ?_)
        · have h2 : pr.2 = 11 := by simpa using h2
          exact ⟨h1, by unfold toK; rw [if_pos (.inl h2)], H⟩
        have h2 : pr.2 ≠ 11 := by simpa using h2
        refine br_s (fun h3 => ?_) (fun h3 => ?_)
        · have h3 : pr.2 = 17 := by simpa using h3
          exact ⟨h1, by unfold toK; rw [if_pos (.inr h3)], H⟩
        have h3 : pr.2 ≠ 17 := by simpa using h3
        exact ⟨h1, by unfold toK; rw [if_neg (by omega)], H⟩
      · clear H
        rintro ⟨tt, u3⟩ w ⟨h1, h2, H⟩
        simp only at h2
        subst h2
        replace H := openK H.drew
        rw [← c2.n]
        refine nn_h ?_
        refine ldA H ?_; refine asI_h ?_
        refine ldA H ?_; refine asI_h ?_
        refine nw_h H (fun q w H => ?_)
        refine k1 h1 q S2 w I2 c2 ?_
        have H4 := shutK (S := S2) (R := [(q, .cells #[I pr.2, I 1, I (toK pr.2 frm), I id, I 0, I 0, I 0] 35 (0, 0))] :: [(k8, .cells #[I kind, I frm, I to, I id, I step, I a, I b] 35 (0, 0))] :: R) (Holds.re (b := [(q, .cells #[I pr.2, I 1, I (toK pr.2 frm), I id, I 0, I 0, I 0] 35 (0, 0))] :: [(S2.n, .cells #[I 1, S2.L.v, S2.J.v, .iface 196 (.agg #[S2.G.v]), .map (some S2.m)] 189 (0, 0))] :: S2.L.hp 3 :: S2.J.hp :: S2.G.hp :: [(S2.m, mapG S2.l S2.c)] :: [(k8, .cells #[I kind, I frm, I to, I id, I step, I a, I b] 35 (0, 0))] :: R) H)
        exact H4.re
end Go.Proofs.YtcfmnoimehcfnaaGreatDoor
