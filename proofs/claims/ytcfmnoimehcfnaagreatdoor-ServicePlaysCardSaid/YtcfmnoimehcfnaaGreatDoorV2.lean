/- A service as its journal's entries say: a message handled. Conditions: none. -/
import Derived.Test.YtcfmnoimehcfnaaGreatDoorV1
import Derived.Test.YtcfmnoimehcfnaaGreatDoorC9
set_option linter.unusedVariables false
set_option maxRecDepth 100000
namespace Go.Proofs.YtcfmnoimehcfnaaGreatDoor
open Go Go.Sh

/-- what is noted, and the answer (0: none) -/
def SA.doE (A : SA) (room : Int) (n : Nat) (id a : Int) : Option SE × Int :=
  if A.s id = 1 then (none, 2) else if A.s id = 0 then (if (n : Int) < room then (if takeA A.left A.h id a = 0 then (some (.did id a), 2) else (some (.cant id), 3)) else (none, 0)) else (none, 3)
def SA.undoE (A : SA) (room : Int) (n : Nat) (id : Int) : Option SE × Int :=
  if A.s id = 0 ∨ A.s id = 1 then (if (n : Int) < room then (some (.undid id), 5) else (none, 0)) else (none, 5)
theorem line_did (id a : Int) : lineE kDid id [a] = LB (SE.did id a).en := lineE_B (SE.did id a).en
theorem line_cant (id : Int) : lineE kCant id [] = LB (SE.cant id).en := lineE_B (SE.cant id).en
theorem line_undid (id : Int) : lineE kUndid id [] = LB (SE.undid id).en := lineE_B (SE.undid id).en
theorem take_range {left : Int} {h : Int → Int} {id a : Int} (e : takeA left h id a = 0) : 1 ≤ a ∧ a ≤ 1000000000 ∧ a ≤ left ∧ h id ≤ 0 := by
  unfold takeA at e
  split at e
  · simp at e
  · split at e
    · simp at e
    · split at e
      · simp at e
      · omega
theorem may_did {id a : Int} (h1 : 1 ≤ id) (h2 : id ≤ 999) (a1 : 1 ≤ a) (a2 : a ≤ 1000000000) : mayN (SE.did id a).en = true := show mayE kDid id [a] = true from may_k named_did (by omega) h2 (by simp) (fun x hx => by simp only [List.mem_singleton] at hx; omega)
theorem may_cant {id : Int} (h1 : 1 ≤ id) (h2 : id ≤ 999) : mayN (SE.cant id).en = true := show mayE kCant id [] = true from may_k named_cant (by omega) h2 (by simp) (fun x hx => by simp at hx)
theorem may_undid {id : Int} (h1 : 1 ≤ id) (h2 : id ≤ 999) : mayN (SE.undid id).en = true := show mayE kUndid id [] = true from may_k named_undid (by omega) h2 (by simp) (fun x hx => by simp at hx)
theorem SvIs.up {S : Sv} {es : List SE} (h : SvIs S es false) : S.Is (SA.run S.room es) := by have := h.is; simpa using this
theorem SvIs.stay {S S' : Sv} {es : List SE} {ln : ByteArray} {l : Int} {f g : Int → Int} (I0 : SvIs S es false) (D : SvTo S S' false ln l f g) (hl : l = S.B.left) (hf : ∀ x, f x = S.B.h x) (hg : ∀ x, g x = S.s x) : SvIs S' es false := by
  have u := I0.up
  refine ⟨D.ok, by rw [D.lin, I0.lines]; simp, I0.may, by rw [D.sur]; simpa using I0.sure, D.jdown, I0.len, ?_⟩
  simp only [Bool.false_eq_true, if_false]
  refine ⟨by rw [D.left, hl, D.room]; exact u.left, fun x => by rw [D.h, hf, D.room]; exact u.h x, fun x => by rw [D.s, hg, D.room]; exact u.s x⟩
theorem SvIs.grow {S S' : Sv} {es : List SE} {e : SE} {l : Int} {f g : Int → Int} (I0 : SvIs S es false) (D : SvTo S S' true (LB e.en) l f g) (hm : mayN e.en = true) (hr : (es.length : Int) < S.J.room) (hl : l = ((SA.run S.room es).step e).left) (hf : ∀ x, f x = ((SA.run S.room es).step e).h x) (hg : ∀ x, g x = ((SA.run S.room es).step e).s x) : SvIs S' (es ++ [e]) false := by
  have u := I0.up
  have hroom := I0.ok.j.room
  refine ⟨D.ok, by rw [D.lin, I0.lines]; simp, fun x hx => ?_, by rw [D.sur, I0.n]; simp, D.jdown, by simp; omega, ?_⟩
  · rw [List.map_append] at hx
    rcases List.mem_append.1 hx with hx | hx
    · exact I0.may x hx
    · simp only [List.map_cons, List.map_nil, List.mem_singleton] at hx
      subst hx; exact hm
  · simp only [Bool.false_eq_true, if_false]
    rw [D.room, SA.run_add]
    exact ⟨by rw [D.left, hl], fun x => by rw [D.h, hf], fun x => by rw [D.s, hg]⟩
theorem do_is {S S' : Sv} {es : List SE} {id a : Int} (I0 : SvIs S es false) (h1 : 1 ≤ id) (h2 : id ≤ 999) (D : DoTo S S' id a) :
    SvIs S' (es ++ (SA.doE (SA.run S.room es) S.J.room es.length id a).1.toList) false := by
  have u := I0.up
  unfold DoTo at D
  unfold SA.doE
  rw [← u.s]
  by_cases s1 : S.s id = 1
  · have hg : doG S id a = false := by simp [doG, s1]
    rw [hg] at D
    rw [if_pos s1]
    simp only [Option.toList_none, List.append_nil]
    exact I0.stay D (by simp) (by simp) (by simp)
  rw [if_neg s1]
  by_cases s0 : S.s id = 0
  · rw [if_pos s0]
    by_cases hr : (es.length : Int) < S.J.room
    · rw [if_pos hr, ← u.take]
      by_cases ht : takeB S.B id a = 0
      · have hr2 := take_range (by rw [← u.take]; exact ht)
        have hg : doG S id a = true := by
          have := note_ok (S := S) (l := [a]) named_did (by omega) h2 (by simp) (fun x hx => by simp only [List.mem_singleton] at hx; omega) I0.dn (by rw [I0.n]; exact hr)
          simp [doG, s0, ht, this]
        rw [hg] at D
        simp only [ht, if_true, true_and] at D ⊢
        rw [line_did] at D
        simp only [Option.toList_some]
        refine I0.grow D (may_did h1 h2 hr2.1 hr2.2.1) hr ?_ (fun x => ?_) (fun x => ?_)
        · simp only [SA.step]; rw [← u.take, if_pos ht, u.left]
        · simp only [SA.step]; rw [← u.take]; simp only [ht, true_and, u.h]
        · simp only [SA.step, u.s]
      · have hg : doG S id a = true := by
          have := note_ok (S := S) (l := []) named_cant (by omega) h2 (by simp) (fun x hx => by simp at hx) I0.dn (by rw [I0.n]; exact hr)
          simp [doG, s0, ht, this]
        rw [hg] at D
        simp only [ht, if_false, false_and, and_false, true_and] at D ⊢
        rw [line_cant] at D
        simp only [Option.toList_some]
        refine I0.grow D (may_cant h1 h2) hr ?_ (fun x => ?_) (fun x => ?_)
        · simp only [SA.step, u.left]
        · simp only [SA.step, u.h]
        · simp only [SA.step, u.s]
    · rw [if_neg hr]
      have hg : doG S id a = false := by
        unfold doG
        have hf : S.J.room ≤ (S.J.lines.length : Int) := by rw [I0.n]; omega
        split
        · rename_i ht
          have hr2 := take_range (by rw [← u.take]; exact ht)
          rw [note_full (S := S) (l := [a]) named_did (by omega) h2 (by simp) (fun x hx => by simp only [List.mem_singleton] at hx; omega) I0.dn hf]; simp
        · rw [note_full (S := S) (l := []) named_cant (by omega) h2 (by simp) (fun x hx => by simp at hx) I0.dn hf]; simp
      rw [hg] at D
      simp only [Option.toList_none, List.append_nil]
      exact I0.stay D (by simp) (by simp) (by simp)
  · rw [if_neg s0]
    have hg : doG S id a = false := by simp [doG, s0]
    rw [hg] at D
    simp only [Option.toList_none, List.append_nil]
    exact I0.stay D (by simp) (by simp) (by simp)
theorem do_ans {S : Sv} {es : List SE} {id a : Int} (I0 : SvIs S es false) (h1 : 1 ≤ id) (h2 : id ≤ 999) : doesB S id a = (SA.doE (SA.run S.room es) S.J.room es.length id a).2 := by
  have u := I0.up
  unfold SA.doE doesB
  rw [← u.s, ← u.take]
  by_cases s1 : S.s id = 1
  · rw [if_pos s1, if_pos s1]
  rw [if_neg s1, if_neg s1]
  by_cases s0 : S.s id = 0
  · rw [if_pos s0, if_pos s0]
    by_cases hr : (es.length : Int) < S.J.room
    · rw [if_pos hr]
      by_cases ht : takeB S.B id a = 0
      · have hr2 := take_range (by rw [← u.take]; exact ht)
        rw [if_pos ht, if_pos ht, note_ok (S := S) (l := [a]) named_did (by omega) h2 (by simp) (fun x hx => by simp only [List.mem_singleton] at hx; omega) I0.dn (by rw [I0.n]; exact hr)]; rfl
      · rw [if_neg ht, if_neg ht, note_ok (S := S) (l := []) named_cant (by omega) h2 (by simp) (fun x hx => by simp at hx) I0.dn (by rw [I0.n]; exact hr)]; rfl
    · rw [if_neg hr]
      have hf : S.J.room ≤ (S.J.lines.length : Int) := by rw [I0.n]; omega
      split
      · rename_i ht
        have hr2 := take_range (by rw [← u.take]; exact ht)
        rw [note_full (S := S) (l := [a]) named_did (by omega) h2 (by simp) (fun x hx => by simp only [List.mem_singleton] at hx; omega) I0.dn hf]; rfl
      · rw [note_full (S := S) (l := []) named_cant (by omega) h2 (by simp) (fun x hx => by simp at hx) I0.dn hf]; rfl
  · rw [if_neg s0, if_neg s0]
theorem undo_is {S S' : Sv} {es : List SE} {id : Int} (I0 : SvIs S es false) (h1 : 1 ≤ id) (h2 : id ≤ 999) (D : UndoTo S S' id) :
    SvIs S' (es ++ (SA.undoE (SA.run S.room es) S.J.room es.length id).1.toList) false ∧ undoesB S id = (SA.undoE (SA.run S.room es) S.J.room es.length id).2 := by
  have u := I0.up
  unfold UndoTo at D
  unfold SA.undoE undoesB
  rw [← u.s]
  by_cases s1 : S.s id = 0 ∨ S.s id = 1
  · rw [if_pos s1, if_pos s1]
    by_cases hr : (es.length : Int) < S.J.room
    · have hn := note_ok (S := S) (l := []) named_undid (by omega) h2 (by simp) (fun x hx => by simp at hx) I0.dn (by rw [I0.n]; exact hr)
      rw [if_pos hr, hn]
      refine ⟨?_, rfl⟩
      have hg : undoG S id = true := by rcases s1 with e | e <;> simp [undoG, e, hn]
      rw [hg] at D
      simp only [true_and, if_true] at D
      rw [line_undid] at D
      simp only [Option.toList_some]
      refine I0.grow D (may_undid h1 h2) hr ?_ (fun x => ?_) (fun x => ?_)
      · simp only [SA.step, u.left, u.h]
      · simp only [SA.step, u.h]
      · simp only [SA.step, u.s]
    · have hn := note_full (S := S) (l := []) named_undid (by omega) h2 (by simp) (fun x hx => by simp at hx) I0.dn (by rw [I0.n]; omega)
      rw [if_neg hr, hn]
      refine ⟨?_, rfl⟩
      have hg : undoG S id = false := by simp [undoG, hn]
      rw [hg] at D
      simp only [Option.toList_none, List.append_nil]
      exact I0.stay D (by simp) (by simp) (by simp)
  · rw [if_neg s1, if_neg s1]
    refine ⟨?_, rfl⟩
    have hg : undoG S id = false := by
      simp only [not_or] at s1
      simp [undoG, s1.1, s1.2]
    rw [hg] at D
    simp only [Option.toList_none, List.append_nil]
    exact I0.stay D (by simp) (by simp) (by simp)
instance goodS_dec (S : Sv) (kind frm to id : Int) : Decidable (goodS S kind frm to id) := by unfold goodS; infer_instance
def ansE (S : Sv) (es : List SE) (kind frm to id a : Int) : Option SE × Int :=
  if goodS S kind frm to id then (if kind = 1 then SA.doE (SA.run S.room es) S.J.room es.length id a else SA.undoE (SA.run S.room es) S.J.room es.length id) else (none, 0)
structure SvC (S S' : Sv) : Prop where
  n : S'.n = S.n
  node : S'.node = S.node
  room : S'.room = S.room
  jroom : S'.J.room = S.J.room
theorem SvTo.c {S S' : Sv} {g : Bool} {ln : ByteArray} {l : Int} {f h : Int → Int} (D : SvTo S S' g ln l f h) : SvC S S' := ⟨D.n, D.node, D.room, D.jroom⟩
theorem handleI_c {w0 w : World} {hs R : List Hp} {K : KV} {S : Sv} {es : List SE} {kind frm to id step a b : Int} (T : Tab w0) (H : Sh.Holds w0 hs w) [D : Del hs S.hp R] (I0 : SvIs S es false)
    (k0 : (ansE S es kind frm to id a).2 = 0 → ∀ S' w', SvIs S' (es ++ (ansE S es kind frm to id a).1.toList) false → SvC S S' → Sh.Holds w0 (S'.hp :: R) w' → K (.slice none 0 0) w')
    (k1 : (ansE S es kind frm to id a).2 ≠ 0 → ∀ q S' w', SvIs S' (es ++ (ansE S es kind frm to id a).1.toList) false → SvC S S' → Sh.Holds w0 ([(q, ansO (ansE S es kind frm to id a).2 S.node id step)] :: S'.hp :: R) w' → K (.slice (some ⟨q, 0, none⟩) 1 1) w') :
    gocall Tryz.prog 49 [S.v, msgV kind frm to id step a b] K w := by
  replace H := H.get S.hp
  refine handleS_c (S := S) T 0 H rfl I0.ok I0.dn (fun hn w H => ?_) (fun hg hk h0 S' w D H => ?_) (fun hg hk h0 q S' w D H => ?_) (fun hg hk h0 S' w D H => ?_) (fun hg hk h0 q S' w D H => ?_)
  · have e : ansE S es kind frm to id a = (none, 0) := by unfold ansE; rw [if_neg hn]
    rw [e] at k0
    exact k0 rfl S w (by simpa using I0) ⟨rfl, rfl, rfl, rfl⟩ H
  · have e : ansE S es kind frm to id a = SA.doE (SA.run S.room es) S.J.room es.length id a := by unfold ansE; rw [if_pos hg, if_pos hk]
    rw [e] at k0
    exact k0 (by rw [← do_ans I0 hg.2.2.1 hg.2.2.2.1]; exact h0) S' w (do_is I0 hg.2.2.1 hg.2.2.2.1 D) (SvTo.c D) H
  · have e : ansE S es kind frm to id a = SA.doE (SA.run S.room es) S.J.room es.length id a := by unfold ansE; rw [if_pos hg, if_pos hk]
    rw [e, ← do_ans I0 hg.2.2.1 hg.2.2.2.1] at k1
    exact k1 h0 q S' w (do_is I0 hg.2.2.1 hg.2.2.2.1 D) (SvTo.c D) H
  · have e : ansE S es kind frm to id a = SA.undoE (SA.run S.room es) S.J.room es.length id := by unfold ansE; rw [if_pos hg, if_neg (by omega)]
    obtain ⟨u1, u2⟩ := undo_is I0 hg.2.2.1 hg.2.2.2.1 D
    rw [e, ← u2] at k0
    exact k0 h0 S' w u1 (SvTo.c D) H
  · have e : ansE S es kind frm to id a = SA.undoE (SA.run S.room es) S.J.room es.length id := by unfold ansE; rw [if_pos hg, if_neg (by omega)]
    obtain ⟨u1, u2⟩ := undo_is I0 hg.2.2.1 hg.2.2.2.1 D
    rw [e, ← u2] at k1
    exact k1 h0 q S' w u1 (SvTo.c D) H
end Go.Proofs.YtcfmnoimehcfnaaGreatDoor
