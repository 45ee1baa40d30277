/- An answer that fits. Conditions: none. -/
import Derived.Test.YtcfmnoimehcfnaaGreatDoorX24
import Derived.Test.YtcfmnoimehcfnaaGreatDoorFT
set_option linter.unusedVariables false
set_option linter.unusedSimpArgs false
set_option maxRecDepth 100000
namespace Go.Proofs.YtcfmnoimehcfnaaGreatDoor
open Go Go.Sh

def zI (i : Int) : Bool := IntKind.i64.wrap (↑(BitVec.ofInt IntKind.i64.bits i &&& BitVec.ofInt IntKind.i64.bits 7).toNat : Int) == 0
section
variable {w0 w : World} {hs R : List Hp} {K : KV}
set_option maxHeartbeats 2000000 in
theorem fits_c {m : Mg} {i : Int} (H : Sh.Holds w0 hs w) (k : ∀ w', Sh.Holds w0 hs w' → K (fitsM m (zI i)).v w') : gocall Tryz.prog 20 [m.v, I i] K w := by
  apply F20_go; unfold F20
  refine nw_h H (fun k8 w H => ?_)
  refine nw_h H (fun k10 w H => ?_)
  replace H : Sh.Holds w0 ([(k10, .cells #[I 0, I 0, I 0, I 0, I 0, I 0, I 0] 35 (0, 0))] :: [(k8, .cells #[I m.kind, I m.frm, I m.to, I m.id, I m.step, I m.a, I m.b] 35 (0, 0))] :: hs) w := H
  refine ldA H ?_
  refine asI_h ?_
  refine ldA H ?_
  refine asI_h ?_
  refine ldA H ?_
  refine asI_h ?_
  refine nw_h H (fun k24 w H => ?_)
  refine stA H rfl (fun w H => ?_)
  refine stA H rfl (fun w H => ?_)
  refine stA H rfl (fun w H => ?_)
  refine stA H rfl (fun w H => ?_)
  refine stA H rfl (fun w H => ?_)
  refine stA H rfl (fun w H => ?_)
  refine stA H rfl (fun w H => ?_)
  replace H : Sh.Holds w0 ([(k24, .cells #[I 0, I m.to, I 0, I m.id, I m.step, I 0, I 0] 35 (0, 0))] :: [(k10, .cells #[I 0, I 0, I 0, I 0, I 0, I 0, I 0] 35 (0, 0))] :: [(k8, .cells #[I m.kind, I m.frm, I m.to, I m.id, I m.step, I m.a, I m.b] 35 (0, 0))] :: hs) w := H
  refine ⟨fun _ w => Sh.Holds w0 ([(k24, .cells #[I (fitK m.kind (zI i)), I m.to, I 0, I m.id, I m.step, I 0, I 0] 35 (0, 0))] :: [(k10, .cells #[I 0, I 0, I 0, I 0, I 0, I 0, I 0] 35 (0, 0))] :: [(k8, .cells #[I m.kind, I m.frm, I m.to, I m.id, I m.step, I m.a, I m.b] 35 (0, 0))] :: hs) w, ?_, ?_⟩
  · have fin : ∀ {x : Int} {w : World}, fitK m.kind (zI i) = x → Sh.Holds w0 ([(k24, .cells #[I x, I m.to, I 0, I m.id, I m.step, I 0, I 0] 35 (0, 0))] :: [(k10, .cells #[I 0, I 0, I 0, I 0, I 0, I 0, I 0] 35 (0, 0))] :: [(k8, .cells #[I m.kind, I m.frm, I m.to, I m.id, I m.step, I m.a, I m.b] 35 (0, 0))] :: hs) w → Sh.Holds w0 ([(k24, .cells #[I (fitK m.kind (zI i)), I m.to, I 0, I m.id, I m.step, I 0, I 0] 35 (0, 0))] :: [(k10, .cells #[I 0, I 0, I 0, I 0, I 0, I 0, I 0] 35 (0, 0))] :: [(k8, .cells #[I m.kind, I m.frm, I m.to, I m.id, I m.step, I m.a, I m.b] 35 (0, 0))] :: hs) w := fun e H => by rw [e]; exact H
    refine ldA H ?_
    refine asI_h ?_
    refine br_s (fun h => ?_) (fun h1 => ?_)
    · have h : m.kind = 1 := by simpa using h
      refine stA H rfl (fun w H => ?_)
      refine br_s (fun hz => ?_) (fun hz => ?_)
      · refine stA H rfl (fun w H => ?_)
        exact fin (by have hz : zI i = true := hz; simp [fitK, h, hz]) H
      · exact fin (by have hz : zI i = false := hz; simp [fitK, h, hz]) H
    have h1 : m.kind ≠ 1 := by simpa using h1
    refine br_s (fun h => ?_) (fun h6 => ?_)
    · have h : m.kind = 6 := by simpa using h
      refine stA H rfl (fun w H => ?_)
      refine br_s (fun hz => ?_) (fun hz => ?_)
      · refine stA H rfl (fun w H => ?_)
        exact fin (by have hz : zI i = true := hz; simp [fitK, h, hz]) H
      · exact fin (by have hz : zI i = false := hz; simp [fitK, h, hz]) H
    have h6 : m.kind ≠ 6 := by simpa using h6
    refine br_s (fun h => ?_) (fun h4 => ?_)
    · have h : m.kind = 4 := by simpa using h
      refine stA H rfl (fun w H => ?_)
      exact fin (by simp [fitK, h]) H
    have h4 : m.kind ≠ 4 := by simpa using h4
    refine ⟨fun x w => x.1 = decide (m.kind = 9 ∨ m.kind = 10) ∧ Sh.Holds w0 ([(k24, .cells #[I 0, I m.to, I 0, I m.id, I m.step, I 0, I 0] 35 (0, 0))] :: [(k10, .cells #[I 0, I 0, I 0, I 0, I 0, I 0, I 0] 35 (0, 0))] :: [(k8, .cells #[I m.kind, I m.frm, I m.to, I m.id, I m.step, I m.a, I m.b] 35 (0, 0))] :: hs) w, ?_, ?_⟩
    · refine br_s (fun h => ⟨?_, H⟩) (fun h => ⟨?_, H⟩)
      · have h : m.kind = 9 := by simpa using h
        simp [h]
      · have h : m.kind ≠ 9 := by simpa using h
        by_cases h10 : m.kind = 10
        · simp [h10]
        · simp [h, h10]
    clear H
    rintro ⟨x, u⟩ w ⟨hx, H⟩
    simp only at hx
    subst hx
    refine br_s (fun h => ?_) (fun h9 => ?_)
    · have h : m.kind = 9 ∨ m.kind = 10 := by simpa using h
      refine stA H rfl (fun w H => ?_)
      refine br_s (fun hz => ?_) (fun hz => ?_)
      · refine stA H rfl (fun w H => ?_)
        exact fin (by have hz : zI i = true := hz; simp [fitK, h1, h6, h4, h, hz]) H
      · exact fin (by have hz : zI i = false := hz; simp [fitK, h1, h6, h4, h, hz]) H
    have h9 : ¬ (m.kind = 9 ∨ m.kind = 10) := by simpa using h9
    refine br_s (fun h => ?_) (fun h15 => ?_)
    · have h : m.kind = 15 := by simpa using h
      refine stA H rfl (fun w H => ?_)
      exact fin (by simp [fitK, h]) H
    · have h15 : m.kind ≠ 15 := by simpa using h15
      exact fin (by simp [fitK, h1, h6, h4, h9, h15]) H
  clear H
  intro u w H
  (with_reducible repeat first|refine ldA (by assumption) ?_|refine Stp.imp ?_|refine stA (by assumption) rfl fun _ _=>?_|refine nw_h (by assumption) fun _ _ _=>?_|refine ldSA ?_|refine asT_e [] rfl rfl ?_|refine ldD (by assumption) ?_|refine nwD (by assumption) fun _ _ _=>?_)
  exact k _ (Holds.re (by assumption))
end
end Go.Proofs.YtcfmnoimehcfnaaGreatDoor
