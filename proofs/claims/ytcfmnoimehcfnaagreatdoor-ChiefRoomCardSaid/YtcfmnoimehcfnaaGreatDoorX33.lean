/- ChiefRoom, walked. Conditions: none. -/
import Derived.Test.YtcfmnoimehcfnaaGreatDoorX32
import Derived.Test.YtcfmnoimehcfnaaGreatDoorFN7
set_option linter.unusedVariables false
set_option linter.unusedSimpArgs false
set_option maxRecDepth 100000
namespace Go.Proofs.YtcfmnoimehcfnaaGreatDoor
open Go Go.Sh
theorem tmod10 (x : Int) : ∃ t : Int, IntKind.i64.wrap (1 + IntKind.i64.wrap ((IntKind.u64.wrap x).tmod 10)) = t ∧ 1 ≤ t ∧ t ≤ 10 := by
  refine ⟨_, rfl, ?_⟩
  have h0 : 0 ≤ IntKind.u64.wrap x := by unfold IntKind.wrap; simp; first | omega | (split <;> omega) | exact Int.emod_nonneg _ (by decide)
  have h1 : 0 ≤ (IntKind.u64.wrap x).tmod 10 ∧ (IntKind.u64.wrap x).tmod 10 < 10 := by
    rw [Int.tmod_eq_emod_of_nonneg h0]; omega
  have hin : IntKind.i64.wrap ((IntKind.u64.wrap x).tmod 10) = (IntKind.u64.wrap x).tmod 10 := wrap64 (by omega) (by omega)
  rw [hin, wrap64 (by omega) (by omega)]
  omega
theorem tmod12 (x : Int) : ∃ t : Int, IntKind.i64.wrap (1 + IntKind.i64.wrap ((IntKind.u64.wrap x).tmod 12)) = t ∧ 1 ≤ t ∧ t ≤ 12 := by
  refine ⟨_, rfl, ?_⟩
  have h0 : 0 ≤ IntKind.u64.wrap x := by unfold IntKind.wrap; simp; first | omega | (split <;> omega) | exact Int.emod_nonneg _ (by decide)
  have h1 : 0 ≤ (IntKind.u64.wrap x).tmod 12 ∧ (IntKind.u64.wrap x).tmod 12 < 12 := by
    rw [Int.tmod_eq_emod_of_nonneg h0]; omega
  have hin : IntKind.i64.wrap ((IntKind.u64.wrap x).tmod 12) = (IntKind.u64.wrap x).tmod 12 := wrap64 (by omega) (by omega)
  rw [hin, wrap64 (by omega) (by omega)]
  omega
section
variable {w0 w : World} {hs R : List Hp} {K : KV}
set_option maxHeartbeats 1000000 in
theorem chiefRoom_c {x0 x1 : Int} (T : Tab w0) (H : Sh.Holds w0 hs w) (k : ∀ w', Sh.Holds w0 hs w' → K (.bool true) w') : gocall Tryz.prog 7 [I x0, I x1] K w := by
  apply F7_go; unfold F7
  refine ⟨by decide, ?_⟩
  refine ⟨by decide, ?_⟩
  have ha : ∃ a : Int, IntKind.i64.wrap (1 + IntKind.i64.wrap ((IntKind.u64.wrap x0).tmod 10)) = a ∧ 1 ≤ a ∧ a ≤ 10 := tmod10 x0
  have hb : ∃ b : Int, IntKind.i64.wrap (1 + IntKind.i64.wrap ((IntKind.u64.wrap x1).tmod 12)) = b ∧ 1 ≤ b ∧ b ≤ 12 := tmod12 x1
  obtain ⟨a, ea, a1, a2⟩ := ha
  obtain ⟨b, eb, b1, b2⟩ := hb
  rw [ea, eb]
  refine newC_c H (fun S w I0 H => ?_)
  have hP : (⟨(if (if 64 < a then 64 else a) > 1 then if 64 < a then 64 else a else 1), roomB b, triesB 3⟩ : CP) = ⟨a, b, triesB 3⟩ := by
    congr 1
    · split <;> split <;> first | omega | (split <;> omega)
    · unfold roomB; split <;> split <;> first | omega | (split <;> omega)
  rw [hP] at I0
  clear hP
  refine asPtr_h ?_
  refine ⟨fun y w => ∃ (S2 : Ch) (s : CS) (i k : Nat), y.1 = i ∧ y.2.1 = k ∧ y.2.2.1 = b - 2 * k ∧ i ≤ 12 ∧ k ≤ i ∧ (k : Int) ≤ a ∧ 2 * (k : Int) ≤ b ∧ (k < i → ¬ ((k : Int) < a ∧ 2 * (k : Int) + 2 ≤ b)) ∧ RoomI s k ∧ ChIs S2 ⟨a, b, triesB 3⟩ s ∧ S2.n = S.n ∧ Sh.Holds w0 (S2.hp :: hs) w, fun y _ => 12 - y.1.toNat, ⟨S, CS.zero, 0, 0, rfl, rfl, by simp, by omega, by omega, by omega, by omega, by omega, ⟨by funext i; unfold LR; rw [if_neg (by omega)]; rfl, rfl⟩, I0, rfl, H⟩, ?_⟩
  clear H I0
  rintro ⟨y0, y1, y2, y3, u⟩ w ⟨S2, s, i, k', e0, e1, e2, hi, hk, hka, hkb, hno, I1, I2, hn, H⟩
  simp only at e0 e1 e2
  subst e0 e1 e2
  refine br_s (fun h => ?_) (fun h => ?_)
  · simp at h
    have hw : IntKind.i64.wrap (1 + (i : Int)) = i + 1 := by rw [Int.add_comm]; exact wrap64 (by omega) (by omega)
    rw [show (.pointer (some ⟨S.n, 0, none⟩) : Value) = S2.v by show _ = Value.pointer (some ⟨S2.n, 0, none⟩); rw [hn]]
    refine nw_h H (fun k12 w H => ?_)
    refine nw_h H (fun k14 w H => ?_)
    rw [hw]
    (with_reducible repeat first|refine ldA (by assumption) ?_|refine Stp.imp ?_|refine stA (by assumption) rfl fun _ _=>?_|refine nw_h (by assumption) fun _ _ _=>?_|refine ldSA ?_|refine asT_e [] rfl rfl ?_|refine ldD (by assumption) ?_|refine nwD (by assumption) fun _ _ _=>?_)
    rename_i wz Hz
    replace H : Sh.Holds w0 (S2.hp :: [(k14, .cells #[I ((i : Int) + 1), I 0, I 1, I 0, I 1, .slice (some ⟨k12, 0, none⟩) 1 1] 24 (0, 0))] :: [(k12, .cells #[I 5, I 1] 81 (0, 0))] :: hs) wz := Holds.re Hz
    clear Hz
    refine begin_c (S := S2) (o := oR ((i : Int) + 1)) (p := some ⟨k12, 0, none⟩) (n := 1) (c := 1) T H I2 ((Sl.block (vals := [I 5, I 1]) 1 rfl rfl)) (by show (1 : Nat) < 1000000; omega) (fun r S3 w I3 c3 okr H => ?_)
    refine asT_e [_, _] rfl rfl ?_
    refine asSl_e rfl ?_
    refine asI_e rfl ?_
    have hb := beginR (P := ⟨a, b, triesB 3⟩) (i := (i : Int) + 1) I1 (by omega) ⟨by omega, by omega⟩ (by omega)
    replace H : Sh.Holds w0 (S3.hp :: [(k14, .cells #[I ((i : Int) + 1), I 0, I 1, I 0, I 1, .slice (some ⟨k12, 0, none⟩) 1 1] 24 (0, 0))] :: hs) w := Holds.re H
    have n3 : S3.n = S.n := c3.n.trans hn
    have ev : S2.v = S3.v := by show Value.pointer _ = Value.pointer _; rw [n3, hn]
    by_cases hc : (k' : Int) < a ∧ 2 * (k' : Int) + 2 ≤ b
    · rw [if_pos hc] at hb
      have hik : i = k' := by
        by_cases h2 : k' < i
        · exact absurd hc (hno h2)
        · omega
      have I4 := hb.2 (by omega)
      rw [hb.1]
      have hg : decide (b - 2 * (k' : Int) ≥ 2) = true := by simp; omega
      simp only [hg]
      refine br_t (by simp; omega) ?_
      refine br_f rfl ?_
      refine br_f rfl ?_
      refine ldA H ?_; refine asI_h ?_
      rw [ev]
      refine stateC_c (S := S3) H I3 (fun w H => ?_)
      rw [stateR I4 ⟨by omega, by omega⟩, if_pos (by omega)]
      refine asI_h ?_
      refine br_f rfl ?_
      refine br_t rfl ?_
      have w1 : IntKind.i64.wrap ((i : Int) + 1) = (i : Int) + 1 := wrap64 (by omega) (by omega)
      have w2 : IntKind.i64.wrap ((k' : Int) + 1) = (k' : Int) + 1 := wrap64 (by omega) (by omega)
      have w3 : IntKind.i64.wrap (b - 2 * (k' : Int) - 2) = b - 2 * (k' : Int) - 2 := wrap64 (by omega) (by omega)
      refine ⟨⟨S3, _, i + 1, k' + 1, by simp only [w1]; omega, by simp only [w2]; omega, by simp only [w3]; omega, by omega, by omega, by omega, by omega, fun h => absurd h (by omega), I4, I3, n3, H.re⟩, ?_⟩
      simp only [w1]; omega
    · rw [if_neg hc] at hb
      rw [hb] at I3 ⊢
      simp only at I3 ⊢
      have w1 : IntKind.i64.wrap ((i : Int) + 1) = (i : Int) + 1 := wrap64 (by omega) (by omega)
      have hst : stateC s ((i : Int) + 1) = 0 := by rw [stateR I1 ⟨by omega, by omega⟩, if_neg (by omega)]
      by_cases hka2 : (k' : Int) < a
      · have hg : decide (b - 2 * (k' : Int) ≥ 2) = false := by simp; omega
        simp only [hg]
        refine br_t (by simp; omega) ?_
        refine br_f rfl ?_
        refine br_t rfl ?_
        refine br_f rfl ?_
        refine ldA H ?_; refine asI_h ?_
        rw [ev]
        refine stateC_c (S := S3) H I3 (fun w H => ?_)
        rw [hst]
        refine asI_h ?_
        refine br_f rfl ?_
        refine br_f rfl ?_
        refine ⟨⟨S3, s, i + 1, k', by simp only [w1]; omega, rfl, rfl, by omega, by omega, by omega, by omega, fun h => hc, I1, I3, n3, H.re⟩, ?_⟩
        simp only [w1]; omega
      · refine br_f (by simp; omega) ?_
        refine br_f rfl ?_
        refine br_f rfl ?_
        refine ldA H ?_; refine asI_h ?_
        rw [ev]
        refine stateC_c (S := S3) H I3 (fun w H => ?_)
        rw [hst]
        refine asI_h ?_
        refine br_f rfl ?_
        refine ⟨⟨S3, s, i + 1, k', by simp only [w1]; omega, rfl, rfl, by omega, by omega, by omega, by omega, fun h => hc, I1, I3, n3, H.re⟩, ?_⟩
        simp only [w1]; omega
  · simp at h
    have h12 : i = 12 := by omega
    rw [show (.pointer (some ⟨S.n, 0, none⟩) : Value) = S2.v by show _ = Value.pointer (some ⟨S2.n, 0, none⟩); rw [hn]]
    refine idsL_c (S := S2) (n := 100) (by decide) H I2.ok (fun r w okr H => ?_)
    refine asSl_h ?_
    have hl : r.n = k' := by
      have h1 := okr.len
      have h2 : (idsC S2.L).length = k' := by rw [I2.L, I1.L]; exact idsR k' (by omega)
      simp at h1
      omega
    refine br_t (by simp [hl]) ?_
    refine awake22_c T (Holds.re H : Sh.Holds w0 hs w) (fun w H => ?_)
    refine asBoo_e rfl ?_
    exact k w H
end
end Go.Proofs.YtcfmnoimehcfnaaGreatDoor
