/- ChiefAnswers, walked. Conditions: none. -/
import Derived.Test.YtcfmnoimehcfnaaGreatDoorX34
import Derived.Test.YtcfmnoimehcfnaaGreatDoorFN10

set_option linter.unusedVariables false
set_option linter.unusedSimpArgs false
set_option maxRecDepth 100000
namespace Go.Proofs.YtcfmnoimehcfnaaGreatDoor
open Go Go.Sh
theorem tmod2s (x : Int) : ∃ t : Int, IntKind.i64.wrap (1 + IntKind.i64.wrap ((IntKind.u64.wrap x).tmod 2)) = t ∧ (t = 1 ∨ t = 2) := by
  refine ⟨_, rfl, ?_⟩
  have h0 : 0 ≤ IntKind.u64.wrap x := by unfold IntKind.wrap; simp; first | omega | (split <;> omega) | exact Int.emod_nonneg _ (by decide)
  have h1 : 0 ≤ (IntKind.u64.wrap x).tmod 2 ∧ (IntKind.u64.wrap x).tmod 2 < 2 := by
    rw [Int.tmod_eq_emod_of_nonneg h0]; omega
  have hin : IntKind.i64.wrap ((IntKind.u64.wrap x).tmod 2) = (IntKind.u64.wrap x).tmod 2 := wrap64 (by omega) (by omega)
  rw [hin, wrap64 (by omega) (by omega)]
  omega
section
variable {w0 w : World} {hs R : List Hp} {K : KV}
theorem one_n {r : Row} {m : Mg} (ok : r.Ok 7 (mgs [m])) : r.n = 1 := by
  have h := ok.len
  have : (mgs [m]).length = 7 := by simp [mgs, Mg.len]
  omega
theorem nil_n {r : Row} (ok : r.Ok 7 (mgs [])) : r.n = 0 := by
  have h := ok.len
  have : (mgs []).length = 0 := rfl
  omega
theorem rdM {r : Row} {m : Mg} {K : Addr → World → Prop} {w : World} (ok : r.Ok 7 (mgs [m])) (hk : ∀ g, r.g = some g → K ⟨g, 0, none⟩ w) : slAt r.p r.n 0 7 K w :=
  slAt_h ok (by omega) (by have := one_n ok; omega) hk

set_option maxHeartbeats 4000000 in
theorem chiefAnswers_c {x0 x1 id : Int} (E : Errs w0) (T : Tab w0) (H : Sh.Holds w0 hs w) (k : ∀ w', Sh.Holds w0 hs w' → K (.bool true) w') : gocall Tryz.prog 10 [I x0, I x1, I id] K w := by
  have awk : ∀ {A : List Hp} [Re hs A] {w : World}, Sh.Holds w0 A w → gocall Tryz.prog 16 [] (fun v w => asBoo v (fun b w => K (.bool b) w) w) w := fun {A} _ {w} H => awake22_c T (Holds.re H : Sh.Holds w0 hs w) (fun w H => asBoo_e rfl (k w H))
  apply F10_go; unfold F10
  refine ⟨by decide, ?_⟩
  obtain ⟨f, ef, hf⟩ := tmod2s x0
  rw [ef]
  refine newC_c H (fun S w I0 H => ?_)
  have I0 : ChIs S PA CS.zero := I0
  refine asPtr_h ?_
  refine begin_c (S := S) (o := oA) (p := none) (n := 0) (c := 0) T H I0 Sl.nil (by decide) (fun r S1 w I1 c1 okr H => ?_)
  replace I1 : ChIs S1 PA A1 := I1
  refine asT_e [_, _] rfl rfl ?_
  refine asSl_e rfl ?_
  refine asI_e rfl ?_
  replace H : Sh.Holds w0 (S1.hp :: hs) w := Holds.re H
  rw [show (.pointer (some ⟨S.n, 0, none⟩) : Value) = S1.v by show _ = Value.pointer _; rw [c1.n]]
  refine nw_h H (fun k18 w H => ?_)
  (with_reducible repeat first|refine ldA (by assumption) ?_|refine Stp.imp ?_|refine stA (by assumption) rfl fun _ _=>?_|refine nw_h (by assumption) fun _ _ _=>?_|refine ldSA ?_|refine asT_e [] rfl rfl ?_|refine ldD (by assumption) ?_|refine nwD (by assumption) fun _ _ _=>?_)
  rename_i wz Hz
  replace H : Sh.Holds w0 (S1.hp :: [(k18, .cells #[I 12, I f, I 0, I 5, I 0, I 0, I 0] 35 (0, 0))] :: hs) wz := Holds.re Hz
  clear Hz
  refine handle_c (S := S1) (m := aA f 5) T H I1 inv1.good.htt (fun r S2 w I2 c2 okr2 H => ?_)
  rw [ask_h] at I2 okr2
  simp only [ask1 hf] at I2 okr2
  refine asSl_e rfl ?_
  rw [show S1.v = S2.v by show Value.pointer _ = Value.pointer _; rw [c2.n]]
  replace H : Sh.Holds w0 (S2.hp :: [(k18, .cells #[I 12, I f, I 0, I 5, I 0, I 0, I 0] 35 (0, 0))] :: hs) w := Holds.re H
  refine br_f (by rw [nil_n okr2]; rfl) ?_
  refine ⟨by decide, ?_⟩
  refine br_s (fun h => ?_) (fun h => ?_)
  · clear h
    refine handle_c (S := S2) (m := ⟨7, 1, 0, 5, 0, 0, 0⟩) T H I2 inv1.good.htt (fun r S3 w I3 c3 okr3 H => ?_)
    replace I3 : ChIs S3 PA A2y := I3
    refine asSl_e rfl ?_
    rw [show S2.v = S3.v by show Value.pointer _ = Value.pointer _; rw [c3.n]]
    replace H : Sh.Holds w0 (S3.hp :: [(k18, .cells #[I 12, I f, I 0, I 5, I 0, I 0, I 0] 35 (0, 0))] :: hs) w := Holds.re H
    refine handle_c (S := S3) (m := ⟨7, 2, 0, 5, 0, 0, 0⟩) T H I3 inv2y.good.htt (fun r SA w IA c4 okr4 H => ?_)
    replace IA : ChIs SA PA A20 := IA
    refine asSl_e rfl ?_
    rw [show S3.v = SA.v by show Value.pointer _ = Value.pointer _; rw [c4.n]]
    replace H : Sh.Holds w0 (SA.hp :: [(k18, .cells #[I 12, I f, I 0, I 5, I 0, I 0, I 0] 35 (0, 0))] :: hs) w := Holds.re H
    refine crashCh_c (S := SA) H IA (fun SB m w h1 h2 h3 ID cB H => ?_)
    have hm : m = A20.sure := by
      have : cutI ((A20.es.length : Int) - A20.sure) 0 = 0 := by have := inv20.le; unfold cutI; (repeat' split) <;> omega
      rw [this] at h3; omega
    rw [hm, es20] at ID
    refine asT_e [] rfl rfl ?_
    rw [show SA.v = SB.v by show Value.pointer _ = Value.pointer _; rw [cB]]
    refine startCh_c (S := SB) E T H ID (fun SC w IC cC H => ?_)
    refine asT_e [] rfl rfl ?_
    rw [show SB.v = SC.v by show Value.pointer _ = Value.pointer _; rw [cC]]
    have gC : GoodO (startC PA (esA 6)).L := by have := (inv20.start PA (Nat.le_refl _) inv20.le).good; rwa [es20] at this
    replace H : Sh.Holds w0 (SC.hp :: [(k18, .cells #[I 12, I f, I 0, I 5, I 0, I 0, I 0] 35 (0, 0))] :: hs) w := Holds.re H
    (with_reducible repeat first|refine ldA (by assumption) ?_|refine Stp.imp ?_|refine stA (by assumption) rfl fun _ _=>?_|refine nw_h (by assumption) fun _ _ _=>?_|refine ldSA ?_|refine asT_e [] rfl rfl ?_|refine ldD (by assumption) ?_|refine nwD (by assumption) fun _ _ _=>?_)
    refine handle_c (S := SC) (m := aA f 5) T H IC gC.htt (fun ra SD w I5 c5 oka H => ?_)
    rw [ask_h] at I5 oka
    simp only [askY hf] at I5 oka
    refine asSl_e rfl ?_
    rw [show SC.v = SD.v by show Value.pointer _ = Value.pointer _; rw [c5.n]]
    replace H : Sh.Holds w0 (SD.hp :: [(k18, .cells #[I 12, I f, I 0, I 5, I 0, I 0, I 0] 35 (0, 0))] :: (ra.hp 35 :: hs)) w := Holds.re H
    (with_reducible repeat first|refine ldA (by assumption) ?_|refine Stp.imp ?_|refine stA (by assumption) rfl fun _ _=>?_|refine nw_h (by assumption) fun _ _ _=>?_|refine ldSA ?_|refine asT_e [] rfl rfl ?_|refine ldD (by assumption) ?_|refine nwD (by assumption) fun _ _ _=>?_)
    rename_i wz Hz
    replace H : Sh.Holds w0 (SD.hp :: [(k18, .cells #[I 12, I f, I 0, I id, I 0, I 0, I 0] 35 (0, 0))] :: (ra.hp 35 :: hs)) wz := Holds.re Hz
    clear Hz
    refine handle_c (S := SD) (m := aA f id) T H I5 gC.htt (fun rb SE w I6 c6 okb H => ?_)
    rw [ask_h] at I6 okb
    refine asSl_e rfl ?_
    replace H : Sh.Holds w0 (ra.hp 35 :: rb.hp 35 :: SE.hp :: hs) w := Holds.re H
    refine br_s (fun hid => ?_) (fun hid => ?_)
    · have hid : id ≠ 5 := by simpa using hid
      rw [askO hf hid] at okb
      refine br_f (by rw [one_n okb]; rfl) ?_
      refine rdM okb (fun g hg => ?_)
      refine ldR_h 1 H rfl okb hg (off := 0) (v := I 14) rfl ?_
      refine asI_h ?_
      refine br_f (by simp) ?_
      refine br_t (by rw [one_n oka]; rfl) ?_
      refine rdM oka (fun g hg => ?_)
      refine ldR_h 0 H rfl oka hg (off := 0) (v := I 13) rfl ?_
      refine asI_h ?_
      refine br_t (by simp) ?_
      refine rdM oka (fun g hg => ?_)
      refine ldR_h 0 H rfl oka hg (off := 2) (v := I f) rfl ?_
      refine asI_h ?_
      refine br_t (by simp) ?_
      refine rdM oka (fun g hg => ?_)
      refine ldR_h 0 H rfl oka hg (off := 3) (v := I 5) rfl ?_
      refine asI_h ?_
      refine br_t (by simp) ?_
      exact awk H
    · clear hid
      refine br_t (by rw [one_n oka]; rfl) ?_
      refine rdM oka (fun g hg => ?_)
      refine ldR_h 0 H rfl oka hg (off := 0) (v := I 13) rfl ?_
      refine asI_h ?_
      refine br_t (by simp) ?_
      refine rdM oka (fun g hg => ?_)
      refine ldR_h 0 H rfl oka hg (off := 2) (v := I f) rfl ?_
      refine asI_h ?_
      refine br_t (by simp) ?_
      refine rdM oka (fun g hg => ?_)
      refine ldR_h 0 H rfl oka hg (off := 3) (v := I 5) rfl ?_
      refine asI_h ?_
      refine br_t (by simp) ?_
      exact awk H
  · refine br_s (fun h => ?_) (fun h => ?_)
    · refine cancel_c (S := S2) (id := 5) T H I2 (fun r SA w IA c4 okr4 H => ?_)
      replace IA : ChIs SA PA A21 := IA
      refine asT_e [_, _] rfl rfl ?_
      refine asSl_e rfl ?_
      refine asI_e rfl ?_
      rw [show S2.v = SA.v by show Value.pointer _ = Value.pointer _; rw [c4.n]]
      replace H : Sh.Holds w0 (SA.hp :: [(k18, .cells #[I 12, I f, I 0, I 5, I 0, I 0, I 0] 35 (0, 0))] :: hs) w := Holds.re H
      refine crashCh_c (S := SA) H IA (fun SB m w h1 h2 h3 ID cB H => ?_)
      have hm : m = A21.sure := by
        have : cutI ((A21.es.length : Int) - A21.sure) 0 = 0 := by have := inv21.le; unfold cutI; (repeat' split) <;> omega
        rw [this] at h3; omega
      rw [hm, es21] at ID
      refine asT_e [] rfl rfl ?_
      rw [show SA.v = SB.v by show Value.pointer _ = Value.pointer _; rw [cB]]
      refine startCh_c (S := SB) E T H ID (fun SC w IC cC H => ?_)
      refine asT_e [] rfl rfl ?_
      rw [show SB.v = SC.v by show Value.pointer _ = Value.pointer _; rw [cC]]
      have gC : GoodO (startC PA (esA 7)).L := by have := (inv21.start PA (Nat.le_refl _) inv21.le).good; rwa [es21] at this
      replace H : Sh.Holds w0 (SC.hp :: [(k18, .cells #[I 12, I f, I 0, I 5, I 0, I 0, I 0] 35 (0, 0))] :: hs) w := Holds.re H
      (with_reducible repeat first|refine ldA (by assumption) ?_|refine Stp.imp ?_|refine stA (by assumption) rfl fun _ _=>?_|refine nw_h (by assumption) fun _ _ _=>?_|refine ldSA ?_|refine asT_e [] rfl rfl ?_|refine ldD (by assumption) ?_|refine nwD (by assumption) fun _ _ _=>?_)
      refine handle_c (S := SC) (m := aA f 5) T H IC gC.htt (fun ra SD w I5 c5 oka H => ?_)
      rw [ask_h] at I5 oka
      simp only [askN hf] at I5 oka
      refine asSl_e rfl ?_
      rw [show SC.v = SD.v by show Value.pointer _ = Value.pointer _; rw [c5.n]]
      replace H : Sh.Holds w0 (SD.hp :: [(k18, .cells #[I 12, I f, I 0, I 5, I 0, I 0, I 0] 35 (0, 0))] :: (ra.hp 35 :: hs)) w := Holds.re H
      (with_reducible repeat first|refine ldA (by assumption) ?_|refine Stp.imp ?_|refine stA (by assumption) rfl fun _ _=>?_|refine nw_h (by assumption) fun _ _ _=>?_|refine ldSA ?_|refine asT_e [] rfl rfl ?_|refine ldD (by assumption) ?_|refine nwD (by assumption) fun _ _ _=>?_)
      rename_i wz Hz
      replace H : Sh.Holds w0 (SD.hp :: [(k18, .cells #[I 12, I f, I 0, I id, I 0, I 0, I 0] 35 (0, 0))] :: (ra.hp 35 :: hs)) wz := Holds.re Hz
      clear Hz
      refine handle_c (S := SD) (m := aA f id) T H I5 gC.htt (fun rb SE w I6 c6 okb H => ?_)
      rw [ask_h] at I6 okb
      refine asSl_e rfl ?_
      replace H : Sh.Holds w0 (ra.hp 35 :: rb.hp 35 :: SE.hp :: hs) w := Holds.re H
      refine br_s (fun hid => ?_) (fun hid => ?_)
      · have hid : id ≠ 5 := by simpa using hid
        rw [askO hf hid] at okb
        refine br_f (by rw [one_n okb]; rfl) ?_
        refine rdM okb (fun g hg => ?_)
        refine ldR_h 1 H rfl okb hg (off := 0) (v := I 14) rfl ?_
        refine asI_h ?_
        refine br_f (by simp) ?_
        refine br_t (by rw [one_n oka]; rfl) ?_
        refine rdM oka (fun g hg => ?_)
        refine ldR_h 0 H rfl oka hg (off := 0) (v := I 14) rfl ?_
        refine asI_h ?_
        refine br_t (by simp) ?_
        refine rdM oka (fun g hg => ?_)
        refine ldR_h 0 H rfl oka hg (off := 2) (v := I f) rfl ?_
        refine asI_h ?_
        refine br_t (by simp) ?_
        refine rdM oka (fun g hg => ?_)
        refine ldR_h 0 H rfl oka hg (off := 3) (v := I 5) rfl ?_
        refine asI_h ?_
        refine br_t (by simp) ?_
        exact awk H
      · clear hid
        refine br_t (by rw [one_n oka]; rfl) ?_
        refine rdM oka (fun g hg => ?_)
        refine ldR_h 0 H rfl oka hg (off := 0) (v := I 14) rfl ?_
        refine asI_h ?_
        refine br_t (by simp) ?_
        refine rdM oka (fun g hg => ?_)
        refine ldR_h 0 H rfl oka hg (off := 2) (v := I f) rfl ?_
        refine asI_h ?_
        refine br_t (by simp) ?_
        refine rdM oka (fun g hg => ?_)
        refine ldR_h 0 H rfl oka hg (off := 3) (v := I 5) rfl ?_
        refine asI_h ?_
        refine br_t (by simp) ?_
        exact awk H
    · refine handle_c (S := S2) (m := ⟨8, 2, 0, 5, 0, 0, 0⟩) T H I2 inv1.good.htt (fun r SA w IA c4 okr4 H => ?_)
      replace IA : ChIs SA PA A22 := IA
      refine asSl_e rfl ?_
      rw [show S2.v = SA.v by show Value.pointer _ = Value.pointer _; rw [c4.n]]
      replace H : Sh.Holds w0 (SA.hp :: [(k18, .cells #[I 12, I f, I 0, I 5, I 0, I 0, I 0] 35 (0, 0))] :: hs) w := Holds.re H
      refine crashCh_c (S := SA) H IA (fun SB m w h1 h2 h3 ID cB H => ?_)
      have hm : m = A22.sure := by
        have : cutI ((A22.es.length : Int) - A22.sure) 0 = 0 := by have := inv22.le; unfold cutI; (repeat' split) <;> omega
        rw [this] at h3; omega
      rw [hm, es22] at ID
      refine asT_e [] rfl rfl ?_
      rw [show SA.v = SB.v by show Value.pointer _ = Value.pointer _; rw [cB]]
      refine startCh_c (S := SB) E T H ID (fun SC w IC cC H => ?_)
      refine asT_e [] rfl rfl ?_
      rw [show SB.v = SC.v by show Value.pointer _ = Value.pointer _; rw [cC]]
      have gC : GoodO (startC PA (esA 7)).L := by have := (inv22.start PA (Nat.le_refl _) inv22.le).good; rwa [es22] at this
      replace H : Sh.Holds w0 (SC.hp :: [(k18, .cells #[I 12, I f, I 0, I 5, I 0, I 0, I 0] 35 (0, 0))] :: hs) w := Holds.re H
      (with_reducible repeat first|refine ldA (by assumption) ?_|refine Stp.imp ?_|refine stA (by assumption) rfl fun _ _=>?_|refine nw_h (by assumption) fun _ _ _=>?_|refine ldSA ?_|refine asT_e [] rfl rfl ?_|refine ldD (by assumption) ?_|refine nwD (by assumption) fun _ _ _=>?_)
      refine handle_c (S := SC) (m := aA f 5) T H IC gC.htt (fun ra SD w I5 c5 oka H => ?_)
      rw [ask_h] at I5 oka
      simp only [askN hf] at I5 oka
      refine asSl_e rfl ?_
      rw [show SC.v = SD.v by show Value.pointer _ = Value.pointer _; rw [c5.n]]
      replace H : Sh.Holds w0 (SD.hp :: [(k18, .cells #[I 12, I f, I 0, I 5, I 0, I 0, I 0] 35 (0, 0))] :: (ra.hp 35 :: hs)) w := Holds.re H
      (with_reducible repeat first|refine ldA (by assumption) ?_|refine Stp.imp ?_|refine stA (by assumption) rfl fun _ _=>?_|refine nw_h (by assumption) fun _ _ _=>?_|refine ldSA ?_|refine asT_e [] rfl rfl ?_|refine ldD (by assumption) ?_|refine nwD (by assumption) fun _ _ _=>?_)
      rename_i wz Hz
      replace H : Sh.Holds w0 (SD.hp :: [(k18, .cells #[I 12, I f, I 0, I id, I 0, I 0, I 0] 35 (0, 0))] :: (ra.hp 35 :: hs)) wz := Holds.re Hz
      clear Hz
      refine handle_c (S := SD) (m := aA f id) T H I5 gC.htt (fun rb SE w I6 c6 okb H => ?_)
      rw [ask_h] at I6 okb
      refine asSl_e rfl ?_
      replace H : Sh.Holds w0 (ra.hp 35 :: rb.hp 35 :: SE.hp :: hs) w := Holds.re H
      refine br_s (fun hid => ?_) (fun hid => ?_)
      · have hid : id ≠ 5 := by simpa using hid
        rw [askO hf hid] at okb
        refine br_f (by rw [one_n okb]; rfl) ?_
        refine rdM okb (fun g hg => ?_)
        refine ldR_h 1 H rfl okb hg (off := 0) (v := I 14) rfl ?_
        refine asI_h ?_
        refine br_f (by simp) ?_
        refine br_t (by rw [one_n oka]; rfl) ?_
        refine rdM oka (fun g hg => ?_)
        refine ldR_h 0 H rfl oka hg (off := 0) (v := I 14) rfl ?_
        refine asI_h ?_
        refine br_t (by simp) ?_
        refine rdM oka (fun g hg => ?_)
        refine ldR_h 0 H rfl oka hg (off := 2) (v := I f) rfl ?_
        refine asI_h ?_
        refine br_t (by simp) ?_
        refine rdM oka (fun g hg => ?_)
        refine ldR_h 0 H rfl oka hg (off := 3) (v := I 5) rfl ?_
        refine asI_h ?_
        refine br_t (by simp) ?_
        exact awk H
      · clear hid
        refine br_t (by rw [one_n oka]; rfl) ?_
        refine rdM oka (fun g hg => ?_)
        refine ldR_h 0 H rfl oka hg (off := 0) (v := I 14) rfl ?_
        refine asI_h ?_
        refine br_t (by simp) ?_
        refine rdM oka (fun g hg => ?_)
        refine ldR_h 0 H rfl oka hg (off := 2) (v := I f) rfl ?_
        refine asI_h ?_
        refine br_t (by simp) ?_
        refine rdM oka (fun g hg => ?_)
        refine ldR_h 0 H rfl oka hg (off := 3) (v := I 5) rfl ?_
        refine asI_h ?_
        refine br_t (by simp) ?_
        exact awk H
end
end Go.Proofs.YtcfmnoimehcfnaaGreatDoor
