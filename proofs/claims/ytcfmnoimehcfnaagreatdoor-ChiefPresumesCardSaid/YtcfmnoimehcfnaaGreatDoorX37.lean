/- ChiefPresumes, walked. Conditions: none. -/
import Derived.Test.YtcfmnoimehcfnaaGreatDoorX35
import Derived.Test.YtcfmnoimehcfnaaGreatDoorX36
import Derived.Test.YtcfmnoimehcfnaaGreatDoorFN11
set_option linter.unusedVariables false
set_option linter.unusedSimpArgs false
set_option maxRecDepth 100000
namespace Go.Proofs.YtcfmnoimehcfnaaGreatDoor
open Go Go.Sh
theorem tmod3s (x : Int) : ∃ t : Int, IntKind.i64.wrap ((IntKind.u64.wrap x).tmod 3) = t ∧ 0 ≤ t ∧ t ≤ 2 := by
  refine ⟨_, rfl, ?_⟩
  have h0 : 0 ≤ IntKind.u64.wrap x := by unfold IntKind.wrap; simp; first | omega | (split <;> omega) | exact Int.emod_nonneg _ (by decide)
  have h1 : 0 ≤ (IntKind.u64.wrap x).tmod 3 ∧ (IntKind.u64.wrap x).tmod 3 < 3 := by
    rw [Int.tmod_eq_emod_of_nonneg h0]; omega
  have hin : IntKind.i64.wrap ((IntKind.u64.wrap x).tmod 3) = (IntKind.u64.wrap x).tmod 3 := wrap64 (by omega) (by omega)
  rw [hin]
  omega
section
variable {w0 w : World} {hs R : List Hp} {K : KV}
theorem two_n {r : Row} {a b : Mg} (ok : r.Ok 7 (mgs [a, b])) : r.n = 2 := by
  have h := ok.len
  have : (mgs [a, b]).length = 14 := by simp [mgs, Mg.len]
  omega
set_option maxHeartbeats 4000000 in
theorem chiefPresumes_c {o : Od} {x6 : Int} {p : Option Addr} {n c : Nat} (E : Errs w0) (T : Tab w0) (H : Sh.Holds w0 hs w) (hsl : Sl (Sh.Holds w0 hs) p n 2 (sps o.steps)) (hnc : n ≤ c) (k : ∀ w', Sh.Holds w0 hs w' → K (.bool true) w') : gocall Tryz.prog 11 [odV o (.slice p n c), I x6] K w := by
  have hn : n = o.steps.length := by have := hsl.len; rw [sps, flat_len Sp.len] at this; omega
  have awk : ∀ {A : List Hp} [Re hs A] {w : World}, Sh.Holds w0 A w → gocall Tryz.prog 16 [] (fun v w => asBoo v (fun b w => K (.bool b) w) w) w := fun {A} _ {w} H => awake22_c T (Holds.re H : Sh.Holds w0 hs w) (fun w H => asBoo_e rfl (k w H))
  apply F11_go; unfold F11
  refine nw_h H (fun k9 w H => ?_)
  replace H : Sh.Holds w0 ([(k9, .cells #[I o.id, I o.item, I o.qty, I o.client, I o.price, .slice p n c] 24 (0, 0))] :: hs) w := H
  have hsl' := hsl.mono fun w (H : Sh.Holds w0 ([(k9, .cells #[I o.id, I o.item, I o.qty, I o.client, I o.price, .slice p n c] 24 (0, 0))] :: hs) w) => H.tail
  (with_reducible repeat first|refine ldA (by assumption) ?_|refine Stp.imp ?_|refine stA (by assumption) rfl fun _ _=>?_|refine nw_h (by assumption) fun _ _ _=>?_|refine ldSA ?_|refine asT_e [] rfl rfl ?_|refine ldD (by assumption) ?_|refine nwD (by assumption) fun _ _ _=>?_)
  refine br_s (fun h => awk H) (fun h10 => ?_)
  have h00 : o.steps.length = 0 := by simp at h10; omega
  have h0 : o.steps = [] := List.eq_nil_of_length_eq_zero h00
  (with_reducible repeat first|refine ldA (by assumption) ?_|refine Stp.imp ?_|refine stA (by assumption) rfl fun _ _=>?_|refine nw_h (by assumption) fun _ _ _=>?_|refine ldSA ?_|refine asT_e [] rfl rfl ?_|refine ldD (by assumption) ?_|refine nwD (by assumption) fun _ _ _=>?_)
  refine mayR_c (o := o) H hsl' (by omega) hnc (fun b w hb H => ?_)
  refine asBoo_h ?_
  refine br_s (fun h => awk H) (fun h => ?_)
  have hm : mayOd o = true := hb (by simpa using h)
  refine ⟨by decide, ?_⟩
  obtain ⟨t, et, ht0, ht2⟩ := tmod3s x6
  rw [et]
  refine newC_c H (fun S w I0 H => ?_)
  have I0 : ChIs S PA CS.zero := I0
  refine asPtr_h ?_
  (with_reducible repeat first|refine ldA (by assumption) ?_|refine Stp.imp ?_|refine stA (by assumption) rfl fun _ _=>?_|refine nw_h (by assumption) fun _ _ _=>?_|refine ldSA ?_|refine asT_e [] rfl rfl ?_|refine ldD (by assumption) ?_|refine nwD (by assumption) fun _ _ _=>?_)
  obtain ⟨s1, eB, es1, su1, eL⟩ := begin2 hm h0
  have inv : CInv s1 := by have := CInv.zero.prims (begin_P PA CS.zero o); rwa [eB] at this
  refine begin_c (S := S) (o := o) T H I0 hsl' (by omega) (fun r S1 w I1 c1 okr H => ?_)
  rw [eB] at I1 okr ⊢
  simp only at I1 okr ⊢
  refine asT_e [_, _] rfl rfl ?_
  refine asSl_e rfl ?_
  refine asI_e rfl ?_
  refine br_f rfl ?_
  refine br_f (by rw [two_n okr]; rfl) ?_
  replace H : Sh.Holds w0 (S1.hp :: [(k9, .cells #[I o.id, I o.item, I o.qty, I o.client, I o.price, .slice p n c] 24 (0, 0))] :: hs) w := Holds.re H
  rw [show (.pointer (some ⟨S.n, 0, none⟩) : Value) = S1.v by show _ = Value.pointer _; rw [c1.n]]
  (with_reducible repeat first|refine ldA (by assumption) ?_|refine Stp.imp ?_|refine stA (by assumption) rfl fun _ _=>?_|refine nw_h (by assumption) fun _ _ _=>?_|refine ldSA ?_|refine asT_e [] rfl rfl ?_|refine ldD (by assumption) ?_|refine nwD (by assumption) fun _ _ _=>?_)
  refine stateC_c (S := S1) (id := o.id) H I1 (fun w H => ?_)
  have hst : stateC s1 o.id = 2 := by unfold stateC; rw [eL]; exact state2 hm h0
  rw [hst]
  refine asI_e rfl ?_
  refine br_f rfl ?_
  refine crashCh_c (S := S1) H I1 (fun SB m w h1 h2 h3 ID cB H => ?_)
  have hl1 := len1 h0
  have hle : s1.es.length = 2 := by rw [es1, List.length_append, hl1]; rfl
  rw [su1, hle] at h3
  rw [hle] at h2
  refine asT_e [] rfl rfl ?_
  rw [show S1.v = SB.v by show Value.pointer _ = Value.pointer _; rw [cB]]
  refine startCh_c (S := SB) E T H ID (fun SC w IC cC H => ?_)
  refine asT_e [] rfl rfl ?_
  rw [show SB.v = SC.v by show Value.pointer _ = Value.pointer _; rw [cC]]
  replace H : Sh.Holds w0 (SC.hp :: [(k9, .cells #[I o.id, I o.item, I o.qty, I o.client, I o.price, .slice p n c] 24 (0, 0))] :: hs) w := Holds.re H
  refine br_s (fun hs0 => ?_) (fun hs0 => ?_)
  · have htp : t > 0 := by simpa using hs0
    have hm2 : m = 2 := by unfold cutI at h3; (repeat' split at h3) <;> omega
    rw [hm2, es1, List.take_of_length_le (by rw [List.length_append, hl1]; simp)] at IC
    obtain ⟨s2, l, eR, eS, a, b, el, ek⟩ := against hm h0
    (with_reducible repeat first|refine ldA (by assumption) ?_|refine Stp.imp ?_|refine stA (by assumption) rfl fun _ _=>?_|refine nw_h (by assumption) fun _ _ _=>?_|refine ldSA ?_|refine asT_e [] rfl rfl ?_|refine ldD (by assumption) ?_|refine nwD (by assumption) fun _ _ _=>?_)
    refine ring_c (S := SC) (id := o.id) T H IC (fun ra SD w ID2 cD oka H => ?_)
    rw [eR] at ID2 oka
    simp only at ID2 oka
    rw [el] at oka
    refine asSl_e rfl ?_
    rw [show SC.v = SD.v by show Value.pointer _ = Value.pointer _; rw [cD.n]]
    replace H : Sh.Holds w0 (SD.hp :: [(k9, .cells #[I o.id, I o.item, I o.qty, I o.client, I o.price, .slice p n c] 24 (0, 0))] :: (ra.hp 35 :: hs)) w := Holds.re H
    (with_reducible repeat first|refine ldA (by assumption) ?_|refine Stp.imp ?_|refine stA (by assumption) rfl fun _ _=>?_|refine nw_h (by assumption) fun _ _ _=>?_|refine ldSA ?_|refine asT_e [] rfl rfl ?_|refine ldD (by assumption) ?_|refine nwD (by assumption) fun _ _ _=>?_)
    refine stateC_c (S := SD) (id := o.id) H ID2 (fun w H => ?_)
    rw [eS]
    refine asI_e rfl ?_
    refine br_t rfl ?_
    refine br_t (by rw [two_n oka]; rfl) ?_
    replace H : Sh.Holds w0 (ra.hp 35 :: SD.hp :: hs) w := Holds.re H
    refine slAt_h oka (by omega) (by have := two_n oka; omega) (fun g hg => ?_)
    refine ldR_h 0 H rfl oka hg (off := 0) (v := I a.kind) rfl ?_
    refine asI_h ?_
    refine br_t (by rw [ek]; rfl) ?_
    exact awk H
  · have htp : t = 0 := by simp at hs0; omega
    have hm2 : m = 1 := by unfold cutI at h3; (repeat' split at h3) <;> omega
    have etk : (beginEs o ++ [(⟨3, o.id, []⟩ : CE)]).take 1 = beginEs o := by rw [List.take_append_of_le_length (by rw [hl1]; omega), List.take_of_length_le (by rw [hl1]; omega)]
    rw [hm2, es1, etk] at IC
    obtain ⟨s2, eR, eS⟩ := again1 hm h0
    (with_reducible repeat first|refine ldA (by assumption) ?_|refine Stp.imp ?_|refine stA (by assumption) rfl fun _ _=>?_|refine nw_h (by assumption) fun _ _ _=>?_|refine ldSA ?_|refine asT_e [] rfl rfl ?_|refine ldD (by assumption) ?_|refine nwD (by assumption) fun _ _ _=>?_)
    refine ring_c (S := SC) (id := o.id) T H IC (fun ra SD w ID2 cD oka H => ?_)
    rw [eR] at ID2 oka
    simp only at ID2 oka
    refine asSl_e rfl ?_
    rw [show SC.v = SD.v by show Value.pointer _ = Value.pointer _; rw [cD.n]]
    replace H : Sh.Holds w0 (ra.hp 35 :: SD.hp :: [(k9, .cells #[I o.id, I o.item, I o.qty, I o.client, I o.price, .slice p n c] 24 (0, 0))] :: hs) w := Holds.re H
    refine br_t (by rw [two_n oka]; rfl) ?_
    refine slAt_h oka (by omega) (by have := two_n oka; omega) (fun g hg => ?_)
    refine ldR_h 0 H rfl oka hg (off := 0) (v := I 6) rfl ?_
    refine asI_h ?_
    refine br_t rfl ?_
    replace H : Sh.Holds w0 (SD.hp :: [(k9, .cells #[I o.id, I o.item, I o.qty, I o.client, I o.price, .slice p n c] 24 (0, 0))] :: (ra.hp 35 :: hs)) w := Holds.re H
    (with_reducible repeat first|refine ldA (by assumption) ?_|refine Stp.imp ?_|refine stA (by assumption) rfl fun _ _=>?_|refine nw_h (by assumption) fun _ _ _=>?_|refine ldSA ?_|refine asT_e [] rfl rfl ?_|refine ldD (by assumption) ?_|refine nwD (by assumption) fun _ _ _=>?_)
    refine stateC_c (S := SD) (id := o.id) H ID2 (fun w H => ?_)
    rw [eS]
    refine asI_e rfl ?_
    refine br_t rfl ?_
    exact awk H
end
end Go.Proofs.YtcfmnoimehcfnaaGreatDoor
