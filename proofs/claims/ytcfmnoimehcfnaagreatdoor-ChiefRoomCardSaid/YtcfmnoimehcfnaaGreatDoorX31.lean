/- ids of law22: at most n ids of a chief. Conditions: none. -/
import Derived.Test.YtcfmnoimehcfnaaGreatDoorX29
import Derived.Test.YtcfmnoimehcfnaaGreatDoorFN2
set_option linter.unusedVariables false
set_option linter.unusedSimpArgs false
set_option maxRecDepth 100000
namespace Go.Proofs.YtcfmnoimehcfnaaGreatDoor
open Go Go.Sh
section
variable {w0 w : World} {hs R : List Hp} {K : KV}
set_option maxHeartbeats 1000000 in
theorem idsL_c {S : Ch} {n : Int} (hn : 0 ≤ n) (H : Sh.Holds w0 hs w) [D : Del hs S.hp R] (ok : S.Ok)
    (k : ∀ (r : Row) w', r.Ok 1 (((idsC S.L).take n.toNat).map I) → Sh.Holds w0 (r.hp 3 :: S.hp :: R) w' → K r.v w') :
    gocall Tryz.prog 55 [S.v, I n] K w := by
  replace H := H.get S.hp
  apply F55_go; unfold F55
  refine nw_h H (fun k2 w H => ?_)
  refine nw_h H (fun k4 w H => ?_)
  refine IdsC_c (S := S) H ok (fun r k3 w okr H => ?_)
  refine ⟨false, .inr ⟨rfl, _, _, _, rfl⟩, ?_⟩
  refine br_f rfl ?_
  refine asFn_h ?_
  refine rfn_h H (fun D l Rt w hround H => ?_)
  have hlen2 : (idsC S.L).length ≤ 1000 := by
    have := List.length_filter_le (fun i => (S.L i).isSome) allI
    have h2 : allI.length = 1000 := by simp [allI]
    unfold idsC; omega
  obtain ⟨cell, hcell⟩ : ∃ cell : Row → LoopState → Option Code → List Hp, cell = fun q st pe => [(l, Rt st pe)] :: [(D, .deferred (some []))] :: [(k4, .cells #[q.v] 56 (0, 0))] :: q.hp 3 :: [(k2, .cells #[I n] 3 (0, 0))] :: S.hp :: R := ⟨_, rfl⟩
  obtain ⟨C, hC⟩ : ∃ C : Nat → List Hp → Prop, C = fun (q : Nat) (cs : List Hp) => ∃ (rr : Row), rr.Ok 1 (((idsC S.L).take q).map I) ∧ q ≤ n.toNat ∧ cs = cell rr .ready none := ⟨_, rfl⟩
  obtain ⟨Cx, hCx⟩ : ∃ Cx : List Hp → Prop, Cx = fun (cs : List Hp) => ∃ (rr : Row), rr.Ok 1 (((idsC S.L).take n.toNat).map I) ∧ cs = cell rr .done (some (.exit 0)) := ⟨_, rfl⟩
  have H0 : Sh.Holds w0 (cell Row.nil .ready none ++ [[(k3, .cells #[r.v] 56 (0, 0))], r.hp 3]) w := by
    rw [hcell]
    have H9 : Sh.Holds w0 ([(k3, .cells #[r.v] 56 (0, 0))] :: r.hp 3 :: ([(l, Rt .ready none)] :: [(D, .deferred (some []))] :: [(k4, .cells #[.slice none 0 0] 56 (0, 0))] :: [] :: [(k2, .cells #[I n] 3 (0, 0))] :: S.hp :: R)) w := Holds.re (Holds.nil H)
    exact Holds.swap (a := [[(k3, .cells #[r.v] 56 (0, 0))], r.hp 3]) H9
  refine vals_c (w0 := w0) (fr := [[(k3, .cells #[r.v] 56 (0, 0))], r.hp 3]) (cs0 := cell Row.nil .ready none) C Cx okr (by omega) 0 1 rfl rfl H0 ?_ ?_ (fun cs w hc H => ?_) (fun cs w hc H => ?_)
  · rw [hC]; exact ⟨Row.nil, by simpa using Row.nil_ok 1, by omega, rfl⟩
  · intro q id cs fr K' w hid hc H kt kf
    rw [hC] at hc
    obtain ⟨rr, okq, hq, rfl⟩ := hc
    rw [hcell] at H
    have hqi : q < (idsC S.L).length := (List.getElem?_eq_some_iff.1 hid).1
    have hrn : rr.n = q := by have := okq.len; simp at this; omega
    have htk : (idsC S.L).take (q + 1) = (idsC S.L).take q ++ [id] := by rw [List.take_add_one, hid]; rfl
    refine hround _ _ _ (H.mem 0 rfl) ?_
    refine asT_e [_] rfl rfl ?_
    refine asI_e rfl ?_
    refine rfb_h 0 H rfl (fun w H => ?_)
    refine ld_h 2 H rfl rfl ?_
    refine asSl_h ?_
    refine ld_h 4 H rfl rfl ?_
    refine asI_h ?_
    refine br_s (fun h => ?_) (fun h => ?_)
    · simp at h
      have hqn : q = n.toNat := by omega
      refine rfx_h 0 H rfl (fun w H => ?_)
      refine kf (cell rr .done (some (.exit 0))) w ?_ ?_
      · rw [hCx]; exact ⟨rr, by rw [← hqn]; exact okq, rfl⟩
      · rw [hcell]; exact H
    · simp at h
      refine ld_h 2 H rfl rfl ?_
      refine asSl_h ?_
      refine nw_h H (fun k71 w H => ?_)
      have H2 : Sh.Holds w0 (rr.hp 3 :: [(k71, .cells #[I id] 3 (0, 0))] :: [(l, Rt .busy none)] :: [(D, .deferred (some []))] :: [(k4, .cells #[rr.v] 56 (0, 0))] :: [(k2, .cells #[I n] 3 (0, 0))] :: S.hp :: (R ++ fr)) w := Holds.bring 4 H rfl
      refine bapp1_h (news := [I id]) el32 0 H2 rfl okq rfl (by simp [Value.oneCell']) (by omega) (by unfold maxLen; omega) (fun r' w hr1 hr2 H => ?_)
      refine asSl_h ?_
      refine stA H rfl (fun w H => ?_)
      refine rfy_h 2 H rfl (fun w H => ?_)
      refine kt (cell r' .ready none) w ?_ ?_
      · rw [hC]
        exact ⟨r', by rw [htk, List.map_append]; exact hr2, by omega, rfl⟩
      · rw [hcell]
        show Sh.Holds w0 ([(l, Rt .ready none)] :: [(D, .deferred (some []))] :: [(k4, .cells #[r'.v] 56 (0, 0))] :: r'.hp 3 :: [(k2, .cells #[I n] 3 (0, 0))] :: S.hp :: (R ++ fr)) w
        exact Holds.re (b := r'.hp 3 :: [(k71, .cells #[I id] 3 (0, 0))] :: [(l, Rt .ready none)] :: [(D, .deferred (some []))] :: [(k4, .cells #[r'.v] 56 (0, 0))] :: [(k2, .cells #[I n] 3 (0, 0))] :: S.hp :: (R ++ fr)) H
  · rw [hC] at hc
    obtain ⟨rr, okq, hq, rfl⟩ := hc
    rw [hcell] at H
    have hall : (idsC S.L).take n.toNat = (idsC S.L).take (idsC S.L).length := by rw [List.take_length, List.take_of_length_le hq]
    rw [← hall] at okq
    refine rfe_h 0 (st := .ready) (pe := none) (by simp) H rfl (fun w H => ?_)
    simp only [rfj]
    refine ld_h 2 H rfl rfl ?_
    refine asSl_h ?_
    refine dfr_h 1 H rfl (fun w H => ?_)
    refine k rr w okq ?_
    have H8 : Sh.Holds w0 (([(l, Rt .exhausted none)] :: [(D, .deferred none)] :: [(k4, .cells #[rr.v] 56 (0, 0))] :: rr.hp 3 :: [(k2, .cells #[I n] 3 (0, 0))] :: S.hp :: R) ++ [[(k3, .cells #[r.v] 56 (0, 0))], r.hp 3]) w := H
    have H9 := Holds.right (Holds.swap H8)
    exact Holds.re H9
  · rw [hCx] at hc
    obtain ⟨rr, okq, rfl⟩ := hc
    rw [hcell] at H
    refine rfe_h 0 (st := .done) (pe := some (.exit 0)) (by simp) H rfl (fun w H => ?_)
    simp only [rfj, lookJ]
    refine ld_h 2 H rfl rfl ?_
    refine asSl_h ?_
    refine dfr_h 1 H rfl (fun w H => ?_)
    refine k rr w okq ?_
    have H8 : Sh.Holds w0 (([(l, Rt .exhausted (some (.exit 0)))] :: [(D, .deferred none)] :: [(k4, .cells #[rr.v] 56 (0, 0))] :: rr.hp 3 :: [(k2, .cells #[I n] 3 (0, 0))] :: S.hp :: R) ++ [[(k3, .cells #[r.v] 56 (0, 0))], r.hp 3]) w := H
    have H9 := Holds.right (Holds.swap H8)
    exact Holds.re H9
end
end Go.Proofs.YtcfmnoimehcfnaaGreatDoor
