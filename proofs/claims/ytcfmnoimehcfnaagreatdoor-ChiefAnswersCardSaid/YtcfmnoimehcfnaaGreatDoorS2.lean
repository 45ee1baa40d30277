/- slices.Collect and slices.Sorted over maps.Keys. Conditions: none. -/
import Derived.Test.YtcfmnoimehcfnaaGreatDoorS1
set_option linter.unusedVariables false
set_option linter.unusedSimpArgs false
set_option maxRecDepth 100000
namespace Go.Proofs.YtcfmnoimehcfnaaGreatDoor
open Go Go.Sh
section
variable {w0 w : World} {fr : List Hp} {K : KV}
theorem collect_c {kb m c : Nat} {l : List TriG} (ok : GOk l c) (hl : l.length < 100000) (i j : Nat) (hi : fr[i]? = some [(kb, .cells #[.map (some m)] 133 (0, 0))]) (hj : fr[j]? = some [(m, mapG l c)])
    (H : Sh.Holds w0 fr w) (k : ∀ (r : Row) (ks : List Int) w', ks.Perm (l.map (·.1)) → r.Ok 1 (ks.map I) → Sh.Holds w0 (r.hp 3 :: fr) w' → K r.v w') :
    gocall Tryz.prog 289 [.func (.func 291) #[] #[.pointer (some ⟨kb, 0, none⟩)]] K w := by
  apply F289_go; unfold F289
  apply F310_go; unfold F310
  refine nw_h H (fun k5 w H => ?_)
  refine asFn_h ?_
  refine rfn_h H (fun D q Rt w hround H => ?_)
  obtain ⟨cell, hcell⟩ : ∃ cell : Row → LoopState → List Hp, cell = fun r s => [(q, Rt s none)] :: [(D, .deferred (some []))] :: [(k5, .cells #[r.v] 56 (0, 0))] :: [r.hp 3] := ⟨_, rfl⟩
  obtain ⟨C, hC⟩ : ∃ C : List Int → List Hp → Prop, C = fun ks cs => ∃ r : Row, r.Ok 1 (ks.map I) ∧ ks.Nodup ∧ (∀ x ∈ ks, x ∈ l.map (·.1)) ∧ cs = cell r .ready := ⟨_, rfl⟩
  refine keys_c (cs0 := cell Row.nil .ready) (fr := fr) C ok i j hi hj (by rw [hcell]; exact Holds.perm (a := [] :: [(q, Rt .ready none)] :: [(D, .deferred (some []))] :: [(k5, .cells #[.slice none 0 0] 56 (0, 0))] :: fr) (by simp [Row.hp, Row.nil, Row.v, Row.p]) H.nil) (by rw [hC]; exact ⟨Row.nil, ⟨rfl, fun _ => ⟨rfl, rfl⟩, fun g hg => by cases hg⟩, by simp, by simp, rfl⟩) ?_ ?_
  · intro ks x cs fr K' w hc hx hex H kt
    rw [hC] at hc
    obtain ⟨r, ok1, nd, sub, rfl⟩ := hc
    rw [hcell] at H
    have hlen := nd.length_le_of_subset sub
    have hn : r.n = ks.length := by have := ok1.len; simp at this; omega
    rw [List.length_map] at hlen
    refine hround _ _ _ (H.mem 0 rfl) ?_
    refine asT_e [_] rfl rfl ?_
    refine asI_e rfl ?_
    refine rfb_h 0 H rfl (fun w H => ?_)
    refine ld_h 2 H rfl rfl ?_
    refine asSl_h ?_
    refine nw_h H (fun k44 w H => ?_)
    have H2 : Sh.Holds w0 (r.hp 3 :: [(k44, .cells #[I x] 3 (0, 0))] :: [(q, Rt .busy none)] :: [(D, .deferred (some []))] :: [(k5, .cells #[r.v] 56 (0, 0))] :: fr) w := Holds.bring 4 H rfl
    refine bapp1_h (news := [I x]) el32 0 H2 rfl ok1 rfl (by simp [Value.oneCell']) (by omega) (by unfold maxLen; omega) (fun r' w hr1 hr2 H => ?_)
    refine asSl_h ?_
    refine stA H rfl (fun w H => ?_)
    refine rfy_h 2 H rfl (fun w H => ?_)
    refine kt (cell r' .ready) w ?_ ?_
    · rw [hC]
      refine ⟨r', by simpa using hr2, ?_, ?_, rfl⟩
      · rw [List.nodup_append]
        refine ⟨nd, by simp, fun a ha b hb => ?_⟩
        simp only [List.mem_singleton] at hb
        subst hb
        exact fun e => hx (e ▸ ha)
      · intro y hy
        rcases List.mem_append.1 hy with hy | hy
        · exact sub y hy
        · simp only [List.mem_singleton] at hy
          subst hy
          obtain ⟨t, ht, e⟩ := hex
          exact List.mem_map.2 ⟨t, ht, e⟩
    · rw [hcell]
      show Sh.Holds w0 ([(q, Rt .ready none)] :: [(D, .deferred (some []))] :: [(k5, .cells #[r'.v] 56 (0, 0))] :: r'.hp 3 :: fr) w
      exact Holds.re (b := r'.hp 3 :: [(k44, .cells #[I x] 3 (0, 0))] :: [(q, Rt .ready none)] :: [(D, .deferred (some []))] :: [(k5, .cells #[r'.v] 56 (0, 0))] :: fr) H
  · intro ks cs w hp hc H
    rw [hC] at hc
    obtain ⟨r, ok1, nd, sub, rfl⟩ := hc
    rw [hcell] at H
    refine rfe_h 0 (st := .ready) (pe := none) (by simp) H rfl (fun w H => ?_)
    unfold rfj
    simp only
    refine ld_h 2 H rfl rfl ?_
    refine asSl_h ?_
    refine dfr_h 1 H rfl (fun w H => ?_)
    refine asSl_h ?_
    exact k r ks w hp ok1 H.tail.tail.tail
theorem sorted_c {kb m c : Nat} {l : List TriG} (ok : GOk l c) (hl : l.length < 100000) (i j : Nat) (hi : fr[i]? = some [(kb, .cells #[.map (some m)] 133 (0, 0))]) (hj : fr[j]? = some [(m, mapG l c)])
    (H : Sh.Holds w0 fr w) (k : ∀ (r : Row) w', r.Ok 1 ((srt (l.map (·.1))).map I) → Sh.Holds w0 (r.hp 3 :: fr) w' → K r.v w') :
    gocall Tryz.prog 232 [.func (.func 291) #[] #[.pointer (some ⟨kb, 0, none⟩)]] K w := by
  apply F232_go; unfold F232
  refine collect_c ok hl i j hi hj H (fun r ks w hp ok1 H => ?_)
  refine asSl_h ?_
  have hle : ks.length < 1000000 := by rw [hp.length_eq, List.length_map]; omega
  refine sort_c H ok1 hle (fun r' w e1 e2 ok2 H => ?_)
  refine asT_e [] rfl rfl ?_
  have hs : srt ks = srt (l.map (·.1)) := by
    unfold srt
    refine List.Perm.eq_of_pairwise (le := fun a b => a ≤ b) (fun a b _ _ h1 h2 => Int.le_antisymm h1 h2) ?_ ?_ ((List.mergeSort_perm _ _).trans (hp.trans (List.mergeSort_perm _ _).symm))
    · exact (List.pairwise_mergeSort (fun a b c h1 h2 => by simp at *; omega) (fun a b => by simp; omega) ks).imp (fun h => by simpa using h)
    · exact (List.pairwise_mergeSort (fun a b c h1 h2 => by simp at *; omega) (fun a b => by simp; omega) _).imp (fun h => by simpa using h)
  have e3 : Value.slice r.p r.n r.c = r'.v := e1.symm
  rw [e3]
  exact k r' w (hs ▸ ok2) H
end
end Go.Proofs.YtcfmnoimehcfnaaGreatDoor
