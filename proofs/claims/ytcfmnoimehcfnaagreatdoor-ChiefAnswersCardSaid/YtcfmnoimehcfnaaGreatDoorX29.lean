/- The chief: its ids, and a start. Conditions: none. -/
import Derived.Test.YtcfmnoimehcfnaaGreatDoorX28
import Derived.Test.YtcfmnoimehcfnaaGreatDoorS2
set_option linter.unusedVariables false
set_option linter.unusedSimpArgs false
set_option maxRecDepth 100000
namespace Go.Proofs.YtcfmnoimehcfnaaGreatDoor
open Go Go.Sh

theorem getG_mem : ∀ {l : List TriG} {x : Int}, (getG l x).isSome = true ↔ x ∈ l.map (·.1)
  | [], x => by simp [getG]
  | t :: r, x => by
    unfold getG
    by_cases h : x = t.1
    · simp [h]
    · rw [if_neg h, getG_mem]
      simp [h]
theorem keys_iff {S : Ch} (ok : S.Ok) (x : Int) : x ∈ S.l.map (·.1) ↔ (S.L x).isSome = true := by
  rw [← getG_mem, ok.g]
  unfold Ch.L
  cases findX S.X x <;> simp
theorem keys_in {S : Ch} (ok : S.Ok) {x : Int} (h : x ∈ S.l.map (·.1)) : x ∈ allI := by
  have h1 := (keys_iff ok x).1 h
  have h2 := ok.r x (by unfold Ch.L at h1; simpa using h1)
  unfold allI
  refine List.mem_map.2 ⟨x.toNat, ?_, ?_⟩
  · simp only [List.mem_range]; omega
  · omega
theorem allI_sorted : allI.Pairwise (fun a b => a ≤ b) := by
  unfold allI
  rw [List.pairwise_map]
  exact (List.pairwise_lt_range).imp (fun h => by omega)
theorem srt_ids {S : Ch} (ok : S.Ok) : srt (S.l.map (·.1)) = idsC S.L := by
  unfold srt
  refine List.Perm.eq_of_pairwise (le := fun a b => a ≤ b) (fun a b _ _ h1 h2 => Int.le_antisymm h1 h2) ?_ ?_ ((List.mergeSort_perm _ _).trans ?_)
  · exact (List.pairwise_mergeSort (fun a b c h1 h2 => by simp at *; omega) (fun a b => by simp; omega) _).imp (fun h => by simpa using h)
  · exact allI_sorted.filter _
  · unfold idsC
    rw [List.perm_ext_iff_of_nodup ok.m.keys (allI_nodup.filter _)]
    intro x
    rw [List.mem_filter]
    exact ⟨fun h => ⟨keys_in ok h, (keys_iff ok x).1 h⟩, fun h => (keys_iff ok x).2 h.2⟩
section
variable {w0 w : World} {hs R : List Hp} {K : KV}
theorem IdsC_c {S : Ch} (H : Sh.Holds w0 hs w) [D : Del hs S.hp R] (ok : S.Ok)
    (k : ∀ (r : Row) (k3 : Nat) w', r.Ok 1 ((idsC S.L).map I) → Sh.Holds w0 ([(k3, .cells #[r.v] 56 (0, 0))] :: r.hp 3 :: S.hp :: R) w' → K (.func (.func 288) #[] #[pk k3]) w') :
    gocall Tryz.prog 142 [S.v] K w := by
  replace H := H.get S.hp
  apply F142_go; unfold F142
  refine br_f rfl ?_
  refine nn_h ?_
  replace H := openC H
  refine ldA H ?_
  refine asMap_h ?_
  apply F233_go; unfold F233
  refine nw_h H (fun kb w H => ?_)
  have hl : S.l.length < 100000 := by
    have := ok.m.keys.length_le_of_subset (l₂ := allI) (fun x hx => keys_in ok hx)
    rw [List.length_map] at this
    have h2 : allI.length = 1000 := by simp [allI]
    omega
  refine sorted_c ok.m hl 0 3 rfl rfl H (fun r w ok1 H => ?_)
  rw [srt_ids ok] at ok1
  refine asSl_h ?_
  apply F231_go; unfold F231
  refine nw_h H (fun k3 w H => ?_)
  refine k r k3 w ok1 ?_
  have H2 : Sh.Holds w0 ([(S.n, .cells #[I S.most, I S.room, I S.tr, S.J.v, I S.used, .map (some S.m), S.T.v] 136 (0, 0))] :: S.J.hp :: [(S.m, mapG S.l S.c)] :: S.T.hp :: ledsH S.X :: [(k3, .cells #[r.v] 56 (0, 0))] :: r.hp 3 :: R) w := Holds.re H
  have H3 := shutC H2
  exact Holds.re H3
/-- slices.Values, gone through: each element in turn, until the round says no -/
theorem vals_c {cs0 fr : List Hp} {y k3 : Nat} {r : Row} {xs : List Int} (C : Nat → List Hp → Prop) (Cx : List Hp → Prop) (ok : r.Ok 1 (xs.map I)) (hx : xs.length < 1000000) (i j : Nat) (hi : fr[i]? = some [(k3, .cells #[r.v] 56 (0, 0))]) (hj : fr[j]? = some (r.hp 3))
    (H : Sh.Holds w0 (cs0 ++ fr) w) (h0 : C 0 cs0)
    (hy : ∀ (q : Nat) (x : Int) (cs fr : List Hp) (K' : KV) (w : World), xs[q]? = some x → C q cs → Sh.Holds w0 (cs ++ fr) w → (∀ cs' w', C (q + 1) cs' → Sh.Holds w0 (cs' ++ fr) w' → K' (.bool true) w') → (∀ cs' w', Cx cs' → Sh.Holds w0 (cs' ++ fr) w' → K' (.bool false) w') → goyield Tryz.prog y [I x] K' w)
    (k : ∀ cs' w', C xs.length cs' → Sh.Holds w0 (cs' ++ fr) w' → K (.tuple #[]) w')
    (kx : ∀ cs' w', Cx cs' → Sh.Holds w0 (cs' ++ fr) w' → K (.tuple #[]) w') : gocall Tryz.prog 288 [yv y, .pointer (some ⟨k3, 0, none⟩)] K w := by
  have frI : ∀ {cs : List Hp} (q : Nat) (c : Hp), fr[q]? = some c → (cs ++ fr)[cs.length + q]? = some c := fun {cs} q c h => by
    rw [List.getElem?_append_right (by omega), show cs.length + q - cs.length = q by omega]; exact h
  have hn : r.n = xs.length := by have := ok.len; simp at this; omega
  apply F288_go; unfold F288
  refine ld_h (cs0.length + i) H (frI i _ hi) rfl ?_
  refine asSl_h ?_
  refine ⟨fun z w => ∃ (q : Nat) (cs : List Hp), z.1 = q ∧ q ≤ xs.length ∧ C q cs ∧ Sh.Holds w0 (cs ++ fr) w, fun z _ => xs.length - z.1.toNat, ⟨0, cs0, rfl, by omega, h0, H⟩, ?_⟩
  clear H
  rintro ⟨z, u⟩ w ⟨q, cs, hz, hq, hC, H⟩
  simp only at hz
  subst hz
  refine br_s (fun h => ?_) (fun h => ?_)
  · simp at h
    have hlt : q < xs.length := by omega
    refine slAt_h ok (by simp only; omega) (by simp only; omega) (fun g hg => ?_)
    have hat : xs[q]? = some xs[q] := List.getElem?_eq_getElem hlt
    obtain ⟨h1, h2, h3, h4⟩ := ok.yes g hg
    have hrow : r.hp 3 = [(g, .cells r.cur 3 (0, 0))] := by simp [Row.hp, hg]
    refine ld_h (v := I xs[q]) (cs.length + j) H (frI j _ (hj.trans (by rw [hrow]))) ?_ ?_
    · rw [← Array.getElem?_toList]
      have : (r.cur.toList.take (r.n * 1))[q]? = some (I xs[q]) := by rw [h4, List.getElem?_map, hat]; rfl
      rw [List.getElem?_take] at this
      split at this
      · simpa using this
      · cases this
    refine asI_h ?_
    refine hy q xs[q] cs fr _ w hat hC H (fun cs' w' hC' H' => ?_) (fun cs' w' hC' H' => ?_)
    · refine asBoo_h ?_
      refine br_f rfl ?_
      have hw : IntKind.wrap .i64 ((q : Int) + 1) = q + 1 := wrap64 (by omega) (by omega)
      refine ⟨⟨q + 1, cs', by simp only [hw]; omega, by omega, hC', H'⟩, ?_⟩
      simp only [hw]; omega
    · refine asBoo_h ?_
      refine br_t rfl ?_
      exact kx cs' w' hC' H'
  · simp at h
    have : q = xs.length := by omega
    subst this
    exact k cs w hC H
end
end Go.Proofs.YtcfmnoimehcfnaaGreatDoor
