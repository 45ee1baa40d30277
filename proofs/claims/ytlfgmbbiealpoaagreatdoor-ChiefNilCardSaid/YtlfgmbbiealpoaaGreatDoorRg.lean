/- A range over a map, in the store. Conditions: none. -/
import Derived.Test.YtlfgmbbiealpoaaGreatDoorG
import Derived.Maps.RangeRun
set_option linter.unusedVariables false
namespace Go.Sh
open Go Go.RowKit Go.ChangeMaps
section
variable {P : Program} {w0 w : World} {hs : List Hp}
def itO (m since : Nat) (seen : Array Nat) (c : Nat) : Obj := .mapIter (some m) since seen c
theorem mrngG_h {t kt et : TypeId} (ht : P.underlying t = some (.map kt et)) (i : Nat) {m : Nat} {l : List TriG} {c : Nat} {K : KV} (H : Holds w0 hs w) (hi : hs[i]? = some [(m, mapG l c)])
    (hk : ∀ r w', Holds w0 ([(r, itO m c #[] c)] :: hs) w' → K (.pointer (some ⟨r, 0, none⟩)) w') : mrng .full P t (.map (some m)) K w :=
  ⟨_, _, run_range_map w t kt et m _ c ht (H.mem i hi), fun h => absurd rfl h, hk _ _ (H.alloc _)⟩
theorem mnxtG_h {ty : TypeId} (i : Nat) {r m since c0 : Nat} {seen : Array Nat} {l : List TriG} {c : Nat} {K : KV} (H : Holds w0 ([(r, itO m since seen c0)] :: hs) w) (hi : hs[i]? = some [(m, mapG l c)]) (hold : ∀ t ∈ l, t.2.2 < since) (hsc : since ≤ c0)
    (k0 : (∀ t ∈ l, seen.contains t.2.2 = true) → K (.tuple #[.bool false]) w)
    (k1 : ∀ t ∈ l, seen.contains t.2.2 = false → (leftOf (l.map entG).toArray (seen.push t.2.2)).size < (leftOf (l.map entG).toArray seen).size → ∀ w', Holds w0 ([(r, itO m since (seen.push t.2.2) c)] :: hs) w' → K (.tuple #[.bool true, .int .i64 t.1, t.2.1]) w') :
    mnxt .full P (.pointer (some ⟨r, 0, none⟩)) false ty K w := by
  have hr := H.mem 0 rfl
  have hb := H.mem (i + 1) (by simpa using hi)
  rcases run_next_at (P := P) w ty r m since c0 seen (l.map entG).toArray c hr hb (fun x hx => by
    obtain ⟨t, ht, rfl⟩ := List.mem_map.1 hx
    exact hold t ht) hsc with ⟨h0, hrun⟩ | ⟨e, he, w1, hw1, hrun⟩
  · refine ⟨_, _, hrun, fun h => absurd rfl h, k0 (fun t ht => ?_)⟩
    exact all_seen _ seen h0 (entG t) (List.mem_map_of_mem ht)
  · obtain ⟨h1, h2⟩ := mem_left he
    obtain ⟨t, ht, rfl⟩ := List.mem_map.1 h1
    refine ⟨_, _, hrun, fun h => absurd rfl h, k1 t ht h2 (left_shrinks _ seen (entG t) he) _ ?_⟩
    have H1 : Holds w0 ([(r, itO m since seen c0)] :: hs) w1 := by
      rcases hw1 with rfl | rfl
      · exact H
      · exact H.drew
    have hlt : r < w1.heap.size := lt_of_some (H1.mem 0 rfl)
    refine H1.put _ rfl rfl rfl (by simp [setBlock]) ?_ ?_
    · simp [setBlock, hlt, entG, itO]
    · intro j hj hne
      simp [setBlock, Ne.symm hne]
theorem mtryG_h {r m since : Nat} {seen : Array Nat} {l : List TriG} {c : Nat} {t : TriG} (i j : Nat) {K : KV} (H : Holds w0 hs w) (hj : hs[j]? = some [(r, itO m since (seen.push t.2.2) c)]) (hi : hs[i]? = some [(m, mapG l c)]) (ht : t ∈ l) (ok : GOk l c)
    (hk : K (.tuple #[.int .i64 t.1, t.2.1]) w) : mtry .full P (.pointer (some ⟨r, 0, none⟩)) K w := by
  refine ⟨_, _, run_entry_at w r m since seen (l.map entG).toArray c (entG t) (H.mem j hj) (H.mem i hi) (List.mem_map_of_mem ht) ?_, fun h => absurd rfl h, hk⟩
  have : ((l.map entG).toArray.toList.map (·.born)) = l.map (·.2.2) := by simp [entG]
  rw [this]; exact ok.stamps
/-- where a key lies -/
theorem getG_mem {l : List TriG} {k : Int} {v : Value} (h : getG l k = some v) : ∃ t ∈ l, t.1 = k ∧ t.2.1 = v := by
  induction l with
  | nil => simp [getG] at h
  | cons t r ih =>
    simp only [getG] at h
    split at h
    · rename_i e; cases h; exact ⟨t, List.mem_cons_self .., e.symm, rfl⟩
    · obtain ⟨u, hu, h1⟩ := ih h
      exact ⟨u, List.mem_cons_of_mem _ hu, h1⟩
theorem getG_of {l : List TriG} (hn : (l.map (·.1)).Nodup) {t : TriG} (ht : t ∈ l) : getG l t.1 = some t.2.1 := by
  induction l with
  | nil => simp at ht
  | cons u r ih =>
    simp only [List.map_cons, List.nodup_cons] at hn
    rcases List.mem_cons.1 ht with rfl | h
    · simp [getG]
    · have hne : t.1 ≠ u.1 := fun e => hn.1 (e ▸ List.mem_map_of_mem h)
      simp only [getG, if_neg hne]
      exact ih hn.2 h
end
def itL (l : List TriG) (r : Nat) (w : World) : Nat := match w.heap[r]? with | some (.mapIter _ _ seen _) => (leftOf (l.map entG).toArray seen).size | _ => 0
theorem itL_h {w0 w : World} {hs : List Hp} {l : List TriG} {r m since c : Nat} {seen : Array Nat} (H : Holds w0 ([(r, itO m since seen c)] :: hs) w) : itL l r w = (leftOf (l.map entG).toArray seen).size := by
  unfold itL; rw [H.mem 0 rfl]; rfl
end Go.Sh
