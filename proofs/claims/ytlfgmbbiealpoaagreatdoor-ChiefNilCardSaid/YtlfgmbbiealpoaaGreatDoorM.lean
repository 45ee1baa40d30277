/- Maps from integers to integers in the store: look-up, update, entry, deletion. Conditions: none. -/
import Derived.Test.YtlfgmbbiealpoaaGreatDoorHp
import Derived.MapKept
set_option linter.unusedVariables false
namespace Go.Sh
open Go Go.RowKit Go.MapKept

abbrev Tri := Int × Int × Nat
def entM (t : Tri) : MapEntry := ⟨.int .i64 t.1, .int .i64 t.2.1, t.2.2⟩
def mapO (l : List Tri) (c : Nat) : Obj := .map (l.map entM).toArray c
structure MOk (l : List Tri) (c : Nat) : Prop where
  keys : (l.map (·.1)).Nodup
  born : ∀ t ∈ l, t.2.2 < c
  stamps : (l.map (·.2.2)).Nodup
theorem MOk.nil (c : Nat) : MOk [] c := ⟨by simp, by simp, by simp⟩
def getM : List Tri → Int → Option Int
  | [], _ => none
  | t :: r, k => if k = t.1 then some t.2.1 else getM r k
structure MapTy (P : Program) (t : TypeId) : Prop where
  all : ∃ kt et, P.underlying t = some (.map kt et) ∧ P.underlying kt = some (.int .i64) ∧ (∀ w, (zeroValue et).run P w = .ok (.int .i64 0) w)
def fnd : List Tri → Int → Nat → Option (Nat × Value)
  | [], _, _ => none
  | t :: r, k, i => if k = t.1 then some (i, .int .i64 t.2.1) else fnd r k (i + 1)
theorem findNow_map (k : Int) : ∀ (l : List Tri) (i : Nat), Instr.findNow (.int .i64) (.int .i64 k) (l.map entM) i = some (fnd l k i)
  | [], i => rfl
  | t :: r, i => by
    simp only [List.map_cons, Instr.findNow, entM, Instr.sameNow, if_true, fnd]
    by_cases h : k = t.1
    · simp [h]
    · have : (k == t.1) = false := by simp [h]
      simp only [this, h, if_false]
      exact findNow_map k r (i + 1)
/-- what is found -/
theorem fnd_none {k : Int} : ∀ {l : List Tri} {i : Nat}, fnd l k i = none → getM l k = none ∧ ∀ t ∈ l, t.1 ≠ k
  | [], i, h => by simp [getM]
  | t :: r, i, h => by
    simp only [fnd] at h
    split at h
    · cases h
    · rename_i hk
      have := fnd_none h
      simp only [getM, hk, if_false]
      exact ⟨this.1, fun u hu => by rcases List.mem_cons.1 hu with rfl | hu; · exact fun e => hk e.symm
                                    · exact this.2 u hu⟩
def updL (k v : Int) : List Tri → List Tri
  | [] => []
  | t :: r => if k = t.1 then (k, v, t.2.2) :: r else t :: updL k v r
def delL (k : Int) : List Tri → List Tri
  | [] => []
  | t :: r => if k = t.1 then r else t :: delL k r
theorem fnd_some {k : Int} : ∀ {l : List Tri} {i : Nat} {x : Nat × Value}, fnd l k i = some x → ∃ (j : Nat) (t : Tri), l[j]? = some t ∧ t.1 = k ∧ x = (i + j, .int .i64 t.2.1) ∧ getM l k = some t.2.1 ∧
    (∀ v b, b = t.2.2 → l.set j (k, v, b) = updL k v l) ∧ l.eraseIdx j = delL k l
  | [], i, x, h => by simp [fnd] at h
  | t :: r, i, x, h => by
    simp only [fnd] at h
    split at h
    · rename_i hk
      cases h
      exact ⟨0, t, rfl, hk.symm, rfl, by simp [getM, hk], fun v b hb => by simp [updL, hk, hb], by simp [delL, hk]⟩
    · rename_i hk
      obtain ⟨j, u, h1, h2, h3, h4, h5, h6⟩ := fnd_some h
      refine ⟨j + 1, u, by simpa using h1, h2, by rw [h3]; simp; omega, by simp [getM, hk, h4], fun v b hb => by simp [updL, hk, h5 v b hb], by simp [delL, hk, h6]⟩
theorem getM_upd {k v x : Int} : ∀ {l : List Tri}, getM (updL k v l) x = if x = k then (getM l k).map (fun _ => v) else getM l x
  | [] => by simp [updL, getM]
  | t :: r => by
    simp only [updL]
    by_cases hk : k = t.1
    · rw [if_pos hk]
      by_cases hx : x = k
      · simp [getM, hx, hk]
      · have : x ≠ t.1 := fun e => hx (e.trans hk.symm)
        simp [getM, hx, this]
    · rw [if_neg hk]
      simp only [getM]
      by_cases hx : x = t.1
      · have : x ≠ k := fun e => hk (e.symm.trans hx)
        simp only [hx, if_true]
        rw [if_neg (fun e => hk e.symm)]
      · simp only [hx, if_false, hk]
        exact getM_upd
theorem updL_keys (k v : Int) : ∀ (l : List Tri), (updL k v l).map (·.1) = l.map (·.1)
  | [] => rfl
  | t :: r => by
    simp only [updL]
    split
    · rename_i h; simp [h]
    · simp [updL_keys k v r]
theorem updL_born (k v : Int) : ∀ (l : List Tri), (updL k v l).map (·.2.2) = l.map (·.2.2)
  | [] => rfl
  | t :: r => by
    simp only [updL]
    split
    · simp
    · simp [updL_born k v r]
theorem born_of_map {l m : List Tri} (h : l.map (·.2.2) = m.map (·.2.2)) {c : Nat} (hb : ∀ t ∈ m, t.2.2 < c) : ∀ t ∈ l, t.2.2 < c := fun t ht => by
  have : t.2.2 ∈ m.map (·.2.2) := h ▸ List.mem_map_of_mem ht
  obtain ⟨u, hu, e⟩ := List.mem_map.1 this
  rw [← e]; exact hb u hu
theorem MOk.upd {l : List Tri} {c : Nat} (ok : MOk l c) (k v : Int) : MOk (updL k v l) c :=
  ⟨by rw [updL_keys]; exact ok.keys, born_of_map (updL_born k v l) ok.born, by rw [updL_born]; exact ok.stamps⟩
theorem getM_app {k v x : Int} {b : Nat} : ∀ {l : List Tri}, getM l k = none → getM (l ++ [(k, v, b)]) x = if x = k then some v else getM l x
  | [], _ => by simp [getM]
  | t :: r, h => by
    simp only [getM] at h
    split at h
    · cases h
    · rename_i hk
      simp only [List.cons_append, getM]
      by_cases hx : x = t.1
      · have : x ≠ k := fun e => hk (e.symm.trans hx)
        simp only [hx, if_true]
        rw [if_neg (fun e => hk e.symm)]
      · simp only [hx, if_false]
        exact getM_app h
theorem MOk.app {l : List Tri} {c : Nat} (ok : MOk l c) {k v : Int} (h : ∀ t ∈ l, t.1 ≠ k) : MOk (l ++ [(k, v, c)]) (c + 1) := by
  refine ⟨?_, ?_, ?_⟩
  · rw [List.map_append, List.nodup_append]
    refine ⟨ok.keys, by simp, fun a ha b hb => ?_⟩
    obtain ⟨t, ht, rfl⟩ := List.mem_map.1 ha
    simp at hb
    rw [hb]; exact h t ht
  · intro t ht
    rcases List.mem_append.1 ht with ht | ht
    · have := ok.born t ht; omega
    · simp at ht; subst ht; simp
  · rw [List.map_append, List.nodup_append]
    refine ⟨ok.stamps, by simp, fun a ha b hb => ?_⟩
    obtain ⟨t, ht, rfl⟩ := List.mem_map.1 ha
    simp at hb
    have := ok.born t ht; omega
theorem delL_sub (k : Int) : ∀ (l : List Tri), (delL k l).Sublist l
  | [] => List.Sublist.refl _
  | t :: r => by
    simp only [delL]
    split
    · exact List.sublist_cons_self _ _
    · exact (delL_sub k r).cons_cons t
theorem MOk.del {l : List Tri} {c : Nat} (ok : MOk l c) (k : Int) : MOk (delL k l) c :=
  ⟨ok.keys.sublist ((delL_sub k l).map _), fun t ht => ok.born t ((delL_sub k l).subset ht), ok.stamps.sublist ((delL_sub k l).map _)⟩
theorem getM_none {k : Int} : ∀ {l : List Tri}, (∀ t ∈ l, t.1 ≠ k) → getM l k = none
  | [], _ => rfl
  | t :: r, h => by
    have h1 := h t (by simp)
    simp only [getM]
    rw [if_neg (fun e => h1 e.symm)]
    exact getM_none (fun u hu => h u (by simp [hu]))
theorem getM_del {k x : Int} : ∀ {l : List Tri}, (l.map (·.1)).Nodup → getM (delL k l) x = if x = k then none else getM l x
  | [], _ => by simp [delL, getM]
  | t :: r, h => by
    simp only [List.map_cons, List.nodup_cons] at h
    simp only [delL]
    by_cases hk : k = t.1
    · rw [if_pos hk]
      by_cases hx : x = k
      · rw [if_pos hx]
        refine getM_none (fun u hu e => h.1 ?_)
        rw [← hk, ← hx, ← e]
        exact List.mem_map_of_mem hu
      · rw [if_neg hx]
        simp only [getM]
        rw [if_neg (fun e => hx (e.trans hk.symm))]
    · rw [if_neg hk]
      simp only [getM]
      by_cases hx : x = t.1
      · rw [if_pos hx, if_neg (fun e => hk (e.symm.trans hx)), if_pos hx]
      · rw [if_neg hx, if_neg hx]
        exact getM_del h.2

/-! ### the sum of the values -/
def sumM (l : List Tri) : Int := (l.map (·.2.1)).sum
theorem sumM_del {k : Int} : ∀ {l : List Tri}, sumM (delL k l) = sumM l - (getM l k).getD 0
  | [] => by simp [delL, getM, sumM]
  | t :: r => by
    simp only [delL, getM]
    split
    · simp [sumM]; omega
    · have := sumM_del (k := k) (l := r)
      simp only [sumM, List.map_cons, List.sum_cons] at this ⊢
      omega
theorem getM_head {k : Int} : ∀ {l : List Tri}, k ∉ l.map (·.1) → getM l k = none
  | [], _ => rfl
  | t :: r, h => by
    simp only [List.map_cons, List.mem_cons, not_or] at h
    simp only [getM, if_neg h.1]
    exact getM_head h.2
theorem sumM_ext : ∀ {l l' : List Tri}, (l.map (·.1)).Nodup → (l'.map (·.1)).Nodup → (∀ x, getM l x = getM l' x) → sumM l = sumM l'
  | [], [], _, _, _ => rfl
  | [], t :: r, _, _, h => by have := h t.1; simp [getM] at this
  | t :: r, l', h1, h2, h => by
    simp only [List.map_cons, List.nodup_cons] at h1
    have hd := sumM_del (k := t.1) (l := l')
    have ht : getM l' t.1 = some t.2.1 := by rw [← h]; simp [getM]
    have e := sumM_ext (l := r) (l' := delL t.1 l') h1.2 (h2.sublist ((delL_sub _ _).map _)) (fun x => by
      rw [getM_del h2, ← h]
      by_cases hx : x = t.1
      · rw [if_pos hx, hx]; exact getM_head h1.1
      · rw [if_neg hx]; simp only [getM, if_neg hx])
    rw [ht] at hd
    simp only [Option.getD_some] at hd
    simp only [sumM, List.map_cons, List.sum_cons] at e hd ⊢
    omega
theorem sumM_set {l l' : List Tri} {k : Int} (h1 : (l.map (·.1)).Nodup) (h2 : (l'.map (·.1)).Nodup) (h : ∀ x, x ≠ k → getM l' x = getM l x) : sumM l' = sumM l - (getM l k).getD 0 + (getM l' k).getD 0 := by
  have e := sumM_ext (l := delL k l) (l' := delL k l') (h1.sublist ((delL_sub _ _).map _)) (h2.sublist ((delL_sub _ _).map _)) (fun x => by
    rw [getM_del h1, getM_del h2]
    split
    · rfl
    · rename_i hx; exact (h x hx).symm)
  rw [sumM_del, sumM_del] at e
  omega
theorem sumM_nonneg : ∀ {l : List Tri}, (l.map (·.1)).Nodup → (∀ x, 0 ≤ (getM l x).getD 0) → 0 ≤ sumM l
  | [], _, _ => by simp [sumM]
  | t :: r, h1, h => by
    simp only [List.map_cons, List.nodup_cons] at h1
    have h0 := h t.1
    simp only [getM, if_true, Option.getD_some] at h0
    have := sumM_nonneg (l := r) h1.2 (fun x => by
      by_cases hx : x = t.1
      · rw [hx, getM_head h1.1]; simp
      · have := h x
        simpa only [getM, if_neg hx] using this)
    simp only [sumM, List.map_cons, List.sum_cons] at this ⊢
    omega
theorem sumM_ge {l : List Tri} {k : Int} (h1 : (l.map (·.1)).Nodup) (h : ∀ x, 0 ≤ (getM l x).getD 0) : (getM l k).getD 0 ≤ sumM l := by
  have := sumM_nonneg (l := delL k l) (h1.sublist ((delL_sub _ _).map _)) (fun x => by
    rw [getM_del h1]
    split
    · simp
    · exact h x)
  rw [sumM_del] at this
  omega

section
variable {P : Program} {t : TypeId} {w0 w : World} {hs : List Hp}
theorem run_find {kt : TypeId} {w : World} (hk : P.underlying kt = some (.int .i64)) (k : Int) (l : List Tri) : (Instr.findKey kt (.int .i64 k) ((l.map entM).toArray.toList)).run P w = .ok (fnd l k 0) w := by
  have : (l.map entM).toArray.toList = l.map entM := rfl
  rw [this]
  exact run_findKey hk (findNow_map k l 0)
theorem run_check {kt : TypeId} {w : World} (hk : P.underlying kt = some (.int .i64)) (k : Int) (e : Bool) : (Instr.checkKey e 10000 kt (.int .i64 k)).run P w = .ok () w := run_checkKey hk (by simp [IsKey]) e 9999
theorem run_lookup_map (T : MapTy P t) {m : Nat} {l : List Tri} {c : Nat} (hm : w.heap[m]? = some (mapO l c)) (k : Int) (ok : Bool) :
    (Instr.lookup t (.map (some m)) (.int .i64 k) ok).run P w = .ok (if ok then .tuple #[.int .i64 ((getM l k).getD 0), .bool (getM l k).isSome] else .int .i64 ((getM l k).getD 0)) w := by
  obtain ⟨kt, et, h1, h2, h3⟩ := T.all
  have hg : (getObj m).run P w = .ok (.map (l.map entM).toArray c) w := MapKept.run_getObj_map hm
  unfold Instr.lookup
  cases hf : fnd l k 0 with
  | none =>
    have := (fnd_none hf).1
    simp [run_underlying h1, hg, run_check h2, run_findKey h2 (findNow_map k l 0), hf, h3, this]
  | some x =>
    obtain ⟨j, u, g1, g2, rfl, g4, -, -⟩ := fnd_some hf
    simp [run_underlying h1, hg, run_check h2, run_findKey h2 (findNow_map k l 0), hf, g4]
theorem keyStays (a b : Int) (w : World) (h : a = b) : (Instr.keyThatStays (.int .i64 a) (.int .i64 b)).run P w = .ok (.int .i64 b) w := by
  subst h
  simp [Instr.keyThatStays, Instr.sameBits]
theorem mod_ent (l : List Tri) (j : Nat) (u : Tri) (hj : l[j]? = some u) (f : MapEntry → MapEntry) (u' : Tri) (hf : f (entM u) = entM u') : (l.map entM).modify j f = (l.set j u').map entM := by
  obtain ⟨hlt, rfl⟩ := List.getElem?_eq_some_iff.1 hj
  apply List.ext_getElem?
  intro i
  simp only [List.getElem?_modify, List.getElem?_map, List.map_set, List.getElem?_set]
  by_cases h : j = i
  · subst h
    simp [hf, hlt]
  · simp [h]
theorem erase_ent : ∀ (j : Nat) (l : List Tri), (l.map entM).eraseIdx j = (l.eraseIdx j).map entM
  | _, [] => by simp
  | 0, t :: r => rfl
  | j + 1, t :: r => by simp [erase_ent j r]
theorem run_update_map (T : MapTy P t) {m : Nat} {l : List Tri} {c : Nat} (ok : MOk l c) (hm : w.heap[m]? = some (mapO l c)) (k v : Int) :
    ∃ l' c', (Instr.mapUpdate t (.map (some m)) (.int .i64 k) (.int .i64 v)).run P w = .ok () { w with heap := w.heap.setIfInBounds m (mapO l' c') } ∧ MOk l' c' ∧ ∀ x, getM l' x = if x = k then some v else getM l x := by
  obtain ⟨kt, et, h1, h2, h3⟩ := T.all
  have hg : (getObj m).run P w = .ok (.map (l.map entM).toArray c) w := MapKept.run_getObj_map hm
  have hset := fun o => MapKept.run_setObj_map (P := P) (es := (l.map entM).toArray) (clock := c) o hm
  unfold Instr.mapUpdate
  cases hf : fnd l k 0 with
  | none =>
    obtain ⟨g1, g2⟩ := fnd_none hf
    refine ⟨l ++ [(k, v, c)], c + 1, ?_, ok.app g2, fun x => getM_app g1⟩
    simp [run_underlying h1, hg, run_check h2, MapKept.run_findKey h2 (findNow_map k l 0), hf, hset, mapO, entM]
  | some x =>
    obtain ⟨j, u, g1, g2, rfl, g4, g5, -⟩ := fnd_some hf
    refine ⟨updL k v l, c, ?_, ok.upd k v, fun x => by rw [getM_upd, g4]; rfl⟩
    have hm2 := mod_ent l j u g1 (fun e => { e with key := .int .i64 k, val := .int .i64 v }) (k, v, u.2.2) rfl
    rw [g5 v _ rfl] at hm2
    have hkey : (((l.map entM)[j]?.map (·.key)).getD (.int .i64 k)) = .int .i64 k := by simp [g1, entM, g2]
    simp [run_underlying h1, hg, run_check h2, MapKept.run_findKey h2 (findNow_map k l 0), hf]
    simp [g1, entM, g2, keyStays, hset, mapO]
    rw [hm2]
theorem run_delete_map (T : MapTy P t) {kt0 ty : TypeId} {m : Nat} {l : List Tri} {c : Nat} (ok : MOk l c) (hm : w.heap[m]? = some (mapO l c)) (k : Int) :
    ∃ l', (Builtin.delete_ #[t, kt0] ty #[.map (some m), .int .i64 k]).run P w = .ok (.tuple #[]) { w with heap := w.heap.setIfInBounds m (mapO l' c) } ∧ MOk l' c ∧ ∀ x, getM l' x = if x = k then none else getM l x := by
  obtain ⟨kt, et, h1, h2, h3⟩ := T.all
  have hg : (getObj m).run P w = .ok (.map (l.map entM).toArray c) w := MapKept.run_getObj_map hm
  have hset := fun o => MapKept.run_setObj_map (P := P) (es := (l.map entM).toArray) (clock := c) o hm
  unfold Builtin.delete_
  cases hf : fnd l k 0 with
  | none =>
    obtain ⟨g1, g2⟩ := fnd_none hf
    refine ⟨l, ?_, ok, fun x => ?_⟩
    · simp [run_underlying h1, hg, run_check h2, MapKept.run_findKey h2 (findNow_map k l 0), hf, hset, mapO]
    · split
      · rename_i e; rw [e, g1]
      · rfl
  | some x =>
    obtain ⟨j, u, g1, g2, rfl, g4, -, g6⟩ := fnd_some hf
    refine ⟨delL k l, ?_, ok.del k, fun x => getM_del ok.keys⟩
    simp [run_underlying h1, hg, run_check h2, MapKept.run_findKey h2 (findNow_map k l 0), hf, hset, mapO, ← g6, erase_ent]
theorem run_entry_map (T : MapTy P t) {m : Nat} {l : List Tri} {c : Nat} (ok : MOk l c) (hm : w.heap[m]? = some (mapO l c)) (k : Int) :
    ∃ l' c' b, (Instr.mapEntry t (.map (some m)) (.int .i64 k)).run P w = .ok (.tuple #[.int .i64 ((getM l k).getD 0), goInt b]) { w with heap := w.heap.setIfInBounds m (mapO l' c') } ∧ MOk l' c' ∧ (∃ t ∈ l', t.1 = k ∧ t.2.2 = b) ∧ ∀ x, getM l' x = if x = k then some ((getM l k).getD 0) else getM l x := by
  obtain ⟨kt, et, h1, h2, h3⟩ := T.all
  have hg : (getObj m).run P w = .ok (.map (l.map entM).toArray c) w := MapKept.run_getObj_map hm
  have hset := fun o => MapKept.run_setObj_map (P := P) (es := (l.map entM).toArray) (clock := c) o hm
  unfold Instr.mapEntry
  cases hf : fnd l k 0 with
  | none =>
    obtain ⟨g1, g2⟩ := fnd_none hf
    refine ⟨l ++ [(k, 0, c)], c + 1, c, ?_, ok.app g2, ⟨(k, 0, c), by simp, rfl, rfl⟩, fun x => by rw [g1]; exact getM_app g1⟩
    simp [run_underlying h1, hg, run_check h2, MapKept.run_findKey h2 (findNow_map k l 0), hf, hset, mapO, entM, h3, g1]
  | some x =>
    obtain ⟨j, u, g1, g2, rfl, g4, g5, -⟩ := fnd_some hf
    have hu : u ∈ l := List.mem_of_getElem? g1
    refine ⟨l, c, u.2.2, ?_, ok, ⟨u, hu, g2, rfl⟩, fun x => ?_⟩
    · have hm2 := mod_ent l j u g1 (fun e => { e with key := .int .i64 k }) u (by simp [entM, g2])
      rw [set_same j g1] at hm2
      simp [run_underlying h1, hg, run_check h2, MapKept.run_findKey h2 (findNow_map k l 0), hf]
      simp [g1, entM, g2, keyStays, hset, mapO, g4]
      rw [hm2]
    · split
      · rename_i e; rw [e, g4]; rfl
      · rfl
theorem set_upd {v : Int} : ∀ {l : List Tri} {i : Nat} {u : Tri}, (l.map (·.1)).Nodup → l[i]? = some u → l.set i (u.1, v, u.2.2) = updL u.1 v l ∧ getM l u.1 = some u.2.1
  | [], i, u, _, h => by simp at h
  | t :: r, 0, u, hn, h => by
    simp at h; subst h
    simp [updL, getM]
  | t :: r, i + 1, u, hn, h => by
    simp only [List.map_cons, List.nodup_cons] at hn
    have h' : r[i]? = some u := by simpa using h
    have hu : u ∈ r := List.mem_of_getElem? h'
    have hne : u.1 ≠ t.1 := fun e => hn.1 (e ▸ List.mem_map_of_mem hu)
    have ih := set_upd (v := v) hn.2 h'
    simp only [List.set_cons_succ, updL, getM, if_neg hne]
    exact ⟨by rw [ih.1], ih.2⟩
theorem stamp_eq : ∀ {l : List Tri}, (l.map (·.2.2)).Nodup → ∀ {a b : Tri}, a ∈ l → b ∈ l → a.2.2 = b.2.2 → a = b
  | [], _, a, b, ha, _, _ => by simp at ha
  | t :: r, hn, a, b, ha, hb, e => by
    simp only [List.map_cons, List.nodup_cons] at hn
    rcases List.mem_cons.1 ha with e1 | ha' <;> rcases List.mem_cons.1 hb with e2 | hb'
    · rw [e1, e2]
    · exact absurd (List.mem_map.2 ⟨b, hb', by rw [← e, e1]⟩) hn.1
    · exact absurd (List.mem_map.2 ⟨a, ha', by rw [e, e2]⟩) hn.1
    · exact stamp_eq hn.2 ha' hb' e
theorem run_estore_map {ty : TypeId} {m : Nat} {l : List Tri} {c : Nat} (ok : MOk l c) (hm : w.heap[m]? = some (mapO l c)) {u : Tri} (hu : u ∈ l) (v : Int) :
    ∃ l', (Instr.entryStore ty (.map (some m)) (goInt u.2.2) (.int .i64 v)).run P w = .ok () { w with heap := w.heap.setIfInBounds m (mapO l' c) } ∧ MOk l' c ∧ ∀ x, getM l' x = if x = u.1 then some v else getM l x := by
  have hg : (getObj m).run P w = .ok (.map (l.map entM).toArray c) w := MapKept.run_getObj_map hm
  have hset := fun o => MapKept.run_setObj_map (P := P) (es := (l.map entM).toArray) (clock := c) o hm
  have hfi : ∃ i, (l.map entM).toArray.findIdx? (fun e => (e.born : Int) == (u.2.2 : Int)) = some i ∧ l[i]? = some u := by
    cases hfx : (l.map entM).toArray.findIdx? (fun e => (e.born : Int) == (u.2.2 : Int)) with
    | none =>
      rw [Array.findIdx?_eq_none_iff] at hfx
      have := hfx (entM u) (by simp; exact ⟨_, _, _, hu, rfl⟩)
      simp [entM] at this
    | some i =>
      refine ⟨i, rfl, ?_⟩
      obtain ⟨hi, h1, -⟩ := Array.findIdx?_eq_some_iff_getElem.1 hfx
      simp at hi
      rw [List.getElem?_eq_getElem hi]
      congr 1
      refine stamp_eq ok.stamps (List.getElem_mem hi) hu ?_
      have : ((l[i].2.2 : Nat) : Int) = (u.2.2 : Nat) := by simpa [entM] using h1
      omega
  obtain ⟨i, hfx, hi⟩ := hfi
  have hs := set_upd (v := v) ok.keys hi
  refine ⟨updL u.1 v l, ?_, ok.upd u.1 v, fun x => by rw [getM_upd, hs.2]; rfl⟩
  have hm2 := mod_ent l i u hi (fun e => { e with val := .int .i64 v }) (u.1, v, u.2.2) rfl
  rw [hs.1] at hm2
  unfold Instr.entryStore
  simp at hfx
  simp [hg, goInt, asInt, asIntOf, hfx, hset, mapO, hm2]

theorem Holds.setO {w0 w : World} {hs : List Hp} (i : Nat) {m : Nat} {o : Obj} (H : Holds w0 hs w) (hi : hs[i]? = some [(m, o)]) (o' : Obj) : Holds w0 (hs.set i [(m, o')]) { w with heap := w.heap.setIfInBounds m o' } := by
  have hm := H.mem i hi
  refine Holds.perm (set_bring i hi) ((H.bring i hi).put _ rfl rfl rfl ?_ ?_ ?_)
  · simp
  · simp [lt_of_some hm]
  · intro j hj hne
    simp only [Array.getElem?_setIfInBounds]
    rw [if_neg (fun e => hne e.symm)]
theorem mget_h (T : MapTy P t) (i : Nat) {m : Nat} {l : List Tri} {c : Nat} {r : Md} {k : Int} {K : KV} (H : Holds w0 hs w) (hi : hs[i]? = some [(m, mapO l c)]) (hk : K (.int .i64 ((getM l k).getD 0)) w) : mget r P t (.map (some m)) (.int .i64 k) false K w :=
  ⟨_, w, run_lookup_map T (H.mem i hi) k false, fun _ => rfl, hk⟩
theorem mget2_h (T : MapTy P t) (i : Nat) {m : Nat} {l : List Tri} {c : Nat} {r : Md} {k : Int} {K : KV} (H : Holds w0 hs w) (hi : hs[i]? = some [(m, mapO l c)]) (hk : K (.tuple #[.int .i64 ((getM l k).getD 0), .bool (getM l k).isSome]) w) : mget r P t (.map (some m)) (.int .i64 k) true K w :=
  ⟨_, w, run_lookup_map T (H.mem i hi) k true, fun _ => rfl, hk⟩
theorem mset_h (T : MapTy P t) (i : Nat) {m : Nat} {l : List Tri} {c : Nat} {k v : Int} {K : World → Prop} (H : Holds w0 hs w) (hi : hs[i]? = some [(m, mapO l c)]) (ok : MOk l c)
    (hk : ∀ l' c' w', MOk l' c' → (∀ x, getM l' x = if x = k then some v else getM l x) → Holds w0 (hs.set i [(m, mapO l' c')]) w' → K w') : mset .full P t (.map (some m)) (.int .i64 k) (.int .i64 v) K w := by
  obtain ⟨l', c', hr, h1, h2⟩ := run_update_map T ok (H.mem i hi) k v
  exact ⟨_, hr, fun h => absurd rfl h, hk _ _ _ h1 h2 (H.setO i hi _)⟩
theorem bdel_h (T : MapTy P t) (i : Nat) {kt ty : TypeId} {m : Nat} {l : List Tri} {c : Nat} {k : Int} {K : KV} (H : Holds w0 hs w) (hi : hs[i]? = some [(m, mapO l c)]) (ok : MOk l c)
    (hk : ∀ l' w', MOk l' c → (∀ x, getM l' x = if x = k then none else getM l x) → Holds w0 (hs.set i [(m, mapO l' c)]) w' → K (.tuple #[]) w') : bdel .full P #[t, kt] ty (.map (some m)) (.int .i64 k) K w := by
  obtain ⟨l', hr, h1, h2⟩ := run_delete_map T (kt0 := kt) (ty := ty) ok (H.mem i hi) k
  exact ⟨_, _, hr, fun h => absurd rfl h, hk _ _ h1 h2 (H.setO i hi _)⟩
theorem ment_h (T : MapTy P t) (i : Nat) {m : Nat} {l : List Tri} {c : Nat} {k : Int} {K : KV} (H : Holds w0 hs w) (hi : hs[i]? = some [(m, mapO l c)]) (ok : MOk l c)
    (hk : ∀ l' c' u w', MOk l' c' → u ∈ l' → u.1 = k → (∀ x, getM l' x = if x = k then some ((getM l k).getD 0) else getM l x) → Holds w0 (hs.set i [(m, mapO l' c')]) w' → K (.tuple #[.int .i64 ((getM l k).getD 0), .int .i64 (u.2.2 : Nat)]) w') : ment .full P t (.map (some m)) (.int .i64 k) K w := by
  obtain ⟨l', c', b, hr, h1, ⟨u, hu, hk1, hk2⟩, h2⟩ := run_entry_map T ok (H.mem i hi) k
  subst hk2
  exact ⟨_, _, hr, fun h => absurd rfl h, hk _ _ u _ h1 hu hk1 h2 (H.setO i hi _)⟩
theorem mest_h (i : Nat) {m : Nat} {l : List Tri} {c : Nat} {v : Int} {u : Tri} {K : World → Prop} (H : Holds w0 hs w) (hi : hs[i]? = some [(m, mapO l c)]) (ok : MOk l c) (hu : u ∈ l)
    (hk : ∀ l' w', MOk l' c → (∀ x, getM l' x = if x = u.1 then some v else getM l x) → Holds w0 (hs.set i [(m, mapO l' c)]) w' → K w') : mest .full P t (.map (some m)) (.int .i64 (u.2.2 : Nat)) (.int .i64 v) K w := by
  obtain ⟨l', hr, h1, h2⟩ := run_estore_map (P := P) (ty := t) ok (H.mem i hi) hu v
  exact ⟨_, hr, fun h => absurd rfl h, hk _ _ h1 h2 (H.setO i hi _)⟩
end
end Go.Sh
