/- Maps from integers to any values in the store: look-up, update, entry, deletion. Conditions: none. -/
import Derived.Test.YtlfgmbbiealpoaaGreatDoorM
import Derived.MapKept
import Derived.Maps.RangeRun
set_option linter.unusedVariables false
namespace Go.Sh
open Go Go.RowKit Go.MapKept

abbrev TriG := Int × Value × Nat
def entG (t : TriG) : MapEntry := ⟨.int .i64 t.1, t.2.1, t.2.2⟩
def mapG (l : List TriG) (c : Nat) : Obj := .map (l.map entG).toArray c
structure GOk (l : List TriG) (c : Nat) : Prop where
  keys : (l.map (·.1)).Nodup
  born : ∀ t ∈ l, t.2.2 < c
  stamps : (l.map (·.2.2)).Nodup
theorem GOk.nil (c : Nat) : GOk [] c := ⟨by simp, by simp, by simp⟩
def getG : List TriG → Int → Option Value
  | [], _ => none
  | t :: r, k => if k = t.1 then some t.2.1 else getG r k
structure MapTyG (P : Program) (t : TypeId) (z : Value) : Prop where
  all : ∃ kt et, P.underlying t = some (.map kt et) ∧ P.underlying kt = some (.int .i64) ∧ (∀ w, (zeroValue et).run P w = .ok z w)
def fndG : List TriG → Int → Nat → Option (Nat × Value)
  | [], _, _ => none
  | t :: r, k, i => if k = t.1 then some (i, t.2.1) else fndG r k (i + 1)
theorem findNow_G (k : Int) : ∀ (l : List TriG) (i : Nat), Instr.findNow (.int .i64) (.int .i64 k) (l.map entG) i = some (fndG l k i)
  | [], i => rfl
  | t :: r, i => by
    simp only [List.map_cons, Instr.findNow, entG, Instr.sameNow, if_true, fndG]
    by_cases h : k = t.1
    · simp [h]
    · have : (k == t.1) = false := by simp [h]
      simp only [this, h, if_false]
      exact findNow_G k r (i + 1)
/-- what is found -/
theorem fndG_none {k : Int} : ∀ {l : List TriG} {i : Nat}, fndG l k i = none → getG l k = none ∧ ∀ t ∈ l, t.1 ≠ k
  | [], i, h => by simp [getG]
  | t :: r, i, h => by
    simp only [fndG] at h
    split at h
    · cases h
    · rename_i hk
      have := fndG_none h
      simp only [getG, hk, if_false]
      exact ⟨this.1, fun u hu => by rcases List.mem_cons.1 hu with rfl | hu; · exact fun e => hk e.symm
                                    · exact this.2 u hu⟩
def updG (k : Int) (v : Value) : List TriG → List TriG
  | [] => []
  | t :: r => if k = t.1 then (k, v, t.2.2) :: r else t :: updG k v r
def delG (k : Int) : List TriG → List TriG
  | [] => []
  | t :: r => if k = t.1 then r else t :: delG k r
theorem fndG_some {k : Int} : ∀ {l : List TriG} {i : Nat} {x : Nat × Value}, fndG l k i = some x → ∃ (j : Nat) (t : TriG), l[j]? = some t ∧ t.1 = k ∧ x = (i + j, t.2.1) ∧ getG l k = some t.2.1 ∧
    (∀ v b, b = t.2.2 → l.set j (k, v, b) = updG k v l) ∧ l.eraseIdx j = delG k l
  | [], i, x, h => by simp [fndG] at h
  | t :: r, i, x, h => by
    simp only [fndG] at h
    split at h
    · rename_i hk
      cases h
      exact ⟨0, t, rfl, hk.symm, rfl, by simp [getG, hk], fun v b hb => by simp [updG, hk, hb], by simp [delG, hk]⟩
    · rename_i hk
      obtain ⟨j, u, h1, h2, h3, h4, h5, h6⟩ := fndG_some h
      refine ⟨j + 1, u, by simpa using h1, h2, by rw [h3]; simp; omega, by simp [getG, hk, h4], fun v b hb => by simp [updG, hk, h5 v b hb], by simp [delG, hk, h6]⟩
theorem getG_upd {k x : Int} {v : Value} : ∀ {l : List TriG}, getG (updG k v l) x = if x = k then (getG l k).map (fun _ => v) else getG l x
  | [] => by simp [updG, getG]
  | t :: r => by
    simp only [updG]
    by_cases hk : k = t.1
    · rw [if_pos hk]
      by_cases hx : x = k
      · simp [getG, hx, hk]
      · have : x ≠ t.1 := fun e => hx (e.trans hk.symm)
        simp [getG, hx, this]
    · rw [if_neg hk]
      simp only [getG]
      by_cases hx : x = t.1
      · have : x ≠ k := fun e => hk (e.symm.trans hx)
        simp only [hx, if_true]
        rw [if_neg (fun e => hk e.symm)]
      · simp only [hx, if_false, hk]
        exact getG_upd
theorem updG_keys (k : Int) (v : Value) : ∀ (l : List TriG), (updG k v l).map (·.1) = l.map (·.1)
  | [] => rfl
  | t :: r => by
    simp only [updG]
    split
    · rename_i h; simp [h]
    · simp [updG_keys k v r]
theorem updG_born (k : Int) (v : Value) : ∀ (l : List TriG), (updG k v l).map (·.2.2) = l.map (·.2.2)
  | [] => rfl
  | t :: r => by
    simp only [updG]
    split
    · simp
    · simp [updG_born k v r]
theorem born_of_mapG {l m : List TriG} (h : l.map (·.2.2) = m.map (·.2.2)) {c : Nat} (hb : ∀ t ∈ m, t.2.2 < c) : ∀ t ∈ l, t.2.2 < c := fun t ht => by
  have : t.2.2 ∈ m.map (·.2.2) := h ▸ List.mem_map_of_mem ht
  obtain ⟨u, hu, e⟩ := List.mem_map.1 this
  rw [← e]; exact hb u hu
theorem GOk.upd {l : List TriG} {c : Nat} (ok : GOk l c) (k : Int) (v : Value) : GOk (updG k v l) c :=
  ⟨by rw [updG_keys]; exact ok.keys, born_of_mapG (updG_born k v l) ok.born, by rw [updG_born]; exact ok.stamps⟩
theorem getG_app {k x : Int} {v : Value} {b : Nat} : ∀ {l : List TriG}, getG l k = none → getG (l ++ [(k, v, b)]) x = if x = k then some v else getG l x
  | [], _ => by simp [getG]
  | t :: r, h => by
    simp only [getG] at h
    split at h
    · cases h
    · rename_i hk
      simp only [List.cons_append, getG]
      by_cases hx : x = t.1
      · have : x ≠ k := fun e => hk (e.symm.trans hx)
        simp only [hx, if_true]
        rw [if_neg (fun e => hk e.symm)]
      · simp only [hx, if_false]
        exact getG_app h
theorem GOk.app {l : List TriG} {c : Nat} (ok : GOk l c) {k : Int} {v : Value} (h : ∀ t ∈ l, t.1 ≠ k) : GOk (l ++ [(k, v, c)]) (c + 1) := by
  refine ⟨?_, ?_, ?_⟩
  · rw [List.map_append, List.nodup_append]
    refine ⟨ok.keys, by simp, fun a ha b hb => ?_⟩
    obtain ⟨t, ht, rfl⟩ := List.mem_map.1 ha
    simp at hb
    rw [hb]; exact h t ht
  · intro t ht
    rcases List.mem_append.1 ht with ht | ht
    · have := ok.born t ht; omega
    · simp at ht; subst ht; simp
  · rw [List.map_append, List.nodup_append]
    refine ⟨ok.stamps, by simp, fun a ha b hb => ?_⟩
    obtain ⟨t, ht, rfl⟩ := List.mem_map.1 ha
    simp at hb
    have := ok.born t ht; omega
theorem delG_sub (k : Int) : ∀ (l : List TriG), (delG k l).Sublist l
  | [] => List.Sublist.refl _
  | t :: r => by
    simp only [delG]
    split
    · exact List.sublist_cons_self _ _
    · exact (delG_sub k r).cons_cons t
theorem GOk.del {l : List TriG} {c : Nat} (ok : GOk l c) (k : Int) : GOk (delG k l) c :=
  ⟨ok.keys.sublist ((delG_sub k l).map _), fun t ht => ok.born t ((delG_sub k l).subset ht), ok.stamps.sublist ((delG_sub k l).map _)⟩
theorem getG_none {k : Int} : ∀ {l : List TriG}, (∀ t ∈ l, t.1 ≠ k) → getG l k = none
  | [], _ => rfl
  | t :: r, h => by
    have h1 := h t (by simp)
    simp only [getG]
    rw [if_neg (fun e => h1 e.symm)]
    exact getG_none (fun u hu => h u (by simp [hu]))
theorem getG_del {k x : Int} : ∀ {l : List TriG}, (l.map (·.1)).Nodup → getG (delG k l) x = if x = k then none else getG l x
  | [], _ => by simp [delG, getG]
  | t :: r, h => by
    simp only [List.map_cons, List.nodup_cons] at h
    simp only [delG]
    by_cases hk : k = t.1
    · rw [if_pos hk]
      by_cases hx : x = k
      · rw [if_pos hx]
        refine getG_none (fun u hu e => h.1 ?_)
        rw [← hk, ← hx, ← e]
        exact List.mem_map_of_mem hu
      · rw [if_neg hx]
        simp only [getG]
        rw [if_neg (fun e => hx (e.trans hk.symm))]
    · rw [if_neg hk]
      simp only [getG]
      by_cases hx : x = t.1
      · rw [if_pos hx, if_neg (fun e => hk (e.symm.trans hx)), if_pos hx]
      · rw [if_neg hx, if_neg hx]
        exact getG_del h.2

/-! ### the sum of the values -/
section
variable {P : Program} {t : TypeId} {z : Value} {w0 w : World} {hs : List Hp}
theorem run_findG {kt : TypeId} {w : World} (hk : P.underlying kt = some (.int .i64)) (k : Int) (l : List TriG) : (Instr.findKey kt (.int .i64 k) ((l.map entG).toArray.toList)).run P w = .ok (fndG l k 0) w := by
  have : (l.map entG).toArray.toList = l.map entG := rfl
  rw [this]
  exact run_findKey hk (findNow_G k l 0)
theorem run_checkG {kt : TypeId} {w : World} (hk : P.underlying kt = some (.int .i64)) (k : Int) (e : Bool) : (Instr.checkKey e 10000 kt (.int .i64 k)).run P w = .ok () w := run_checkKey hk (by simp [IsKey]) e 9999
theorem run_lookup_G (T : MapTyG P t z) {m : Nat} {l : List TriG} {c : Nat} (hm : w.heap[m]? = some (mapG l c)) (k : Int) (ok : Bool) :
    (Instr.lookup t (.map (some m)) (.int .i64 k) ok).run P w = .ok (if ok then .tuple #[((getG l k).getD z), .bool (getG l k).isSome] else ((getG l k).getD z)) w := by
  obtain ⟨kt, et, h1, h2, h3⟩ := T.all
  have hg : (getObj m).run P w = .ok (.map (l.map entG).toArray c) w := MapKept.run_getObj_map hm
  unfold Instr.lookup
  cases hf : fndG l k 0 with
  | none =>
    have := (fndG_none hf).1
    simp [run_underlying h1, hg, run_checkG h2, run_findKey h2 (findNow_G k l 0), hf, h3, this]
  | some x =>
    obtain ⟨j, u, g1, g2, rfl, g4, -, -⟩ := fndG_some hf
    simp [run_underlying h1, hg, run_checkG h2, run_findKey h2 (findNow_G k l 0), hf, g4]
theorem keyStaysG (a b : Int) (w : World) (h : a = b) : (Instr.keyThatStays (.int .i64 a) (.int .i64 b)).run P w = .ok (.int .i64 b) w := by
  subst h
  simp [Instr.keyThatStays, Instr.sameBits]
theorem mod_entG (l : List TriG) (j : Nat) (u : TriG) (hj : l[j]? = some u) (f : MapEntry → MapEntry) (u' : TriG) (hf : f (entG u) = entG u') : (l.map entG).modify j f = (l.set j u').map entG := by
  obtain ⟨hlt, rfl⟩ := List.getElem?_eq_some_iff.1 hj
  apply List.ext_getElem?
  intro i
  simp only [List.getElem?_modify, List.getElem?_map, List.map_set, List.getElem?_set]
  by_cases h : j = i
  · subst h
    simp [hf, hlt]
  · simp [h]
theorem erase_entG : ∀ (j : Nat) (l : List TriG), (l.map entG).eraseIdx j = (l.eraseIdx j).map entG
  | _, [] => by simp
  | 0, t :: r => rfl
  | j + 1, t :: r => by simp [erase_entG j r]
theorem run_update_G (T : MapTyG P t z) {m : Nat} {l : List TriG} {c : Nat} (ok : GOk l c) (hm : w.heap[m]? = some (mapG l c)) (k : Int) (v : Value) :
    ∃ l' c', (Instr.mapUpdate t (.map (some m)) (.int .i64 k) v).run P w = .ok () { w with heap := w.heap.setIfInBounds m (mapG l' c') } ∧ GOk l' c' ∧ ∀ x, getG l' x = if x = k then some v else getG l x := by
  obtain ⟨kt, et, h1, h2, h3⟩ := T.all
  have hg : (getObj m).run P w = .ok (.map (l.map entG).toArray c) w := MapKept.run_getObj_map hm
  have hset := fun o => MapKept.run_setObj_map (P := P) (es := (l.map entG).toArray) (clock := c) o hm
  unfold Instr.mapUpdate
  cases hf : fndG l k 0 with
  | none =>
    obtain ⟨g1, g2⟩ := fndG_none hf
    refine ⟨l ++ [(k, v, c)], c + 1, ?_, ok.app g2, fun x => getG_app g1⟩
    simp [run_underlying h1, hg, run_checkG h2, MapKept.run_findKey h2 (findNow_G k l 0), hf, hset, mapG, entG]
  | some x =>
    obtain ⟨j, u, g1, g2, rfl, g4, g5, -⟩ := fndG_some hf
    refine ⟨updG k v l, c, ?_, ok.upd k v, fun x => by rw [getG_upd, g4]; rfl⟩
    have hm2 := mod_entG l j u g1 (fun e => { e with key := .int .i64 k, val := v }) (k, v, u.2.2) rfl
    rw [g5 v _ rfl] at hm2
    have hkey : (((l.map entG)[j]?.map (·.key)).getD (.int .i64 k)) = .int .i64 k := by simp [g1, entG, g2]
    simp [run_underlying h1, hg, run_checkG h2, MapKept.run_findKey h2 (findNow_G k l 0), hf]
    simp [g1, entG, g2, keyStaysG, hset, mapG]
    rw [hm2]
theorem run_delete_G (T : MapTyG P t z) {kt0 ty : TypeId} {m : Nat} {l : List TriG} {c : Nat} (ok : GOk l c) (hm : w.heap[m]? = some (mapG l c)) (k : Int) :
    ∃ l', (Builtin.delete_ #[t, kt0] ty #[.map (some m), .int .i64 k]).run P w = .ok (.tuple #[]) { w with heap := w.heap.setIfInBounds m (mapG l' c) } ∧ GOk l' c ∧ ∀ x, getG l' x = if x = k then none else getG l x := by
  obtain ⟨kt, et, h1, h2, h3⟩ := T.all
  have hg : (getObj m).run P w = .ok (.map (l.map entG).toArray c) w := MapKept.run_getObj_map hm
  have hset := fun o => MapKept.run_setObj_map (P := P) (es := (l.map entG).toArray) (clock := c) o hm
  unfold Builtin.delete_
  cases hf : fndG l k 0 with
  | none =>
    obtain ⟨g1, g2⟩ := fndG_none hf
    refine ⟨l, ?_, ok, fun x => ?_⟩
    · simp [run_underlying h1, hg, run_checkG h2, MapKept.run_findKey h2 (findNow_G k l 0), hf, hset, mapG]
    · split
      · rename_i e; rw [e, g1]
      · rfl
  | some x =>
    obtain ⟨j, u, g1, g2, rfl, g4, -, g6⟩ := fndG_some hf
    refine ⟨delG k l, ?_, ok.del k, fun x => getG_del ok.keys⟩
    simp [run_underlying h1, hg, run_checkG h2, MapKept.run_findKey h2 (findNow_G k l 0), hf, hset, mapG, ← g6, erase_entG]
theorem run_entry_G (T : MapTyG P t z) {m : Nat} {l : List TriG} {c : Nat} (ok : GOk l c) (hm : w.heap[m]? = some (mapG l c)) (k : Int) :
    ∃ l' c' b, (Instr.mapEntry t (.map (some m)) (.int .i64 k)).run P w = .ok (.tuple #[((getG l k).getD z), goInt b]) { w with heap := w.heap.setIfInBounds m (mapG l' c') } ∧ GOk l' c' ∧ (∃ t ∈ l', t.1 = k ∧ t.2.2 = b) ∧ ∀ x, getG l' x = if x = k then some ((getG l k).getD z) else getG l x := by
  obtain ⟨kt, et, h1, h2, h3⟩ := T.all
  have hg : (getObj m).run P w = .ok (.map (l.map entG).toArray c) w := MapKept.run_getObj_map hm
  have hset := fun o => MapKept.run_setObj_map (P := P) (es := (l.map entG).toArray) (clock := c) o hm
  unfold Instr.mapEntry
  cases hf : fndG l k 0 with
  | none =>
    obtain ⟨g1, g2⟩ := fndG_none hf
    refine ⟨l ++ [(k, z, c)], c + 1, c, ?_, ok.app g2, ⟨(k, z, c), by simp, rfl, rfl⟩, fun x => by rw [g1]; exact getG_app g1⟩
    simp [run_underlying h1, hg, run_checkG h2, MapKept.run_findKey h2 (findNow_G k l 0), hf, hset, mapG, entG, h3, g1]
  | some x =>
    obtain ⟨j, u, g1, g2, rfl, g4, g5, -⟩ := fndG_some hf
    have hu : u ∈ l := List.mem_of_getElem? g1
    refine ⟨l, c, u.2.2, ?_, ok, ⟨u, hu, g2, rfl⟩, fun x => ?_⟩
    · have hm2 := mod_entG l j u g1 (fun e => { e with key := .int .i64 k }) u (by simp [entG, g2])
      rw [set_same j g1] at hm2
      simp [run_underlying h1, hg, run_checkG h2, MapKept.run_findKey h2 (findNow_G k l 0), hf]
      simp [g1, entG, g2, keyStaysG, hset, mapG, g4]
      rw [hm2]
    · split
      · rename_i e; rw [e, g4]; rfl
      · rfl
theorem set_updG {v : Value} : ∀ {l : List TriG} {i : Nat} {u : TriG}, (l.map (·.1)).Nodup → l[i]? = some u → l.set i (u.1, v, u.2.2) = updG u.1 v l ∧ getG l u.1 = some u.2.1
  | [], i, u, _, h => by simp at h
  | t :: r, 0, u, hn, h => by
    simp at h; subst h
    simp [updG, getG]
  | t :: r, i + 1, u, hn, h => by
    simp only [List.map_cons, List.nodup_cons] at hn
    have h' : r[i]? = some u := by simpa using h
    have hu : u ∈ r := List.mem_of_getElem? h'
    have hne : u.1 ≠ t.1 := fun e => hn.1 (e ▸ List.mem_map_of_mem hu)
    have ih := set_updG (v := v) hn.2 h'
    simp only [List.set_cons_succ, updG, getG, if_neg hne]
    exact ⟨by rw [ih.1], ih.2⟩
theorem stamp_eqG : ∀ {l : List TriG}, (l.map (·.2.2)).Nodup → ∀ {a b : TriG}, a ∈ l → b ∈ l → a.2.2 = b.2.2 → a = b
  | [], _, a, b, ha, _, _ => by simp at ha
  | t :: r, hn, a, b, ha, hb, e => by
    simp only [List.map_cons, List.nodup_cons] at hn
    rcases List.mem_cons.1 ha with e1 | ha' <;> rcases List.mem_cons.1 hb with e2 | hb'
    · rw [e1, e2]
    · exact absurd (List.mem_map.2 ⟨b, hb', by rw [← e, e1]⟩) hn.1
    · exact absurd (List.mem_map.2 ⟨a, ha', by rw [e, e2]⟩) hn.1
    · exact stamp_eqG hn.2 ha' hb' e
theorem run_estore_G {ty : TypeId} {m : Nat} {l : List TriG} {c : Nat} (ok : GOk l c) (hm : w.heap[m]? = some (mapG l c)) {u : TriG} (hu : u ∈ l) (v : Value) :
    ∃ l', (Instr.entryStore ty (.map (some m)) (goInt u.2.2) v).run P w = .ok () { w with heap := w.heap.setIfInBounds m (mapG l' c) } ∧ GOk l' c ∧ ∀ x, getG l' x = if x = u.1 then some v else getG l x := by
  have hg : (getObj m).run P w = .ok (.map (l.map entG).toArray c) w := MapKept.run_getObj_map hm
  have hset := fun o => MapKept.run_setObj_map (P := P) (es := (l.map entG).toArray) (clock := c) o hm
  have hfi : ∃ i, (l.map entG).toArray.findIdx? (fun e => (e.born : Int) == (u.2.2 : Int)) = some i ∧ l[i]? = some u := by
    cases hfx : (l.map entG).toArray.findIdx? (fun e => (e.born : Int) == (u.2.2 : Int)) with
    | none =>
      rw [Array.findIdx?_eq_none_iff] at hfx
      have := hfx (entG u) (by simp; exact ⟨_, _, _, hu, rfl⟩)
      simp [entG] at this
    | some i =>
      refine ⟨i, rfl, ?_⟩
      obtain ⟨hi, h1, -⟩ := Array.findIdx?_eq_some_iff_getElem.1 hfx
      simp at hi
      rw [List.getElem?_eq_getElem hi]
      congr 1
      refine stamp_eqG ok.stamps (List.getElem_mem hi) hu ?_
      have : ((l[i].2.2 : Nat) : Int) = (u.2.2 : Nat) := by simpa [entG] using h1
      omega
  obtain ⟨i, hfx, hi⟩ := hfi
  have hs := set_updG (v := v) ok.keys hi
  refine ⟨updG u.1 v l, ?_, ok.upd u.1 v, fun x => by rw [getG_upd, hs.2]; rfl⟩
  have hm2 := mod_entG l i u hi (fun e => { e with val := v }) (u.1, v, u.2.2) rfl
  rw [hs.1] at hm2
  unfold Instr.entryStore
  simp at hfx
  simp [hg, goInt, asInt, asIntOf, hfx, hset, mapG, hm2]

theorem mgetG_h (T : MapTyG P t z) (i : Nat) {m : Nat} {l : List TriG} {c : Nat} {r : Md} {k : Int} {K : KV} (H : Holds w0 hs w) (hi : hs[i]? = some [(m, mapG l c)]) (hk : K (((getG l k).getD z)) w) : mget r P t (.map (some m)) (.int .i64 k) false K w :=
  ⟨_, w, run_lookup_G T (H.mem i hi) k false, fun _ => rfl, hk⟩
theorem mget2G_h (T : MapTyG P t z) (i : Nat) {m : Nat} {l : List TriG} {c : Nat} {r : Md} {k : Int} {K : KV} (H : Holds w0 hs w) (hi : hs[i]? = some [(m, mapG l c)]) (hk : K (.tuple #[((getG l k).getD z), .bool (getG l k).isSome]) w) : mget r P t (.map (some m)) (.int .i64 k) true K w :=
  ⟨_, w, run_lookup_G T (H.mem i hi) k true, fun _ => rfl, hk⟩
theorem msetG_h (T : MapTyG P t z) (i : Nat) {m : Nat} {l : List TriG} {c : Nat} {k : Int} {v : Value} {K : World → Prop} (H : Holds w0 hs w) (hi : hs[i]? = some [(m, mapG l c)]) (ok : GOk l c)
    (hk : ∀ l' c' w', GOk l' c' → (∀ x, getG l' x = if x = k then some v else getG l x) → Holds w0 (hs.set i [(m, mapG l' c')]) w' → K w') : mset .full P t (.map (some m)) (.int .i64 k) v K w := by
  obtain ⟨l', c', hr, h1, h2⟩ := run_update_G T ok (H.mem i hi) k v
  exact ⟨_, hr, fun h => absurd rfl h, hk _ _ _ h1 h2 (H.setO i hi _)⟩
theorem bdelG_h (T : MapTyG P t z) (i : Nat) {kt ty : TypeId} {m : Nat} {l : List TriG} {c : Nat} {k : Int} {K : KV} (H : Holds w0 hs w) (hi : hs[i]? = some [(m, mapG l c)]) (ok : GOk l c)
    (hk : ∀ l' w', GOk l' c → (∀ x, getG l' x = if x = k then none else getG l x) → Holds w0 (hs.set i [(m, mapG l' c)]) w' → K (.tuple #[]) w') : bdel .full P #[t, kt] ty (.map (some m)) (.int .i64 k) K w := by
  obtain ⟨l', hr, h1, h2⟩ := run_delete_G T (kt0 := kt) (ty := ty) ok (H.mem i hi) k
  exact ⟨_, _, hr, fun h => absurd rfl h, hk _ _ h1 h2 (H.setO i hi _)⟩
theorem mentG_h (T : MapTyG P t z) (i : Nat) {m : Nat} {l : List TriG} {c : Nat} {k : Int} {K : KV} (H : Holds w0 hs w) (hi : hs[i]? = some [(m, mapG l c)]) (ok : GOk l c)
    (hk : ∀ l' c' u w', GOk l' c' → u ∈ l' → u.1 = k → (∀ x, getG l' x = if x = k then some ((getG l k).getD z) else getG l x) → Holds w0 (hs.set i [(m, mapG l' c')]) w' → K (.tuple #[((getG l k).getD z), .int .i64 (u.2.2 : Nat)]) w') : ment .full P t (.map (some m)) (.int .i64 k) K w := by
  obtain ⟨l', c', b, hr, h1, ⟨u, hu, hk1, hk2⟩, h2⟩ := run_entry_G T ok (H.mem i hi) k
  subst hk2
  exact ⟨_, _, hr, fun h => absurd rfl h, hk _ _ u _ h1 hu hk1 h2 (H.setO i hi _)⟩
theorem mestG_h (i : Nat) {m : Nat} {l : List TriG} {c : Nat} {v : Value} {u : TriG} {K : World → Prop} (H : Holds w0 hs w) (hi : hs[i]? = some [(m, mapG l c)]) (ok : GOk l c) (hu : u ∈ l)
    (hk : ∀ l' w', GOk l' c → (∀ x, getG l' x = if x = u.1 then some v else getG l x) → Holds w0 (hs.set i [(m, mapG l' c)]) w' → K w') : mest .full P t (.map (some m)) (.int .i64 (u.2.2 : Nat)) v K w := by
  obtain ⟨l', hr, h1, h2⟩ := run_estore_G (P := P) (ty := t) ok (H.mem i hi) hu v
  exact ⟨_, hr, fun h => absurd rfl h, hk _ _ h1 h2 (H.setO i hi _)⟩
end
end Go.Sh
