/- Contracts of slices.Sort, Sorted, Collect, Values and maps.Keys. Conditions: none. -/
import Derived.Test.YtcfmnoimehcfnaaGreatDoorShelfS
import Derived.Test.YtcfmnoimehcfnaaGreatDoorFI
import Derived.Test.YtcfmnoimehcfnaaGreatDoorRf
import Derived.Test.YtcfmnoimehcfnaaGreatDoorRg
import Derived.Test.YtcfmnoimehcfnaaGreatDoorAu
import Derived.Test.YtcfmnoimehcfnaaGreatDoorC2
import Derived.Test.YtcfmnoimehcfnaaGreatDoorCJ
set_option linter.unusedVariables false
set_option linter.unusedSimpArgs false
set_option maxRecDepth 100000
namespace Go.Proofs.YtcfmnoimehcfnaaGreatDoor
open Go Go.Sh

def srt (zs : List Int) : List Int := zs.mergeSort fun x y => decide (x ≤ y)
theorem srt_len (zs : List Int) : (srt zs).length = zs.length := by simp [srt]
theorem nodup_at {α β : Type} {f : α → β} : ∀ {l : List α}, (l.map f).Nodup → ∀ {a b : α}, a ∈ l → b ∈ l → f a = f b → a = b
  | [], _, a, b, ha, _, _ => by simp at ha
  | x :: l, h, a, b, ha, hb, e => by
    simp only [List.map_cons, List.nodup_cons] at h
    rcases List.mem_cons.1 ha with e1 | ha'
    · rcases List.mem_cons.1 hb with e2 | hb'
      · rw [e1, e2]
      · exact absurd (by rw [← e1, e]; exact List.mem_map_of_mem hb') h.1
    · rcases List.mem_cons.1 hb with e2 | hb'
      · exact absurd (by rw [← e2, ← e]; exact List.mem_map_of_mem ha') h.1
      · exact nodup_at h.2 ha' hb' e
section
variable {w0 w : World} {hs R : List Hp} {K : KV}
theorem put_take {zs : List Int} {cur : Array Value} {n : Nat} (h : zs.length = n) (hn : n ≤ cur.size) : ((Go.Sort.putCells (Value.int .i64) 0 zs.toArray cur).toList.take n) = zs.map I := by
  apply List.ext_getElem?
  intro j
  rw [List.getElem?_take, List.getElem?_map]
  split
  · rename_i hj
    rw [Array.getElem?_toList]
    unfold Go.Sort.putCells
    rw [Array.getElem?_mapIdx]
    have hz : zs[j]? = some zs[j] := List.getElem?_eq_getElem (by omega)
    rw [Array.getElem?_eq_getElem (by omega)]
    simp only [Option.map_some, hz]
    rw [if_pos ⟨by omega, by simp; omega⟩]
    congr 1
    simp only [Nat.sub_zero]
    rw [getElem!_pos _ j (by simp; omega)]
    simp
  · rename_i hj
    rw [List.getElem?_eq_none (by omega)]; rfl
theorem sort_c {r : Row} {zs : List Int} (H : Sh.Holds w0 (r.hp 3 :: R) w) (ok : r.Ok 1 (zs.map I)) (hsz : zs.length < 1000000)
    (k : ∀ (r' : Row) w', r'.v = r.v → r'.n = r.n → r'.Ok 1 ((srt zs).map I) → Sh.Holds w0 (r'.hp 3 :: R) w' → K (.tuple #[]) w') : gocall Tryz.prog 290 [r.v] K w := by
  have hn : r.n = zs.length := by have := ok.len; simp at this; omega
  cases hg : r.g with
  | none =>
    obtain ⟨n0, c0⟩ := ok.no hg
    have hz : zs = [] := List.eq_nil_of_length_eq_zero (by omega)
    have hv : r.v = .slice none 0 0 := by simp [Row.v, Row.p, hg, n0, c0]
    rw [hv]
    refine ⟨by kernel_rfl, (Tryz.slices_Sort_int_none none 0 w).mono ?_⟩
    rintro e w' ⟨rfl, rfl⟩
    refine ⟨_, rfl, k r w' rfl rfl ?_ H⟩
    subst hz
    simpa [srt] using ok
  | some g =>
    obtain ⟨h1, h2, h3, h4⟩ := ok.yes g hg
    have hv : r.v = .slice (some ⟨g, 0, none⟩) zs.length r.c := by simp [Row.v, Row.p, hg, hn]
    have hH : Sh.Holds w0 ([(g, .cells r.cur 3 (0, 0))] :: R) w := by
      have e : r.hp 3 = [(g, .cells r.cur 3 (0, 0))] := by simp [Row.hp, hg]
      rw [← e]; exact H
    have hm := hH.mem 0 rfl
    have hlt : g < w.heap.size := lt_of_some hm
    have hcur : ∀ j : Nat, j < zs.length → r.cur[j]? = (zs.map I)[j]? := fun j hj => by
      rw [← h4, List.getElem?_take, if_pos (by omega), Array.getElem?_toList]
    have hSH : Go.Sort.Holds (Value.int .i64) w g 0 zs.toArray := fun j hj => by
      have hj : j < zs.length := by simpa using hj
      refine ⟨?_, by simp [World.frozen?, hm]⟩
      simp only [World.cell?, hm, Nat.zero_add]
      rw [hcur j hj, List.getElem?_map, List.getElem?_eq_getElem hj, getElem!_pos _ j (by simpa using hj)]
      simp
    rw [hv]
    refine ⟨by kernel_rfl, (Tryz.slices_Sort_int g 0 r.c zs w hSH hlt (by omega)).mono ?_⟩
    rintro e w' ⟨rfl, n, os, rfl⟩
    refine ⟨_, rfl, ?_⟩
    have hl := srt_len zs
    refine k ⟨some g, r.n, r.c, Go.Sort.putCells (Value.int .i64) 0 (srt zs).toArray r.cur⟩ _ (by simp [Row.v, Row.p, hg]) rfl ⟨by simp [hl, hn], fun h => by simp at h, fun g' hg' => ?_⟩ ?_
    · refine ⟨h1, h2, ?_, ?_⟩
      · unfold Go.Sort.putCells; rw [Array.size_mapIdx]; exact h3
      · rw [Nat.mul_one]
        exact put_take (by rw [hl, hn]) (by simp only; omega)
    · refine hH.put _ rfl rfl rfl ?_ ?_ ?_
      · simp [Go.Sort.grow, Go.Sort.putRow, Go.Sort.mapBlock, Go.Sort.ahead]
      · simp only [Go.Sort.grow, Go.Sort.putRow, Go.Sort.mapBlock, Go.Sort.ahead]
        rw [Array.getElem?_append_left (by simpa using hlt), Array.getElem?_modify, if_pos rfl, hm]
        rfl
      · intro j hj hne
        simp only [Go.Sort.grow, Go.Sort.putRow, Go.Sort.mapBlock, Go.Sort.ahead]
        rw [Array.getElem?_append_left (by simpa using hj), Array.getElem?_modify, if_neg (fun e => hne e.symm)]
/-- maps.Keys, gone through: each key once -/
theorem keys_c {cs0 fr : List Hp} {y kb m c : Nat} {l : List TriG} (C : List Int → List Hp → Prop) (ok : GOk l c) (i j : Nat) (hi : fr[i]? = some [(kb, .cells #[.map (some m)] 133 (0, 0))]) (hj : fr[j]? = some [(m, mapG l c)])
    (H : Sh.Holds w0 (cs0 ++ fr) w) (h0 : C [] cs0)
    (hy : ∀ (ks : List Int) (x : Int) (cs fr : List Hp) (K' : KV) (w : World), C ks cs → x ∉ ks → (∃ t ∈ l, t.1 = x) → Sh.Holds w0 (cs ++ fr) w → (∀ cs' w', C (ks ++ [x]) cs' → Sh.Holds w0 (cs' ++ fr) w' → K' (.bool true) w') → goyield Tryz.prog y [I x] K' w)
    (k : ∀ (ks : List Int) cs' w', ks.Perm (l.map (·.1)) → C ks cs' → Sh.Holds w0 (cs' ++ fr) w' → K (.tuple #[]) w') : gocall Tryz.prog 291 [yv y, .pointer (some ⟨kb, 0, none⟩)] K w := by
  have frI : ∀ {cs : List Hp} (q : Nat) (c : Hp), fr[q]? = some c → (cs ++ fr)[cs.length + q]? = some c := fun {cs} q c h => by
    rw [List.getElem?_append_right (by omega), show cs.length + q - cs.length = q by omega]; exact h
  apply F291_go; unfold F291
  refine ld_h (cs0.length + i) H (frI i _ hi) rfl ?_
  refine asMap_h ?_
  refine mrngG_h (t := 133) rfl (cs0.length + j) H (frI j _ hj) (fun r w H => ?_)
  refine ⟨fun _ w => ∃ (seen : Array Nat) (ks : List Int) (cs : List Hp), C ks cs ∧ ks.Nodup ∧ (∀ x ∈ ks, ∃ t ∈ l, t.1 = x) ∧ (∀ t ∈ l, seen.contains t.2.2 = true ↔ t.1 ∈ ks) ∧ Sh.Holds w0 ([(r, itO m c seen c)] :: (cs ++ fr)) w, fun _ w => itL l r w, ⟨#[], [], cs0, h0, by simp, by simp, by simp, H⟩, ?_⟩
  clear H
  rintro ⟨⟩ w ⟨seen, ks, cs, hC, hnd, hin, hse, H⟩
  have hmw : itL l r w = (leftOf (l.map entG).toArray seen).size := itL_h H
  refine mnxtG_h (cs.length + j) H (frI j _ hj) ok.born (Nat.le_refl _) (fun hall => ?_) (fun t ht hns2 hlt w H => ?_)
  · refine ⟨false, [], rfl, ?_⟩
    refine br_f rfl ?_
    refine k ks cs w ?_ hC H.tail
    rw [List.perm_ext_iff_of_nodup hnd ok.keys]
    intro x
    refine ⟨fun hx => ?_, fun hx => ?_⟩
    · obtain ⟨t, ht, e⟩ := hin x hx
      exact List.mem_map.2 ⟨t, ht, e⟩
    · obtain ⟨t, ht, rfl⟩ := List.mem_map.1 hx
      exact (hse t ht).1 (hall t ht)
  · refine ⟨true, [I t.1, t.2.1], rfl, ?_⟩
    refine br_t rfl ?_
    refine mtryG_h (cs.length + j + 1) 0 H rfl (by simpa using frI j _ hj) ht ok ?_
    refine asT_e [_, _] rfl rfl ?_
    refine asI_e rfl ?_
    have hnot : t.1 ∉ ks := fun h => by
      have := (hse t ht).2 h
      rw [hns2] at this; cases this
    have H2 : Sh.Holds w0 (cs ++ ([(r, itO m c (seen.push t.2.2) c)] :: fr)) w := Holds.mid (x := [[(r, itO m c (seen.push t.2.2) c)]]) (a := cs) (b := fr) H
    refine hy ks t.1 cs _ _ _ hC hnot ⟨t, ht, rfl⟩ H2 (fun cs' w' hC' H3 => ?_)
    refine asBoo_h ?_
    refine br_f rfl ?_
    have H4 : Sh.Holds w0 ([(r, itO m c (seen.push t.2.2) c)] :: (cs' ++ fr)) w' := Holds.mid (x := cs') (a := [[(r, itO m c (seen.push t.2.2) c)]]) (b := fr) H3
    refine ⟨⟨seen.push t.2.2, ks ++ [t.1], cs', hC', ?_, fun x hx => ?_, fun u hu => ?_, H4⟩, by show itL l r w' < itL l r _; rw [itL_h H4, hmw]; exact hlt⟩
    · rw [List.nodup_append]
      refine ⟨hnd, by simp, fun a ha b hb => ?_⟩
      simp only [List.mem_singleton] at hb
      subst hb
      exact fun e => hnot (e ▸ ha)
    · rcases List.mem_append.1 hx with hx | hx
      · exact hin x hx
      · simp only [List.mem_singleton] at hx
        exact ⟨t, ht, hx.symm⟩
    · have := hse u hu
      simp only [Array.contains_iff_mem, Array.mem_push, List.mem_append, List.mem_singleton] at this ⊢
      rw [this]
      refine or_congr Iff.rfl ⟨fun e => ?_, fun e => ?_⟩
      · exact congrArg (·.1) (nodup_at ok.stamps hu ht e)
      · exact congrArg (·.2.2) (nodup_at ok.keys hu ht e)
end
end Go.Proofs.YtcfmnoimehcfnaaGreatDoor
