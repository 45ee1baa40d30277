/- What a journal of sure and torn lines holds, in entries. Conditions: none. -/
import Derived.Test.YtcfmnoimehcfnaaGreatDoorJ3
import Derived.Test.YtcfmnoimehcfnaaGreatDoorC17
set_option linter.unusedVariables false
set_option maxRecDepth 100000
namespace Go.Proofs.YtcfmnoimehcfnaaGreatDoor
open Go Go.Sh

/-- a beginning of a line is none -/
theorem torn_cut {e e' : En} {m : Nat} (h : mayN e = true) (hm : m < (lineL e).length) : (lineL e).take m ≠ lineL e' := by
  intro q
  have hl := congrArg List.length q
  rw [List.length_take, Nat.min_eq_left (by omega)] at hl
  rw [lineL] at hm
  rw [signL_len] at hm
  have h1 : (lineL e')[m - 3]? = some 124 := by
    rw [lineL, signL_len] at hl
    rw [lineL, signL_eq, List.getElem?_append_right (by omega), show m - 3 - (entT e'.k (e'.id :: e'.l)).length = 0 by omega]
    rfl
  rw [lineL, signL_len] at hl
  rw [← q, List.getElem?_take, if_pos (by omega), lineL, signL_eq, List.getElem?_append_left (by omega)] at h1
  have hm := List.mem_of_getElem? h1
  obtain ⟨-, h2, -, -⟩ := mayN_out h
  simp only [entT, joinL, List.mem_append, List.mem_flatMap, List.mem_map] at hm
  rcases hm with hm | ⟨v, ⟨n, -, rfl⟩, hv⟩
  · exact h2 hm
  · rcases List.mem_cons.1 hv with h3 | h3
    · exact absurd h3 (by decide)
    · exact itoa_no124 _ h3
theorem crashL_at {ls : List ByteArray} {sure stay torn : Int} {m : Nat} {s : ByteArray} (hm : sure + cutI ((ls.length : Int) - sure) stay = m) (hs : ls[m]? = some s) : crashL ls sure stay torn = if pieceB s torn = B [] then ls.take m else ls.take m ++ [pieceB s torn] := by
  unfold crashL; rw [hm, Int.toNat_natCast]; simp only [hs]
theorem crashL_none {ls : List ByteArray} {sure stay torn : Int} {m : Nat} (hm : sure + cutI ((ls.length : Int) - sure) stay = m) (hs : ls[m]? = none) : crashL ls sure stay torn = ls := by
  unfold crashL; rw [hm, Int.toNat_natCast]; simp only [hs]
theorem okS_line {e : En} (h : mayN e = true) : okS (B (lineL e)) = true := by
  show ((parseE (lineL e)).1 == 0) = true
  rw [parse_line h]; rfl
theorem okS_cut {e : En} {m : Nat} (h : mayN e = true) (hm : m < (lineL e).length) : okS (B ((lineL e).take m)) = false := by
  show ((parseE ((lineL e).take m)).1 == 0) = false
  have : (parseE ((lineL e).take m)).1 ≠ 0 := fun q => torn_cut h hm (parse_ok q).2.symm
  simpa using this
theorem line_size {e : En} (h : mayN e = true) : (B (lineL e)).size ≤ 73 := by
  rw [B_size, lineL, signL_len]; have := entT_len h; omega
def LB (e : En) : ByteArray := B (lineL e)
theorem good_ents {es : List En} (h : ∀ e ∈ es, mayN e = true) : goodL (es.map LB) = es.map LB := by
  unfold goodL
  induction es with
  | nil => rfl
  | cons e es ih =>
    rw [List.map_cons, List.takeWhile_cons, if_pos (show okS (LB e) = true from okS_line (h e (by simp)))]
    rw [ih (fun x hx => h x (by simp [hx]))]
theorem ent_ents {es : List En} (h : ∀ e ∈ es, mayN e = true) : entL (es.map LB) = es := by
  unfold entL
  rw [good_ents h, List.map_map]
  refine (List.map_congr_left (g := _root_.id) fun e he => ?_).trans (List.map_id _)
  show (parseE (lineL e)).2 = e
  rw [parse_line (h e he)]
theorem LB_size {es : List En} (h : ∀ e ∈ es, mayN e = true) : ∀ s ∈ es.map LB, s.size ≤ 100000 := by
  intro s hs
  obtain ⟨e, he, rfl⟩ := List.mem_map.1 hs
  have := line_size (h e he)
  show (B (lineL e)).size ≤ _
  omega
/-- what a recovery finds behind a crash: the lines that stayed -/
theorem good_crash {es : List En} (h : ∀ e ∈ es, mayN e = true) {sure stay torn : Int} {m : Nat} (hm : sure + cutI ((es.length : Int) - sure) stay = m) (hle : m ≤ es.length) : goodL (crashL (es.map LB) sure stay torn) = (es.take m).map LB := by
  have hlen : (es.map LB).length = es.length := by simp
  have ht : ∀ e ∈ es.take m, mayN e = true := fun e he => h e (List.mem_of_mem_take he)
  by_cases hml : m = es.length
  · rw [crashL_none (m := m) (by rw [hlen]; exact hm) (by rw [List.getElem?_eq_none (by omega)]), good_ents h, hml, List.take_length]
  · have hlt : m < es.length := by omega
    have hg : (es.map LB)[m]? = some (LB es[m]) := by rw [List.getElem?_map, List.getElem?_eq_getElem hlt]; rfl
    rw [crashL_at (m := m) (by rw [hlen]; exact hm) hg, ← List.map_take]
    have hmm := h _ (List.getElem_mem hlt)
    split
    · exact good_ents ht
    · have hbad : okS (pieceB (LB es[m]) torn) = false := by
        have hs := line_size hmm
        have h6 : 0 < (lineL es[m]).length := by rw [lineL, signL_len]; omega
        have hq : (cutI (((LB es[m]).size : Int) - 1) torn).toNat < (lineL es[m]).length := by
          show (cutI (((lineL es[m]).length : Int) - 1) torn).toNat < _
          unfold cutI; split <;> (try split) <;> omega
        exact okS_cut hmm hq
      unfold goodL
      rw [List.takeWhile_append_of_pos (fun s hs => by
        obtain ⟨e, he, rfl⟩ := List.mem_map.1 hs
        exact okS_line (ht e he))]
      simp [hbad]
theorem crash_size {es : List En} (h : ∀ e ∈ es, mayN e = true) {sure stay torn : Int} {m : Nat} (hm : sure + cutI ((es.length : Int) - sure) stay = m) : (∀ s ∈ crashL (es.map LB) sure stay torn, s.size ≤ 100000) ∧ (crashL (es.map LB) sure stay torn).length ≤ es.length + 1 := by
  have hlen : (es.map LB).length = es.length := by simp
  cases hg : (es.map LB)[m]? with
  | none =>
    rw [crashL_none (m := m) (by rw [hlen]; exact hm) hg]
    exact ⟨LB_size h, by simp⟩
  | some s0 =>
    have hs0 : s0.size ≤ 100000 := LB_size h s0 (List.mem_of_getElem? hg)
    rw [crashL_at (m := m) (by rw [hlen]; exact hm) hg]
    split
    · exact ⟨fun s hs => LB_size h s (List.mem_of_mem_take hs), by rw [List.length_take]; omega⟩
    · refine ⟨fun s hs => ?_, by rw [List.length_append, List.length_take]; simp; omega⟩
      rcases List.mem_append.1 hs with hs | hs
      · exact LB_size h s (List.mem_of_mem_take hs)
      · simp only [List.mem_singleton] at hs
        subst hs
        unfold pieceB
        rw [B_size, List.length_take]
        have : s0.data.toList.length = s0.size := rfl
        omega
end Go.Proofs.YtcfmnoimehcfnaaGreatDoor
