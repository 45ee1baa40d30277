/- What the n-th line of a journal of whole lines reads as. Conditions: none. -/
import Derived.Test.YtcfmnoimehcfnaaGreatDoorJ4
import Derived.Test.YtcfmnoimehcfnaaGreatDoorAu
set_option linter.unusedVariables false
set_option maxRecDepth 100000
namespace Go.Proofs.YtcfmnoimehcfnaaGreatDoor
open Go Go.Sh

theorem parse_LB {e : En} (h : mayN e = true) : (parseE (LB e).data.toList).2 = e := by
  have h1 : ∀ x ∈ [e], mayN x = true := fun x hx => by simp only [List.mem_singleton] at hx; subst hx; exact h
  have h2 := ent_ents h1
  unfold entL at h2
  rw [good_ents h1] at h2
  simpa using h2
theorem take_at {ls : List ByteArray} : ∀ {n : Nat} {s : ByteArray}, (∀ x ∈ ls.take n, okS x = true) → ls[n]? = some s → okS s = true → (goodL ls)[n]? = some s := by
  induction ls with
  | nil => intro n s _ h _; simp at h
  | cons a r ih =>
    intro n s hk h ho
    cases n with
    | zero =>
      simp at h; subst h
      simp [goodL, ho]
    | succ n =>
      have ha : okS a = true := hk a (by simp)
      have := ih (n := n) (s := s) (fun x hx => hk x (by simp [hx])) (by simpa using h) ho
      unfold goodL at this ⊢
      rw [List.takeWhile_cons, if_pos ha]
      simpa using this
/-- the n-th entry -/
theorem ent_at {ls : List ByteArray} {es : List En} {n : Nat} {s : ByteArray} (hm : ∀ e ∈ es, mayN e = true) (hg : goodL ls = es.map LB) (hk : ∀ x ∈ ls.take n, okS x = true) (hs : ls[n]? = some s) (ho : okS s = true) : es[n]? = some (parseE s.data.toList).2 := by
  have h1 := take_at hk hs ho
  rw [hg, List.getElem?_map] at h1
  cases he : es[n]? with
  | none => rw [he] at h1; cases h1
  | some e =>
    rw [he] at h1
    simp only [Option.map_some, Option.some.injEq] at h1
    rw [← h1, parse_LB (hm e (List.mem_of_getElem? he))]
theorem okS_iff {s : ByteArray} (h : (parseE s.data.toList).1 = 0) : okS s = true := by unfold okS; rw [h]; rfl
theorem good_len {ls : List ByteArray} {es : List En} (hg : goodL ls = es.map LB) : (goodL ls).length = es.length := by rw [hg, List.length_map]
/-- where all is sure a crash loses nothing -/
theorem crash_sure {ls : List ByteArray} {sure stay torn : Int} (h : sure = ls.length) : crashL ls sure stay torn = ls := by
  subst h
  have hc := cutI_range stay (a := ((ls.length : Int) - ls.length)) (by omega)
  refine crashL_none (m := ls.length) (by omega) (List.getElem?_eq_none (Nat.le_refl _))
end Go.Proofs.YtcfmnoimehcfnaaGreatDoor
