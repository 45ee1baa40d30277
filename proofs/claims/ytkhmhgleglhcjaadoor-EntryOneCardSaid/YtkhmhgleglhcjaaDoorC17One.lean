/- What law3's EntryOne computes: true, of any two entries. Conditions: none. -/
import Derived.Test.YtkhmhgleglhcjaaDoorC17
import Derived.Test.YtkhmhgleglhcjaaDoorFEOne
set_option linter.unusedVariables false
set_option maxRecDepth 100000
namespace Go.Proofs.YtkhmhgleglhcjaaDoor
open Go Go.Sh

theorem lineL_inj {a b : En} (ha : mayN a = true) (hb : mayN b = true) : decide (lineL a = lineL b) = sameE a b := by
  by_cases h : a = b
  · subst h; rw [sameE_iff.2 rfl]; simp
  · rw [sameE_false h, decide_eq_false_iff_not]
    intro e
    have e1 := parse_line ha
    have e2 := parse_line hb
    rw [e, e2] at e1
    exact h (Prod.mk.inj e1).2.symm
theorem One_c {w0 w : World} {hs : List Hp} {K : KV} {a b : En} {p q : Option Addr} {n n' c c' : Nat} (E : Errs w0) (T : Tab w0) (H : Sh.Holds w0 hs w) (hsl : Sl (Sh.Holds w0 hs) p n 1 (a.l.map I)) (hsm : Sl (Sh.Holds w0 hs) q n' 1 (b.l.map I))
    (k : ∀ w', Sh.Holds w0 hs w' → K (.bool true) w') : gocall Tryd.prog 7 [enV a (.slice p n c), enV b (.slice q n' c')] K w := by
  have hn : n = a.l.length := by have := hsl.len; simp at this; omega
  have hn' : n' = b.l.length := by have := hsm.len; simp at this; omega
  apply F7_go; unfold F7
  refine nwE_h H (fun k1 w H => ?_)
  refine nwE_h H (fun k2 w H => ?_)
  have aw : ∀ {w}, Sh.Holds w0 (eHp k2 b.k b.id (.slice q n' c') :: eHp k1 a.k a.id (.slice p n c) :: hs) w → gocall Tryd.prog 14 [] (fun v33 w34 => asBoo (v33) (fun b35 w36 => K (Value.bool (b35)) (w36)) (w34)) w := by
    intro w H
    refine awake3_c E T H (fun w H => ?_)
    refine asBoo_h ?_
    exact k _ H.tail.tail
  have s1 : Sl (Sh.Holds w0 (eHp k2 b.k b.id (.slice q n' c') :: eHp k1 a.k a.id (.slice p n c) :: hs)) p n 1 (a.l.map I) := hsl.mono fun w H => H.tail.tail
  have s2 : Sl (Sh.Holds w0 (eHp k2 b.k b.id (.slice q n' c') :: eHp k1 a.k a.id (.slice p n c) :: hs)) q n' 1 (b.l.map I) := hsm.mono fun w H => H.tail.tail
  apply ld3_h 1 H rfl
  refine light_c (e := a) H (fun w H => ?_)
  refine asBoo_h ?_
  refine br_s (fun _ => aw H) (fun h1 => ?_)
  apply ld3_h 0 H rfl
  refine light_c (e := b) H (fun w H => ?_)
  refine asBoo_h ?_
  refine br_s (fun _ => aw H) (fun h2 => ?_)
  simp only [Bool.not_eq_false', Bool.and_eq_true, decide_eq_true_eq] at h1 h2
  apply ld3_h 1 H rfl
  refine Line3_c (e := a) T (by omega) s1 H (fun w H => ?_)
  refine asT_e [_, _] rfl rfl ?_
  refine asStr_e rfl ?_
  refine asI_e rfl ?_
  apply ld3_h 0 H rfl
  refine Line3_c (e := b) T (by omega) s2 H (fun w H => ?_)
  refine asT_e [_, _] rfl rfl ?_
  refine asStr_e rfl ?_
  refine asI_e rfl ?_
  cases ha : mayN a with
  | false => exact br_t (by simp [lineR, ha]) (aw H)
  | true =>
    have la : lineR a = (lineL a, 0) := by rw [lineR, if_pos ha]
    rw [la]
    refine br_f rfl ?_
    cases hb : mayN b with
    | false => exact br_t (by simp [lineR, hb]) (aw H)
    | true =>
      have lb : lineR b = (lineL b, 0) := by rw [lineR, if_pos hb]
      rw [lb]
      refine br_f rfl ?_
      apply ld3_h 1 H rfl
      apply ld3_h 0 H rfl
      refine entSame_c (a := a) (b := b) H s1 s2 (by omega) (fun w H => ?_)
      refine asBoo_h ?_
      refine br_t ?_ ?_
      · simp only [Bool.false_eq_true, if_false]
        rw [strEq_B, lineL_inj ha hb]
        simp
      apply ld3_h 1 H rfl
      apply ld3_h 1 H rfl
      refine entSame_c (a := a) (b := a) H s1 s1 (by omega) (fun w H => ?_)
      refine asBoo_h ?_
      rw [sameE_iff.2 rfl]
      exact br_t rfl (aw H)
end Go.Proofs.YtkhmhgleglhcjaaDoor
