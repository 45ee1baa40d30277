/- Contract of the reference's SameInts. Conditions: none. -/
import Derived.Test.YtcfmnoimehcfnaaGreatDoorFR1
import Derived.Test.YtcfmnoimehcfnaaGreatDoorC17
set_option linter.unusedVariables false
set_option maxRecDepth 100000
namespace Go.Proofs.YtcfmnoimehcfnaaGreatDoor
open Go Go.Sh

theorem SameInts_c {w0 w : World} {hs : List Hp} {K : KV} {l m : List Int} {p q : Option Addr} {n n' c c' : Nat} (H : Sh.Holds w0 hs w) (hsl : Sl (Sh.Holds w0 hs) p n 1 (l.map I)) (hsm : Sl (Sh.Holds w0 hs) q n' 1 (m.map I)) (hl : l.length < 1000000)
    (k : ∀ w', Sh.Holds w0 hs w' → K (.bool (eqB l m)) w') : gocall Tryz.prog 35 [.slice p n c, .slice q n' c'] K w := by
  have hn : n = l.length := by have := hsl.len; simp at this; omega
  have hn' : n' = m.length := by have := hsm.len; simp at this; omega
  have bad : l ≠ m → ∀ w, Sh.Holds w0 hs w → K (.bool false) w := fun h w H => by have := k w H; rwa [show eqB l m = false by simp [eqB, h]] at this
  apply F35_go; unfold F35
  refine br_s (fun h => ?_) (fun h => ?_)
  · refine bad (fun e => ?_) _ H
    subst e; simp [hn, hn'] at h
  have hlen : l.length = m.length := by simp at h; omega
  refine ⟨fun y w => Sh.Holds w0 hs w ∧ 0 ≤ y.1 ∧ y.1 ≤ l.length ∧ ∀ j : Nat, (j : Int) < y.1 → l[j]? = m[j]?, fun y _ => (l.length - y.1).toNat, ⟨H, by simp, by simp, fun j hj => by simp at hj; omega⟩, ?_⟩
  rintro ⟨y, b, u⟩ w ⟨H, h0, h1, hf⟩
  simp only at h0 h1 hf
  refine br_s (fun h2 => ?_) (fun h2 => ?_)
  · simp only [decide_eq_true_eq] at h2
    have hx : y.toNat < l.length := by omega
    have hy : y.toNat < m.length := by omega
    have hp' := List.getElem?_eq_getElem hx
    have hq' := List.getElem?_eq_getElem hy
    replace H := H.drew
    refine slAt_s hsl h0 h2 (fun b1 o1 hp => ?_)
    refine ldS_s hsl hp H (v := I l[y.toNat]) (by simp [hp']) ?_
    refine asI_h ?_
    refine slAt_s hsm h0 (by omega) (fun b2 o2 hq => ?_)
    refine ldS_s hsm hq H (v := I m[y.toNat]) (by simp [hq']) ?_
    refine asI_h ?_
    refine br_s (fun h3 => ?_) (fun h3 => ?_)
    · refine bad (fun e => ?_) _ H
      subst e; simp at h3
    · have hw : IntKind.wrap .i64 (y + 1) = y + 1 := wrap64 (by omega) (by omega)
      simp only [hw]
      refine ⟨⟨H, by omega, by omega, fun j hj => ?_⟩, by omega⟩
      by_cases hj' : (j : Int) < y
      · exact hf j hj'
      · have : j = y.toNat := by omega
        subst this
        rw [hp', hq']
        simp at h3
        rw [h3]
  · simp only [decide_eq_false_iff_not] at h2
    have e : l = m := by
      apply List.ext_getElem?
      intro j
      by_cases hj : j < l.length
      · exact hf j (by omega)
      · rw [List.getElem?_eq_none (by omega), List.getElem?_eq_none (by omega)]
    have := k _ H
    rwa [show eqB l m = true by simp [eqB, e]] at this
end Go.Proofs.YtcfmnoimehcfnaaGreatDoor
