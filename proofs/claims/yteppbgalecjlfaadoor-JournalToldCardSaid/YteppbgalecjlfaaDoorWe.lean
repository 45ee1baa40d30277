/- What JournalTold's row needs: an entry that comes in, opened. Conditions: none. -/
import Derived.Test.YteppbgalecjlfaaDoorWc
set_option linter.unusedVariables false
set_option maxRecDepth 100000
namespace Go.Proofs.YteppbgalecjlfaaDoor
open Go Go.ChangeShapes Go.WideShapes Go.ChangeAt Go.RowKit

theorem open_entry {H : Type} {enc : TypeId × Value → H} {W : World} {sp : Nat → Bool} {v : Value} {d : DataW H} {ps : List MemPlace} {r : Reach} {b0 : Nat} (h : DataW.Trod enc Tryd.prog W 0 sp true 29 v d ps) (hok : Value.okWide Tryd.prog W r b0 29 v) :
    ∃ (e : En) (p : Option Addr) (n c : Nat), v = enV e (.slice p n c) ∧ Sh.Sl (Sh.Holds W []) p n 1 (e.l.map I) := by
  obtain ⟨fuel, h⟩ := h
  unfold Value.okWide at hok
  rw [Tryd.underlying29] at hok
  obtain ⟨cs, rfl, hsz, ts, h1, -, h3⟩ := hok
  have h : DataW.trod enc Tryd.prog W 0 sp true fuel 29 cs.toList = some (d, ps) := h
  obtain ⟨q, hq, hsl⟩ := trod_entry h
  obtain ⟨cs⟩ := cs
  simp only at hq
  subst hq
  exact ⟨q.e, q.p, q.n, q.c, rfl, hsl⟩
end Go.Proofs.YteppbgalecjlfaaDoor
