/- Laws of the store for a range over a function. Conditions: none. -/
import Derived.Test.YtcfmnoimehcfnaaGreatDoorHp
set_option linter.unusedVariables false
set_option maxRecDepth 100000
namespace Go.Sh
open Go
section
variable {w0 w : World} {hs : List Hp}
theorem Holds.putObj (i : Nat) {k : Nat} {o o' : Obj} (H : Holds w0 hs w) (hi : hs[i]? = some [(k, o)]) : Holds w0 (hs.set i [(k, o')]) (w.putObj k o') := by
  have hlt : k < w.heap.size := lt_of_some (H.mem i hi)
  refine Holds.perm (set_bring i hi) ((H.bring i hi).put (w.putObj k o') rfl rfl rfl (by simp [World.putObj]) ?_ ?_)
  · simp [World.putObj, hlt]
  · intro j hj hne
    simp [World.putObj, Ne.symm hne]
theorem rfn_h {P : Program} {X : Nat → Nat → Rt → World → Prop} {Y : Nat → Rt → List Value → KV → World → Prop} (H : Holds w0 hs w)
    (h : ∀ D l (R : Rt) w', (∀ args K' w', w'.heap[l]? = some (R .ready none) → Y l R args K' w' → goyield P l args K' w') → Holds w0 ([(l, R .ready none)] :: [(D, .deferred (some []))] :: hs) w' → X D l R w') : rfn P X Y w := by
  intro R hy
  have H2 := (H.alloc (.deferred (some []))).alloc (R .ready none)
  have e : (w.alloc (.deferred (some []))).heap.size = w.heap.size + 1 := by simp
  rw [e] at H2
  exact h _ _ R _ hy H2
theorem rfb_h (i : Nat) {l : Nat} {R : Rt} {X : World → Prop} (H : Holds w0 hs w) (hi : hs[i]? = some [(l, R .ready none)]) (h : ∀ w', Holds w0 (hs.set i [(l, R .busy none)]) w' → X w') : rfb l R X w := ⟨H.mem i hi, h _ (H.putObj i hi)⟩
theorem rfy_h (i : Nat) {l : Nat} {R : Rt} {K' : KV} (H : Holds w0 hs w) (hi : hs[i]? = some [(l, R .busy none)]) (h : ∀ w', Holds w0 (hs.set i [(l, R .ready none)]) w' → K' (.bool true) w') : rfy l R K' w := ⟨H.mem i hi, h _ (H.putObj i hi)⟩
theorem rfx_h (i : Nat) {l : Nat} {R : Rt} {j : Code} {K' : KV} (H : Holds w0 hs w) (hi : hs[i]? = some [(l, R .busy none)]) (h : ∀ w', Holds w0 (hs.set i [(l, R .done (some j))]) w' → K' (.bool false) w') : rfx l R j K' w := ⟨H.mem i hi, h _ (H.putObj i hi)⟩
theorem rfe_h (i : Nat) {l : Nat} {R : Rt} {st : LoopState} {pe : Option Code} {J : Option Code → World → Prop} (hst : st ≠ .busy) (H : Holds w0 hs w) (hi : hs[i]? = some [(l, R st pe)]) (h : ∀ w', Holds w0 (hs.set i [(l, R .exhausted pe)]) w' → J pe w') : rfe l R J w := ⟨st, pe, hst, H.mem i hi, h _ (H.putObj i hi)⟩
theorem dfr_h (i : Nat) {D : Nat} {X : World → Prop} (H : Holds w0 hs w) (hi : hs[i]? = some [(D, .deferred (some []))]) (h : ∀ w', Holds w0 (hs.set i [(D, .deferred none)]) w' → X w') : dfr D X w := ⟨H.mem i hi, h _ (H.putObj i hi)⟩
theorem asFn_h {f : FuncId} {cs : Array Value} {K : FuncId → Array Value → World → Prop} (h : K f cs w) : asFn (.func (.func f) #[] cs) K w := ⟨f, cs, rfl, h⟩
end
end Go.Sh
