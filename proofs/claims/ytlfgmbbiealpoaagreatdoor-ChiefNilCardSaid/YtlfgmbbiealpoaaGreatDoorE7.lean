/- An executor for the shallow reading: from the pure operations to the reading's own; loads and stores. Conditions: none. -/
import Derived.Test.YtlfgmbbiealpoaaGreatDoorE6
set_option linter.unusedVariables false
namespace Go.Sh
open Go Go.RowKit
section
variable {P : Program} {w : World}
theorem spt_any {α : Type} {r : Md} (s : Sem α) : ∀ {K : α → World → Prop} {w : World}, spt .bare P s K w → spt r P s K w := by
  induction s with
  | pure a => intro K w h; exact h
  | program k ih => intro K w h; exact ih _ h
  | mark m k ih => intro K w h; exact ih h
  | _ => intro K w h; exact h.elim
theorem evEq_any {r : Md} {neg : Bool} {t : TypeId} {x y : Operand} {a b : Value} {K : KV} (h : evEq .bare P neg t x y a b K w) : evEq r P neg t x y a b K w := by
  unfold evEq at h ⊢
  split at h <;> first | exact h | exact spt_any _ h
theorem evBin0_any {r : Md} {op : BinOp} {t : TypeId} {x y : Operand} {a b : Value} {K : KV} (h : evBin0 .bare P op t x y a b K w) : evBin0 r P op t x y a b K w := by
  unfold evBin0 at h ⊢
  split at h <;> first | exact h | exact spt_any _ h | exact evEq_any h
theorem evBin_any {r : Md} {op : BinOp} {t : TypeId} {x y : Operand} {a b : Value} {K : KV} (h : evBin .bare P op t x y a b K w) : evBin r P op t x y a b K w := by
  unfold evBin at h ⊢
  split at h <;> first | exact h | exact evBin0_any h
theorem evP_evV {r : Md} {ρ : Operand → Value} {ty : TypeId} {op : Op} {K : KV} (hc : ∀ c, op ≠ .call c) (h : evP P ρ ty op K w) : evV r P ρ ty op K w := by
  cases op <;> simp only [evP] at h
  case call c => exact absurd rfl (hc c)
  case binOp => exact evBin_any h
  case nilCheck x =>
    simp only [evV]
    split at h
    · rename_i p hp; simp only [hp]; exact h
    · exact h.elim
  case index t x i =>
    simp only [evV]
    split at h
    · rename_i s k i hx hi; simp only [hx, hi]; exact h
    · exact h.elim
  case slice t x lo hi mx =>
    cases mx with
    | some m => exact h.elim
    | none =>
      simp only [evV]
      exact h
  case fieldAddr => exact spt_any _ h
  case unOp => exact spt_any _ h
  case extract => exact spt_any _ h
  case makeInterface => exact spt_any _ h
  all_goals first | exact h.elim | exact h
theorem evP_evCall {r : Md} {ρ : Operand → Value} {ty : TypeId} {c : Call} {K : KV} (h : evP P ρ ty (.call c) K w) : evCall r P ρ ty c K w := by
  simp only [evP] at h
  unfold evCall
  split at h
  · rename_i x hc hx; simp only [hc, hx]; exact spt_any _ h
  · rename_i hc hx; simp only [hc, hx]; exact h
  · rename_i hc hx; simp only [hc, hx]; exact h
  · exact h.elim
theorem evP_sOp {r : Md} {N : Nat} {o : Oper} {env : Env} {K : Env → World → Prop} (hb : badOp o.op = false) (hk : knowsAll env (opers o.op) = true) (h : evP P (rho env) o.type o.op (fun v w => setE N env o.dst v K w) w) : sOp r P N o env K w := by
  unfold sOp
  rw [hb, hk]
  simp only
  cases ho : o.op <;> rw [ho] at h <;> simp only <;> first | exact evP_evCall h | exact evP_evV (fun c e => by cases e) h | (simp only [evP] at h; exact h.elim)
end

/-! ### loads -/
def GlOk (cx : XCx) (v : Vl) (w0 : World) : Prop := ∀ g l, assocN cx.G g = some l → g < w0.heap.size ∧ ∃ vs e z, shL v l = some vs ∧ w0.heap[g]? = some (.cells vs.toArray e z)
section
variable {cx : XCx} {w0 w : World} {v : Vl} {s : XSt}
theorem GlOk.mono {v' : Vl} (h : v.le v') (g : GlOk cx v w0) : GlOk cx v' w0 := fun i l hl => by
  obtain ⟨h1, vs, e, z, h2, h3⟩ := g i l hl
  exact ⟨h1, vs, e, z, shL_mono h h2, h3⟩
/-- the cells at an address -/
def At (w : World) (a : Addr) (cs : List Value) : Prop := ∀ j y, cs[j]? = some y → w.cell? (a.add j) = some y
theorem xsub_at {l cs : List EV} {off n : Nat} {vs : List Value} (h : xsub l off n = some cs) (hs : shL v l = some vs) : shL v cs = some ((vs.drop off).take n) ∧ cs.length = n ∧ off + n ≤ l.length := by
  unfold xsub at h
  split at h <;> cases h
  rename_i hb
  rw [lenX_eq] at hb
  have hle : off + n ≤ l.length := Nat.le_of_ble_eq_true hb
  rw [takeX_eq, dropX_eq]
  refine ⟨shL_take n (shL_drop off hs), ?_, hle⟩
  rw [List.length_take, List.length_drop]; omega
theorem cells_at {w : World} {b off : Nat} {us rest : List Value} {e : TypeId} {z : Nat × Nat} (h : w.heap[b]? = some (.cells (us ++ rest).toArray e z)) (n : Nat) (hl : off + n ≤ us.length) : At w ⟨b, off, none⟩ ((us.drop off).take n) := by
  intro j y hj
  rw [Addr.add_lit]
  have hjn : j < n := by
    have := (List.getElem?_eq_some_iff.1 hj).1
    rw [List.length_take] at this
    omega
  rw [List.getElem?_take, if_pos hjn, List.getElem?_drop] at hj
  simp only [World.cell?, h]
  rw [if_neg (by simp)]
  rw [List.getElem?_toArray, List.getElem?_append_left (by omega)]
  exact hj
/-- what is read lies there -/
theorem xread_ok {p : EV} {n : Nat} {cs : List EV} {y : Value} (h : xread cx p n s = some cs) (H : Rep w0 v s w) (g : GlOk cx v w0) (hp : sh v p = some y) : ∃ a us, y = .pointer (some a) ∧ shL v cs = some us ∧ us.length = n ∧ At w a us := by
  unfold xread at h
  split at h
  · rename_i k off
    obtain ⟨b, hb, rfl⟩ := ptr_out hp
    split at h
    · rename_i l e z ho
      obtain ⟨b', O, hb', h0, hO, vs, rest, h1, rfl, h3, h4⟩ := H.held _ _ ho
      rw [hb] at hb'; cases hb'
      obtain ⟨g1, g2, g3⟩ := xsub_at h h1
      refine ⟨_, _, rfl, g1, by rw [shL_len g1, g2], cells_at hO n (by rw [shL_len h1]; exact g3)⟩
    · cases h
  · rename_i q off
    cases hp
    split at h
    · rename_i l hl
      obtain ⟨h1, vs, e, z, h2, h3⟩ := g _ _ hl
      obtain ⟨g1, g2, g3⟩ := xsub_at h h2
      have hO : w.heap[q]? = some (.cells (vs ++ []).toArray e z) := by rw [H.below.block q h1, h3]; simp
      refine ⟨_, _, rfl, g1, by rw [shL_len g1, g2], cells_at hO n (by rw [shL_len h2]; exact g3)⟩
    · cases h
  · cases h
theorem xread1_ok {p x : EV} {y : Value} (h : xread1 cx p s = some x) (H : Rep w0 v s w) (g : GlOk cx v w0) (hp : sh v p = some y) : ∃ a u, y = .pointer (some a) ∧ sh v x = some u ∧ w.cell? a = some u := by
  unfold xread1 at h
  split at h
  · rename_i k off
    obtain ⟨b, hb, rfl⟩ := ptr_out hp
    split at h
    · rename_i l e z ho
      obtain ⟨b', O, hb', h0, hO, vs, rest, h1, rfl, h3, h4⟩ := H.held _ _ ho
      rw [hb] at hb'; cases hb'
      rw [nthX_eq] at h
      obtain ⟨u, h5, h6⟩ := shL_at h1 h
      refine ⟨_, u, rfl, h6, ?_⟩
      simp only [World.cell?, hO]
      rw [if_neg (by simp), List.getElem?_toArray, List.getElem?_append_left (List.getElem?_eq_some_iff.1 h5).1]
      exact h5
    · cases h
  · rename_i q off
    cases hp
    split at h
    · rename_i l hl
      obtain ⟨h1, vs, e, z, h2, h3⟩ := g _ _ hl
      rw [nthX_eq] at h
      obtain ⟨u, h5, h6⟩ := shL_at h2 h
      refine ⟨_, u, rfl, h6, ?_⟩
      have hO : w.heap[q]? = some (.cells vs.toArray e z) := by rw [H.below.block q h1, h3]
      simp only [World.cell?, hO]
      rw [if_neg (by simp), List.getElem?_toArray]
      exact h5
    · cases h
  · cases h
theorem ldCells_in {a : Addr} : ∀ {ls : List Leaf} {g : CkL} {xs : List EV} {vs : List Value} (i : Nat) (acc : List Value) {K : KV}, clfs ls = .mk g → g xs = true → shL v xs = some vs → (∀ j y, vs[j]? = some y → w.cell? (a.add (i + j)) = some y) → K (.agg (acc ++ vs).toArray) w → ldCells a i ls acc K w
  | [], g, xs, vs, i, acc, K, h, hg, hs, _, hk => by
    cases h
    cases xs with
    | nil => rw [shL_nil] at hs; subst hs; simpa [ldCells] using hk
    | cons a b => cases hg
  | l :: ls, g, xs, vs, i, acc, K, h, hg, hs, hf, hk => by
    simp only [clfs] at h
    split at h
    · rename_i p q hp hq
      cases h
      cases xs with
      | nil => cases hg
      | cons x xs =>
        obtain ⟨h1, h2⟩ := bB_out hg
        obtain ⟨y, us, hy, hu, rfl⟩ := shL_cons.1 hs
        refine ⟨y, hf 0 y rfl, clf_ok hp h1 hy ?_⟩
        refine ldCells_in (i + 1) (acc ++ [y]) hq h2 hu (fun j z hz => ?_) (by simpa using hk)
        have := hf (j + 1) z (by simpa using hz)
        rw [← this]; congr 2; omega
    · cases h
theorem ldCellsS_in {S : World → Prop} {a : Addr} : ∀ {ls : List Leaf} {g : CkL} {xs : List EV} {vs : List Value} (i : Nat) (acc : List Value) {K : KV}, clfs ls = .mk g → g xs = true → shL v xs = some vs → (∀ j y, vs[j]? = some y → ∀ w, S w → w.cell? (a.add (i + j)) = some y) → K (.agg (acc ++ vs).toArray) w → ldCellsS S a i ls acc K w
  | [], g, xs, vs, i, acc, K, h, hg, hs, _, hk => by
    cases h
    cases xs with
    | nil => rw [shL_nil] at hs; subst hs; simpa [ldCellsS] using hk
    | cons a b => cases hg
  | l :: ls, g, xs, vs, i, acc, K, h, hg, hs, hf, hk => by
    simp only [clfs] at h
    split at h
    · rename_i p q hp hq
      cases h
      cases xs with
      | nil => cases hg
      | cons x xs =>
        obtain ⟨h1, h2⟩ := bB_out hg
        obtain ⟨y, us, hy, hu, rfl⟩ := shL_cons.1 hs
        refine ⟨y, hf 0 y rfl, clf_ok hp h1 hy ?_⟩
        refine ldCellsS_in (i + 1) (acc ++ [y]) hq h2 hu (fun j z hz w hw => ?_) (by simpa using hk)
        have := hf (j + 1) z (by simpa using hz) w hw
        rw [← this]; congr 2; omega
    · cases h
/-- a load: the address, the value, and that it lies there (as 'L' says of a world) -/
structure LdOk (P : Program) (t : TypeId) (w : World) (v : Vl) (y : Value) (x : EV) : Prop where
  out : ∃ a u, y = .pointer (some a) ∧ sh v x = some u ∧ (∀ K : KV, K u w → ldT P t a K w)
theorem cload_ok {t : TypeId} {f : Ld_} {p : EV} {k : EV → Bool} {y : Value} (h : cload cx t = .mk f) (H : Rep w0 v s w) (g : GlOk cx v w0) (hp : sh v p = some y) (hk : f p s k = true) : ∃ x, k x = true ∧ LdOk cx.P t w v y x := by
  unfold cload at h
  split at h
  · rename_i hty hag
    split at h
    · rename_i n hn
      cases h
      obtain ⟨cs, hc, hk⟩ := oB_out hk
      obtain ⟨a, us, rfl, h1, h2, h3⟩ := xread_ok hc H g hp
      refine ⟨_, hk, ⟨a, .agg us.toArray, rfl, by simp only [sh, h1], fun K hK => ?_⟩⟩
      unfold ldT
      rw [hty, hag]
      simp only [hn]
      exact ⟨us, h2, h3, hK⟩
    · rename_i hn
      split at h <;> cases h
      rename_i q hs hq
      obtain ⟨cs, hc, hk⟩ := oB_out hk
      obtain ⟨hq1, hk⟩ := bB_out hk
      obtain ⟨a, us, rfl, h1, h2, h3⟩ := xread_ok hc H g hp
      refine ⟨_, hk, ⟨a, .agg us.toArray, rfl, by simp only [sh, h1], fun K hK => ?_⟩⟩
      unfold ldT
      rw [hty, hag]
      simp only [hn, hs]
      exact ldCells_in 0 [] hq hq1 h1 (fun j z hz => by rw [Nat.zero_add]; exact h3 j z hz) (by simpa using hK)
  · rename_i hty hag
    split at h <;> cases h
    rename_i q hq
    obtain ⟨x, hc, hk⟩ := oB_out hk
    obtain ⟨hq1, hk⟩ := bB_out hk
    obtain ⟨a, u, rfl, h1, h2⟩ := xread1_ok hc H g hp
    refine ⟨_, hk, a, u, rfl, h1, fun K hK => ?_⟩
    unfold ldT
    rw [hty, hag]
    exact ⟨u, h2, clf_ok hq hq1 h1 hK⟩
  · cases h
end
end Go.Sh
