/- An executor for the shallow reading: operations that look at no memory. Conditions: none. -/
import Derived.Test.YtlfgmbbiealpoaaGreatDoorE3
set_option linter.unusedVariables false
namespace Go.Sh
open Go Go.RowKit
/-! ### pure operations -/
def QOk (cx : XCx) (ν : (l : Leaf) → Nat → l.P) : Prop := ∀ i op n b, qlook cx.Q i op n = some b → xint op .i64 (ν (.int .i64) i) n = some (.bool b)
theorem beqS_eq : ∀ {a b : List UInt8}, beqS a b = decide (a = b)
  | [], [] => rfl
  | x :: r, y :: q => by
    show (Bool.rec (motive := fun _ => Bool) false (beqS r q) (Nat.beq x.toNat y.toNat)) = _
    cases hb : Nat.beq x.toNat y.toNat
    · have : x ≠ y := fun e => by subst e; simp at hb
      simp [this]
    · have : x = y := UInt8.toNat_inj.1 (Nat.eq_of_beq_eq_true hb)
      simp only [this, List.cons.injEq, true_and]
      exact beqS_eq
  | [], _ :: _ => rfl
  | _ :: _, [] => rfl
theorem toList_mk (l : List UInt8) : (ByteArray.mk l.toArray).toList = l := by
  rw [ByteArray.toList_eq]
section
variable {P : Program} {v : Vl} {w : World} {K : KV}
theorem spt_p {r : Md} {a : Value} (h : K a w) : spt r P (pure a : Sem Value) K w := h
theorem xint_ok {op : BinOp} {k : IntKind} {m n : Int} {e : EV} {y : Value} {t : TypeId} {X Y : Operand} (h : xint op k m n = some e) (hs : sh v e = some y) (hk : K y w) : evBin0 .bare P op t X Y (.int k m) (.int k n) K w := by
  cases op <;> simp only [xint, reduceCtorEq] at h
  case quo =>
    split at h <;> cases h
    rename_i hz
    cases hs
    simp only [evBin0, decide_true]
    exact ⟨of_decide_eq_false hz, hk⟩
  case rem =>
    split at h <;> cases h
    rename_i hz
    cases hs
    simp only [evBin0, decide_true]
    exact ⟨of_decide_eq_false hz, hk⟩
  all_goals
    cases h
    cases hs
    simp only [evBin0, binOp, ne_eq, not_true_eq_false, if_false, Op.intArith, Op.intCmp, Op.intBits]
    exact hk
theorem xshift_ok {op : BinOp} {k k' : IntKind} {m n : Int} {e : EV} {y : Value} {t : TypeId} {X Y : Operand} (h : xshift op k m n = some e) (hs : sh v e = some y) (hk : K y w) : evBin0 .bare P op t X Y (.int k m) (.int k' n) K w := by
  unfold xshift at h
  split at h <;> cases h <;> rename_i hn <;> cases hs <;>
    simp only [evBin0, binOp, Op.shift, if_neg (of_decide_eq_false hn)] <;> exact hk
theorem xintsEq_ok {v : Vl} : ∀ {xs ys : List EV} {us vs : List Value} {r : Bool}, xintsEq xs ys = some r → shL v xs = some us → shL v ys = some vs → intsEq us vs = some r
  | [], [], us, vs, r, h, h1, h2 => by rw [shL_nil] at h1 h2; subst h1; subst h2; exact h
  | .int k a :: xs, .int k' b :: ys, us, vs, r, h, h1, h2 => by
    obtain ⟨y1, l1, e1, g1, rfl⟩ := shL_cons.1 h1
    obtain ⟨y2, l2, e2, g2, rfl⟩ := shL_cons.1 h2
    cases e1; cases e2
    simp only [xintsEq] at h
    split at h
    · rename_i t hk ht
      cases h
      simp only [intsEq, hk, xintsEq_ok ht g1 g2]
    · cases h
theorem xeq_ok {neg : Bool} {t : TypeId} {a b e : EV} {x y z : Value} {X Y : Operand} (h : xeq P neg t a b = some e) (ha : sh v a = some x) (hb : sh v b = some y) (he : sh v e = some z) (hk : K z w) : evEq .bare P neg t X Y x y K w := by
  unfold xeq at h
  split at h
  · cases h; cases ha; cases hb; cases he
    have hbe : ∀ a b : List UInt8, (a == b) = decide (a = b) := fun a b => by rw [Bool.eq_iff_iff]; simp
    simp only [evEq, strEq, toList_mk, hbe]
    rw [beqS_eq] at hk
    cases neg <;> exact hk
  · split at h <;> cases h
    rename_i hty
    cases ha; cases hb; cases he
    simp only [evEq, hty]
    cases neg <;> exact hk
  · split at h <;> cases h
    rename_i hty
    cases ha; cases hb; cases he
    simp only [evEq, hty]
    cases neg <;> exact hk
  · split at h <;> cases h
    rename_i hty
    cases hb; cases he
    simp only [sh] at ha
    split at ha <;> cases ha
    simp only [evEq, hty]
    cases neg <;> exact hk
  · split at h <;> cases h
    rename_i hty
    cases ha; cases hb; cases he
    simp only [evEq, hty]
    cases neg <;> exact hk
  · split at h <;> cases h
    rename_i hty
    cases ha; cases hb; cases he
    simp only [evEq, hty]
    cases neg <;> exact hk
  · split at h <;> cases h
    rename_i hty
    cases hb; cases he
    simp only [sh] at ha
    split at ha <;> cases ha
    simp only [evEq, hty]
    cases neg <;> exact hk
  · split at h <;> cases h
    rename_i hty
    cases hb; cases he
    simp only [sh] at ha
    split at ha
    · split at ha <;> cases ha
      simp only [evEq, hty]
      cases neg <;> exact hk
    · cases ha
  · split at h <;> cases h
    rename_i hty
    cases ha; cases hb; cases he
    simp only [evEq, hty]
    cases neg <;> exact hk
  · split at h <;> cases h
    rename_i hty
    cases hb; cases he
    simp only [sh] at ha
    split at ha <;> cases ha
    simp only [evEq, hty]
    cases neg <;> exact hk
  · split at h <;> cases h
    rename_i xs ys _ _ r hr hs
    simp only [sh] at ha hb
    cases hus : shL v xs with
    | none => rw [hus] at ha; cases ha
    | some us =>
    cases hvs : shL v ys with
    | none => rw [hvs] at hb; cases hb
    | some vs =>
    rw [hus] at ha; rw [hvs] at hb
    cases ha; cases hb
    cases he
    simp only [evEq, List.toList_toArray, xintsEq_ok hr hus hvs]
    refine ⟨by rw [shL_len hus, ← lenX_eq]; exact hs, ?_⟩
    cases neg <;> exact hk
  · cases h
theorem xnil_ok {op : BinOp} {t : TypeId} {a e : EV} {x y z : Value} (h : xnil P op t a = some e) (ha : sh v a = some x) (hy : y = .nilIface) (he : sh v e = some z) (hk : K z w) : evNil P op t x y K w := by
  subst hy
  have hty : isIfTy P t = true := by
    unfold xnil at h
    cases hi : isIfTy P t with
    | true => rfl
    | false => rw [hi] at h; cases h
  unfold xnil at h
  rw [hty] at h
  unfold evNil
  rw [hty]
  split at h <;> cases h <;> cases he
  · cases ha; exact ⟨true, .inl ⟨rfl, rfl⟩, hk⟩
  · simp only [sh] at ha
    split at ha <;> cases ha
    exact ⟨false, .inr ⟨rfl, _, _, rfl⟩, hk⟩
  · cases ha; exact ⟨true, .inl ⟨rfl, rfl⟩, hk⟩
  · simp only [sh] at ha
    split at ha <;> cases ha
    exact ⟨false, .inr ⟨rfl, _, _, rfl⟩, hk⟩
theorem xnilF_ok {op : BinOp} {t : TypeId} {a e : EV} {x y z : Value} (h : xnilF P op t a = some e) (ha : sh v a = some x) (hy : y = .nilFunc) (he : sh v e = some z) (hk : K z w) : evNilF P op t x y K w := by
  subst hy
  have hty : isFnTy P t = true := by
    unfold xnilF at h
    cases hi : isFnTy P t with
    | true => rfl
    | false => rw [hi] at h; cases h
  unfold xnilF at h
  rw [hty] at h
  unfold evNilF
  rw [hty]
  split at h <;> cases h <;> cases he
  · cases ha; exact ⟨true, .inl ⟨rfl, rfl⟩, hk⟩
  · simp only [sh] at ha
    split at ha <;> cases ha
    exact ⟨false, .inr ⟨rfl, _, _, _, rfl⟩, hk⟩
  · simp only [sh] at ha
    split at ha <;> cases ha
    exact ⟨false, .inr ⟨rfl, _, _, _, rfl⟩, hk⟩
  · cases ha; exact ⟨true, .inl ⟨rfl, rfl⟩, hk⟩
  · simp only [sh] at ha
    split at ha <;> cases ha
    exact ⟨false, .inr ⟨rfl, _, _, _, rfl⟩, hk⟩
  · simp only [sh] at ha
    split at ha <;> cases ha
    exact ⟨false, .inr ⟨rfl, _, _, _, rfl⟩, hk⟩
end
section
variable {P : Program} {v : Vl} {w : World} {K : KV}
theorem ofV_nilI {y : Operand} {env E : Env} (h : isNilC y = true) : rho E y = .nilIface := by
  unfold isNilC at h
  split at h
  · rfl
  · cases h
theorem ofV_nilF {y : Operand} {env E : Env} (h : isNilFC y = true) : rho E y = .nilFunc := by
  unfold isNilFC at h
  split at h
  · rfl
  · cases h
theorem evEql {a b e : EV} {x y : Value} {neg : Bool} {t : TypeId} {X Y : Operand} (hq : evEq .bare P false t X Y x y K w) (h : xeq P neg t a b = some e) (ha : sh v a = some x) : evBin0 .bare P .eql t X Y x y K w := by
  unfold evBin0
  split <;> first | exact hq | skip
  all_goals (exfalso; first | (rename_i hop; exact hop rfl) | (cases a <;> simp_all [sh, xeq]))
theorem evNeq {a b e : EV} {x y : Value} {neg : Bool} {t : TypeId} {X Y : Operand} (hq : evEq .bare P true t X Y x y K w) (h : xeq P neg t a b = some e) (ha : sh v a = some x) : evBin0 .bare P .neq t X Y x y K w := by
  unfold evBin0
  split <;> first | exact hq | skip
  all_goals (exfalso; first | (rename_i hop; exact hop rfl) | (cases a <;> simp_all [sh, xeq]))
theorem xopq_ok {cx : XCx} {op : BinOp} {i : Nat} {b e : EV} {y z : Value} {t : TypeId} {X Y : Operand} (q : QOk cx v.ν) (h : xopq cx op i b = some e) (hb : sh v b = some y) (he : sh v e = some z) (hk : K z w) : evBin0 .bare cx.P op t X Y (.int .i64 (v.ν (.int .i64) i)) y K w := by
  unfold xopq at h
  split at h
  · split at h <;> cases h
    rename_i r hr
    cases hb
    exact xint_ok (q _ _ _ _ hr) he hk
  · cases h
theorem cbin_ok {cx : XCx} {op : BinOp} {t : TypeId} {X Y : Operand} {f : B2} {a b e : EV} {E : Env} {z : Value} (q : QOk cx v.ν) (hc : cbin cx op t X Y = .mk f) (h : f a b = some e) (ha : sh v a = some (rho E X)) (hb : sh v b = some (rho E Y)) (he : sh v e = some z) (hk : K z w) :
    evBin .bare cx.P op t X Y (rho E X) (rho E Y) K w := by
  unfold cbin at hc
  unfold evBin
  split at hc
  · rename_i hn
    cases hc
    simp only [hn]
    exact xnil_ok h ha (ofV_nilI (env := E) hn) he hk
  · rename_i hn hf
    cases hc
    simp only [hn, hf]
    exact xnilF_ok h ha (ofV_nilF (env := E) hf) he hk
  · rename_i hn hf
    simp only [hn, hf]
    generalize rho E X = x at ha
    generalize rho E Y = y at hb
    have one : ∀ {op : BinOp} {k k' : IntKind} {m n : Int} {e : EV}, eqK k k' = true → xint op k m n = some e → sh v e = some z → evBin0 .bare cx.P op t X Y (.int k m) (.int k' n) K w := fun hkk hx hs => by
      have := eqK_ok hkk; subst this; exact xint_ok hx hs hk
    have noint : ∀ {a b : EV} {x : Value} {neg : Bool}, xeq cx.P neg t a b = some e → sh v a = some x → (∀ k n, x = .int k n → ∀ k m, a ≠ .int k m) → True := fun _ _ _ => trivial
    split at hc <;> cases hc
    all_goals simp only at h
    -- add
    · split at h
      · split at h
        · split at h <;> cases h
          rename_i hkk
          cases ha; cases hb
          exact one hkk rfl he
        · cases h
      · split at h
        · split at h <;> cases h
          rename_i hl
          cases ha; cases hb; cases he
          simp only [evBin0]
          refine ⟨?_, ?_⟩
          · have := Nat.le_of_ble_eq_true hl
            rw [lenX_eq, lenX_eq] at this
            simpa [ByteArray.size] using this
          · have e2 : ∀ a b : List UInt8, (ByteArray.mk a.toArray) ++ (ByteArray.mk b.toArray) = ByteArray.mk (a ++ b).toArray := by
              intro a b
              apply ByteArray.ext
              simp
            rw [e2]; rw [appX_eq] at hk; exact hk
        · cases h
      · cases h
    -- sub
    · split at h
      · split at h
        · split at h <;> cases h
          rename_i hkk
          cases ha; cases hb
          exact one hkk rfl he
        · cases h
      · cases h
    · split at h
      · split at h
        · split at h <;> cases h
          rename_i hkk
          cases ha; cases hb
          exact one hkk rfl he
        · cases h
      · cases h
    iterate 4
      · split at h
        · split at h
          · split at h <;> cases h
            rename_i hkk
            cases ha; cases hb
            exact one hkk rfl he
          · cases h
        · cases ha; exact xopq_ok q h hb he hk
        · cases h
    -- eql
    · split at h
      · split at h
        · split at h <;> cases h
          rename_i hkk
          cases ha; cases hb
          exact one hkk rfl he
        · cases h
      · cases ha; exact xopq_ok q h hb he hk
      · exact evEql (xeq_ok h ha hb he hk) h ha
    · split at h
      · split at h
        · split at h <;> cases h
          rename_i hkk
          cases ha; cases hb
          exact one hkk rfl he
        · cases h
      · cases ha; exact xopq_ok q h hb he hk
      · exact evNeq (xeq_ok h ha hb he hk) h ha
    -- the others
    · split at h
      · split at h
        · split at h
          · cases ha; cases hb
            exact xshift_ok h he hk
          · split at h
            · rename_i hkk
              cases ha; cases hb
              exact one hkk h he
            · cases h
        · cases h
      · cases h
theorem putCells_eq : ∀ (vs l : List Value) (n : Nat), putCells l n vs = putL l n vs
  | [], l, n => rfl
  | x :: vs, l, n => by rw [putCells, putCells_eq vs]; rfl
theorem cells_sh {x : EV} {y : Value} (h : sh v x = some y) : shL v x.cells = some (partCells y) := by
  have one : x.cells = [x] → partCells y = [y] → shL v x.cells = some (partCells y) := fun e1 e2 => by rw [e1, e2]; exact shL_cons.2 ⟨y, [], h, rfl, rfl⟩
  cases x with
  | agg l =>
    simp only [sh] at h
    split at h <;> cases h
    rename_i vs hvs
    simpa [EV.cells, partCells] using hvs
  | opq l i =>
    refine one rfl ?_
    cases l <;> cases h <;> rfl
  | _ =>
    refine one rfl ?_
    simp only [sh] at h
    first
      | (cases h; rfl)
      | (split at h <;> cases h; rfl)
      | (split at h
         · split at h <;> cases h; rfl
         · cases h)
theorem zeroE_ok {t : TypeId} {l : List EV} (h : zeroE P t = some l) : ∃ i z, P.info? t = some i ∧ i.zero = some z ∧ shL v l = some (partCells z) := by
  unfold zeroE at h
  split at h
  · rename_i i hi
    split at h
    · rename_i z hz; exact ⟨i, z, hi, hz, ofVL_sh h⟩
    · cases h
  · cases h
theorem xfill_ok {place : Nat → Option (Nat × Nat)} : ∀ {parts : List (Nat × EV)} {cells cs : List EV} {vs : List Value} {ps : List (Nat × Value)}, xfill place cells parts = some cs → shL v cells = some vs → shP v parts = some ps → ∃ us, fillL place vs ps = some us ∧ shL v cs = some us
  | [], cells, cs, vs, ps, h, h1, h2 => by
    cases h; cases h2
    exact ⟨vs, rfl, h1⟩
  | (i, x) :: r, cells, cs, vs, ps, h, h1, h2 => by
    simp only [shP] at h2
    split at h2 <;> cases h2
    rename_i y l hy hl
    simp only [xfill] at h
    split at h
    · cases h
    · rename_i off size hp
      split at h
      · rename_i e1 e2
        have hc := cells_sh hy
        rw [putC_eq] at h
        obtain ⟨us, g1, g2⟩ := xfill_ok h (shL_put off h1 hc) hl
        refine ⟨us, ?_, g2⟩
        simp only [lenX_eq] at e1 e2
        have e2' : (off + x.cells.length).ble cells.length = true := e2
        simp only [fillL, hp, shL_len hc, shL_len h1, e1, e2', putCells_eq]
        exact g1
      · cases h
theorem xbuild_ok {t : TypeId} {parts : List (Nat × EV)} {cs : List EV} {ps : List (Nat × Value)} (h : xbuild P t parts = some cs) (hp : shP v parts = some ps) : ∃ us, buildL P t ps = some us ∧ shL v cs = some us := by
  unfold xbuild at h
  split at h
  · rename_i z hz
    obtain ⟨i, zz, h1, h2, h3⟩ := zeroE_ok (v := v) hz
    unfold buildL
    simp only [h1, h2]
    split at h
    · rename_i fs hd
      split at h
      · rename_i ha
        simp only [hd, ha]
        exact xfill_ok h h3 hp
      · cases h
    · rename_i n e hd
      split at h
      · rename_i j hj
        simp only [hd, hj]
        exact xfill_ok h h3 hp
      · cases h
    · cases h
  · cases h
theorem nth_sh {l : List EV} {vs : List Value} {i : Nat} {x : EV} (h : shL v l = some vs) (hx : nthX l i = some x) : ∃ y, nth vs i = some y ∧ sh v x = some y := by
  rw [nthX_eq] at hx
  obtain ⟨y, h1, h2⟩ := shL_at h hx
  exact ⟨y, by rw [nth_eq]; exact h1, h2⟩
theorem xfield_ok {t : TypeId} {f : Nat} {cs : List EV} {vs : List Value} {x : EV} (h : xfield P t f cs = some x) (hc : shL v cs = some vs) : ∃ y, fieldL P t f vs = some y ∧ sh v x = some y := by
  unfold xfield at h
  unfold fieldL
  split at h
  · rename_i fs hd
    simp only [hd]
    split at h
    · rename_i fd hf
      simp only [hf]
      split at h
      · rename_i h1 h2
        simp only [h1, h2]
        exact nth_sh hc h
      · rename_i h1 h2
        simp only [h1, h2]
        split at h
        · rename_i j hj
          cases h
          simp only [hj]
          exact ⟨_, rfl, by simp [sh, takeX_eq, dropX_eq, shL_take _ (shL_drop _ hc)]⟩
        · cases h
      · cases h
    · cases h
  · cases h
theorem spt_bind {α β : Type} {r : Md} (s : Sem α) : ∀ {f : α → Sem β} {K : β → World → Prop} {w : World}, spt r P s (fun a w => spt r P (f a) K w) w → spt r P (s.bind f) K w := by
  induction s with
  | pure a => intro f K w h; exact h
  | load m a k ih => intro f K w h; exact rd_mono (fun ⟨v, hv, h⟩ => ⟨v, hv, ih v h⟩) h
  | store m a v k ih => intro f K w h; exact wr_mono (fun ⟨h1, h2, hf, h⟩ => ⟨h1, h2, hf, ih h⟩) h
  | new o k ih => intro f K w h; exact wr_mono (fun h => ih _ h) h
  | shape r k ih => intro f K w h; exact rd_mono (fun h => ih _ h) h
  | freeze a n k ih => intro f K w h; exact wr_mono (fun h => ih h) h
  | frozen a k ih => intro f K w h; exact rd_mono (fun h => ih _ h) h
  | getObj r k ih => intro f K w h; exact rd_mono (fun ⟨o, ho, hc, h⟩ => ⟨o, ho, hc, ih o h⟩) h
  | setObj r o k ih => intro f K w h; exact wr_mono (fun ⟨h1, h⟩ => ⟨h1, ih h⟩) h
  | choose q k ih =>
    intro f K w h
    refine wr_mono (X := fun w => chz q (fun n w => spt r P (k n) (fun a w => spt r P (f a) K w) w) w) (Y := fun w => chz q (fun n w => spt r P ((k n).bind f) K w) w) (fun h' => ?_) h
    unfold chz at h' ⊢
    by_cases hq : q.forced = true
    · rw [if_pos hq] at h' ⊢; exact ih _ h'
    · rw [if_neg hq] at h' ⊢; exact ih _ h'
  | sys c k ih => intro f K w h; exact h.elim
  | program k ih => intro f K w h; exact ih _ h
  | mark m k ih => intro f K w h; exact ih h
  | halt h => intro f K w h; exact h.elim
theorem spt_und {r : Md} {t : TypeId} {d : TypeDesc} {K : TypeDesc → World → Prop} (hd : P.underlying t = some d) (h : K d w) : spt r P (underlying t) K w := by
  show spt r P (match P.underlying t with | some d => Sem.pure d | none => _ : Sem TypeDesc) K w
  rw [hd]; exact h
theorem spt_size {r : Md} {t : TypeId} {n : Nat} {K : Nat → World → Prop} (hd : sizeB P t n = true) (h : K n w) : spt r P (sizeOf t) K w := by
  unfold sizeB at hd
  cases hi : P.info? t with
  | none => rw [hi] at hd; cases hd
  | some i =>
    rw [hi] at hd
    have hn : i.size = n := Nat.eq_of_beq_eq_true hd
    refine spt_bind (typeInfo t) ?_
    show spt r P (match P.info? t with | some i => Sem.pure i | none => _ : Sem TypeInfo) _ w
    rw [hi]
    show K i.size w
    rw [hn]; exact h
theorem fieldOff_ok {t : TypeId} {f d : Nat} {b o : Nat} {K : KV} {w : World} (h : fieldOff P t f = some d) (hk : K (.pointer (some ⟨b, o + d, none⟩)) w) : spt .bare P (Instr.fieldAt t (.pointer (some ⟨b, o, none⟩)) f) K w := by
  unfold fieldOff at h
  split at h
  · rename_i fs hd
    split at h
    · rename_i fd hf
      split at h
      · rename_i j hj
        split at h
        · cases h
        · rename_i hz
          cases h
          have hz' : j.size ≠ 0 := fun e => by rw [e] at hz; cases hz
          have hsz : sizeB P fd.type j.size = true := by unfold sizeB; rw [hj]; exact Nat.beq_refl _
          refine spt_bind (underlying t) (spt_und hd ?_)
          have hf' : fs[f]? = some fd := by simpa using hf
          simp only [hf']
          refine spt_bind (pure _) ?_
          refine spt_bind (fieldPlace _ fd) ?_
          refine spt_bind (sizeOf fd.type) (spt_size hsz ?_)
          rw [if_neg hz']
          show K (.pointer (some (Addr.add ⟨b, o, none⟩ fd.offset))) w
          rw [Addr.add_lit]
          exact hk
      · cases h
    · cases h
  · cases h
theorem idx_ok {i : Int} {n j : Nat} (h : idxOk i n = some j) : 0 ≤ i ∧ i < n ∧ j = i.toNat := by
  unfold idxOk at h
  split at h
  · rename_i h1 h2; cases h; exact ⟨of_decide_eq_true h1, of_decide_eq_true h2, rfl⟩
  · cases h
/-- an address that is known -/
theorem ptr_out {k o : Nat} {y : Value} (h : sh v (.ptr k o) = some y) : ∃ b, v.β k = some b ∧ y = .pointer (some ⟨b.1, o, none⟩) := by
  simp only [sh] at h
  split at h <;> cases h
  rename_i b hb
  exact ⟨b, hb, rfl⟩
theorem sl_out {k o n c : Nat} {y : Value} (h : sh v (.sl k o n c) = some y) : ∃ b, v.β k = some b ∧ y = .slice (some ⟨b.1, o, none⟩) n c := by
  simp only [sh] at h
  split at h <;> cases h
  rename_i b hb
  exact ⟨b, hb, rfl⟩
theorem slo_out {k o n lb d : Nat} {y : Value} (h : sh v (.slo k o n lb d) = some y) : ∃ b, v.β k = some b ∧ lb + d ≤ b.2 ∧ y = .slice (some ⟨b.1, o, none⟩) n (b.2 - d) := by
  simp only [sh] at h
  split at h
  · rename_i b hb
    split at h <;> cases h
    rename_i hl
    exact ⟨b, hb, Nat.le_of_ble_eq_true hl, rfl⟩
  · cases h
def ixWord (P : Program) (t : TypeId) (x i : Value) (K : KV) (w : World) : Prop := match x, i with
    | .slice b n _, .int _ i => (match slElem P t with | some z => slAt b n i z (fun a w => K (.pointer (some a)) w) w | none => fls "indexAddr" w)
    | .pointer (some a), .int _ i => (match arElemA P t with | some (n, z) => arAt a n i z (fun a w => K (.pointer (some a)) w) w | none => fls "indexAddr" w)
    | _, _ => fls "indexAddr" w
theorem xindexAddr_ok {t : TypeId} {a e : EV} {x z : Value} {k : IntKind} {i : Int} (h : xindexAddr P t a i = some e) (ha : sh v a = some x) (he : sh v e = some z) (hk : K z w) :
    ixWord P t x (.int k i) K w := by
  unfold xindexAddr at h
  split at h
  · split at h <;> cases h
    rename_i z' j hz hj
    obtain ⟨h0, h1, rfl⟩ := idx_ok hj
    obtain ⟨b, hb, rfl⟩ := sl_out ha
    obtain ⟨b', hb', rfl⟩ := ptr_out he
    rw [hb] at hb'; cases hb'
    simp only [ixWord, hz]
    exact ⟨_, rfl, h0, h1, by rw [Addr.add_lit]; exact hk⟩
  · split at h <;> cases h
    rename_i z' j hz hj
    obtain ⟨h0, h1, rfl⟩ := idx_ok hj
    obtain ⟨b, hb, _, rfl⟩ := slo_out ha
    obtain ⟨b', hb', rfl⟩ := ptr_out he
    rw [hb] at hb'; cases hb'
    simp only [ixWord, hz]
    exact ⟨_, rfl, h0, h1, by rw [Addr.add_lit]; exact hk⟩
  · split at h
    · rename_i n z' hz
      split at h <;> cases h
      rename_i j hj
      obtain ⟨h0, h1, rfl⟩ := idx_ok hj
      obtain ⟨b, hb, rfl⟩ := ptr_out ha
      obtain ⟨b', hb', rfl⟩ := ptr_out he
      rw [hb] at hb'; cases hb'
      simp only [ixWord, hz]
      exact ⟨h0, h1, by rw [Addr.add_lit]; exact hk⟩
    · cases h
  · split at h
    · rename_i n z' hz
      split at h <;> cases h
      rename_i j hj
      obtain ⟨h0, h1, rfl⟩ := idx_ok hj
      cases ha; cases he
      simp only [ixWord, hz]
      exact ⟨h0, h1, by rw [Addr.add_lit]; exact hk⟩
    · cases h
  · cases h
end
end Go.Sh
