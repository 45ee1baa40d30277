/- An executor for the shallow reading: the pure operations are sound. Conditions: none. -/
import Derived.Test.YtlfgmbbiealpoaaGreatDoorE5
set_option linter.unusedVariables false
namespace Go.Sh
open Go Go.RowKit
section
variable {v : Vl}
def Sc (e : EV) : Prop := (∃ k n, e = .int k n) ∨ (∃ b, e = .bool b) ∨ ∃ l, e = .str l
theorem Sc.sh {e : EV} (h : Sc e) : ∃ z, Go.Sh.sh v e = some z := by
  rcases h with ⟨k, n, rfl⟩ | ⟨b, rfl⟩ | ⟨l, rfl⟩ <;> exact ⟨_, rfl⟩
theorem sc_i (k : IntKind) (n : Int) : Sc (.int k n) := .inl ⟨_, _, rfl⟩
theorem sc_b (b : Bool) : Sc (.bool b) := .inr (.inl ⟨_, rfl⟩)
theorem sc_s (l : List UInt8) : Sc (.str l) := .inr (.inr ⟨_, rfl⟩)
theorem xint_sc {op : BinOp} {k : IntKind} {m n : Int} {e : EV} (h : xint op k m n = some e) : Sc e := by
  unfold xint at h
  split at h <;> first | (cases h; first | exact sc_i _ _ | exact sc_b _) | (split at h <;> cases h; exact sc_i _ _) | cases h
theorem xshift_sc {op : BinOp} {k : IntKind} {m n : Int} {e : EV} (h : xshift op k m n = some e) : Sc e := by
  unfold xshift at h
  split at h <;> cases h <;> exact sc_i _ _
theorem xopq_sc {cx : XCx} {op : BinOp} {i : Nat} {b e : EV} (h : xopq cx op i b = some e) : Sc e := by
  unfold xopq at h
  split at h
  · split at h <;> cases h; exact sc_b _
  · cases h
theorem xeq_sc {P : Program} {neg : Bool} {t : TypeId} {a b e : EV} (h : xeq P neg t a b = some e) : Sc e := by
  unfold xeq at h
  split at h <;> first | (cases h; exact sc_b _) | (split at h <;> cases h; exact sc_b _) | cases h
theorem xnil_sc {P : Program} {op : BinOp} {t : TypeId} {a e : EV} (h : xnil P op t a = some e) : Sc e := by
  unfold xnil at h
  split at h <;> cases h <;> exact sc_b _
theorem xnilF_sc {P : Program} {op : BinOp} {t : TypeId} {a e : EV} (h : xnilF P op t a = some e) : Sc e := by
  unfold xnilF at h
  split at h <;> cases h <;> exact sc_b _
theorem cbin_sc {cx : XCx} {op : BinOp} {t : TypeId} {X Y : Operand} {f : B2} {a b e : EV} (hc : cbin cx op t X Y = .mk f) (h : f a b = some e) : Sc e := by
  unfold cbin at hc
  split at hc
  · cases hc; exact xnil_sc h
  · cases hc; exact xnilF_sc h
  · split at hc <;> cases hc
    all_goals simp only at h
    all_goals repeat' split at h
    all_goals first
      | (cases h; done)
      | (cases h; first | exact sc_i _ _ | exact sc_b _ | exact sc_s _)
      | exact xopq_sc h
      | exact xeq_sc h
      | exact xshift_sc h
      | exact xint_sc h
theorem sl_sh {k o n c k' o' n' c' : Nat} {y : Value} (h : sh v (.sl k o n c) = some y) (hk : k' = k) : ∃ z, sh v (.sl k' o' n' c') = some z := by
  subst hk
  obtain ⟨b, hb, rfl⟩ := sl_out h
  exact ⟨.slice (some ⟨b.1, o', none⟩) n' c', by simp only [sh, hb]⟩
theorem slo_sh {k o n lb d : Nat} {b : Nat × Nat} (hb : v.β k = some b) (hl : lb + d ≤ b.2) : sh v (.slo k o n lb d) = some (.slice (some ⟨b.1, o, none⟩) n (b.2 - d)) := by
  simp only [sh, hb]
  rw [Nat.ble_eq_true_of_le hl]
theorem ptr_sh {k o' : Nat} {b : Nat × Nat} (hb : v.β k = some b) : sh v (.ptr k o') = some (.pointer (some ⟨b.1, o', none⟩)) := by simp only [sh, hb]
theorem xindexAddr_sh {P : Program} {t : TypeId} {a e : EV} {i : Int} {x : Value} (h : xindexAddr P t a i = some e) (ha : sh v a = some x) : ∃ z, sh v e = some z := by
  unfold xindexAddr at h
  split at h
  · split at h <;> cases h
    obtain ⟨b, hb, rfl⟩ := sl_out ha; exact ⟨_, ptr_sh hb⟩
  · split at h <;> cases h
    obtain ⟨b, hb, _, rfl⟩ := slo_out ha; exact ⟨_, ptr_sh hb⟩
  · split at h
    · split at h <;> cases h
      obtain ⟨b, hb, rfl⟩ := ptr_out ha; exact ⟨_, ptr_sh hb⟩
    · cases h
  · split at h
    · split at h <;> cases h
      exact ⟨_, rfl⟩
    · cases h
  · cases h
theorem xslice_sh {P : Program} {t : TypeId} {a e : EV} {lo hi : Option EV} {x : Value} (h : xslice P t a lo hi = some e) (ha : sh v a = some x) : ∃ z, sh v e = some z := by
  unfold xslice at h
  split at h
  · split at h
    · split at h <;> cases h; exact ⟨_, rfl⟩
    · cases h
  · split at h
    · split at h <;> cases h; exact ⟨_, rfl⟩
    · cases h
  · split at h
    · split at h <;> cases h; exact sl_sh ha rfl
    · cases h
  · split at h
    · split at h <;> cases h
      rename_i g4
      obtain ⟨b, hb, hlb, rfl⟩ := slo_out ha
      refine ⟨_, slo_sh hb ?_⟩
      simp only [Bool.or_eq_true, Nat.blt_eq] at g4
      rcases g4 with g | g
      · have := Nat.eq_of_beq_eq_true g; omega
      · omega
    · cases h
  · cases h
theorem gok {α : Type} {a : Cl α} {x : α} (h : a = .mk x) : a = .mk x := h
theorem c1_out {a : Cl Gt} {F : EV → Option EV} {f : Pf} {e : ET} {k : EV → Bool} (h : c1 a F = .mk f) (hk : f e k = true) : ∃ g x y, a = .mk g ∧ g e = some x ∧ F x = some y ∧ k y = true := by
  unfold c1 at h
  split at h
  · cases h
    obtain ⟨x, hx, hk⟩ := oB_out hk
    obtain ⟨y, hy, hk⟩ := oB_out hk
    exact ⟨_, x, y, rfl, hx, hy, hk⟩
  · cases h
theorem c2_out {a b : Cl Gt} {F : Cl B2} {f : Pf} {e : ET} {k : EV → Bool} (h : c2 a b F = .mk f) (hk : f e k = true) : ∃ g q p x y z, a = .mk g ∧ b = .mk q ∧ F = .mk p ∧ g e = some x ∧ q e = some y ∧ p x y = some z ∧ k z = true := by
  unfold c2 at h
  split at h
  · cases h
    obtain ⟨x, hx, hk⟩ := oB_out hk
    obtain ⟨y, hy, hk⟩ := oB_out hk
    obtain ⟨z, hz, hk⟩ := oB_out hk
    exact ⟨_, _, _, x, y, z, rfl, rfl, rfl, hx, hy, hz, hk⟩
  · cases h
def opL : Option Operand → List Operand
  | some x => [x]
  | none => []
theorem coptE_ok {D : Nat} {e : ET} {E : Env} {x : Option Operand} {g : ET → Option (Option EV)} {a : Option EV} (h : coptE D x = .mk g) (r : RE v D e E) (ha : g e = some a) : knowsAll E (opL x) = true ∧ Bnd v a (x.map (rho E)) := by
  unfold coptE at h
  cases x with
  | none => cases h; cases ha; exact ⟨rfl, rfl⟩
  | some x =>
    simp only at h
    split at h
    · rename_i q hq
      cases h
      simp only at ha
      split at ha <;> cases ha
      rename_i b hb
      obtain ⟨h1, h2⟩ := csrc_ok hq r hb
      exact ⟨by simp [opL, knowsAll, h1], _, h2, rfl⟩
    · cases h
theorem knowsAll_app {E : Env} : ∀ {a b : List Operand}, knowsAll E a = true → knowsAll E b = true → knowsAll E (a ++ b) = true
  | [], b, _, h => h
  | x :: a, b, h, h2 => by
    simp only [knowsAll, List.cons_append] at h ⊢
    split at h
    · exact knowsAll_app h h2
    · cases h
structure POk (cx : XCx) (v : Vl) (E : Env) (ty : TypeId) (op : Op) (x : EV) : Prop where
  val : ∃ y, sh v x = some y ∧ ∀ (K : KV) (w : World), K y w → evP cx.P (rho E) ty op K w
  bad : badOp op = false
  kn : knowsAll E (opers op) = true
set_option maxHeartbeats 1000000 in
theorem cP_ok {cx : XCx} {D : Nat} {ty : TypeId} {op : Op} {f : Pf} {e : ET} {E : Env} {k : EV → Bool} (h : cP cx D ty op = .mk f) (r : RE v D e E) (q : QOk cx v.ν) (hk : f e k = true) : ∃ x, k x = true ∧ POk cx v E ty op x := by
  have kn1 : ∀ {x : Operand}, knows E x = true → knowsAll E [x] = true := fun h => by simp [knowsAll, h]
  have kn2 : ∀ {x y : Operand}, knows E x = true → knows E y = true → knowsAll E [x, y] = true := fun h h2 => by simp [knowsAll, h, h2]
  unfold cP at h
  split at h
  -- move, assign
  · rename_i x
    split at h <;> cases h
    rename_i g hg
    obtain ⟨a, ha, hk⟩ := oB_out hk
    obtain ⟨h1, h2⟩ := csrc_ok hg r ha
    exact ⟨a, hk, ⟨_, h2, fun K w hK => hK⟩, rfl, kn1 h1⟩
  · rename_i x
    split at h <;> cases h
    rename_i g hg
    obtain ⟨a, ha, hk⟩ := oB_out hk
    obtain ⟨h1, h2⟩ := csrc_ok hg r ha
    exact ⟨a, hk, ⟨_, h2, fun K w hK => hK⟩, rfl, kn1 h1⟩
  -- pick
  · rename_i c x y
    split at h <;> cases h
    rename_i g a b hg ha hb
    obtain ⟨u, hu, hk1⟩ := oB_out hk
    obtain ⟨s, hs, hk2⟩ := oB_out hk1
    obtain ⟨t, ht, hk3⟩ := oB_out hk2
    clear hk hk1 hk2
    obtain ⟨u1, u2⟩ := csrc_ok hg r hu
    obtain ⟨s1, s2⟩ := csrc_ok ha r hs
    obtain ⟨t1, t2⟩ := csrc_ok hb r ht
    split at hk3
    · rename_i bb
      have u2 : some (Value.bool bb) = some (rho E c) := u2
      have u3 := (Option.some.inj u2).symm
      cases bb
      · exact ⟨t, hk3, ⟨_, t2, fun K w hK => by simp only [evP, u3, br]; exact hK⟩, rfl, by simp [opers, Op.operands, knowsAll, u1, s1, t1]⟩
      · exact ⟨s, hk3, ⟨_, s2, fun K w hK => by simp only [evP, u3, br]; exact hK⟩, rfl, by simp [opers, Op.operands, knowsAll, u1, s1, t1]⟩
    · cases hk3
  -- nilCheck
  · rename_i x
    split at h <;> cases h
    rename_i g hg
    obtain ⟨a, ha, hk⟩ := oB_out hk
    obtain ⟨h1, h2⟩ := csrc_ok hg r ha
    split at hk
    · obtain ⟨b, hb, e1⟩ := ptr_out h2
      exact ⟨_, hk, ⟨_, h2, fun K w hK => by simp only [evP, e1]; rw [e1] at hK; exact ⟨_, rfl, hK⟩⟩, rfl, kn1 h1⟩
    · have e1 := (Option.some.inj h2).symm
      exact ⟨_, hk, ⟨_, h2, fun K w hK => by simp only [evP, e1]; rw [e1] at hK; exact ⟨_, rfl, hK⟩⟩, rfl, kn1 h1⟩
    · cases hk
  -- binOp
  · obtain ⟨g, p, F, a, b, c, hg, hp, hF, ha, hb, hc, hk⟩ := c2_out h hk
    obtain ⟨a1, a2⟩ := csrc_ok hg r ha
    obtain ⟨b1, b2⟩ := csrc_ok hp r hb
    obtain ⟨z, hz⟩ := (cbin_sc hF hc).sh (v := v)
    exact ⟨c, hk, ⟨z, hz, fun K w hK => cbin_ok q hF hc a2 b2 hz hK⟩, rfl, kn2 a1 b1⟩
  -- build
  · rename_i t parts
    split at h <;> cases h
    rename_i g hg
    obtain ⟨l, hk, h1, h2⟩ := cparts_ok r hg hk
    obtain ⟨cs, hcs, hk⟩ := oB_out hk
    obtain ⟨us, h3, h4⟩ := xbuild_ok hcs h2
    exact ⟨_, hk, ⟨.agg us.toArray, by simp only [sh, h4], fun K w hK => by simp only [evP, h3]; exact hK⟩, rfl, h1⟩
  -- field
  · rename_i t x fl
    obtain ⟨g, a, b, hg, ha, hb, hk⟩ := c1_out h hk
    obtain ⟨a1, a2⟩ := csrc_ok hg r ha
    split at hb
    · rename_i cs
      simp only [sh] at a2
      generalize e1 : rho E x = X at a2
      split at a2 <;> cases a2
      rename_i us hus
      obtain ⟨y, h3, h4⟩ := xfield_ok hb hus
      exact ⟨b, hk, ⟨y, h4, fun K w hK => by simp only [evP, e1, List.toList_toArray, h3]; exact hK⟩, rfl, kn1 a1⟩
    · cases hb
  -- fieldAddr
  · rename_i t x fl
    split at h
    · rename_i d hd
      obtain ⟨g, a, b, hg, ha, hb, hk⟩ := c1_out h hk
      obtain ⟨a1, a2⟩ := csrc_ok hg r ha
      split at hb <;> cases hb
      · obtain ⟨b, hb, e1⟩ := ptr_out a2
        exact ⟨_, hk, ⟨_, ptr_sh hb, fun K w hK => by simp only [evP, e1]; exact fieldOff_ok hd hK⟩, rfl, kn1 a1⟩
      · have e1 := (Option.some.inj a2).symm
        exact ⟨_, hk, ⟨_, rfl, fun K w hK => by simp only [evP, e1]; exact fieldOff_ok hd hK⟩, rfl, kn1 a1⟩
    · cases h
  -- unOp
  · rename_i uo t x
    obtain ⟨g, a, b, hg, ha, hb, hk⟩ := c1_out h hk
    obtain ⟨a1, a2⟩ := csrc_ok hg r ha
    unfold xun at hb
    split at hb <;> cases hb
    · have e1 := (Option.some.inj a2).symm
      exact ⟨_, hk, ⟨_, rfl, fun K w hK => by simp only [evP, e1]; exact hK⟩, rfl, kn1 a1⟩
    · have e1 := (Option.some.inj a2).symm
      exact ⟨_, hk, ⟨_, rfl, fun K w hK => by simp only [evP, e1]; exact hK⟩, rfl, kn1 a1⟩
  -- extract
  · rename_i x i
    obtain ⟨g, a, b, hg, ha, hb, hk⟩ := c1_out h hk
    obtain ⟨a1, a2⟩ := csrc_ok hg r ha
    split at hb
    · rename_i l
      simp only [sh] at a2
      generalize e1 : rho E x = X at a2
      split at a2 <;> cases a2
      rename_i us hus
      rw [nthX_eq] at hb
      obtain ⟨y, h3, h4⟩ := shL_at hus hb
      exact ⟨b, hk, ⟨y, h4, fun K w hK => by
        simp only [evP, e1, Instr.extract, List.getElem?_toArray, h3]
        exact hK⟩, rfl, kn1 a1⟩
    · cases hb
  -- makeInterface
  · rename_i t x
    split at h
    · rename_i hi ht
      obtain ⟨g, a, b, hg, ha, hb, hk⟩ := c1_out h hk
      obtain ⟨a1, a2⟩ := csrc_ok hg r ha
      cases hb
      refine ⟨_, hk, ⟨.iface t (rho E x), by simp only [sh, a2], fun K w hK => ?_⟩, rfl, kn1 a1⟩
      simp only [evP]
      unfold isTyB at ht
      cases hd : cx.P.underlying t with
      | none => rw [hd] at ht; cases ht
      | some d =>
        refine spt_bind (underlying t) (spt_und hd ?_)
        unfold isIfTy at hi
        rw [hd] at hi
        cases d <;> first | (cases hi; done) | exact hK
    · cases h
  -- index
  · rename_i t x i
    split at h
    · rename_i ht
      obtain ⟨g, p, F, a, b, c, hg, hp, hF, ha, hb, hc, hk⟩ := c2_out h hk
      obtain ⟨a1, a2⟩ := csrc_ok hg r ha
      obtain ⟨b1, b2⟩ := csrc_ok hp r hb
      cases hF
      simp only at hc
      split at hc
      · split at hc
        · split at hc
          · rename_i j hj
            split at hc <;> cases hc
            rename_i bb hbb
            rw [lenX_eq] at hj
            obtain ⟨h0, h1, rfl⟩ := idx_ok hj
            have e1 := (Option.some.inj a2).symm
            have e2 := (Option.some.inj b2).symm
            rw [nthX_eq] at hbb
            refine ⟨_, hk, ⟨_, rfl, fun K w hK => ?_⟩, rfl, kn2 a1 b1⟩
            simp only [evP, e1, e2, ht]
            refine ⟨bb, h0, ?_, hK⟩
            have hlt : _ < _ := (List.getElem?_eq_some_iff.1 hbb).1
            rw [getElem?_pos _ _ (by simpa [ByteArray.size] using hlt)]
            have := List.getElem?_eq_some_iff.1 hbb
            simp [ByteArray.getElem_eq_getElem_data, this.2]
          · cases hc
        · cases hc
      · cases hc
    · cases h
  -- indexAddr
  · rename_i t x i
    obtain ⟨g, p, F, a, b, c, hg, hp, hF, ha, hb, hc, hk⟩ := c2_out h hk
    obtain ⟨a1, a2⟩ := csrc_ok hg r ha
    obtain ⟨b1, b2⟩ := csrc_ok hp r hb
    cases hF
    simp only at hc
    split at hc
    · obtain ⟨z, hz⟩ := xindexAddr_sh hc a2
      have e2 := (Option.some.inj b2).symm
      exact ⟨c, hk, ⟨z, hz, fun K w hK => by simp only [evP, e2]; exact xindexAddr_ok hc a2 hz hK⟩, rfl, kn2 a1 b1⟩
    · cases hc
  -- slice
  · rename_i t x lo hi
    split at h <;> cases h
    rename_i g l0 h0 hg hl hh
    obtain ⟨a, ha, hk⟩ := oB_out hk
    obtain ⟨l, hla, hk⟩ := oB_out hk
    obtain ⟨hh', hha, hk⟩ := oB_out hk
    obtain ⟨z0, hz0, hk⟩ := oB_out hk
    obtain ⟨a1, a2⟩ := csrc_ok hg r ha
    obtain ⟨l1, l2⟩ := coptE_ok hl r hla
    obtain ⟨h1, h2⟩ := coptE_ok hh r hha
    obtain ⟨z, hz⟩ := xslice_sh hz0 a2
    refine ⟨z0, hk, ⟨z, hz, fun K w hK => ?_⟩, rfl, ?_⟩
    · have := xslice_ok (w := w) (K := K) hz0 a2 l2 h2 hz hK
      simp only [evP]
      exact this
    · simp only [opers]
      have : knowsAll E ([x] ++ ((opL lo ++ opL hi) ++ [])) = true := knowsAll_app (kn1 a1) (knowsAll_app (knowsAll_app l1 h1) rfl)
      cases lo <;> cases hi <;> exact this
  -- calls
  · rename_i c
    split at h
    · rename_i hc
      split at h
      · rename_i x hx
        obtain ⟨g, a, b, hg, ha, hb, hk⟩ := c1_out h hk
        obtain ⟨a1, a2⟩ := csrc_ok hg r ha
        obtain ⟨z, hz⟩ : ∃ z, sh v b = some z := by
          unfold xlen at hb
          split at hb
          · split at hb <;> cases hb; exact ⟨_, rfl⟩
          · cases hb
        refine ⟨b, hk, ⟨z, hz, fun K w hK => ?_⟩, rfl, ?_⟩
        · simp only [evP, hc, hx, List.map_cons, List.map_nil]
          exact xlen_ok hb a2 hz hK
        · simp only [opers, hc, hx, List.nil_append]; exact kn1 a1
      · cases h
    · rename_i hc
      split at h
      · rename_i x y hx
        obtain ⟨g, p, F, a, b, c', hg, hp, hF, ha, hb, hcc, hk⟩ := c2_out h hk
        obtain ⟨a1, a2⟩ := csrc_ok hg r ha
        obtain ⟨b1, b2⟩ := csrc_ok hp r hb
        cases hF
        simp only at hcc
        split at hcc
        · split at hcc <;> cases hcc
          have e1 := (Option.some.inj a2).symm
          have e2 := (Option.some.inj b2).symm
          refine ⟨_, hk, ⟨_, rfl, fun K w hK => ?_⟩, rfl, ?_⟩
          · simp only [evP, hc, hx, List.map_cons, List.map_nil, e1, e2]
            split
            · rename_i hlt; rw [decide_eq_true hlt] at hK; exact hK
            · rename_i hlt; rw [decide_eq_false hlt] at hK; exact hK
          · simp only [opers, hc, hx, List.nil_append]; exact kn2 a1 b1
        · cases hcc
      · cases h
    · rename_i hc
      split at h
      · rename_i x y hx
        obtain ⟨g, p, F, a, b, c', hg, hp, hF, ha, hb, hcc, hk⟩ := c2_out h hk
        obtain ⟨a1, a2⟩ := csrc_ok hg r ha
        obtain ⟨b1, b2⟩ := csrc_ok hp r hb
        cases hF
        simp only at hcc
        split at hcc
        · split at hcc <;> cases hcc
          have e1 := (Option.some.inj a2).symm
          have e2 := (Option.some.inj b2).symm
          refine ⟨_, hk, ⟨_, rfl, fun K w hK => ?_⟩, rfl, ?_⟩
          · simp only [evP, hc, hx, List.map_cons, List.map_nil, e1, e2]
            split
            · rename_i hlt; rw [decide_eq_true hlt] at hK; exact hK
            · rename_i hlt; rw [decide_eq_false hlt] at hK; exact hK
          · simp only [opers, hc, hx, List.nil_append]; exact kn2 a1 b1
        · cases hcc
      · cases h
    · cases h
  · cases h
end
end Go.Sh
