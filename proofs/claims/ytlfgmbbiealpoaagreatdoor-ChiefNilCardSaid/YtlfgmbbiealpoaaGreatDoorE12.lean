/- An executor for the shallow reading: operations that touch the store. Conditions: none. -/
import Derived.Test.YtlfgmbbiealpoaaGreatDoorE11
set_option linter.unusedVariables false
namespace Go.Sh
open Go Go.RowKit
/-- one outcome -/
def Det2 {α β : Type} (F : (α → β → Bool) → Bool) : Prop := (∀ K, F K = false) ∨ ∃ a b, ∀ K, F K = K a b
def HnDet (h : XHnd) : Prop := ∀ args s, Det2 (h args s)
structure Cxt (cx : XCx) (w0 : World) (v : Vl) : Prop where
  g : GlOk cx v w0
  q : QOk cx v.ν
theorem Cxt.mono {cx : XCx} {w0 : World} {v v' : Vl} (h : v.le v') (c : Cxt cx w0 v) : Cxt cx w0 v' := ⟨c.g.mono h, by rw [h.ν]; exact c.q⟩
/-- the rounds that may be called -/
def HnOk (cx : XCx) (w0 : World) (v : Vl) (l : Nat) (h : XHnd) : Prop := ∃ b, v.β l = some b ∧ ∀ (v1 : Vl) (s : XSt) (w : World) (args : List EV) (vs : List Value) (K : Bool → XSt → Bool) (KK : KV), v.sub v1 → Cxt cx w0 v1 → Rep w0 v1 s w → shL v1 args = some vs → h args s K = true →
  (∀ v' s' w' r, v1.le v' → Rep w0 v' s' w' → K r s' = true → KK (.bool r) w') → goyield cx.P b.1 vs KK w
def GaOk (cx : XCx) (w0 : World) (v : Vl) (Γ : XG) : Prop := ∀ p ∈ Γ, HnOk cx w0 v p.1 p.2 ∧ HnDet p.2
theorem GaOk.sub {cx : XCx} {w0 : World} {v v' : Vl} {Γ : XG} (h : v.sub v') (g : GaOk cx w0 v Γ) : GaOk cx w0 v' Γ := fun p hp => by
  obtain ⟨⟨b, hb, hc⟩, hd⟩ := g p hp
  exact ⟨⟨b, h.β _ _ hb, fun v1 s w args vs K KK h1 => hc v1 s w args vs K KK (h.trans h1)⟩, hd⟩
theorem GaOk.mono {cx : XCx} {w0 : World} {v v' : Vl} {Γ : XG} (h : v.le v') (g : GaOk cx w0 v Γ) : GaOk cx w0 v' Γ := g.sub h.tosub
theorem Cxt.sub {cx : XCx} {w0 : World} {v v' : Vl} (h : v.sub v') (c : Cxt cx w0 v) : Cxt cx w0 v' := ⟨fun i l hl => by
  obtain ⟨h1, vs, e, z, h2, h3⟩ := c.g i l hl
  exact ⟨h1, vs, e, z, shL_sub h h2, h3⟩, by rw [h.ν]; exact c.q⟩
theorem RE.sub {v v' : Vl} (h : v.sub v') {D : Nat} {e : ET} {E : Env} (r : RE v D e E) : RE v' D e E :=
  ⟨r.wf, fun t x ht hx => by obtain ⟨y, h1, h2⟩ := r.some_ t x ht hx; exact ⟨y, h1, sh_sub h h2⟩, r.none_, r.out⟩
def CallOk (cx : XCx) (w0 : World) (call : XCall) : Prop := ∀ (v : Vl) (s : XSt) (w : World) (Γ : XG) (f : FuncId) (args : List EV) (vs : List Value) (K : XK) (KK : KV), Cxt cx w0 v → Rep w0 v s w → GaOk cx w0 v Γ → shL v args = some vs → call Γ f args s K = true →
  (∀ v' s' w' x y, v.le v' → Rep w0 v' s' w' → sh v' x = some y → K x s' = true → KK y w') → gocall cx.P f vs KK w
section
variable {cx : XCx} {w0 w : World} {v : Vl} {s : XSt}
def isU : Op → Bool
  | .store .. => true
  | .mapUpdate .. => true
  | .insert .. => true
  | .entryStore .. => true
  | .call .. => true
  | _ => false
def VOk (cx : XCx) (w0 : World) (v : Vl) (E : Env) (ty : TypeId) (op : Op) (w : World) (k : EV → XSt → Bool) : Prop :=
  knowsAll E (opers op) = true ∧ ∃ x s' v' w' y, k x s' = true ∧ v.le v' ∧ Rep w0 v' s' w' ∧ sh v' x = some y ∧ ∀ K : KV, K y w' → evV .full cx.P (rho E) ty op K w
theorem VOk.in {E : Env} {o : Oper} {k : EV → XSt → Bool} {N : Nat} {KE : Env → World → Prop} (h : VOk cx w0 v E o.type o.op w k) (hu : isU o.op = false) (hb : badOp o.op = false)
    (hK : ∀ v' s' w' x y, v.le v' → Rep w0 v' s' w' → sh v' x = some y → k x s' = true → setE N E o.dst y KE w') : sOpY cx.P N o E KE w := by
  obtain ⟨hk, x, s', v', w', y, h1, h2, h3, h4, h5⟩ := h
  have h6 := h5 (fun y w => setE N E o.dst y KE w) (hK v' s' w' x y h2 h3 h4 h1)
  have e : isYld E o.op = none := by cases ho : o.op <;> rw [ho] at hu <;> first | rfl | cases hu
  unfold sOpY
  rw [e]
  unfold sOp
  rw [hb, hk]
  simp only
  cases ho : o.op <;> rw [ho] at hu <;> first | (cases hu; done) | (rw [ho] at h6; exact h6)
/-- an operation without a value -/
def UOk (cx : XCx) (w0 : World) (v : Vl) (E : Env) (op : Op) (w : World) (k : EV → XSt → Bool) : Prop :=
  knowsAll E (opers op) = true ∧ ∃ s' w', k (.tup []) s' = true ∧ Rep w0 v s' w' ∧ ∀ X : World → Prop, X w' → (match op with
    | .store t x u => stWord cx.P t (rho E x) (rho E u) X w
    | .mapUpdate t m i x | .insert t m i x => mset .full cx.P t (rho E m) (rho E i) (rho E x) X w
    | .entryStore t m i x => mest .full cx.P t (rho E m) (rho E i) (rho E x) X w
    | _ => False)
theorem UOk.in {E : Env} {o : Oper} {k : EV → XSt → Bool} {N : Nat} {KE : Env → World → Prop} (h : UOk cx w0 v E o.op w k) (hb : badOp o.op = false)
    (hK : ∀ v' s' w' x y, v.le v' → Rep w0 v' s' w' → sh v' x = some y → k x s' = true → setE N E o.dst y KE w') : sOpY cx.P N o E KE w := by
  obtain ⟨hk, s', w', h1, h3, h5⟩ := h
  have h6 := h5 (fun w => setE N E o.dst undef KE w) (hK v s' w' _ _ Vl.le.rfl' h3 rfl h1)
  unfold sOpY
  cases ho : o.op <;> rw [ho] at h6 <;> first | (exact h6.elim) | skip
  all_goals
    rw [ho] at hb hk
    simp only [isYld]
    unfold sOp
    rw [ho, hb, hk]
    exact h6
theorem kn1 {E : Env} {x : Operand} (h : knows E x = true) : knowsAll E [x] = true := by simp [knowsAll, h]
theorem kn2 {E : Env} {x y : Operand} (h : knows E x = true) (h2 : knows E y = true) : knowsAll E [x, y] = true := by simp [knowsAll, h, h2]
theorem kn3 {E : Env} {x y z : Operand} (h : knows E x = true) (h2 : knows E y = true) (h3 : knows E z = true) : knowsAll E [x, y, z] = true := by simp [knowsAll, h, h2, h3]
def isCl : Op → Bool
  | .call .. => true
  | _ => false
theorem add_none (b off i : Nat) : (Addr.add ⟨b, off, none⟩ i) = ⟨b, off + i, none⟩ := by
  unfold Addr.add
  by_cases h : i = 0
  · subst h; rfl
  · simp [h]
theorem spt_sl3 {P : Program} {t : TypeId} {z n c : Nat} {a : Option Addr} {l h m : Int} {k1 k2 k3 : IntKind} (ht : slElem P t = some z) (h0 : 0 ≤ l) (h1 : l ≤ h) (h2 : h ≤ m) (h3 : m ≤ c) {K : KV} {w : World}
    (hk : K (.slice (if m.toNat = l.toNat then a else a.map (·.add (l.toNat * z))) (h.toNat - l.toNat) (m.toNat - l.toNat)) w) : spt .full P (Instr.sliceAt t (.slice a n c) (some (.int k1 l)) (some (.int k2 h)) (some (.int k3 m))) K w := by
  obtain ⟨e, hd, hs⟩ := run_slElem ht
  have b1 : ∀ {k : IntKind} {i : Int} {y : Nat} {code : BoundsCode}, 0 ≤ i → i ≤ y → Instr.sliceBound (.int k i) y code = pure i.toNat := fun h0 h1 => by
    unfold Instr.sliceBound
    show (if 0 ≤ _ ∧ _ ≤ _ then pure _ else _) = _
    rw [if_pos ⟨h0, h1⟩]
  have e1 : Instr.sliceBounds true n c (some (.int k1 l)) (some (.int k2 h)) (some (.int k3 m)) = pure (l.toNat, h.toNat, m.toNat) := by
    unfold Instr.sliceBounds
    simp only [b1 (show (0 : Int) ≤ m by omega) h3]
    show (do let h' ← Instr.sliceBound (.int k2 h) m.toNat _; let l' ← Instr.sliceBound (.int k1 l) h' _; pure (l', h', m.toNat)) = _
    rw [b1 (show (0 : Int) ≤ h by omega) (by omega)]
    show (do let l' ← Instr.sliceBound (.int k1 l) h.toNat _; pure (l', h.toNat, m.toNat)) = _
    rw [b1 h0 (by omega)]
    rfl
  unfold Instr.sliceAt
  refine spt_bind (underlying t) (spt_und hd ?_)
  show spt .full P (Instr.slice t (.slice a n c) (some (.int k1 l)) (some (.int k2 h)) (some (.int k3 m))) K w
  unfold Instr.slice
  refine spt_bind (underlying t) (spt_und hd ?_)
  show spt .full P (do let r ← Instr.sliceBounds true n c (some (.int k1 l)) (some (.int k2 h)) (some (.int k3 m)); let size ← sizeOf e; pure (.slice (if r.2.2 = r.1 then a else a.map (·.add (r.1 * size))) (r.2.1 - r.1) (r.2.2 - r.1))) K w
  rw [e1]
  exact spt_bind (sizeOf e) (spt_size hs hk)
theorem xslice3_ok {P : Program} {t : TypeId} {x l h m e : EV} {X L H' M : Value} (hx : xslice3 P t x l h m = some e) (ha : sh v x = some X) (hl : sh v l = some L) (hh : sh v h = some H') (hm : sh v m = some M) :
    ∃ y, sh v e = some y ∧ ∀ K : KV, K y w → spt .full P (Instr.sliceAt t X (some L) (some H') (some M)) K w := by
  unfold xslice3 at hx
  split at hx
  · rename_i z k1 l k2 h k3 m ht
    cases hl; cases hh; cases hm
    split at hx
    · rename_i g1 g2 g3
      have g1 := of_decide_eq_true g1
      have g2 := of_decide_eq_true g2
      have g3 := of_decide_eq_true g3
      have bq : (match Nat.beq m.toNat l.toNat with | true => (1 : Nat) | false => 0) = if m.toNat = l.toNat then 1 else 0 := by
        cases hb : Nat.beq m.toNat l.toNat with
        | true => rw [if_pos (Nat.eq_of_beq_eq_true hb)]
        | false => rw [if_neg (fun e => by rw [e, Nat.beq_refl] at hb; cases hb)]
      split at hx
      · split at hx <;> cases hx
        rename_i g4
        have g4 := of_decide_eq_true g4
        cases ha
        refine ⟨_, rfl, fun K hK => spt_sl3 ht g1 g2 g3 (by omega) ?_⟩
        have e1 : h.toNat - l.toNat = 0 := by omega
        have e2 : m.toNat - l.toNat = 0 := by omega
        rw [e1, e2]
        split <;> exact hK
      · rename_i k off n c
        split at hx <;> cases hx
        rename_i g4
        have g4 := of_decide_eq_true g4
        obtain ⟨b, hb, rfl⟩ := sl_out ha
        refine ⟨_, by (simp only [sh, hb]; rfl), fun K hK => spt_sl3 ht g1 g2 g3 g4 ?_⟩
        cases hb' : Nat.beq m.toNat l.toNat with
        | true => rw [hb'] at hK; rw [if_pos (Nat.eq_of_beq_eq_true hb')]; exact hK
        | false => rw [hb'] at hK; rw [if_neg (fun e => by rw [e, Nat.beq_refl] at hb'; cases hb')]; simpa [add_none] using hK
      · rename_i k off n lb d
        split at hx <;> cases hx
        rename_i g4
        have g4 := of_decide_eq_true g4
        obtain ⟨b, hb, hlb, rfl⟩ := slo_out ha
        refine ⟨_, by (simp only [sh, hb]; rfl), fun K hK => spt_sl3 ht g1 g2 g3 (by omega) ?_⟩
        cases hb' : Nat.beq m.toNat l.toNat with
        | true => rw [hb'] at hK; rw [if_pos (Nat.eq_of_beq_eq_true hb')]; exact hK
        | false => rw [hb'] at hK; rw [if_neg (fun e => by rw [e, Nat.beq_refl] at hb'; cases hb')]; simpa [add_none] using hK
      · cases hx
    · cases hx
  · cases hx
set_option maxHeartbeats 1000000 in
theorem cE_ok1 {D : Nat} {ty : TypeId} {op : Op} {f : XEff} {e : ET} {E : Env} {call : XCall} {Γ : XG} {k : EV → XSt → Bool} (h : cE cx D ty op = .mk f) (hcl : isCl op = false) (C : Cxt cx w0 v) (H : Rep w0 v s w) (r : RE v D e E) (hk : f call Γ e s k = true) :
    VOk cx w0 v E ty op w k ∨ UOk cx w0 v E op w k := by
  unfold cE at h
  split at h
  -- load
  · rename_i t x
    split at h <;> cases h
    rename_i g ld hg hl
    obtain ⟨a, ha, hk⟩ := oB_out hk
    obtain ⟨a1, a2⟩ := csrc_ok hg r ha
    obtain ⟨z, hk, a', u, e1, h2, h3⟩ := cload_ok hl H C.g a2 hk
    refine .inl ⟨kn1 a1, z, s, v, w, u, hk, Vl.le.rfl', H, h2, fun K hK => ?_⟩
    simp only [evV, e1]
    exact h3 K hK
  -- store
  · rename_i t x u
    split at h <;> cases h
    rename_i g q st hg hq hs
    obtain ⟨a, ha, hk⟩ := oB_out hk
    obtain ⟨b, hb, hk⟩ := oB_out hk
    obtain ⟨a1, a2⟩ := csrc_ok hg r ha
    obtain ⟨b1, b2⟩ := csrc_ok hq r hb
    obtain ⟨s', w', hk, H', h3⟩ := cstore_ok hs H a2 b2 hk
    exact .inr ⟨kn2 a1 b1, s', w', hk, H', h3⟩
  -- alloc
  · rename_i t
    split at h <;> cases h
    rename_i l hz
    obtain ⟨q, hq, hk⟩ := oB_out hk
    obtain ⟨v', w', u, h1, h2, h3, h4⟩ := alloc_ok hz hq H
    exact .inl ⟨rfl, q.1, q.2, v', w', u, hk, h1, h2, h3, h4⟩
  -- box
  · rename_i t x
    split at h <;> cases h
    rename_i g hg
    obtain ⟨a, ha, hk⟩ := oB_out hk
    obtain ⟨a1, a2⟩ := csrc_ok hg r ha
    obtain ⟨q, hq, hk⟩ := oB_out hk
    obtain ⟨v', w', u, h1, h2, h3, h4⟩ := box_ok (P := cx.P) a2 hq H
    exact .inl ⟨kn1 a1, q.1, q.2, v', w', u, hk, h1, h2, h3, h4⟩
  -- buildSlice
  · rename_i t n parts
    split at h <;> cases h
    rename_i g hg
    obtain ⟨l, hk, h1, h2⟩ := cparts_ok r hg hk
    obtain ⟨c, hc, hk⟩ := oB_out hk
    obtain ⟨h1c, hk⟩ := bB_out hk
    obtain ⟨q, hq, hk⟩ := oB_out hk
    obtain ⟨us, g1, g2⟩ := xbslice_ok (e := c.1) (cs := c.2) hc h2
    obtain ⟨v', hle, H', hb⟩ := newRow_ok (k := q.1) (s' := q.2) hq H g2
    refine .inl ⟨h1, _, _, v', _, _, hk, hle, H', by simp only [sh, hb]; rfl, fun K hK => ?_⟩
    simp only [evV, g1]
    exact hK
  -- makeMap
  · rename_i t
    cases h
    obtain ⟨q, hq, hk⟩ := oB_out hk
    obtain ⟨v', h1, h2, h3⟩ := newMap_ok (k := q.1) (s' := q.2) hq H
    exact .inl ⟨rfl, _, _, v', _, _, hk, h1, h2, h3, fun K hK => hK⟩
  · rename_i t x
    split at h <;> cases h
    rename_i g hg hm
    obtain ⟨a, ha, hk⟩ := oB_out hk
    obtain ⟨a1, a2⟩ := csrc_ok hg r ha
    split at hk
    · rename_i ik n
      obtain ⟨q, hq, hk⟩ := oB_out hk
      obtain ⟨v', h1, h2, h3⟩ := newMap_ok (k := q.1) (s' := q.2) hq H
      refine .inl ⟨kn1 a1, _, _, v', _, _, hk, h1, h2, h3, fun K hK => ?_⟩
      have e1 := (Option.some.inj a2).symm
      show spt .full cx.P (Instr.makeMap t (some (rho E x))) K w
      rw [e1]
      unfold P_isMap at hm
      split at hm
      · rename_i kt et hd
        unfold Instr.makeMap
        refine spt_bind (underlying t) (spt_und hd ?_)
        exact hK
      · cases hm
    · cases hk
  -- makeSlice
  · rename_i t l c
    split at h <;> cases h
    rename_i g q hg hq
    obtain ⟨a, ha, hk⟩ := oB_out hk
    obtain ⟨b, hb, hk⟩ := oB_out hk
    obtain ⟨a1, a2⟩ := csrc_ok hg r ha
    obtain ⟨b1, b2⟩ := csrc_ok hq r hb
    obtain ⟨z, hz, hk⟩ := oB_out hk
    obtain ⟨v', w', u, h1, h2, h3, h4⟩ := xmkslice_ok hz H a2 b2
    exact .inl ⟨kn2 a1 b1, _, _, v', w', u, hk, h1, h2, h3, fun K hK => h4 K hK⟩
  -- makeFunc
  · rename_i fi fs cs
    split at h <;> cases h
    rename_i g hfs hg
    obtain ⟨l, hk, h1, h2⟩ := csrcL_ok r hg hk
    have hfs' : fs = #[] := by apply Array.ext'; simpa using hfs
    subst hfs'
    refine .inl ⟨by simpa [opers] using h1, _, _, v, w, _, hk, Vl.le.rfl', H, by simp only [sh, h2]; rfl, fun K hK => ?_⟩
    simp only [evV]
    exact hK
  -- lookup
  · rename_i t x i ok
    split at h <;> cases h
    rename_i g q c hg hq hc
    obtain ⟨a, ha, hk⟩ := oB_out hk
    obtain ⟨b, hb, hk⟩ := oB_out hk
    obtain ⟨a1, a2⟩ := csrc_ok hg r ha
    obtain ⟨b1, b2⟩ := csrc_ok hq r hb
    obtain ⟨z, hz, hk⟩ := oB_out hk
    obtain ⟨hcz, hk⟩ := bB_out hk
    obtain ⟨u, h1, h2⟩ := xlookO_ok C.q hz H a2 b2
    exact .inl ⟨kn2 a1 b1, z, s, v, w, u, hk, Vl.le.rfl', H, h1, fun K hK => h2 _ (cres_ok hc hcz h1 hK)⟩
  -- mapUpdate
  · rename_i t m i x
    split at h <;> cases h
    rename_i g q p hg hq hp
    obtain ⟨a, ha, hk⟩ := oB_out hk
    obtain ⟨b, hb, hk⟩ := oB_out hk
    obtain ⟨c, hc, hk⟩ := oB_out hk
    obtain ⟨a1, a2⟩ := csrc_ok hg r ha
    obtain ⟨b1, b2⟩ := csrc_ok hq r hb
    obtain ⟨c1, c2⟩ := csrc_ok hp r hc
    obtain ⟨s', hs, hk⟩ := oB_out hk
    obtain ⟨w', H', h2⟩ := xupdate_ok hs H a2 b2 c2
    exact .inr ⟨kn3 a1 b1 c1, s', w', hk, H', fun X hX => h2 X hX⟩
  · rename_i t m i x
    split at h <;> cases h
    rename_i g q p hg hq hp
    obtain ⟨a, ha, hk⟩ := oB_out hk
    obtain ⟨b, hb, hk⟩ := oB_out hk
    obtain ⟨c, hc, hk⟩ := oB_out hk
    obtain ⟨a1, a2⟩ := csrc_ok hg r ha
    obtain ⟨b1, b2⟩ := csrc_ok hq r hb
    obtain ⟨c1, c2⟩ := csrc_ok hp r hc
    obtain ⟨s', hs, hk⟩ := oB_out hk
    obtain ⟨w', H', h2⟩ := xupdate_ok hs H a2 b2 c2
    exact .inr ⟨kn3 a1 b1 c1, s', w', hk, H', fun X hX => h2 X hX⟩
  -- mapEntry
  · rename_i t m i
    split at h <;> cases h
    rename_i g q p hg hq hp
    obtain ⟨a, ha, hk⟩ := oB_out hk
    obtain ⟨b, hb, hk⟩ := oB_out hk
    obtain ⟨a1, a2⟩ := csrc_ok hg r ha
    obtain ⟨b1, b2⟩ := csrc_ok hq r hb
    obtain ⟨z, hz, hk⟩ := oB_out hk
    obtain ⟨w', y, n, H', h1, h2⟩ := xentry_ok hz H a2 b2
    split at hk
    · rename_i l hl
      split at hk
      · rename_i x0 l0
        obtain ⟨hq1, hk⟩ := bB_out hk
        refine .inl ⟨kn2 a1 b1, z.1, z.2, v, w', _, hk, Vl.le.rfl', H', h1, fun K hK => h2 _ ?_⟩
        rw [hl] at h1
        simp only [sh] at h1
        split at h1
        · rename_i vs hvs
          obtain ⟨y0, q0, e1, e2, rfl⟩ := shL_cons.1 hvs
          have e3 : y0 = y := by
            have : (Value.tuple (y0 :: q0).toArray) = .tuple #[y, .int .i64 n] := by simpa using h1
            simp only [Value.tuple.injEq] at this
            have h5 := congrArg Array.toList this
            simp at h5; exact h5.1
          subst e3
          refine ⟨fun i => if i = 0 then y0 else .int .i64 n, by simp [List.range_succ], ?_⟩
          exact cty_ok hp hq1 e1 ⟨n, rfl, hK⟩
        · cases h1
      · cases hk
    · cases hk
  -- entryStore
  · rename_i t m i x
    split at h <;> cases h
    rename_i g q p hg hq hp
    obtain ⟨a, ha, hk⟩ := oB_out hk
    obtain ⟨b, hb, hk⟩ := oB_out hk
    obtain ⟨c, hc, hk⟩ := oB_out hk
    obtain ⟨a1, a2⟩ := csrc_ok hg r ha
    obtain ⟨b1, b2⟩ := csrc_ok hq r hb
    obtain ⟨c1, c2⟩ := csrc_ok hp r hc
    obtain ⟨s', hs, hk⟩ := oB_out hk
    obtain ⟨w', H', h2⟩ := xestore_ok (P := cx.P) (t := t) hs H a2 b2 c2
    exact .inr ⟨kn3 a1 b1 c1, s', w', hk, H', fun X hX => h2 X hX⟩
  -- range
  · rename_i t x
    split at h <;> cases h
    rename_i g hg
    obtain ⟨a, ha, hk⟩ := oB_out hk
    obtain ⟨a1, a2⟩ := csrc_ok hg r ha
    obtain ⟨z, hz, hk⟩ := oB_out hk
    obtain ⟨v', w', u, h1, h2, h3, h4⟩ := xrange_ok hz H a2
    exact .inl ⟨kn1 a1, _, _, v', w', u, hk, h1, h2, h3, fun K hK => h4 K hK⟩
  -- next
  · rename_i x i
    split at h <;> cases h
    rename_i g hg
    obtain ⟨a, ha, hk⟩ := oB_out hk
    obtain ⟨a1, a2⟩ := csrc_ok hg r ha
    obtain ⟨z, hz, hk⟩ := oB_out hk
    obtain ⟨w', c, rest, H', h1, h2⟩ := xnext_ok (P := cx.P) (ty := ty) hz H a2
    exact .inl ⟨kn1 a1, _, _, v, w', _, hk, Vl.le.rfl', H', h1, fun K hK => h2 _ ⟨c, rest, rfl, hK⟩⟩
  -- entry
  · rename_i x
    split at h <;> cases h
    rename_i g hg
    obtain ⟨a, ha, hk⟩ := oB_out hk
    obtain ⟨a1, a2⟩ := csrc_ok hg r ha
    obtain ⟨z, hz, hk⟩ := oB_out hk
    obtain ⟨y1, y2, h1, h2⟩ := xent_ok (P := cx.P) hz H a2
    refine .inl ⟨kn1 a1, _, _, v, w, _, hk, Vl.le.rfl', H, h1, fun K hK => h2 _ ?_⟩
    exact ⟨fun i => if i = 0 then y1 else y2, by simp [List.range_succ], hK⟩
  -- convert
  · rename_i src dst x
    split at h
    · rename_i g ks kd hg h1 h2
      cases h
      obtain ⟨a, ha, hk⟩ := oB_out hk
      obtain ⟨a1, a2⟩ := csrc_ok hg r ha
      split at hk
      · rename_i ik n
        have e1 := (Option.some.inj a2).symm
        refine .inl ⟨kn1 a1, _, _, v, w, _, hk, Vl.le.rfl', H, rfl, fun K hK => ?_⟩
        simp only [evV, e1, h1, h2]
        exact hK
      · cases hk
    · rename_i g hg hno
      cases h
      obtain ⟨a, ha, hk⟩ := oB_out hk
      obtain ⟨a1, a2⟩ := csrc_ok hg r ha
      obtain ⟨z, hz, hk⟩ := oB_out hk
      obtain ⟨u, h1, h2, h3⟩ := xconv_ok hz H C.g a2
      refine .inl ⟨kn1 a1, _, _, v, w, u, hk, Vl.le.rfl', H, h1, fun K hK => ?_⟩
      simp only [evV]
      split
      · rename_i ks kd ik n g1 g2 g3
        exact absurd g3 (h2 ik n)
      · exact h3 K hK
    · cases h
  -- typeAssert
  · rename_i x xt u ok
    split at h <;> cases h
    rename_i g c hg hc
    obtain ⟨a, ha, hk⟩ := oB_out hk
    obtain ⟨a1, a2⟩ := csrc_ok hg r ha
    obtain ⟨z, hz, hk⟩ := oB_out hk
    obtain ⟨hcz, hk⟩ := bB_out hk
    obtain ⟨y, h1, h2⟩ := xassert_ok (w := w) (xt := xt) hz a2
    exact .inl ⟨kn1 a1, z, s, v, w, y, hk, Vl.le.rfl', H, h1, fun K hK => h2 _ (cres_ok hc hcz h1 hK)⟩
  -- index
  · rename_i t x i
    split at h <;> cases h
    rename_i g q c hg hq hc
    obtain ⟨a, ha, k1⟩ := oB_out hk
    obtain ⟨b, hb, k2⟩ := oB_out k1
    obtain ⟨a1, a2⟩ := csrc_ok hg r ha
    obtain ⟨b1, b2⟩ := csrc_ok hq r hb
    obtain ⟨z, hz, k3⟩ := oB_out k2
    obtain ⟨hcz, k4⟩ := bB_out k3
    clear hk k1 k2 k3
    unfold xaggAt at hz
    split at hz
    · rename_i cs ik n
      split at hz
      · rename_i m zs hm
        split at hz
        · rename_i j hj
          simp only [sh] at a2
          generalize e1 : rho E x = X at a2
          split at a2 <;> cases a2
          rename_i us hus
          have e2 := (Option.some.inj b2).symm
          obtain ⟨h0, h1, rfl⟩ := idx_ok hj
          rw [nthX_eq] at hz
          obtain ⟨y, h3, h4⟩ := shL_at hus hz
          refine .inl ⟨kn2 a1 b1, z, s, v, w, y, k4, Vl.le.rfl', H, h4, fun K hK => ?_⟩
          simp only [evV, e1, e2, hm]
          exact ⟨y, h0, h1, by simpa using h3, cty_ok hc hcz h4 hK⟩
        · cases hz
      · cases hz
    · cases hz
  -- slice, with a bound of its own
  · rename_i t x lo hi mx
    split at h <;> cases h
    rename_i g ql qh qm hg hl hh hm
    obtain ⟨a, ha, hk⟩ := oB_out hk
    obtain ⟨l, el, hk⟩ := oB_out hk
    obtain ⟨h, eh, hk⟩ := oB_out hk
    obtain ⟨m, em, hk⟩ := oB_out hk
    obtain ⟨z, hz, hk⟩ := oB_out hk
    obtain ⟨a1, a2⟩ := csrc_ok hg r ha
    obtain ⟨b1, b2⟩ := csrc_ok hl r el
    obtain ⟨c1, c2⟩ := csrc_ok hh r eh
    obtain ⟨d1, d2⟩ := csrc_ok hm r em
    obtain ⟨u, h1, h2⟩ := xslice3_ok (w := w) hz a2 b2 c2 d2
    exact .inl ⟨by simp [opers, knowsAll, a1, b1, c1, d1], z, s, v, w, u, hk, Vl.le.rfl', H, h1, fun K hK => h2 K hK⟩
  -- call
  · cases hcl
  · cases h
end
end Go.Sh
