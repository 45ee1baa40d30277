/- An executor for the shallow reading: a loop that looks for something in a map is what it does. Conditions: none. -/
import Derived.Test.YtlfgmbbiealpoaaGreatDoorE27
set_option linter.unusedVariables false
namespace Go.Sh
open Go Go.RowKit Go.ChangeMaps
section
variable {cx : XCx} {w0 w : World} {v v0 : Vl} {s s0 st sc : XSt} {r : Nat}
theorem leftX_iff {seen : List Nat} {t : XTri} : ∀ {l : List XTri}, t ∈ leftX seen l ↔ t ∈ l ∧ memX seen t.2.2 = false
  | [] => by simp [leftX]
  | u :: l => by
    simp only [leftX]
    split
    · rename_i hm
      rw [leftX_iff (l := l), List.mem_cons]
      constructor
      · rintro ⟨h1, h2⟩; exact ⟨.inr h1, h2⟩
      · rintro ⟨rfl | h1, h2⟩
        · rw [hm] at h2; cases h2
        · exact ⟨h1, h2⟩
    · rename_i hm
      rw [List.mem_cons, leftX_iff (l := l), List.mem_cons]
      constructor
      · rintro (rfl | ⟨h1, h2⟩)
        · exact ⟨.inl rfl, hm⟩
        · exact ⟨.inr h1, h2⟩
      · rintro ⟨rfl | h1, h2⟩
        · exact .inl rfl
        · exact .inr ⟨h1, h2⟩
theorem memX_cons {b c : Nat} {l : List Nat} : memX (b :: l) c = (Nat.beq c b || memX l c) := by
  simp only [memX]
  cases Nat.beq c b <;> rfl
theorem leftX_lt {seen : List Nat} {t : XTri} : ∀ {l : List XTri}, t ∈ leftX seen l → (leftX (t.2.2 :: seen) l).length < (leftX seen l).length
  | [], h => by cases h
  | u :: l, h => by
    have le : (leftX (t.2.2 :: seen) l).length ≤ (leftX seen l).length := by
      clear h
      induction l with
      | nil => simp [leftX]
      | cons a q ih =>
        simp only [leftX, memX_cons]
        cases hm : memX seen a.2.2 <;> cases hb : Nat.beq a.2.2 t.2.2 <;> simp <;> omega
    simp only [leftX, memX_cons] at h ⊢
    cases hm : memX seen u.2.2 <;> rw [hm] at h
    · simp only [List.mem_cons] at h
      cases hb : Nat.beq u.2.2 t.2.2
      · simp only [Bool.or_self, List.length_cons]
        rcases h with rfl | h
        · rw [Nat.beq_refl] at hb; cases hb
        · have := leftX_lt h; omega
      · simp; omega
    · simp only [Bool.or_true]
      exact leftX_lt h
/-- the next entry, whichever it is -/
theorem xnextA_ok {P : Program} {ty : TypeId} {r m since c0 c : Nat} {sn : List Nat} {l : List XTri} {a : Value} (H : Rep w0 v s w) (hi : sh v (.ptr r 0) = some a) (hr : s.get r = some (.it m since sn c0)) (hm : s.get m = some (.map l c)) (ho : allOld since l = true) (hs : Nat.ble since c0 = true) :
    (leftX sn l = [] ∧ ∀ K : KV, K (.tuple #[.bool false]) w → mnxt .full P a false ty K w) ∨ ∃ t ∈ leftX sn l, ∃ w' rest, Rep w0 v (s.put r (.it m since (t.2.2 :: sn) c)) w' ∧ sh v (.tup [.bool true, .int .i64 t.1, t.2.1]) = some (.tuple (Value.bool true :: rest).toArray) ∧ ∀ K : KV, K (.tuple (Value.bool true :: rest).toArray) w' → mnxt .full P a false ty K w := by
  obtain ⟨bb, hb, rfl⟩ := ptr_out hi
  obtain ⟨b', O, hb', h0, hO, bm, hbm, rfl⟩ := H.held _ _ hr
  rw [hb] at hb'; cases hb'
  obtain ⟨b2, O2, hb2, h02, hO2, gl, h1, rfl, hg⟩ := H.held _ _ hm
  rw [hbm] at hb2; cases hb2
  have sc : ∀ n, sn.reverse.toArray.contains n = sn.contains n := fun n => by simp
  rcases run_next_at (P := P) w ty bb.1 bm.1 since c0 sn.reverse.toArray (gl.map entG).toArray c hO hO2 (fun x hx => by
    obtain ⟨t, ht, rfl⟩ := List.mem_map.1 hx
    exact allOld_ok ho h1 t ht) (Nat.le_of_ble_eq_true hs) with ⟨h0', hrun⟩ | ⟨e, he, w1, hw1, hrun⟩
  · left
    refine ⟨?_, fun K hK => ⟨_, _, hrun, fun h => absurd rfl h, hK⟩⟩
    have hall := all_seen _ _ h0'
    cases hl : leftX sn l with
    | nil => rfl
    | cons t q =>
      exfalso
      have hlx : t ∈ leftX sn l := by rw [hl]; exact List.mem_cons_self ..
      obtain ⟨u, hu, hc, he⟩ := leftX_sub h1 hlx
      have := hall (entG u) (List.mem_map_of_mem hu)
      rw [sc] at this
      simp only [entG] at this
      rw [he, hc] at this; cases this
  · right
    obtain ⟨g1, g2⟩ := mem_left he
    obtain ⟨u, hu, rfl⟩ := List.mem_map.1 g1
    rw [sc] at g2
    obtain ⟨q, hq, q1, q2, q3⟩ := leftX_mem h1 hu g2
    refine ⟨q, hq, ?_⟩
    have H1 : Rep w0 v s w1 := by
      rcases hw1 with rfl | rfl
      · exact H
      · exact H.drew
    have hlt := H1.blt hr hb
    refine ⟨_, [.int .i64 u.1, u.2.1], ?_, ?_, fun K hK => ⟨_, _, hrun, fun h => absurd rfl h, hK⟩⟩
    · refine H1.put hr hb _ rfl rfl rfl (by simp [setBlock]) (O' := .mapIter (some bm.1) since (sn.reverse.toArray.push u.2.2) c) (by simp [setBlock, hlt, entG]) (fun j hj hne => by simp [setBlock, Ne.symm hne]) ⟨bm, hbm, by rw [q2]; simp⟩
    · rw [q1]
      have : shL v [.bool true, .int .i64 u.1, q.2.1] = some [.bool true, .int .i64 u.1, u.2.1] := shL_cons.2 ⟨_, _, rfl, shL_cons.2 ⟨_, _, rfl, shL_cons.2 ⟨_, _, q3, rfl, rfl⟩, rfl⟩, rfl⟩
      simp [sh, this]
/-! what was looked at -/
theorem sgo_some {pr : Spr} {T : ET → Bool} {F : Bool} (hp : ∀ t, Det2 (pr t)) : ∀ (L : List XTri) {e : ET}, sgo pr T F L (some e) = true → T e = true ∧ ∀ t ∈ L, ∃ e', ∀ k, pr t k = k e' true
  | [], e, h => ⟨h, fun t ht => by cases ht⟩
  | t :: r, e, h => by
    simp only [sgo] at h
    rcases hp t with d | ⟨e', b, d⟩
    · rw [d] at h; cases h
    · rw [d] at h
      cases b with
      | false => cases h
      | true =>
        obtain ⟨h1, h2⟩ := sgo_some hp r h
        refine ⟨h1, fun u hu => ?_⟩
        rcases List.mem_cons.1 hu with rfl | hu
        · exact ⟨e', d⟩
        · exact h2 u hu
theorem sgo_none {pr : Spr} {T : ET → Bool} {F : Bool} (hp : ∀ t, Det2 (pr t)) : ∀ (L : List XTri), sgo pr T F L none = true → (F = true ∧ ∀ t ∈ L, ∃ e', ∀ k, pr t k = k e' true) ∨ ∃ t0 ∈ L, ∃ e0, (∀ k, pr t0 k = k e0 false) ∧ T e0 = true ∧ ∀ t ∈ L, t = t0 ∨ ∃ e', ∀ k, pr t k = k e' true
  | [], h => .inl ⟨h, fun t ht => by cases ht⟩
  | t :: r, h => by
    simp only [sgo] at h
    rcases hp t with d | ⟨e', b, d⟩
    · rw [d] at h; cases h
    · rw [d] at h
      cases b with
      | false =>
        obtain ⟨h1, h2⟩ := sgo_some hp r h
        refine .inr ⟨t, List.mem_cons_self .., e', d, h1, fun u hu => ?_⟩
        rcases List.mem_cons.1 hu with rfl | hu
        · exact .inl rfl
        · exact .inr (h2 u hu)
      | true =>
        rcases sgo_none hp r h with ⟨h1, h2⟩ | ⟨t0, ht0, e0, h1, h2, h3⟩
        · refine .inl ⟨h1, fun u hu => ?_⟩
          rcases List.mem_cons.1 hu with rfl | hu
          · exact ⟨e', d⟩
          · exact h2 u hu
        · refine .inr ⟨t0, List.mem_cons_of_mem _ ht0, e0, h1, h2, fun u hu => ?_⟩
          rcases List.mem_cons.1 hu with rfl | hu
          · exact .inr ⟨e', d⟩
          · exact h3 u hu
theorem sprobe_det {D N : Nat} {o2 oA oB' : List Oper} {l2 lA lB : List Oper} {f2 fA fB : XReg} {g2 gn : Gt} {q0 : Sv} {call : XCall} {Γ : XG} {r0 : ET} {st : XTri → XSt} (hd : CallDet call) (hΓ : GaDet Γ) (h2 : cops cx D N o2 l2 = .mk f2) (hA : cops cx D N oA lA = .mk fA) (hB : cops cx D N oB' lB = .mk fB) (t : XTri) : Det2 (sprobe f2 fA fB g2 gn q0 call Γ r0 st t) := by
  unfold sprobe
  refine det2_2 (cops_det hd hΓ l2 h2) fun e2 _ => det2_oB fun x => ?_
  cases x <;> first | exact det2_no | skip
  rename_i b
  cases b
  · exact det2_no
  refine det2_2 (cops_det hd hΓ lA hA) fun e3 _ => det2_2 (cops_det hd hΓ lB hB) fun e4 _ => det2_oB fun x => ?_
  cases x <;> first | exact det2_no | exact det2_ret _ _
/-- the look, in a state that differs in the iterator alone -/
theorem sprobe_out {D N : Nat} {o2 oA oB' : List Oper} {l2 lA lB : List Oper} {f2 fA fB : XReg} {g2 gn : Gt} {q0 : Sv} {call : XCall} {Γ : XG} {r0 : ET} {st : XTri → XSt} {t : XTri} {e4 : ET} {b : Bool} (h2 : cops cx D N o2 l2 = .mk f2) (hA : cops cx D N oA lA = .mk fA) (hB : cops cx D N oB' lB = .mk fB) (r2 : allRd l2 = true) (rA : allRd lA = true) (rB : allRd lB = true)
    (S : Sim r (st t) sc) (hk : ∀ k, sprobe f2 fA fB g2 gn q0 call Γ r0 st t k = k e4 b) : ∃ e2 e3, (∀ K : ET → XSt → Bool, K e2 sc = true → f2 call Γ (q0 r0 (some (.tup [.bool true, .int .i64 t.1, t.2.1]))) sc K = true) ∧ g2 e2 = some (.bool true) ∧ (∀ K : ET → XSt → Bool, K e3 sc = true → fA call Γ e2 sc K = true) ∧ (∀ K : ET → XSt → Bool, K e4 sc = true → fB call Γ e3 sc K = true) ∧ gn e4 = some (.bool b) := by
  classical
  have h := hk (fun e b' => decide (e = e4 ∧ b' = b))
  simp only [and_self, decide_true] at h
  unfold sprobe at h
  obtain ⟨e2, k1, m2⟩ := cops_rd S l2 h2 r2 h
  obtain ⟨x, hx, k2⟩ := oB_out k1
  split at k2
  case h_2 => cases k2
  obtain ⟨e3, k3, mA⟩ := cops_rd S lA hA rA k2
  obtain ⟨e5, k4, mB⟩ := cops_rd S lB hB rB k3
  obtain ⟨y, hy, k5⟩ := oB_out k4
  split at k5
  case h_2 => cases k5
  obtain ⟨rfl, rfl⟩ := of_decide_eq_true k5
  exact ⟨e2, e3, m2, hx, mA, mB, hy⟩
theorem srch_out {c : Code} {S : SrL} (h : srch c = some S) : ∃ i2 R2 iA RA iB RB, c = .seq (.region i2 R2 false) (.seq (.cond S.c2 .skip (.exit S.x)) (.block S.j (.seq (.region iA RA false) (.seq (.seq (.region iB RB false) (.cond S.cn (.exit S.j) .skip)) S.tail)))) ∧
    R2.toList = S.R2 ∧ S.R2 = S.o1 :: S.rest2 ∧ S.o1.op = .next S.it false ∧ S.o1.dst = some S.d0 ∧ S.o1.guard = none ∧ Nat.beq S.x S.j = false ∧ allRd S.rest2 = true ∧ RA.toList = S.RA ∧ allRd S.RA = true ∧ RB.toList = S.RB ∧ allRd S.RB = true := by
  unfold srch at h
  split at h
  · rename_i i2 R2 c2 x j iA RA iB RB cn j' tail
    split at h
    · rename_i o1 rest2 h2
      split at h
      · rename_i it d0 ho hd hg
        split at h <;> cases h
        rename_i hj hx r2 rA rB
        have := Nat.eq_of_beq_eq_true hj
        subst this
        exact ⟨i2, R2, iA, RA, iB, RB, rfl, rfl, h2, ho, hd, hg, hx, r2, rfl, rA, rfl, rB⟩
      · cases h
    · cases h
  · cases h
end
end Go.Sh
