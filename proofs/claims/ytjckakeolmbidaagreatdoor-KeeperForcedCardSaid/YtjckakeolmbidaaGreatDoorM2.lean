/- Contracts of package keeper (money): an entry played. Conditions: none. -/
import Derived.Test.YtjckakeolmbidaaGreatDoorP3
set_option linter.unusedVariables false
set_option maxRecDepth 100000
namespace Go.Proofs.YtjckakeolmbidaaGreatDoor
open Go Go.Sh

/-- a keeper of money -/
structure Mp where
  n : Nat
  L : Row
  J : Jr
  G : Pd
  m : Nat
  l : List TriG
  c : Nat
  g : Int
  s : Int → Int
def Mp.hp (S : Mp) : Hp := [(S.n, .cells #[I 2, S.L.v, S.J.v, .iface 149 (.agg #[S.G.v]), .map (some S.m)] 135 (0, 0))] ++ (S.L.hp 3 ++ (S.J.hp ++ (S.G.hp ++ [(S.m, mapG S.l S.c)])))
structure Mp.Ok (S : Mp) : Prop where
  L : S.L.Ok 1 [I S.g]
  j : S.J.Ok
  g : S.G.Ok
  m : GOk S.l S.c
  s : ∀ x, (getG S.l x).getD (I 0) = I (S.s x)
abbrev Mp.v (S : Mp) : Value := .pointer (some ⟨S.n, 0, none⟩)
theorem openM {w0 w : World} {R : List Hp} {S : Mp} (H : Sh.Holds w0 (S.hp :: R) w) : Sh.Holds w0 ([(S.n, .cells #[I 2, S.L.v, S.J.v, .iface 149 (.agg #[S.G.v]), .map (some S.m)] 135 (0, 0))] :: S.L.hp 3 :: S.J.hp :: S.G.hp :: [(S.m, mapG S.l S.c)] :: R) w := H.perm (by simp [Mp.hp])
theorem shutM {w0 w : World} {R : List Hp} {S : Mp} (H : Sh.Holds w0 ([(S.n, .cells #[I 2, S.L.v, S.J.v, .iface 149 (.agg #[S.G.v]), .map (some S.m)] 135 (0, 0))] :: S.L.hp 3 :: S.J.hp :: S.G.hp :: [(S.m, mapG S.l S.c)] :: R) w) : Sh.Holds w0 (S.hp :: R) w := H.perm (by simp [Mp.hp])
section
variable {w0 w : World} {hs R : List Hp} {K : KV}
theorem mtake_c {G : Pd} {id q : Int} (H : Sh.Holds w0 hs w) [D : Del hs G.hp R] (ok : G.Ok)
    (k : ∀ (G' : Pd) w', G'.Ok → G'.b = G.b → G'.B = G.B.take id q → Sh.Holds w0 (G'.hp :: R) w' → K (.bool (G.B.resv id q == 0)) w') : ivk Tryz.prog (.iface 149 (.agg #[G.v])) "wharfinger/keeper.take" [I id, I 0, I q] K w := by
  replace H := H.get G.hp
  refine ivk_h (f := 265) (rcv := .agg #[G.v]) (by kernel_rfl) ?_
  apply F265_go; unfold F265
  refine nw_h H (fun k1 w H => ?_)
  refine ldA H ?_; refine asPtr_h ?_
  refine Allow_c H ok (fun G' w h1 h2 h3 H => ?_)
  refine asI_h ?_
  exact k G' w h1 h2 h3 H.re
theorem mgives_c {G : Pd} {id : Int} (H : Sh.Holds w0 hs w) [D : Del hs G.hp R] (ok : G.Ok)
    (k : ∀ (G' : Pd) w', G'.Ok → G'.b = G.b → G'.B = G.B.gives id → Sh.Holds w0 (G'.hp :: R) w' → K (.tuple #[]) w') : ivk Tryz.prog (.iface 149 (.agg #[G.v])) "wharfinger/keeper.gives" [I id] K w := by
  replace H := H.get G.hp
  refine ivk_h (f := 263) (rcv := .agg #[G.v]) (by kernel_rfl) ?_
  apply F263_go; unfold F263
  refine nw_h H (fun k1 w H => ?_)
  refine ldA H ?_; refine asPtr_h ?_
  refine Capture_c H ok (fun e G' w h1 h2 h3 H => ?_)
  refine asI_h ?_
  exact k G' w h1 h2 h3 H.re
theorem mlets_c {G : Pd} {id : Int} (H : Sh.Holds w0 hs w) [D : Del hs G.hp R] (ok : G.Ok)
    (k : ∀ (G' : Pd) w', G'.Ok → G'.b = G.b → G'.B = G.B.lets id → Sh.Holds w0 (G'.hp :: R) w' → K (.tuple #[]) w') : ivk Tryz.prog (.iface 149 (.agg #[G.v])) "wharfinger/keeper.lets" [I id] K w := by
  replace H := H.get G.hp
  refine ivk_h (f := 264) (rcv := .agg #[G.v]) (by kernel_rfl) ?_
  apply F264_go; unfold F264
  refine nw_h H (fun k1 w H => ?_)
  refine ldA H ?_; refine asPtr_h ?_
  refine Void_c H ok (fun e G' w h1 h2 h3 H => ?_)
  refine asI_h ?_
  exact k G' w h1 h2 h3 H.re
end
def PB.play (B : PB) (st id : Int) (ns : List Int) : PB := if st = 1 then B.take id (ns.getD 1 0) else if decY st = true then B.gives id else B.lets id
set_option maxHeartbeats 2000000 in
theorem playsM_c {w0 w : World} {hs R : List Hp} {K : KV} {S : Mp} {st id : Int} {ns : List Int} {p : Option Addr} {n c : Nat} (H : Sh.Holds w0 hs w) [D : Del hs S.hp R] (ok : S.Ok) (hst : 1 ≤ st ∧ st ≤ 5) (hsl : Sl (Sh.Holds w0 R) p n 1 (ns.map I))
    (hns : (st = 1 ∧ ∃ q, ns = [0, q]) ∨ (st ≠ 1 ∧ ns = []))
    (k : ∀ (S' : Mp) w', S'.Ok → S'.n = S.n → S'.J = S.J → S'.L = S.L → S'.g = S.g → S'.G.B = S.G.B.play st id ns → (∀ x, S'.s x = if x = id then st else S.s x) → Sh.Holds w0 (S'.hp :: R) w' → K (.tuple #[]) w') :
    gocall Tryz.prog 97 [S.v, .agg #[.string (B (kL st)), I id, .slice p n c]] K w := by
  replace H := openM (H.get S.hp)
  apply F97_go; unfold F97
  refine nw_h H (fun k6 w H => ?_)
  refine kinds_c H (fun q lk ck w okk hkm H => ?_)
  refine asMap_h ?_
  refine mrngG_h (t := 183) rfl 0 H rfl (fun r w H => ?_)
  obtain ⟨base, hbase⟩ : ∃ base : List Hp, base = [(q, mapG lk ck)] :: [(k6, .cells #[.string (B (kL st)), I id, .slice p n c] 105 (0, 0))] :: [(S.n, .cells #[I 2, S.L.v, S.J.v, .iface 149 (.agg #[S.G.v]), .map (some S.m)] 135 (0, 0))] :: S.L.hp 3 :: S.J.hp :: S.G.hp :: [(S.m, mapG S.l S.c)] :: R := ⟨_, rfl⟩
  rw [← hbase] at H
  refine ⟨fun _ w => ∃ seen, Sh.Holds w0 ([(r, itO q ck seen ck)] :: base) w ∧ ∀ t ∈ lk, seen.contains t.2.2 = true → t.2.1 ≠ .string (B (kL st)), fun _ w => itM lk r w, ⟨#[], H, fun t _ h => by simp at h⟩, ?_⟩
  clear H
  rintro u w ⟨seen, H, hseen⟩
  have hmw : itM lk r w = (leftOf (lk.map entG).toArray seen).size := itM_h H
  refine mnxtG_h 0 H (by rw [hbase]; rfl) okk.born (Nat.le_refl _) (fun hall => ?_) (fun t ht hns2 hlt w H => ?_)
  · exfalso
    have h1 := hkm st
    rw [if_pos hst] at h1
    obtain ⟨t, ht, e1, e2⟩ := getG_mem h1
    exact hseen t ht (hall t ht) e2
  · refine ⟨true, [I t.1, t.2.1], rfl, ?_⟩
    refine br_t rfl ?_
    refine mtryG_h 1 0 H rfl (by rw [hbase]; rfl) ht okk ?_
    refine asT_e [I t.1, t.2.1] rfl rfl ?_
    refine asI_h ?_
    have h1 := hkm t.1
    rw [getG_of okk.keys ht] at h1
    have ht1 : 1 ≤ t.1 ∧ t.1 ≤ 5 := by
      by_cases h : 1 ≤ t.1 ∧ t.1 ≤ 5
      · exact h
      · rw [if_neg h] at h1; cases h1
    rw [if_pos ht1] at h1
    have htv : t.2.1 = .string (B (kL t.1)) := Option.some.inj h1
    refine asStr_e (b := B (kL t.1)) htv ?_
    have H9 := H
    rw [hbase] at H
    refine ldA H ?_; refine asStr_h ?_
    rw [strEq_B]
    refine br_s (fun h => ?_) (fun h => ?_)
    · have hne : kL t.1 ≠ kL st := by simpa using h
      refine ⟨⟨seen.push t.2.2, H9, fun t' ht' hc => ?_⟩, by show itM lk r _ < itM lk r _; rw [hmw, itM_h H9]; exact hlt⟩
      rw [Array.contains_push] at hc
      rw [Bool.or_eq_true] at hc
      rcases hc.symm with hc | hc
      · have e : t'.2.2 = t.2.2 := by simpa using hc
        have := nodup_inj okk.stamps ht' ht e
        subst this
        rw [htv]
        intro e
        simp only [Value.string.injEq, ByteArray.mk.injEq] at e
        exact hne (by simpa using e)
      · exact hseen t' ht' hc
    · have heq : kL t.1 = kL st := by simpa using h
      have e := kL_inj ht1 hst heq
      rw [e]
      replace H := H.tail.tail
      -- what comes last
      have fin : ∀ (G' : Pd) w, G'.Ok → G'.b = S.G.b → G'.B = S.G.B.play st id ns → Sh.Holds w0 (G'.hp :: [(k6, .cells #[.string (B (kL st)), I id, .slice p n c] 105 (0, 0))] :: [(S.n, .cells #[I 2, S.L.v, S.J.v, .iface 149 (.agg #[S.G.v]), .map (some S.m)] 135 (0, 0))] :: S.L.hp 3 :: S.J.hp :: [(S.m, mapG S.l S.c)] :: R) w →
          nn (some ⟨S.n, 0, none⟩) (fun a w => ld ⟨a.block, a.off + 4, none⟩ (fun v w => asMap v (fun m w => ld ⟨k6, 1, none⟩ (fun v w => asI .i64 v (fun x w => mset .full Tryz.prog 124 (.map m) (I x) (I st) (fun w => K (.tuple #[]) w) w) w) w) w) w) w := by
        intro G' w g1 g2 g3 H
        refine nn_h ?_
        refine ldA H ?_; refine asMap_h ?_
        refine ldA H ?_; refine asI_h ?_
        refine msetG_h TSI 5 H rfl ok.m (fun l' c' w o1 o2 H => ?_)
        refine k ⟨S.n, S.L, S.J, G', S.m, l', c', S.g, fun x => if x = id then st else S.s x⟩ w ⟨ok.L, ok.j, g1, o1, fun x => ?_⟩ rfl rfl rfl rfl g3 (fun x => rfl) (shutM (S := ⟨S.n, S.L, S.J, G', S.m, l', c', S.g, fun x => if x = id then st else S.s x⟩) ?_)
        · rw [o2]
          by_cases hx : x = id
          · simp only [if_pos hx]; rfl
          · simp only [if_neg hx]; exact ok.s x
        · have ev : S.G.v = G'.v := by rw [Pd.v, Pd.v, g2]
          rw [ev] at H
          have H' : Sh.Holds w0 (G'.hp :: [(k6, .cells #[.string (B (kL st)), I id, .slice p n c] 105 (0, 0))] :: [(S.n, .cells #[I 2, S.L.v, S.J.v, .iface 149 (.agg #[G'.v]), .map (some S.m)] 135 (0, 0))] :: S.L.hp 3 :: S.J.hp :: [(S.m, mapG l' c')] :: R) w := H
          exact H'.re
      have hcase : st = 1 ∨ (st = 2 ∨ st = 4) ∨ (st = 3 ∨ st = 5) := by omega
      rcases hcase with h1 | h1 | h1
      · rcases hns with ⟨-, q2, hq⟩ | ⟨h, -⟩
        · subst h1
          subst hq
          have hn : n = 2 := by have := hsl.len; simpa using this.symm
          subst hn
          refine br_t rfl ?_
          refine ldA H ?_; refine asSl_h ?_
          refine br_t rfl ?_
          replace H := H.drew
          refine nn_h ?_
          refine ldA H ?_
          refine ldA H ?_; refine asI_h ?_
          refine ldA H ?_; refine asSl_h ?_
          have hR : ∀ {w : World}, Sh.Holds w0 ([(k6, .cells #[.string (B (kL 1)), I id, .slice p 2 c] 105 (0, 0))] :: [(S.n, .cells #[I 2, S.L.v, S.J.v, .iface 149 (.agg #[S.G.v]), .map (some S.m)] 135 (0, 0))] :: S.L.hp 3 :: S.J.hp :: S.G.hp :: [(S.m, mapG S.l S.c)] :: R) w → Sh.Holds w0 R w := fun H => H.tail.tail.tail.tail.tail.tail
          refine slAt_s hsl (by omega) (by omega) (fun bb o hp => ?_)
          refine ldS_s hsl hp (hR H) (v := I 0) rfl ?_
          refine asI_h ?_
          refine ldA H ?_; refine asSl_h ?_
          refine slAt_s hsl (by omega) (by omega) (fun bb o hp => ?_)
          refine ldS_s hsl hp (hR H) (v := I q2) rfl ?_
          refine asI_h ?_
          refine ⟨⟨_, _, rfl⟩, ?_⟩
          refine mtake_c H ok.g (fun G' w g1 g2 g3 H => ?_)
          refine asBoo_h ?_
          refine dec_c H (fun w H => ?_)
          refine asT_e [.bool (decY 1), .bool (decK 1)] rfl rfl ?_
          refine asBoo_h ?_
          refine asBoo_h ?_
          refine br_f rfl ?_
          refine br_f rfl ?_
          exact fin G' _ g1 g2 g3 H.drew
        · exact absurd h1 h
      · refine br_f (by simp; omega) ?_
        refine dec_c H (fun w H => ?_)
        refine asT_e [.bool (decY st), .bool (decK st)] rfl rfl ?_
        refine asBoo_h ?_
        refine asBoo_h ?_
        have hy : decY st = true := by simp only [decY, decide_eq_true_eq]; omega
        refine br_t (by simp only [decK, decide_eq_true_eq]; omega) ?_
        refine br_t hy ?_
        replace H := H.drew
        refine nn_h ?_
        refine ldA H ?_
        refine ldA H ?_; refine asI_h ?_
        refine mgives_c H ok.g (fun G' w g1 g2 g3 H => ?_)
        refine asT_e [] rfl rfl ?_
        exact fin G' _ g1 g2 (by rw [g3]; unfold PB.play; rw [if_neg (by omega), if_pos hy]) H.drew
      · refine br_f (by simp; omega) ?_
        refine dec_c H (fun w H => ?_)
        refine asT_e [.bool (decY st), .bool (decK st)] rfl rfl ?_
        refine asBoo_h ?_
        refine asBoo_h ?_
        have hy : ¬ decY st = true := by simp only [decY, decide_eq_true_eq]; omega
        have hk : decK st = true := by simp only [decK, decide_eq_true_eq]; omega
        refine br_t hk ?_
        refine br_f (by simpa using hy) ?_
        refine br_t hk ?_
        replace H := H.drew
        refine nn_h ?_
        refine ldA H ?_
        refine ldA H ?_; refine asI_h ?_
        refine mlets_c H ok.g (fun G' w g1 g2 g3 H => ?_)
        refine asT_e [] rfl rfl ?_
        exact fin G' _ g1 g2 (by rw [g3]; unfold PB.play; rw [if_neg (by omega), if_neg hy]) H.drew
end Go.Proofs.YtjckakeolmbidaaGreatDoor
