/- An executor for the shallow reading: append and copy. Conditions: none. -/
import Derived.Test.YtlfgmbbiealpoaaGreatDoorE9
import Derived.Deep.AppendSrc
import Derived.Maps.AppendAt
import Derived.Laws.IdiomCopy
set_option linter.unusedVariables false
namespace Go.Sh
open Go Go.RowKit
section
variable {P : Program} {w0 w : World} {v : Vl} {s : XSt}
theorem slE_ok {a p : EV} {n : Nat} {y : Value} (h : slE a = some (p, n)) (hs : sh v a = some y) : ∃ q c, y = .slice q n c ∧ sh v p = some (.pointer q) := by
  unfold slE at h
  split at h <;> cases h
  · cases hs; exact ⟨none, 0, rfl, rfl⟩
  · obtain ⟨b, hb, rfl⟩ := sl_out hs
    exact ⟨_, _, rfl, by simp only [sh, hb]⟩
  · obtain ⟨b, hb, _, rfl⟩ := slo_out hs
    exact ⟨_, _, rfl, by simp only [sh, hb]⟩
theorem elZ_ok (v : Vl) {ts : Array TypeId} {e z by_ : Nat} (h : elZ P ts = some (e, z, by_)) : ∃ t i zz, ts = #[t, t] ∧ P.underlying t = some (.slice e) ∧ P.info? e = some i ∧ i.zero = some zz ∧ i.size = z ∧ i.bytes = by_ ∧ zz.cells.size = z ∧ 0 < z := by
  unfold elZ at h
  split at h
  · rename_i t t' hts
    split at h
    · rename_i e' hb hd
      split at h
      · rename_i j zl hj hz
        split at h <;> cases h
        rename_i hp hl
        have := Nat.eq_of_beq_eq_true hb
        subst this
        obtain ⟨i, zz, h1, h2, h3⟩ := zeroE_ok (v := v) hz
        rw [hj] at h1; cases h1
        refine ⟨t, j, zz, by apply Array.ext'; simpa using hts, hd, hj, h2, rfl, rfl, ?_, by simpa [Nat.blt_eq] using hp⟩
        have h4 := shL_len h3
        rw [← lenX_eq zl, Nat.eq_of_beq_eq_true hl] at h4
        rw [← h4]
        cases zz <;> rfl
      · cases h
    · cases h
  · cases h
theorem xsrc_ok {cx : XCx} {x : EV} {z m : Nat} {new : List EV} {y : Value} (h : xsrc cx x z s = some (m, new)) (H : Rep w0 v s w) (g : GlOk cx v w0) (hx : sh v x = some y) :
    ∃ us q c, y = .slice q m c ∧ shL v new = some us ∧ us.length = m * z ∧ (m ≠ 0 → ∃ a, q = some a ∧ At w a us) := by
  unfold xsrc at h
  split at h
  · rename_i p n hp
    obtain ⟨q, c, rfl, hq⟩ := slE_ok hp hx
    split at h
    · rename_i hn
      cases h
      have := Nat.eq_of_beq_eq_true hn
      subst this
      exact ⟨[], q, c, rfl, rfl, by simp, fun h => absurd rfl h⟩
    · split at h <;> cases h
      rename_i hr
      obtain ⟨a, us, hy, h1, h2, h3⟩ := xread_ok hr H g hq
      cases hy
      exact ⟨us, some a, c, rfl, h1, h2, fun _ => ⟨a, rfl, h3⟩⟩
  · cases h
theorem xwrite_ok (P : Program) {p : EV} {cs : List EV} {us : List Value} {s' : XSt} {y : Value} (h : xwrite p cs s = some s') (H : Rep w0 v s w) (hp : sh v p = some y) (hc : shL v cs = some us) :
    ∃ b off, y = .pointer (some ⟨b, off, none⟩) ∧ Rep w0 v s' (w.setCells b off us) ∧ (∀ j, j < us.length → (w.cell? ⟨b, off + j, none⟩).isSome = true) ∧ (∀ j, j < us.length → w.frozen? ⟨b, off + j, none⟩ = false) ∧ ∀ u ∈ us, u.oneCell' = true := by
  unfold xwrite at h
  split at h
  · rename_i k off
    obtain ⟨bb, hb, rfl⟩ := ptr_out hp
    split at h
    · rename_i l e zz ho
      split at h <;> cases h
      rename_i hle h1
      rw [lenX_eq, lenX_eq] at hle
      have hle' : off + cs.length ≤ l.length := Nat.le_of_ble_eq_true hle
      have hone := allOne_ok h1 hc
      obtain ⟨H1, -⟩ := Rep.setN (P := P) H ho hb hle' hc hone
      have ht := H.there ho hb hle'
      rw [← shL_len hc] at ht
      exact ⟨_, _, rfl, by rw [putC_eq]; exact H1, fun j hj => (ht j hj).1, fun j hj => (ht j hj).2, by simpa using hone⟩
    · cases h
  · cases h
/-- blocks that grew, none of the store's among them -/
theorem Rep.grown {w' : World} {row : Option Nat} (H : Rep w0 v s w) (gr : w.grownBy w' row) (hn : ∀ j o b, s.get j = some o → v.β j = some b → some b.1 ≠ row) (hr : ∀ r, row = some r → w0.heap.size ≤ r) : Rep w0 v s w' := by
  refine ⟨⟨gr.os.trans H.below.os, gr.tape.trans H.below.tape, gr.output.trans H.below.output, Nat.le_trans H.below.size gr.size, fun j hj => ?_⟩, fun k o h => ?_, H.inj, H.fresh, H.dom, H.lim⟩
  · rw [gr.block j (by have := H.below.size; omega) (fun e => by have := hr j e.symm; omega)]; exact H.below.block j hj
  · obtain ⟨b, O, h1, h2, h3, h4⟩ := H.held k o h
    exact ⟨b, O, h1, h2, by rw [gr.block b.1 (lt_of_some h3) (hn k o b h h1)]; exact h3, h4⟩
theorem own_ok {t ty e : TypeId} {i : TypeInfo} {zz : Value} {z by_ : Nat} (ht : P.underlying t = some (.slice e)) (hi : P.info? e = some i) (hz : i.zero = some zz) (hsz : i.size = z) (hby : i.bytes = by_) (hzs : zz.cells.size = z) (hpos : 0 < z)
    (H : Rep w0 v s w) {v0 : Value} {n m c k : Nat} {xs us : List Value} {lx new : List EV} {a : Addr} {s' : XSt} (hown : w.ownsRow w0.heap.size e z v0 n xs) (hlx : shL v lx = some xs) (hnew : shL v new = some us) (hlen : us.length = m * z) (hat : At w a us) (h1 : allOne new = true)
    (hother : ∀ j o b, s.get j = some o → v.β j = some b → some b.1 ≠ v0.ownBlock) (hrow : ∀ r, v0.ownBlock = some r → w0.heap.size ≤ r) (hm : m ≠ 0) (hb : (n + m) * by_ ≤ 1000000000) (hn : n + m ≤ 1000000000)
    (hk : s.new (.cells (lx ++ new) e z) = some (k, s')) :
    ∃ v' w' y, v.le v' ∧ Rep w0 v' s' w' ∧ sh v' (.slo k 0 (n + m) (n + m) 0) = some y ∧ ∀ K : KV, K y w' → bapp .full P #[t, t] ty v0 (.slice (some a) m c) K w := by
  have h1' : ∀ u ∈ us, u.oneCell' = true := by simpa using allOne_ok h1 hnew
  obtain ⟨y, w', hr, hown', hgr, hnil, hblk⟩ := run_append_own_at (P := P) w w0.heap.size t ty e i zz z by_ ht hi hz hsz hby hzs hpos v0 n xs hown a m c us hlen hat h1' (by unfold maxLen; omega) (by omega) H.below.size
  have H1 := H.grown hgr hother hrow
  rcases hown'.2 with ⟨e1, -⟩ | ⟨g, cap, cur, rfl, hbg, hg, hnc, hcm, hcs, htake⟩
  · exact absurd (hnil.1 e1).2 hm
  · have hnone : v.β k = none := by
      obtain ⟨rfl, h1, -⟩ := new_out hk
      exact (H.fresh _ (Nat.le_refl _) h1).1
    have hcur : cur = ((xs ++ us) ++ cur.toList.drop ((n + m) * z)).toArray := by
      apply Array.ext'
      rw [← htake]
      simp
    have hle0 := Vl.put_le (b := (g, cap)) (R := fun _ _ => default) hnone
    obtain ⟨hle, H2⟩ := H1.add hk (b := (g, cap)) (O := .cells cur e (0, 0)) (fun _ _ => default) hbg hg (fun j o b' hj hb' e1 => by
        simp only at e1
        rcases hblk with h2 | h2
        · exact hother j o b' hj hb' (by rw [← h2]; simp [Value.ownBlock, e1])
        · simp only [Value.ownBlock, Option.some.injEq] at h2
          have := H.blt hj hb'
          omega) ⟨xs ++ us, cur.toList.drop ((n + m) * z), shL_mono hle0 (shL_app hlx hnew), by rw [← hcur], fun h => absurd h (by omega), fun _ => ⟨(g, cap), Vl.put_self, by
          have : (xs ++ us ++ cur.toList.drop ((n + m) * z)).length = cur.size := by rw [← htake]; simp
          rw [this, hcs], hcm⟩⟩
    refine ⟨_, w', _, hle, H2, ?_, fun K hK => ⟨_, _, hr, fun h => absurd rfl h, hK⟩⟩
    have : Nat.ble (n + m + 0) cap = true := Nat.ble_eq_true_of_le (by omega)
    simp only [sh, Vl.put_self, this, Nat.sub_zero]
theorem bapp_room {t ty e : TypeId} {i : TypeInfo} (ht : P.underlying t = some (.slice e)) (hi : P.info? e = some i) (H : Rep w0 v s w) {s' : XSt} {b off n m c c' : Nat} {q : Option Addr} {us : List Value} (hlen : us.length = m * i.size) (hq : m ≠ 0 → ∃ a, q = some a ∧ At w a us) (hroom : n + m ≤ c)
    (hc : ∀ j, j < us.length → (w.cell? ⟨b, off + n * i.size + j, none⟩).isSome = true) (hf : ∀ j, j < us.length → w.frozen? ⟨b, off + n * i.size + j, none⟩ = false) (h1 : ∀ u ∈ us, u.oneCell' = true) {K : KV} (hK : K (.slice (some ⟨b, off, none⟩) (n + m) c) (w.setCells b (off + n * i.size) us)) :
    bapp .full P #[t, t] ty (.slice (some ⟨b, off, none⟩) n c) (.slice q m c') K w := by
  have src : Src P i.size t (.slice q m c') m us w := by
    by_cases hm : m = 0
    · subst hm
      have : us = [] := List.eq_nil_of_length_eq_zero (by simpa using hlen)
      subst this
      cases q with
      | none => exact Src.ofNil w ht c'
      | some a => exact Src.ofSlice w ht a 0 c' [] (by simp) (fun j u hu => by simp at hu) (by simp)
    · obtain ⟨a, rfl, hat⟩ := hq hm
      exact Src.ofSlice w ht a m c' us hlen hat h1
  exact ⟨_, _, run_append_room_src w t t ty e i ht hi b off n c _ m us src hroom hc hf, fun h => absurd rfl h, hK⟩
theorem Nat.mul_def' (a b : Nat) : Nat.mul a b = a * b := rfl
theorem Nat.add_def' (a b : Nat) : Nat.add a b = a + b := rfl
theorem xappend_ok {cx : XCx} {ts : Array TypeId} {ty : TypeId} {a x : EV} {r : EV × XSt} {y z : Value} (h : xappend cx ts a x s = some r) (H : Rep w0 v s w) (g : GlOk cx v w0) (ha : sh v a = some y) (hx : sh v x = some z) :
    ∃ v' w' u, v.le v' ∧ Rep w0 v' r.2 w' ∧ sh v' r.1 = some u ∧ ∀ K : KV, K u w' → bapp .full cx.P ts ty y z K w := by
  unfold xappend at h
  split at h
  · rename_i e zs by_ hel
    obtain ⟨t, i, zz, rfl, ht, hi, hz, hsz, hby, hzs, hpos⟩ := elZ_ok v hel
    split at h
    · rename_i m new hsrc
      obtain ⟨us, q, c', rfl, hnew, hlen, hq⟩ := xsrc_ok hsrc H g hx
      split at h
      · cases ha
        split at h
        · rename_i hm
          cases h
          have := Nat.eq_of_beq_eq_true hm
          subst this
          have : us = [] := List.eq_nil_of_length_eq_zero (by simpa using hlen)
          subst this
          refine ⟨v, w, .slice none 0 0, Vl.le.rfl', H, rfl, fun K hK => ⟨_, _, ?_, fun h => absurd rfl h, hK⟩⟩
          have hl0 : ∀ (x : Addr), (loadCells x 0).run cx.P w = .ok #[] w := fun x => by simpa using run_loadCells_list (P := cx.P) w x [] (by simp)
          cases q <;> simp [Builtin.append_, run_underlying ht, sizeOf, typeInfo, hi, Builtin.lenOf, Builtin.firstCells, hl0]
        · rename_i hm
          have hm' : m ≠ 0 := fun e => by rw [e] at hm; cases hm
          split at h
          · rename_i k s' hc hk
            cases h
            simp only [Bool.and_eq_true] at hc
            obtain ⟨a, rfl, hat⟩ := hq hm'
            have := own_ok (c := c') (ty := ty) (n := 0) (lx := []) (xs := []) (v0 := .slice none 0 0) ht hi hz hsz hby hzs hpos H (World.ownsRow_nil w w0.heap.size e zs) rfl hnew hlen hat hc.1 (fun j o b _ _ => by simp [Value.ownBlock]) (fun r hr => by simp [Value.ownBlock] at hr) hm' (by rw [Nat.zero_add]; exact Nat.le_of_ble_eq_true hc.2.1) (by have := Nat.le_of_ble_eq_true hc.2.2; omega) hk
            simpa using this
          · cases h
      · rename_i k off n c
        obtain ⟨b, hb, rfl⟩ := sl_out ha
        split at h
        · rename_i hr
          split at h <;> cases h
          rename_i s' hw
          obtain ⟨bb, of', he, H1, h2, h3, h4⟩ := xwrite_ok cx.P (y := .pointer (some ⟨b.1, off + n * zs, none⟩)) hw H (by simp only [sh, hb]; rfl) hnew
          cases he
          subst hsz
          exact ⟨v, _, _, Vl.le.rfl', H1, by simp only [sh, hb]; rfl, fun K hK => bapp_room ht hi H (s' := s') hlen hq (Nat.le_of_ble_eq_true hr) h2 h3 h4 hK⟩
        · rename_i hr
          split at h
          · rename_i l e' hg
            split at h
            · rename_i hc
              simp only [Bool.and_eq_true] at hc
              obtain ⟨c1, c2, c3, c4, c5, c6, c7⟩ := hc
              unfold xgrow at h
              split at h <;> cases h
              rename_i k' s' hk
              have e0 := Nat.eq_of_beq_eq_true c1
              subst e0
              have e1 := Nat.eq_of_beq_eq_true c5
              subst e1
              rw [lenX_eq] at c6
              have c6 := Nat.eq_of_beq_eq_true c6
              have c7 := Nat.le_of_ble_eq_true c7
              have c4 := Nat.le_of_ble_eq_true c4
              have hr' : ¬ n + m ≤ c := fun hh => by rw [show Nat.ble (Nat.add n m) _ = true from Nat.ble_eq_true_of_le hh] at hr; cases hr
              have hm' : m ≠ 0 := fun e => by omega
              obtain ⟨a, rfl, hat⟩ := hq hm'
              obtain ⟨b', O, hb', h0, hO, vs, rest, g1, rfl, g3, g4⟩ := H.held _ _ hg
              rw [hb] at hb'; cases hb'
              have hrest := g3 rfl
              subst hrest
              have hvl := shL_len g1
              have hlt := H.lt hg
              have hdel := H.del k hlt
              have gd : ∀ {j o}, (s.del k).get j = some o → j ≠ k ∧ s.get j = some o := fun {j o} hj => by
                rw [XSt.get_del hlt] at hj
                split at hj
                · cases hj
                · rename_i hne; exact ⟨hne, hj⟩
              rw [appX_eq, takeX_eq] at hk
              have hcap : c ≤ maxLen := by unfold maxLen; omega
              have hmul : n * zs ≤ c * zs := Nat.mul_le_mul_right _ c7
              exact own_ok (c := c') (ty := ty) (n := n) (lx := l.take (n * zs)) (xs := vs.take (n * zs)) (v0 := .slice (some ⟨b.1, 0, none⟩) n c) ht hi hz hsz hby hzs hpos hdel
                ⟨by rw [List.length_take]; omega, .inr ⟨b.1, c, _, rfl, h0, hO, c7, hcap, by simp; omega, by simp⟩⟩ (shL_take _ g1) hnew hlen hat c2
                (fun j o b2 hj hb2 e1 => by
                  obtain ⟨hne, hj'⟩ := gd hj
                  simp only [Value.ownBlock, Option.some.injEq] at e1
                  exact hne (H.inj _ _ _ _ _ _ hj' hg hb2 hb e1))
                (fun r hr => by simp only [Value.ownBlock, Option.some.injEq] at hr; omega) hm' (Nat.le_of_ble_eq_true c3) c4 hk
            · cases h
          · cases h
      · rename_i k off n lb d
        obtain ⟨b, hb, hlbd, rfl⟩ := slo_out ha
        split at h
        · rename_i hr
          split at h <;> cases h
          rename_i s' hw
          obtain ⟨bb, of', he, H1, h2, h3, h4⟩ := xwrite_ok cx.P (y := .pointer (some ⟨b.1, off + n * zs, none⟩)) hw H (by simp only [sh, hb]; rfl) hnew
          cases he
          subst hsz
          have hr' := Nat.le_of_ble_eq_true hr
          have hr'' : n + m ≤ b.2 - d := by have : n + m ≤ lb := hr'; omega
          exact ⟨v, _, _, Vl.le.rfl', H1, by simp only [sh, hb, Nat.ble_eq_true_of_le hlbd]; rfl, fun K hK => bapp_room ht hi H (s' := s') hlen hq hr'' h2 h3 h4 hK⟩
        · rename_i hr
          split at h
          · rename_i l e' z' hg
            split at h
            · rename_i hc
              simp only [Bool.and_eq_true] at hc
              obtain ⟨c0, c1, cd, c5, c2, c6, c7, c3, c4⟩ := hc
              unfold xgrow at h
              split at h <;> cases h
              rename_i k' s' hk
              have e0 := Nat.eq_of_beq_eq_true c1
              subst e0
              have e1 := Nat.eq_of_beq_eq_true c5
              subst e1
              have e2 := Nat.eq_of_beq_eq_true cd
              subst e2
              have e3 := Nat.eq_of_beq_eq_true c0
              subst e3
              rw [lenX_eq] at c6
              have c6 := Nat.le_of_ble_eq_true c6
              have c7 := Nat.le_of_ble_eq_true c7
              have c4 := Nat.le_of_ble_eq_true c4
              have hr' : ¬ n + m ≤ lb := fun hh => by rw [show Nat.ble (Nat.add n m) _ = true from Nat.ble_eq_true_of_le hh] at hr; cases hr
              have hm' : m ≠ 0 := fun e => by omega
              obtain ⟨a, rfl, hat⟩ := hq hm'
              obtain ⟨b', O, hb', h0, hO, vs, rest, g1, rfl, g3, g4⟩ := H.held _ _ hg
              rw [hb] at hb'; cases hb'
              obtain ⟨b3, hb3, g5, g6⟩ := g4 hpos
              rw [hb] at hb3; cases hb3
              have hvl := shL_len g1
              have hlt := H.lt hg
              have hdel := H.del k hlt
              have gd : ∀ {j o}, (s.del k).get j = some o → j ≠ k ∧ s.get j = some o := fun {j o} hj => by
                rw [XSt.get_del hlt] at hj
                split at hj
                · cases hj
                · rename_i hne; exact ⟨hne, hj⟩
              rw [appX_eq, takeX_eq] at hk
              exact own_ok (c := c') (ty := ty) (n := n) (lx := l.take (n * zs)) (xs := vs.take (n * zs)) (v0 := .slice (some ⟨b.1, 0, none⟩) n (b.2 - 0)) ht hi hz hsz hby hzs hpos hdel
                ⟨by rw [List.length_take]; have : n * zs ≤ l.length := c6; omega, .inr ⟨b.1, b.2, _, rfl, h0, hO, by omega, g6, by simpa using g5, by simp; rw [List.take_append_of_le_length (by have : n * zs ≤ l.length := c6; omega)]⟩⟩ (shL_take _ g1) hnew hlen hat c2
                (fun j o b2 hj hb2 e1 => by
                  obtain ⟨hne, hj'⟩ := gd hj
                  simp only [Value.ownBlock, Option.some.injEq] at e1
                  exact hne (H.inj _ _ _ _ _ _ hj' hg hb2 hb e1))
                (fun r hr => by simp only [Value.ownBlock, Option.some.injEq] at hr; omega) hm' (Nat.le_of_ble_eq_true c3) c4 hk
            · cases h
          · cases h
      · cases h
    · cases h
  · cases h
end
end Go.Sh
