/- An executor for the shallow reading: copies, conversions, new rows. Conditions: none. -/
import Derived.Test.YtlfgmbbiealpoaaGreatDoorE10
import Derived.Laws.MakeOwn
import Derived.Laws.BytesString
set_option linter.unusedVariables false
namespace Go.Sh
open Go Go.RowKit
section
variable {P : Program} {w0 w : World} {v : Vl} {s : XSt}
theorem run_copy_X {t e ty : TypeId} {i : TypeInfo} (ht : P.underlying t = some (.slice e)) (hi : P.info? e = some i) {b off n c m c' : Nat} {a : Addr} {us : List Value} (hlen : us.length = Nat.min m n * i.size) (hat : At w a us)
    (hc : ∀ j, j < us.length → (w.cell? ⟨b, off + j, none⟩).isSome = true) (hf : ∀ j, j < us.length → w.frozen? ⟨b, off + j, none⟩ = false) (h1 : ∀ u ∈ us, u.oneCell' = true) :
    (Builtin.copy_ #[t, t] ty #[.slice (some ⟨b, off, none⟩) n c, .slice (some a) m c']).run P w = .ok (goInt (Nat.min m n)) (w.setCells b off us) := by
  have hl := run_firstCells_some (P := P) w i.size (Nat.min m n) a m c' us hlen hat
  have hst := run_storeCells_cells (P := P) b off us 0 w (by simpa using hc) (by simpa using hf) h1
  simp only [Nat.add_zero] at hst
  simp [Builtin.copy_, run_underlying ht, Builtin.lenOf, sizeOf, typeInfo, hi, hl, hst]
theorem run_copy_0 {t e ty : TypeId} {i : TypeInfo} (ht : P.underlying t = some (.slice e)) (hi : P.info? e = some i) {n c m c' : Nat} {p q : Option Addr} (hm : Nat.min m n = 0) :
    (Builtin.copy_ #[t, t] ty #[.slice p n c, .slice q m c']).run P w = .ok (goInt 0) w := by
  have hl : ∀ (x : Addr), (loadCells x 0).run P w = .ok #[] w := fun x => by simpa using run_loadCells_list (P := P) w x [] (by simp)
  cases p <;> cases q <;> simp [Builtin.copy_, run_underlying ht, Builtin.lenOf, Builtin.firstCells, sizeOf, typeInfo, hi, hm, storeCells, hl]
theorem xcopy_ok {cx : XCx} {ts : Array TypeId} {ty : TypeId} {a x : EV} {r : EV × XSt} {y z : Value} (h : xcopy cx ts a x s = some r) (H : Rep w0 v s w) (g : GlOk cx v w0) (ha : sh v a = some y) (hx : sh v x = some z) :
    ∃ w' u, Rep w0 v r.2 w' ∧ sh v r.1 = some u ∧ ∀ K : KV, K u w' → bcpy .full cx.P ts ty y z K w := by
  unfold xcopy at h
  split at h
  · rename_i e zs by_ p n q m hel hp hq
    obtain ⟨t, i, zz, rfl, ht, hi, hz, hsz, hby, hzs, hpos⟩ := elZ_ok v hel
    obtain ⟨p', c, rfl, hp'⟩ := slE_ok hp ha
    obtain ⟨q', c', rfl, hq'⟩ := slE_ok hq hx
    split at h
    · rename_i hm
      cases h
      exact ⟨w, _, H, rfl, fun K hK => ⟨_, _, run_copy_0 ht hi (Nat.eq_of_beq_eq_true hm), fun h => absurd rfl h, hK⟩⟩
    · split at h
      · rename_i cs hcs
        split at h <;> cases h
        rename_i s' hw
        obtain ⟨a, us, hy, h1, h2, h3⟩ := xread_ok hcs H g hq'
        cases hy
        obtain ⟨b, off, he, H1, g2, g3, g4⟩ := xwrite_ok cx.P hw H hp' h1
        cases he
        subst hsz
        exact ⟨_, _, H1, rfl, fun K hK => ⟨_, _, run_copy_X ht hi h2 h3 g2 g3 g4, fun h => absurd rfl h, hK⟩⟩
      · cases h
  · cases h

/-! ### rows wiped out -/
theorem cellsArr (z : Value) : z.cells = (partCells z).toArray := by cases z <;> simp [Value.cells, partCells]
theorem repC_eq {α : Type} : ∀ (n : Nat) (l : List α), repC n l = (List.replicate n l).flatten
  | 0, l => rfl
  | n + 1, l => by rw [repC, repC_eq n l, List.replicate_succ, List.flatten_cons]
theorem shL_rep {l : List EV} {us : List Value} (h : shL v l = some us) : ∀ (n : Nat), shL v (repC n l) = some (repC n us)
  | 0 => rfl
  | n + 1 => shL_app h (shL_rep h n)
theorem zeroCells_rep (z : Value) (n : Nat) (hp : 0 < (partCells z).length) : (Builtin.zeroCells z.cells n).toList = repC n (partCells z) := by
  have e : Builtin.zeroCells z.cells n = madeCells z.cells (n * (partCells z).length) := by
    unfold Builtin.zeroCells madeCells
    rw [cellsArr]; simp
  rw [e]
  unfold madeCells
  rw [cellsArr, repC_eq, ← rep_flat (partCells z) (partCells z).length rfl hp n]
  simp
theorem xclear_ok {cx : XCx} {ts : Array TypeId} {ty : TypeId} {a : EV} {s' : XSt} {y : Value} (h : xclear cx ts a s = some s') (H : Rep w0 v s w) (ha : sh v a = some y) :
    ∃ w', Rep w0 v s' w' ∧ ∀ K : KV, K (.tuple #[]) w' → bclr .full cx.P ts ty y K w := by
  unfold xclear at h
  split at h
  · rename_i t p n hts hp
    split at h
    · rename_i e hd
      split at h
      · rename_i z hz
        obtain ⟨i, zz, h1, h2, h3⟩ := zeroE_ok (v := v) hz
        have hts' : ts[0]? = some t := by rw [← Array.getElem?_toList, hts]; rfl
        obtain ⟨q, c, rfl, hq⟩ := slE_ok hp ha
        split at h
        · rename_i hn
          have := Nat.eq_of_beq_eq_true hn
          subst this
          cases h
          refine ⟨w, H, fun K hK => ⟨_, w, ?_, fun _ => rfl, hK⟩⟩
          unfold Builtin.clear_
          cases q <;> simp [hts', run_underlying hd]
        · rename_i hn
          have hn0 : n ≠ 0 := fun e => by subst e; cases hn
          obtain ⟨b, off, he, H1, g2, g3, g4⟩ := xwrite_ok cx.P h H hq (shL_rep h3 n)
          cases he
          refine ⟨_, H1, fun K hK => ⟨_, _, ?_, fun h => absurd rfl h, hK⟩⟩
          have hst := run_storeCells_cells (P := cx.P) b off (repC n (partCells zz)) 0 w (by simpa using g2) (by simpa using g3) g4
          simp only [Nat.add_zero] at hst
          have hzv : (zeroValue e).run cx.P w = .ok zz w := by
            simp [zeroValue, typeInfo, h1, h2]
          have hz2 : (Builtin.zeroCells zz.cells n).toList = repC n (partCells zz) := by
            cases hl : (partCells zz).length with
            | zero =>
              have : partCells zz = [] := List.eq_nil_of_length_eq_zero hl
              rw [repC_eq, this]
              unfold Builtin.zeroCells
              rw [cellsArr, this]; simp
            | succ m => exact zeroCells_rep zz n (by omega)
          unfold Builtin.clear_
          cases n with
          | zero => exact absurd rfl hn0
          | succ n => simp [hts', run_underlying hd, hzv, hz2, hst]
      · cases h
    · cases h
  · cases h

/-! ### conversions -/
theorem isStr_out {t : TypeId} (h : isStr P t = true) : P.underlying t = some .string := by
  unfold isStr at h
  split at h
  · assumption
  · cases h
theorem isBytes_out {t : TypeId} (h : isBytes P t = true) : ∃ e, P.underlying t = some (.slice e) ∧ P.underlying e = some (.int .u8) := by
  unfold isBytes at h
  split at h
  · rename_i e hd
    split at h
    · rename_i hk
      refine ⟨e, hd, ?_⟩
      unfold intTy at hk
      split at hk
      · rename_i k hu; cases hk; exact hu
      · cases hk
    · cases h
  · cases h
theorem asTy_str {t : TypeId} {b : ByteArray} {K : KV} (h : isStr P t = true) (hk : K (.string b) w) : asTy P t (.string b) K w := by
  have hd := isStr_out h
  have e1 : isAggB P t = false := by unfold isAggB; rw [hd]
  have e2 : leaf1 P t = .str := by unfold leaf1; rw [hd]; rfl
  unfold asTy
  rw [e1, e2]
  exact ⟨_, rfl, hk⟩
theorem asTy_slice {t e : TypeId} {a : Option Addr} {n c : Nat} {K : KV} (hd : P.underlying t = some (.slice e)) (hk : K (.slice a n c) w) : asTy P t (.slice a n c) K w := by
  have e1 : isAggB P t = false := by unfold isAggB; rw [hd]
  have e2 : leaf1 P t = .slice := by unfold leaf1; rw [hd]; rfl
  unfold asTy
  rw [e1, e2]
  exact ⟨_, _, _, rfl, hk⟩
theorem bytesE_ok : ∀ {cs : List EV} {l : List UInt8} {us : List Value}, bytesE cs = some l → shL v cs = some us → ∃ ns : List Int, us = ns.map (Value.int .u8) ∧ l = ns.map fun n => UInt8.ofNat n.toNat
  | [], l, us, h, hs => by cases h; cases hs; exact ⟨[], rfl, rfl⟩
  | x :: r, l, us, h, hs => by
    obtain ⟨y, q, hy, hq, rfl⟩ := shL_cons.1 hs
    unfold bytesE at h
    split at h
    · rename_i heq; cases heq
    · rename_i n r' heq
      cases heq
      split at h <;> cases h
      rename_i l' hl
      obtain ⟨ns, rfl, rfl⟩ := bytesE_ok hl hq
      cases hy
      exact ⟨n :: ns, rfl, rfl⟩
    · cases h
theorem fold_push : ∀ (ns : List Int) (r : ByteArray), ns.foldl (fun r n => r.push (UInt8.ofNat n.toNat)) r = ⟨(r.data.toList ++ ns.map fun n => UInt8.ofNat n.toNat).toArray⟩
  | [], r => by simp
  | n :: ns, r => by
    rw [List.foldl_cons, fold_push ns]
    simp [ByteArray.push]
theorem xconv_ok {cx : XCx} {src dst : TypeId} {x e : EV} {y : Value} (h : xconv cx src dst x s = some e) (H : Rep w0 v s w) (g : GlOk cx v w0) (hx : sh v x = some y) : ∃ u, sh v e = some u ∧ (∀ k n, y ≠ .int k n) ∧ ∀ K : KV, K u w → cnv .full cx.P src dst y (fun u w => asTy cx.P dst u K w) w := by
  unfold xconv at h
  split at h
  · rename_i l
    split at h <;> cases h
    rename_i h1 h2
    cases hx
    refine ⟨_, rfl, fun k n e => (by cases e), fun K hK => ⟨_, w, ?_, fun _ => rfl, asTy_str h2 hK⟩⟩
    have hd := isStr_out h2
    cases hs : cx.P.underlying src with
    | none => unfold isTyB at h1; rw [hs] at h1; cases h1
    | some d => cases d <;> simp [convert, run_underlying hs, run_underlying hd]
  · split at h <;> cases h
    rename_i h1 h2
    cases hx
    obtain ⟨e, hd, he⟩ := isBytes_out h1
    refine ⟨_, rfl, fun k n e => (by cases e), fun K hK => ⟨_, w, ?_, fun _ => rfl, asTy_str h2 hK⟩⟩
    rw [run_convert_bytes_string w src dst e none 0 0 hd he (isStr_out h2)]
    rfl
  · split at h
    · rename_i p n h1 h2 hp
      split at h
      · rename_i cs hc
        split at h <;> cases h
        rename_i l hl
        obtain ⟨e, hd, he⟩ := isBytes_out h1
        obtain ⟨q, c, rfl, hq⟩ := slE_ok hp hx
        obtain ⟨a, us, hy, g1, g2, g3⟩ := xread_ok hc H g hq
        cases hy
        obtain ⟨ns, rfl, rfl⟩ := bytesE_ok hl g1
        refine ⟨_, rfl, fun k n e => (by cases e), fun K hK => ⟨_, w, ?_, fun _ => rfl, asTy_str h2 hK⟩⟩
        rw [run_convert_bytes_string w src dst e _ _ _ hd he (isStr_out h2)]
        have hl := run_loadCells_list (P := cx.P) w a (ns.map (Value.int .u8)) g3
        rw [g2] at hl
        rw [run_bytesToString w a n c ns hl, fold_push]
        rfl
      · cases h
    · cases h

/-! ### new rows -/
theorem xbslice_ok {t e : TypeId} {n : Nat} {parts : List (Nat × EV)} {cs : List EV} {ps : List (Nat × Value)} (h : xbslice P t n parts = some (e, cs)) (hp : shP v parts = some ps) : ∃ us, bsL P t n ps = some (e, us) ∧ shL v cs = some us := by
  unfold xbslice at h
  unfold bsL
  split at h
  · rename_i e' hd
    simp only [hd]
    split at h
    · rename_i j hj
      simp only [hj]
      split at h
      · rename_i z hz h0 hle hn
        obtain ⟨i, zz, h1, h2, h3⟩ := zeroE_ok (v := v) hz
        rw [hj] at h1; cases h1
        simp only [h2, h0, hle, hn]
        split at h
        · rename_i hl
          rw [lenX_eq, ← shL_len h3] at hl
          simp only [hl]
          split at h <;> cases h
          rename_i hf
          obtain ⟨us, g1, g2⟩ := xfill_ok hf (shL_rep h3 n) hp
          rw [repC_eq] at g1
          exact ⟨us, by simp only [g1], g2⟩
        · cases h
      · rename_i z hz h0 hle hn
        obtain ⟨i, zz, h1, h2, h3⟩ := zeroE_ok (v := v) hz
        rw [hj] at h1; cases h1
        simp only [h2, h0, hle, hn]
        split at h <;> cases h
        cases hp
        exact ⟨[], rfl, rfl⟩
      · cases h
    · cases h
  · cases h
/-- a new row, with its name -/
theorem newRow_ok {l : List EV} {e : TypeId} {k : Nat} {s' : XSt} {us : List Value} (hn : s.new (.cells l e 0) = some (k, s')) (H : Rep w0 v s w) (hs : shL v l = some us) : ∃ v', v.le v' ∧ Rep w0 v' s' (w.alloc (.cells us.toArray e (0, 0))) ∧ v'.β k = some (w.heap.size, 0) := by
  have hnone : v.β k = none := by
    obtain ⟨rfl, h1, -⟩ := new_out hn
    exact (H.fresh _ (Nat.le_refl _) h1).1
  obtain ⟨hle, H'⟩ := H.nw hn 0 (O := .cells us.toArray e (0, 0)) (fun _ _ => default) ⟨us, [], shL_mono (Vl.put_le hnone) hs, by simp, fun _ => rfl, fun hz => absurd hz (by omega)⟩
  exact ⟨_, hle, H', Vl.put_self⟩
theorem xmkslice_ok {t : TypeId} {l c : EV} {r : EV × XSt} {a b : Value} (h : xmkslice P t l c s = some r) (H : Rep w0 v s w) (hl : sh v l = some a) (hc : sh v c = some b) :
    ∃ v' w' u, v.le v' ∧ Rep w0 v' r.2 w' ∧ sh v' r.1 = some u ∧ ∀ K : KV, K u w' → mksl .full P t a b (fun u w => asTy P t u K w) w := by
  unfold xmkslice at h
  split at h
  · rename_i e n m hd
    split at h
    · rename_i j z hj hz
      split at h
      · rename_i c1 c2 c3 c4 c5
        split at h <;> cases h
        rename_i k s' hk
        cases hl; cases hc
        obtain ⟨i, zz, h1, h2, h3⟩ := zeroE_ok (v := v) hz
        rw [hj] at h1; cases h1
        obtain ⟨v', hle, H', hb⟩ := newRow_ok hk H (shL_rep h3 m)
        have c1 := Nat.le_of_ble_eq_true c1
        have c2 := Nat.le_of_ble_eq_true c2
        have c3 := Nat.le_of_ble_eq_true c3
        have hb2 : (j.bytes : Int) * (m : Int) ≤ 281474976710656 := by
          have h : ((j.bytes * m : Nat) : Int) ≤ 281474976710656 := by omega
          rwa [Int.natCast_mul] at h
        have hr := run_make (P := P) w t e j zz hd hj h2 .i64 .i64 (n : Int) (m : Int) (by omega) (by omega) hb2 (by omega)
        simp only [Int.toNat_natCast] at hr
        have em : madeCells zz.cells (m * j.size) = (repC m (partCells zz)).toArray := by
          unfold madeCells
          rw [cellsArr, repC_eq]
          have hp : 0 < j.size := by simpa [Nat.blt_eq] using c5
          have hl2 : (partCells zz).length = j.size := by rw [shL_len h3, ← lenX_eq z]; exact Nat.eq_of_beq_eq_true c4
          rw [← rep_flat (partCells zz) j.size hl2 hp m]
          apply Array.ext'
          simp
        rw [em] at hr
        exact ⟨v', _, _, hle, H', by simp only [sh, hb], fun K hK => ⟨_, _, hr, fun h => absurd rfl h, asTy_slice hd hK⟩⟩
      · cases h
    · cases h
  · cases h
theorem alloc_ok {t : TypeId} {l : List EV} {r : EV × XSt} (hz : zeroE P t = some l) (h : newE s l t = some r) (H : Rep w0 v s w) : ∃ v' w' u, v.le v' ∧ Rep w0 v' r.2 w' ∧ sh v' r.1 = some u ∧ ∀ K : KV, K u w' → spt .full P (Instr.alloc t true (.tuple #[])) K w := by
  obtain ⟨i, zz, h1, h2, h3⟩ := zeroE_ok (v := v) hz
  obtain ⟨v', hle, H', hs⟩ := newE_ok (x := r.1) (s' := r.2) h H h3
  refine ⟨v', _, _, hle, H', hs, fun K hK => ?_⟩
  unfold Instr.alloc
  refine spt_bind (zeroValue t) (spt_zero h1 h2 ?_)
  show K (.pointer (some ⟨w.heap.size, 0, none⟩)) (w.alloc (.cells zz.cells t (0, 0)))
  rw [cellsArr]; exact hK
theorem box_ok {t : TypeId} {x : EV} {y : Value} {r : EV × XSt} (hx : sh v x = some y) (h : newE s x.cells t = some r) (H : Rep w0 v s w) : ∃ v' w' u, v.le v' ∧ Rep w0 v' r.2 w' ∧ sh v' r.1 = some u ∧ ∀ K : KV, K u w' → spt .full P (Instr.box t y) K w := by
  obtain ⟨v', hle, H', hs⟩ := newE_ok (x := r.1) (s' := r.2) h H (cells_sh hx)
  refine ⟨v', _, _, hle, H', hs, fun K hK => ?_⟩
  show K (.pointer (some ⟨w.heap.size, 0, none⟩)) (w.alloc (.cells y.cells t (0, 0)))
  rw [cellsArr]; exact hK
theorem newMap_ok {k : Nat} {s' : XSt} (hn : s.new (.map [] 0) = some (k, s')) (H : Rep w0 v s w) : ∃ v', v.le v' ∧ Rep w0 v' s' (w.alloc (.map #[] 0)) ∧ sh v' (.map k) = some (.map (some w.heap.size)) := by
  obtain ⟨hle, H'⟩ := H.nw hn 0 (O := .map #[] 0) (fun _ _ => default) ⟨[], rfl, rfl, GOk.nil 0⟩
  exact ⟨_, hle, H', by simp only [sh, Vl.put_self]⟩

/-! ### type assertions -/
theorem xassert_ok {x e : EV} {xt u : TypeId} {ok : Bool} {y : Value} (h : xassert P x u ok = some e) (hx : sh v x = some y) : ∃ z, sh v e = some z ∧ ∀ K : KV, K z w → tyas .full P y xt u ok K w := by
  have two : ∀ {x : EV} {y : Value} {b : Bool}, sh v x = some y → sh v (.tup [x, .bool b]) = some (.tuple #[y, .bool b]) := fun {x y b} hx => by
    have : shL v [x, .bool b] = some [y, .bool b] := shL_cons.2 ⟨y, _, hx, rfl, rfl⟩
    simp [sh, this]
  unfold xassert at h
  split at h
  · rename_i t a h1 h2
    cases hd : P.underlying u with
    | none => unfold isTyB at h1; rw [hd] at h1; cases h1
    | some d =>
    have nif : ∀ m, d ≠ .interface m := fun m e => by unfold isIfc at h2; rw [hd, e] at h2; cases h2
    simp only [sh] at hx
    split at hx <;> cases hx
    rename_i z hz
    split at h
    · rename_i he
      cases h
      have := Nat.eq_of_beq_eq_true he
      subst this
      refine ⟨_, two hz, fun K hK => ⟨_, w, ?_, fun _ => rfl, hK⟩⟩
      cases d <;> simp [Instr.typeAssert, run_underlying hd] <;> exact absurd rfl (nif _)
    · rename_i he
      cases h
      have := Nat.eq_of_beq_eq_true he
      subst this
      refine ⟨_, hz, fun K hK => ⟨_, w, ?_, fun _ => rfl, hK⟩⟩
      cases d <;> simp [Instr.typeAssert, run_underlying hd] <;> exact absurd rfl (nif _)
    · rename_i he
      split at h <;> cases h
      rename_i q hq
      obtain ⟨zz, g1, g2⟩ := zeroV_ok (v := v) hq
      have hne : t ≠ u := fun e => by subst e; rw [Nat.beq_refl] at he; cases he
      refine ⟨_, two g1, fun K hK => ⟨_, w, ?_, fun _ => rfl, hK⟩⟩
      cases d <;> simp [Instr.typeAssert, run_underlying hd, hne, g2] <;> exact absurd rfl (nif _)
    · cases h
  · rename_i h1 h2
    cases hd : P.underlying u with
    | none => unfold isTyB at h1; rw [hd] at h1; cases h1
    | some d =>
    have nif : ∀ m, d ≠ .interface m := fun m e => by unfold isIfc at h2; rw [hd, e] at h2; cases h2
    cases hx
    split at h
    · split at h <;> cases h
      rename_i q hq
      obtain ⟨zz, g1, g2⟩ := zeroV_ok (v := v) hq
      refine ⟨_, two g1, fun K hK => ⟨_, w, ?_, fun _ => rfl, hK⟩⟩
      cases d <;> simp [Instr.typeAssert, run_underlying hd, g2] <;> exact absurd rfl (nif _)
    · cases h
  · cases h
end
end Go.Sh
