/- What law3's EntryTorn computes: true, of any entry, any two numbers, any byte. Conditions: none. -/
import Derived.Test.YtkhmhgleglhcjaaDoorC17Lt
import Derived.Test.YtkhmhgleglhcjaaDoorFETo
import Derived.Laws.IdiomStrings
import Derived.Lib.ConvBytes
set_option linter.unusedVariables false
set_option maxRecDepth 100000
namespace Go.Proofs.YtkhmhgleglhcjaaDoor
open Go Go.Sh

theorem ent_size {W : World} {r : Reach} {b : Nat} {e : En} {v : Value} (h : Value.okWide Tryd.prog W r b 24 (enV e v)) : e.k.length ≤ 9223372036854775807 := by
  unfold Value.okWide at h
  rw [Tryd.underlying24] at h
  obtain ⟨cs, hcs, hsz, ts, h1, -, h3⟩ := h
  rw [show Tryd.prog.cellTypes Tryd.prog.depth 24 = some [9, 3, 22] by kernel_rfl] at h1
  cases h1
  cases hcs
  obtain ⟨u, hu, hc⟩ := h3 0 (.string (B e.k)) rfl
  have hu' : u = 9 := by simpa using hu.symm
  subst hu'
  simp only [Cell.okWide, Tryd.underlying9, Cell.ok] at hc
  have h2 : IntKind.i64.max = 9223372036854775807 := rfl
  rw [B_size] at hc
  omega
theorem u8_in {W : World} {r : Reach} {b : Nat} {v : Value} (h : Value.okWide Tryd.prog W r b 5 v) : ∃ d : UInt8, v = .int .u8 (d.toNat : Int) := by
  obtain ⟨n, rfl⟩ := Go.WideShapes.okWide_int Tryd.underlying5 h
  simp only [Value.okWide, Tryd.underlying5, Cell.okWide, Cell.ok] at h
  have hr : 0 ≤ n ∧ n ≤ 255 := by
    have := h.2
    simp [IntKind.has, IntKind.min, IntKind.max, IntKind.signed, IntKind.bits] at this
    omega
  refine ⟨UInt8.ofNat n.toNat, ?_⟩
  rw [UInt8.toNat_ofNat', Nat.mod_eq_of_lt (by omega)]
  congr 1
  omega
theorem named_long {w0 w : World} {hs : List Hp} {K : KV} {s : ByteArray} (hl : s.size ≤ 9223372036854775807) (h8 : 8 < s.size) (H : Holds w0 hs w) (k : ∀ w', Holds w0 hs w' → K (.bool false) w') : gocall Tryd.prog 48 [.string s] K w := by
  apply F48_go; unfold F48
  refine ⟨fun y w => Holds w0 hs w ∧ 0 ≤ y.1 ∧ y.1 ≤ s.size, fun y _ => (s.size - y.1).toNat, ⟨H, by simp, by simp⟩, ?_⟩
  rintro ⟨y, b, u⟩ w ⟨H, h0, h1⟩
  simp only at h0 h1
  refine br_s (fun h => ?_) (fun h => ?_)
  · simp only [decide_eq_true_eq] at h
    have hy : y.toNat < s.size := by omega
    have hc : s[y.toNat]? = some s[y.toNat] := getElem?_pos s y.toNat hy
    refine ⟨s[y.toNat], h0, hc, ?_⟩
    refine br_s (fun hb => k w H) (fun hb => ?_)
    refine ⟨s[y.toNat], h0, hc, ?_⟩
    refine br_s (fun hb => k w H) (fun hb => ?_)
    have hw : IntKind.wrap .i64 (y + 1) = y + 1 := wrap64 (by omega) (by omega)
    simp only [hw]
    exact ⟨⟨H, by omega, by omega⟩, by omega⟩
  · refine br_t (by simp; omega) ?_
    have := k w H
    rwa [show decide ((s.size : Int) ≤ 8) = false by simp; omega]
theorem LineAny_c {w0 w : World} {hs : List Hp} {K : KV} {e : En} {p : Option Addr} {n c : Nat} (T : Tab w0) (hl : e.k.length ≤ 9223372036854775807) (hsl : Sl (Sh.Holds w0 hs) p n 1 (e.l.map I)) (H : Sh.Holds w0 hs w)
    (k : ∀ w', Sh.Holds w0 hs w' → K (.tuple #[.string (B (lineR e).1), I (lineR e).2]) w') : gocall Tryd.prog 16 [enV e (.slice p n c)] K w := by
  by_cases h : e.k.length < 1000000
  · exact Line3_c T h hsl H k
  have hm : mayN e = false := by
    cases hm : mayN e with
    | false => rfl
    | true => have := (mayN_out hm).2.2.2.1; omega
  rw [show lineR e = ([], 1) by rw [lineR, if_neg (by simp [hm])]] at k
  apply F16_go; unfold F16
  refine nwE_h H (fun k1 w H => ?_)
  apply ld3_h 0 H rfl
  apply F18_go; unfold F18
  refine nwE_h H (fun k2 w H => ?_)
  have H' := H
  unfold eHp at H'
  apply ld_h 0 H' rfl rfl; refine asStr_h ?_
  refine named_long (by rw [B_size]; exact hl) (by rw [B_size]; omega) H (fun w H => ?_)
  refine asBoo_h ?_
  refine br_f rfl ?_
  refine asBoo_h ?_
  refine br_t rfl ?_
  exact k _ H.tail.tail
theorem Holds.fresh {w0 w w' : World} {hs : List Hp} {o : Obj} (H : Sh.Holds w0 hs w) (G : Sh.Holds w0 hs w') (h : w'.heap[w.heap.size]? = some o) : Sh.Holds w0 ([(w.heap.size, o)] :: hs) w' := by
  have hs' := H.below.size
  refine ⟨G.below, ?_, ?_, ?_⟩
  · simp only [List.flatten_cons, List.cons_append, List.nil_append, List.map_cons, List.nodup_cons]
    refine ⟨fun hm => ?_, H.nodup⟩
    obtain ⟨x, hx, he⟩ := List.mem_map.1 hm
    have := H.lt hx
    omega
  · intro x hx
    simp only [List.flatten_cons, List.cons_append, List.nil_append, List.mem_cons] at hx
    rcases hx with rfl | hx
    · exact hs'
    · exact H.new x hx
  · intro x hx
    simp only [List.flatten_cons, List.cons_append, List.nil_append, List.mem_cons] at hx
    rcases hx with rfl | hx
    · exact h
    · exact G.held x hx
theorem cnvS_h {w0 w : World} {hs : List Hp} {s : List UInt8} {K : KV} (H : Sh.Holds w0 hs w)
    (hk : ∀ (k c : Nat) (cs : Array Value) (z : Nat × Nat) w', (∀ (j : Nat) (b : UInt8), s[j]? = some b → cs[j]? = some (Value.int .u8 (b.toNat : Int))) → s.length ≤ z.1 → Sh.Holds w0 ([(k, .cells cs 5 z)] :: hs) w' → K (.slice (some ⟨k, 0, none⟩) s.length c) w') :
    cnv .full Tryd.prog 9 36 (.string (B s)) K w := by
  have hb := Lib.bytesWorld_below w 5 (B s)
  have G := H.grown (w' := Lib.bytesWorld w 5 (B s)) ⟨hb.os, hb.tape, hb.output, hb.size, fun j hj _ => hb.block j hj⟩
  refine ⟨_, _, Lib.run_convert_string_bytes w 9 36 5 (B s) Tryd.underlying9 (by kernel_rfl) Tryd.underlying5, fun h => absurd rfl h, hk _ _ (Lib.bytesCells w 5 (B s)) _ _ (fun j b hj => ?_) ?_ (Holds.fresh H G (Lib.bytesWorld_at_new w 5 (B s)))⟩
  · have hlt := (List.getElem?_eq_some_iff.1 hj).1
    have h1 := Lib.bytesWorld_cell w 5 (B s) j hlt
    simp only [World.cell?, Lib.bytesWorld_at_new] at h1
    have e : s.getD j 0 = b := by simp [List.getD, hj]
    have h2 : (B s).data.toList.getD j 0 = b := e
    rw [h2] at h1
    simpa using h1
  · show _ ≤ (Lib.bytesCells w 5 (B s)).size
    simp [Lib.bytesCells]
theorem stz_h {w0 w : World} {hs : List Hp} (i : Nat) {k off : Nat} {cs : Array Value} {e : TypeId} {z : Nat × Nat} {v u : Value} {K : World → Prop} (H : Sh.Holds w0 hs w) (h : hs[i]? = some [(k, .cells cs e z)]) (hz : off < z.1) (hv1 : v.oneCell' = true) (hv : cs[off]? = some u)
    (hk : ∀ w', Sh.Holds w0 (hs.set i [(k, .cells (cs.setIfInBounds off v) e z)]) w' → K w') : st ⟨k, off, none⟩ v K w := by
  have hm := H.mem i h
  refine ⟨hv1, ⟨u, by simp [World.cell?, hm, hv]⟩, by simp [World.frozen?, hm]; omega, hk _ (Holds.perm (set_bring i h) ((H.bring i h).put _ rfl rfl rfl ?_ ?_ ?_))⟩
  · simp [World.setCell]
  · simp [World.setCell, Array.getElem?_modify, hm]
  · intro j hj hne
    simp only [World.setCell, Array.getElem?_modify]
    rw [if_neg (fun e => hne e.symm)]
theorem cnvT_h {w0 w : World} {hs : List Hp} (i : Nat) {l : List UInt8} {k c : Nat} {cs : Array Value} {e : TypeId} {z : Nat × Nat} {K : KV} (H : Sh.Holds w0 hs w) (h : hs[i]? = some [(k, .cells cs e z)])
    (hc : ∀ (j : Nat) (b : UInt8), l[j]? = some b → cs[j]? = some (Value.int .u8 (b.toNat : Int))) (hk : K (.string (B l)) w) : cnv .full Tryd.prog 36 9 (.slice (some ⟨k, 0, none⟩) l.length c) K w := by
  refine ⟨_, w, run_convert_bytes_back w 36 9 5 _ c l (by kernel_rfl) Tryd.underlying5 Tryd.underlying9 (fun j hj => ?_), fun h => rfl, hk⟩
  rw [Addr.add_lit]
  simp only [World.cell?, H.mem i h, Nat.zero_add]
  exact hc j _ (List.getElem?_eq_getElem hj)
theorem idx_mod (x : Int) {n : Nat} (h0 : 0 < n) (hn : n ≤ 1000) : ∃ m : Nat, m < n ∧ IntKind.i64.wrap ((IntKind.u64.wrap x).tmod (IntKind.u64.wrap (n : Int))) = (m : Int) := by
  have e1 : IntKind.u64.wrap (n : Int) = n := by rw [show IntKind.u64.wrap (n : Int) = (n : Int) % 18446744073709551616 by simp [IntKind.wrap, IntKind.bits, IntKind.signed]]; omega
  have e2 : 0 ≤ IntKind.u64.wrap x := by rw [show IntKind.u64.wrap x = x % 18446744073709551616 by simp [IntKind.wrap, IntKind.bits, IntKind.signed]]; omega
  rw [e1]
  generalize IntKind.u64.wrap x = u at *
  rw [Int.tmod_eq_emod_of_nonneg e2]
  have h1 := Int.emod_nonneg u (b := (n : Int)) (by omega)
  have h2 := Int.emod_lt_of_pos u (b := (n : Int)) (by omega)
  refine ⟨(u % n).toNat, by omega, ?_⟩
  rw [wrap64 (by omega) (by omega)]
  omega
theorem xor_u8 (c d : UInt8) : IntKind.u8.wrap (((BitVec.ofInt IntKind.u8.bits (c.toNat : Int) ^^^ BitVec.ofInt IntKind.u8.bits (d.toNat : Int)).toNat : Nat) : Int) = ((c ^^^ d).toNat : Int) := by
  have e : ∀ c : UInt8, BitVec.ofInt IntKind.u8.bits (c.toNat : Int) = c.toBitVec := fun c => by
    apply BitVec.eq_of_toNat_eq
    have := c.toNat_lt
    simp only [BitVec.toNat_ofInt, IntKind.bits]
    have h : ((c.toNat : Int) % ((2 ^ 8 : Nat) : Int)).toNat = c.toNat := by omega
    exact h
  have h1 : (BitVec.ofInt IntKind.u8.bits (c.toNat : Int) ^^^ BitVec.ofInt IntKind.u8.bits (d.toNat : Int)).toNat = (c ^^^ d).toNat := by
    rw [e, e]; rfl
  have h2 := (c ^^^ d).toNat_lt
  rw [h1, show IntKind.u8.wrap (((c ^^^ d).toNat : Nat) : Int) = (((c ^^^ d).toNat : Nat) : Int) % 256 by simp [IntKind.wrap, IntKind.bits, IntKind.signed]]
  omega
theorem xor_ne {c d : UInt8} (h : d ≠ 0) : c ≠ c ^^^ d := by
  intro e
  have : c ^^^ (c ^^^ d) = c ^^^ c := by rw [← e]
  rw [← UInt8.xor_assoc, UInt8.xor_self, UInt8.zero_xor] at this
  exact h this
theorem Torn_c {w0 w : World} {hs : List Hp} {K : KV} {e : En} {x y : Int} {d : UInt8} {p : Option Addr} {n c : Nat} (E : Errs w0) (T : Tab w0) (H : Sh.Holds w0 hs w) (hsl : Sl (Sh.Holds w0 hs) p n 1 (e.l.map I)) (hl : e.k.length ≤ 9223372036854775807)
    (k : ∀ w', Sh.Holds w0 hs w' → K (.bool true) w') : gocall Tryd.prog 4 [enV e (.slice p n c), I x, I y, .int .u8 (d.toNat : Int)] K w := by
  apply F4_go; unfold F4
  refine nwE_h H (fun k5 w H => ?_)
  have s1 := hsl.mono (S' := Sh.Holds w0 (eHp k5 e.k e.id (.slice p n c) :: hs)) fun w H => H.tail
  have aw : ∀ {w}, Sh.Holds w0 (eHp k5 e.k e.id (.slice p n c) :: hs) w → gocall Tryd.prog 14 [] (fun v w => asBoo (v) (fun b w => K (Value.bool (b)) (w)) (w)) w := by
    intro w H
    refine awake3_c E T H (fun w H => ?_)
    refine asBoo_h ?_
    exact k _ H.tail
  apply ld3_h 0 H rfl
  refine LineAny_c (e := e) T hl s1 H (fun w H => ?_)
  cases hm : mayN e with
  | false =>
    rw [show lineR e = ([], 1) by rw [lineR, if_neg (by simp [hm])]]
    refine asT_e [_, _] rfl rfl ?_
    refine asStr_e rfl ?_
    refine asI_e rfl ?_
    exact br_t rfl (aw H)
  | true =>
  rw [show lineR e = (lineL e, 0) by rw [lineR, if_pos hm]]
  refine asT_e [_, _] rfl rfl ?_
  refine asStr_e (b := B (lineL e)) rfl ?_
  refine asI_e rfl ?_
  refine br_f rfl ?_
  apply ld3_h 0 H rfl
  refine light_c (e := e) H (fun w H => ?_)
  refine asBoo_h ?_
  refine br_s (fun _ => aw H) (fun _ => ?_)
  have hlen := entT_len hm
  have h6 : 6 ≤ (lineL e).length := by
    obtain ⟨-, -, h1, -⟩ := mayN_out hm
    have : Lib.itoa e.id ≠ [] := by
      rcases itoa_parts (n := e.id) with ⟨_, q⟩ | ⟨_, q⟩
      · rw [q]; exact dec_ne _
      · rw [q]; simp
    have := List.length_pos_iff.2 this
    rw [lineL, signL_len]
    simp only [entT, joinL, List.map_cons, List.flatMap_cons, List.length_append, List.length_cons]
    omega
  have h73 : (lineL e).length ≤ 73 := by rw [lineL, signL_len]; omega
  refine br_f (by rw [B_size]; simp; omega) ?_
  rw [B_size]
  have hu : IntKind.u64.wrap ((lineL e).length : Int) ≠ 0 := by rw [show IntKind.u64.wrap ((lineL e).length : Int) = ((lineL e).length : Int) % 18446744073709551616 by simp [IntKind.wrap, IntKind.bits, IntKind.signed]]; omega
  refine ⟨hu, ?_⟩
  obtain ⟨m, hmn, em⟩ := idx_mod x (n := (lineL e).length) (by omega) (by omega)
  obtain ⟨i, hin, ei⟩ := idx_mod y (n := (lineL e).length) (by omega) (by omega)
  rw [em, ei]
  refine sl_take (by omega) ?_
  refine Parse_c (s := (lineL e).take m) E T H (by rw [List.length_take]; omega) (fun r w ok H => ?_)
  refine resE_h (e := (parseE ((lineL e).take m)).2) ?_
  refine nw3_h (k := (parseE ((lineL e).take m)).2.k) H (fun b w H => ?_)
  have hcut : (parseE ((lineL e).take m)).1 ≠ 0 := fun h => torn_cut hm hmn (parse_ok h).2.symm
  refine cnvS_h H (fun kb cb cs z w hcs hz H => ?_)
  refine asSl_h ?_
  refine ⟨hu, ?_⟩
  have hget := List.getElem?_eq_getElem hin
  have hcell := hcs i _ hget
  refine ⟨_, rfl, by omega, by omega, ?_⟩
  rw [Addr.add_lit, Int.toNat_natCast, Nat.mul_one, Nat.zero_add]
  apply ld_h 0 H rfl hcell
  refine asI_h ?_
  refine ⟨_, rfl, by omega, by omega, ?_⟩
  rw [Addr.add_lit, Int.toNat_natCast, Nat.mul_one, Nat.zero_add, xor_u8]
  refine stz_h 0 H rfl (by omega) rfl hcell (fun w H => ?_)
  have e1 : (lineL e).length = ((lineL e).set i ((lineL e)[i] ^^^ d)).length := by rw [List.length_set]
  rw [e1]
  refine cnvT_h (l := (lineL e).set i ((lineL e)[i] ^^^ d)) 0 H rfl (fun j b hj => ?_) ?_
  · rw [Array.getElem?_setIfInBounds]
    rw [List.getElem?_set] at hj
    by_cases hij : i = j
    · subst hij
      rw [if_pos rfl, if_pos hin] at hj
      cases hj
      rw [if_pos rfl, if_pos (Array.getElem?_eq_some_iff.1 hcell).1]
    · rw [if_neg hij] at hj
      rw [if_neg hij]
      exact hcs j b hj
  refine asStr_h ?_
  refine Parse_c (s := (lineL e).set i ((lineL e)[i] ^^^ d)) E T H (by rw [List.length_set]; omega) (fun r2 w ok2 H => ?_)
  refine resE_h (e := (parseE ((lineL e).set i ((lineL e)[i] ^^^ d))).2) ?_
  refine nw3_h (k := (parseE ((lineL e).set i ((lineL e)[i] ^^^ d))).2.k) H (fun b2 w H => ?_)
  refine br_t (by simpa using hcut) ?_
  have hgo : ((parseE ((lineL e).set i ((lineL e)[i] ^^^ d))).1 == 0) = ((d.toNat : Int) == 0) := by
    by_cases hd : d = 0
    · subst hd
      rw [UInt8.xor_zero, List.set_getElem_self, parse_line hm]; rfl
    · have h1 : (parseE ((lineL e).set i ((lineL e)[i] ^^^ d))).1 ≠ 0 := fun h => torn_set hget (xor_ne hd) (parse_ok h).2.symm
      have h2 : (d.toNat : Int) ≠ 0 := fun h => hd (UInt8.toNat_inj.1 (by simp; omega))
      rw [show ((parseE ((lineL e).set i ((lineL e)[i] ^^^ d))).1 == 0) = false by simpa using h1, show ((d.toNat : Int) == 0) = false by simpa using h2]
  refine br_t (by rw [hgo]; simp) ?_
  exact aw H.tail.tail.tail.tail.tail
end Go.Proofs.YtkhmhgleglhcjaaDoor
