/- What law4's awake and JournalRoom compute: true. Conditions: none. -/
import Derived.Test.YteppbgalecjlfaaDoorCJ2
import Derived.Test.YteppbgalecjlfaaDoorFA
set_option linter.unusedVariables false
set_option maxRecDepth 100000
namespace Go.Proofs.YteppbgalecjlfaaDoor
open Go Go.Sh

/-- a beginning of a line is none -/
theorem torn_cut {e e' : En} {m : Nat} (h : mayN e = true) (hm : m < (lineL e).length) : (lineL e).take m ≠ lineL e' := by
  intro q
  have hl := congrArg List.length q
  rw [List.length_take, Nat.min_eq_left (by omega)] at hl
  rw [lineL] at hm
  rw [signL_len] at hm
  have h1 : (lineL e')[m - 3]? = some 124 := by
    rw [lineL, signL_len] at hl
    rw [lineL, signL_eq, List.getElem?_append_right (by omega), show m - 3 - (entT e'.k (e'.id :: e'.l)).length = 0 by omega]
    rfl
  rw [lineL, signL_len] at hl
  rw [← q, List.getElem?_take, if_pos (by omega), lineL, signL_eq, List.getElem?_append_left (by omega)] at h1
  have hm := List.mem_of_getElem? h1
  obtain ⟨-, h2, -, -⟩ := mayN_out h
  simp only [entT, joinL, List.mem_append, List.mem_flatMap, List.mem_map] at hm
  rcases hm with hm | ⟨v, ⟨n, -, rfl⟩, hv⟩
  · exact h2 hm
  · rcases List.mem_cons.1 hv with h3 | h3
    · exact absurd h3 (by decide)
    · exact itoa_no124 _ h3
theorem crashL_at {ls : List ByteArray} {sure stay torn : Int} {m : Nat} {s : ByteArray} (hm : sure + cutI ((ls.length : Int) - sure) stay = m) (hs : ls[m]? = some s) : crashL ls sure stay torn = if pieceB s torn = B [] then ls.take m else ls.take m ++ [pieceB s torn] := by
  unfold crashL; rw [hm, Int.toNat_natCast]; simp only [hs]
theorem crashL_none {ls : List ByteArray} {sure stay torn : Int} {m : Nat} (hm : sure + cutI ((ls.length : Int) - sure) stay = m) (hs : ls[m]? = none) : crashL ls sure stay torn = ls := by
  unfold crashL; rw [hm, Int.toNat_natCast]; simp only [hs]
theorem okS_line {e : En} (h : mayN e = true) : okS (B (lineL e)) = true := by
  show ((parseE (lineL e)).1 == 0) = true
  rw [parse_line h]; rfl
theorem okS_cut {e : En} {m : Nat} (h : mayN e = true) (hm : m < (lineL e).length) : okS (B ((lineL e).take m)) = false := by
  show ((parseE ((lineL e).take m)).1 == 0) = false
  have : (parseE ((lineL e).take m)).1 ≠ 0 := fun q => torn_cut h hm (parse_ok q).2.symm
  simpa using this
theorem line_size {e : En} (h : mayN e = true) : (B (lineL e)).size ≤ 73 := by
  rw [B_size, lineL, signL_len]; have := entT_len h; omega
theorem Sure_c {w0 w : World} {hs : List Hp} {K : KV} {J : Jr} (i : Nat) (H : Sh.Holds w0 hs w) (hi : hs[i]? = some J.hp) (k : ∀ w', Sh.Holds w0 hs w' → K (I J.sure) w') : gocall Tryd.prog 16 [J.v] K w := by
  apply F16_go; unfold F16
  refine br_f rfl ?_
  refine nn_h ?_
  replace H := H.open2 i hi
  apply ld_h 0 H rfl rfl; refine asI_h ?_
  exact k _ (H.shut2 i hi)
/-- an entry that may be is added, where there is room -/
theorem addY_c {w0 w : World} {hs : List Hp} {K : KV} {J : Jr} {e : En} {p : Option Addr} {n c : Nat} (T : Tab w0) (i : Nat) (H : Sh.Holds w0 hs w) (hi : hs[i]? = some J.hp) (ok : J.Ok) (hm : mayN e = true) (hsl : Sl (Sh.Holds w0 hs) p n 1 (e.l.map I)) (hd : J.down = false) (hr : (J.lines.length : Int) < J.room)
    (k : ∀ (J' : Jr) w', J' = { J with r := J'.r, lines := J.lines ++ [B (lineL e)] } → J'.Ok → Sh.Holds w0 (hs.set i J'.hp) w' → K (I 0) w') : gocall Tryd.prog 10 [J.v, enV e (.slice p n c)] K w := by
  have h0 : addB J (B e.k) e.id e.l = 0 := by unfold addB; rw [if_neg (by simp [hd]), if_pos (show mayE (B e.k) e.id e.l = true from hm), if_neg (by omega)]
  refine add_c (s := B e.k) (id := e.id) (l := e.l) T i H hi ok (by rw [B_size]; have := (mayN_out hm).2.2.2.1; omega) hsl (fun J' w' hJ _ ok' H' => ?_)
  rw [h0] at hJ ⊢
  rw [if_pos rfl, lineE_B] at hJ
  exact k J' w' hJ ok' H'
theorem addN_c {w0 w : World} {hs : List Hp} {K : KV} {J : Jr} {e : En} {p : Option Addr} {n c : Nat} (T : Tab w0) (i : Nat) (H : Sh.Holds w0 hs w) (hi : hs[i]? = some J.hp) (ok : J.Ok) (hm : mayN e = true) (hsl : Sl (Sh.Holds w0 hs) p n 1 (e.l.map I)) (hd : J.down = false) (hr : J.room ≤ (J.lines.length : Int))
    (k : ∀ w', Sh.Holds w0 hs w' → K (I 5) w') : gocall Tryd.prog 10 [J.v, enV e (.slice p n c)] K w := by
  have h0 : addB J (B e.k) e.id e.l = 5 := by unfold addB; rw [if_neg (by simp [hd]), if_pos (show mayE (B e.k) e.id e.l = true from hm), if_pos (by omega)]
  refine add_c (s := B e.k) (id := e.id) (l := e.l) T i H hi ok (by rw [B_size]; have := (mayN_out hm).2.2.2.1; omega) hsl (fun J' w' _ hJ ok' H' => ?_)
  have hJ := hJ (by rw [h0]; decide)
  subst hJ
  rw [h0]
  rw [set_same i hi] at H'
  exact k w' H'
def eW : En := ⟨[97], 1, []⟩
theorem eW_may : mayN eW = true := by decide
theorem awake4_c {w0 w : World} {hs : List Hp} {K : KV} (E : Errs w0) (T : Tab w0) (H : Sh.Holds w0 hs w) (k : ∀ w', Sh.Holds w0 hs w' → K (.bool true) w') : gocall Tryd.prog 14 [] K w := by
  have hz := line_size eW_may
  have h6 : 6 ≤ (lineL eW).length := by
    have : Lib.itoa 1 = [49] := by rw [itoa_dec (by omega), Lib.decDigits, dif_pos (by decide)]; rfl
    rw [lineL, signL_len]; simp [entT, joinL, eW, this]
  apply F14_go; unfold F14
  refine newJ_c H (fun J w ok l0 s0 d0 r0 H => ?_)
  have hr : J.room = 9 := by rw [r0]; decide
  refine asPtr_h ?_
  refine nw3_h (k := eW.k) (id := eW.id) (p := none) (n := 0) (c := 0) H (fun k4 w H => ?_)
  have sn : ∀ {hs : List Hp}, Sl (Sh.Holds w0 hs) none 0 1 (eW.l.map I) := Sl.nil
  replace H := H.drew
  refine keeps_s (hs' := [eHp k4 eW.k eW.id (.slice none 0 0)]) H (by exact Sub.cons 0 rfl (Sub.nil _)) ?_
  apply ldS_h 0 rfl rfl; refine asStr_h ?_
  apply ldS_h 0 rfl rfl; refine asI_h ?_
  apply ldS_h 0 rfl rfl; refine asSl_h ?_
  apply ldS_h 0 rfl rfl; refine asStr_h ?_
  apply ldS_h 0 rfl rfl; refine asI_h ?_
  apply ldS_h 0 rfl rfl; refine asSl_h ?_
  refine addY_c (e := eW) T 1 H rfl ok eW_may sn d0 (by rw [l0, hr]; decide) (fun J1 w hJ1 ok1 H => ?_)
  replace H : Sh.Holds w0 (eHp k4 eW.k eW.id (.slice none 0 0) :: J1.hp :: hs) w := H
  have l1 : J1.lines = [B (lineL eW)] := by rw [hJ1]; simp [l0]
  have r1 : J1.room = 9 := by rw [hJ1]; exact hr
  have d1 : J1.down = false := by rw [hJ1]; exact d0
  have v1 : J1.j = J.j := by rw [hJ1]
  clear hJ1
  refine asI_h ?_
  refine kp_s H (by exact Sub.cons 0 rfl (Sub.nil _)) ?_
  rw [← v1]
  refine addY_c (e := eW) T 1 H rfl ok1 eW_may sn d1 (by rw [l1, r1]; decide) (fun J2 w hJ2 ok2 H => ?_)
  replace H : Sh.Holds w0 (eHp k4 eW.k eW.id (.slice none 0 0) :: J2.hp :: hs) w := H
  have l2 : J2.lines = [B (lineL eW), B (lineL eW)] := by rw [hJ2]; simp [l1]
  have r2 : J2.room = 9 := by rw [hJ2]; exact r1
  have d2 : J2.down = false := by rw [hJ2]; exact d1
  have v2 : J2.j = J1.j := by rw [hJ2]
  clear hJ2
  refine asI_h ?_
  refine kp_s H (by exact Sub.cons 0 rfl (Sub.nil _)) ?_
  rw [← v2]
  refine sync_c 1 H rfl ok2 d2 (fun J3 w hJ3 ok3 H => ?_)
  replace H : Sh.Holds w0 (eHp k4 eW.k eW.id (.slice none 0 0) :: J3.hp :: hs) w := H
  have l3 : J3.lines = [B (lineL eW), B (lineL eW)] := by rw [hJ3]; exact l2
  have r3 : J3.room = 9 := by rw [hJ3]; exact r2
  have d3 : J3.down = false := by rw [hJ3]; exact d2
  have s3 : J3.sure = 2 := by rw [hJ3]; simp [l2]
  have v3 : J3.j = J2.j := by rw [hJ3]
  clear hJ3
  refine asI_h ?_
  refine kp_s H (by exact Sub.cons 0 rfl (Sub.nil _)) ?_
  rw [← v3]
  apply ld3_h 0 H rfl
  refine addY_c (e := eW) T 1 H rfl ok3 eW_may sn d3 (by rw [l3, r3]; decide) (fun J4 w hJ4 ok4 H => ?_)
  replace H : Sh.Holds w0 (eHp k4 eW.k eW.id (.slice none 0 0) :: J4.hp :: hs) w := H
  have l4 : J4.lines = [B (lineL eW), B (lineL eW), B (lineL eW)] := by rw [hJ4]; simp [l3]
  have d4 : J4.down = false := by rw [hJ4]; exact d3
  have s4 : J4.sure = 2 := by rw [hJ4]; exact s3
  have v4 : J4.j = J3.j := by rw [hJ4]
  clear hJ4
  refine asI_h ?_
  rw [← v4]
  refine Crash_c (J := J4) 1 H rfl ok4 (fun s hs => by rw [l4] at hs; simp only [List.mem_cons, List.not_mem_nil, or_false, or_self] at hs; rw [hs]; omega) (by rw [l4]; decide) (by rw [s4]; decide) (by rw [s4, l4]; decide) (fun J5 w hJ5 ok5 H => ?_)
  replace H : Sh.Holds w0 (eHp k4 eW.k eW.id (.slice none 0 0) :: J5.hp :: hs) w := H
  rw [d4] at hJ5
  simp only [Bool.false_eq_true, if_false] at hJ5
  have ec : crashL J4.lines J4.sure 0 3 = [B (lineL eW), B (lineL eW), B ((lineL eW).take 3)] := by
    have e1 : pieceB (B (lineL eW)) 3 = B ((lineL eW).take 3) := by
      have : cutI (((B (lineL eW)).size : Int) - 1) 3 = 3 := by rw [B_size]; unfold cutI; split <;> (try split) <;> omega
      unfold pieceB; rw [this]; rfl
    have e2 : B ((lineL eW).take 3) ≠ B [] := fun h => by
      have := congrArg List.length (B_inj h)
      rw [List.length_take, List.length_nil] at this
      omega
    rw [l4, s4, crashL_at (m := 2) (s := B (lineL eW)) (by decide) rfl, e1, if_neg e2]
    rfl
  have l5 : J5.lines = [B (lineL eW), B (lineL eW), B ((lineL eW).take 3)] := by rw [hJ5]; exact ec
  have d5 : J5.down = true := by rw [hJ5]
  have v5 : J5.j = J4.j := by rw [hJ5]
  clear hJ5
  refine asT_e [] rfl rfl ?_
  rw [← v5]
  have hg : goodL J5.lines = [B (lineL eW), B (lineL eW)] := by
    rw [l5]
    simp [goodL, okS_line eW_may, okS_cut eW_may (m := 3) (by omega)]
  refine Recover_c (J := J5) 1 E T H rfl ok5 (fun s hs => by
    rw [l5] at hs
    simp only [List.mem_cons, List.not_mem_nil, or_false] at hs
    rcases hs with rfl | rfl | rfl
    · omega
    · omega
    · rw [B_size, List.length_take]; omega) (by rw [l5]; decide) (fun J6 w hJ6 ok6 H => ?_)
  replace H : Sh.Holds w0 (eHp k4 eW.k eW.id (.slice none 0 0) :: J6.hp :: hs) w := H
  rw [hg, d5] at hJ6
  rw [hg, d5, l5]
  rw [if_pos rfl] at hJ6
  rw [if_pos rfl]
  have l6 : J6.lines = [B (lineL eW), B (lineL eW)] := by rw [hJ6]
  have s6 : J6.sure = 2 := by rw [hJ6]; rfl
  have v6 : J6.j = J5.j := by rw [hJ6]
  clear hJ6
  refine asI_h ?_
  refine br_t rfl ?_
  refine br_t rfl ?_
  refine br_t rfl ?_
  refine br_t rfl ?_
  refine br_t rfl ?_
  rw [← v6]
  refine Lines_c (J := J6) 1 H rfl ok6 (by rw [l6]; decide) (fun r w okr H => ?_)
  have hrn : r.n = 2 := by have := okr.len; rw [l6] at this; simp at this; omega
  refine asSl_h ?_
  refine br_t (by rw [hrn]; rfl) ?_
  refine Sure_c (J := J6) 2 H rfl (fun w H => ?_)
  refine asI_h ?_
  rw [s6]
  exact k _ H.tail.tail.tail
def eK (j : Nat) : En := ⟨[107], j, []⟩
theorem eK_may {j : Nat} (h : j < 900) : mayN (eK j) = true := by
  have h1 : decide ((j : Int) ≥ 0) = true := by simp
  have h2 : decide ((j : Int) ≤ 999) = true := by simp; omega
  have h3 : namedB (B [107]) = true := by decide
  have h4 : numberedB [] = true := by decide
  show (namedB (B [107]) && (decide ((j : Int) ≥ 0) && (decide ((j : Int) ≤ 999) && numberedB []))) = true
  rw [h1, h2, h3, h4]; rfl
def linesK (n : Nat) : List ByteArray := (List.range n).map fun j => B (lineL (eK j))
theorem linesK_succ (n : Nat) : linesK (n + 1) = linesK n ++ [B (lineL (eK n))] := by simp [linesK, List.range_succ]
theorem linesK_len (n : Nat) : (linesK n).length = n := by simp [linesK]
theorem linesK_size {n : Nat} (hn : n ≤ 900) : ∀ s ∈ linesK n, s.size ≤ 73 := by
  intro s hs
  obtain ⟨j, hj, rfl⟩ := List.mem_map.1 hs
  exact line_size (eK_may (by have := List.mem_range.1 hj; omega))
theorem idx_mod (x : Int) {n : Nat} (h0 : 0 < n) (hn : n ≤ 1000) : ∃ m : Nat, m < n ∧ IntKind.i64.wrap ((IntKind.u64.wrap x).tmod (n : Int)) = (m : Int) := by
  have e2 : 0 ≤ IntKind.u64.wrap x := by rw [show IntKind.u64.wrap x = x % 18446744073709551616 by simp [IntKind.wrap, IntKind.bits, IntKind.signed]]; omega
  generalize IntKind.u64.wrap x = u at *
  rw [Int.tmod_eq_emod_of_nonneg e2]
  have h1 := Int.emod_nonneg u (b := (n : Int)) (by omega)
  have h2 := Int.emod_lt_of_pos u (b := (n : Int)) (by omega)
  refine ⟨(u % n).toNat, by omega, ?_⟩
  rw [wrap64 (by omega) (by omega)]
  omega
set_option maxHeartbeats 1000000 in
theorem Room_c {w0 w : World} {hs : List Hp} {K : KV} {x y : Int} (E : Errs w0) (T : Tab w0) (H : Sh.Holds w0 hs w) (k : ∀ w', Sh.Holds w0 hs w' → K (.bool true) w') : gocall Tryd.prog 3 [I x, I y] K w := by
  apply F3_go; unfold F3
  refine ⟨by decide, ?_⟩
  refine ⟨by decide, ?_⟩
  obtain ⟨a, ha, ea⟩ := idx_mod x (n := 40) (by omega) (by omega)
  obtain ⟨b, hb, eb⟩ := idx_mod y (n := 10) (by omega) (by omega)
  have ea' : IntKind.i64.wrap ((IntKind.u64.wrap x).tmod 40) = (a : Int) := ea
  have eb' : IntKind.i64.wrap ((IntKind.u64.wrap y).tmod 10) = (b : Int) := eb
  have er : IntKind.i64.wrap (1 + (a : Int)) = ((a + 1 : Nat) : Int) := by rw [wrap64 (by omega) (by omega)]; omega
  have em : IntKind.i64.wrap (((a + 1 : Nat) : Int) + (b : Int)) = ((a + 1 + b : Nat) : Int) := by rw [wrap64 (by omega) (by omega)]; omega
  rw [ea', er]
  have hroom : roomB ((a + 1 : Nat) : Int) = ((a + 1 : Nat) : Int) := by unfold roomB; split <;> (try split) <;> omega
  refine newJ_c H (fun J w ok l0 s0 d0 r0 H => ?_)
  rw [hroom] at r0
  refine asPtr_h ?_
  rw [eb', em]
  refine ⟨fun z w => ∃ J' : Jr, J'.Ok ∧ J'.j = J.j ∧ J'.room = ((a + 1 : Nat) : Int) ∧ J'.sure = 0 ∧ J'.down = false ∧ Sh.Holds w0 (J'.hp :: hs) w ∧ 0 ≤ z.1 ∧ z.1 ≤ ((a + 1 + b : Nat) : Int) ∧ J'.lines = linesK (min z.1.toNat (a + 1)), fun z _ => (((a + 1 + b : Nat) : Int) - z.1).toNat,
    ⟨J, ok, rfl, r0, s0, d0, H, by simp, by simp only; omega, by rw [l0]; simp [linesK]⟩, ?_⟩
  clear H ok l0 s0 d0 r0
  rintro ⟨z, f, u⟩ w ⟨J1, ok, ej, er1, es, ed, H, g0, g1, el⟩
  simp only at g0 g1 el
  rw [← ej]
  refine br_s (fun h => ?_) (fun h => ?_)
  · simp only [decide_eq_true_eq] at h
    refine ⟨by decide, ?_⟩
    obtain ⟨j, rfl⟩ : ∃ j : Nat, z = j := ⟨z.toNat, by omega⟩
    rw [Int.toNat_natCast] at el
    have et : Int.tmod (j : Int) 900 = (eK j).id := by rw [Int.tmod_eq_emod_of_nonneg (by omega)]; show (j : Int) % 900 = j; omega
    rw [et]
    have hw : IntKind.wrap .i64 ((j : Int) + 1) = ((j + 1 : Nat) : Int) := by rw [wrap64 (by omega) (by omega)]; rfl
    have hjm : mayN (eK j) = true := eK_may (by omega)
    by_cases hj : j < a + 1
    · rw [Nat.min_eq_left (by omega)] at el
      refine addY_c (e := eK j) T 0 H rfl ok hjm Sl.nil ed (by rw [el, linesK_len, er1]; omega) (fun J2 w hJ2 ok2 H => ?_)
      replace H : Sh.Holds w0 (J2.hp :: hs) w := H
      refine asI_h ?_
      refine br_f (by simp; omega) ?_
      refine br_f rfl ?_
      simp only [hw]
      refine ⟨⟨J2, ok2, by rw [hJ2], by rw [hJ2]; exact er1, by rw [hJ2]; exact es, by rw [hJ2]; exact ed, H, by omega, by omega, ?_⟩, by omega⟩
      rw [Int.toNat_natCast, Nat.min_eq_left (by omega), linesK_succ, hJ2, el]
    · rw [Nat.min_eq_right (by omega)] at el
      refine addN_c (e := eK j) T 0 H rfl ok hjm Sl.nil ed (by rw [el, linesK_len, er1]; omega) (fun w H => ?_)
      refine asI_h ?_
      refine br_f (by simp; omega) ?_
      refine br_t rfl ?_
      refine br_f rfl ?_
      simp only [hw]
      refine ⟨⟨J1, ok, rfl, er1, es, ed, H, by omega, by omega, ?_⟩, by omega⟩
      rw [Int.toNat_natCast, Nat.min_eq_right (by omega), el]
  simp only [decide_eq_false_iff_not] at h
  rw [Nat.min_eq_right (by omega)] at el
  have hsz := linesK_size (n := a + 1) (by omega)
  refine Lines_c (J := J1) 0 H rfl ok (by rw [el, linesK_len]; omega) (fun r w okr H => ?_)
  have hrn : r.n = a + 1 := by have := okr.len; rw [el, List.length_map, linesK_len] at this; omega
  refine asSl_h ?_
  refine br_f (by rw [hrn]; simp) ?_
  refine Crash_c (J := J1) 1 H rfl ok (fun s hs => by rw [el] at hs; have := hsz s hs; omega) (by rw [el, linesK_len]; omega) (by rw [es]; decide) (by rw [es]; omega) (fun J5 w hJ5 ok5 H => ?_)
  replace H : Sh.Holds w0 (r.hp 9 :: J5.hp :: hs) w := H
  rw [ed] at hJ5
  simp only [Bool.false_eq_true, if_false] at hJ5
  have ec : crashL J1.lines J1.sure 0 0 = [] := by
    have hc : cutI ((J1.lines.length : Int) - 0) 0 = 0 := by unfold cutI; split <;> (try split) <;> omega
    rw [es]
    have hne : J1.lines ≠ [] := fun h => by rw [h] at el; have := congrArg List.length el; rw [linesK_len] at this; simp at this
    cases hq : J1.lines with
    | nil => exact absurd hq hne
    | cons s l =>
      rw [hq] at hc
      have hp : pieceB s 0 = B [] := by
        have : cutI ((s.size : Int) - 1) 0 = 0 := by unfold cutI; split <;> (try split) <;> omega
        unfold pieceB; rw [this]; rfl
      rw [crashL_at (m := 0) (s := s) (by rw [hc]; rfl) rfl, if_pos hp]
      rfl
  have l5 : J5.lines = [] := by rw [hJ5]; exact ec
  have d5 : J5.down = true := by rw [hJ5]
  have v5 : J5.j = J1.j := by rw [hJ5]
  have rm5 : J5.room = ((a + 1 : Nat) : Int) := by rw [hJ5]; exact er1
  clear hJ5
  refine asT_e [] rfl rfl ?_
  rw [← v5]
  have hg : goodL J5.lines = [] := by rw [l5]; rfl
  refine Recover_c (J := J5) 1 E T H rfl ok5 (fun s hs => by rw [l5] at hs; cases hs) (by rw [l5]; decide) (fun J6 w hJ6 ok6 H => ?_)
  replace H : Sh.Holds w0 (r.hp 9 :: J6.hp :: hs) w := H
  rw [hg, d5] at hJ6
  rw [hg, d5, l5]
  rw [if_pos rfl] at hJ6
  rw [if_pos rfl]
  have l6 : J6.lines = [] := by rw [hJ6]
  have d6 : J6.down = false := by rw [hJ6]
  have v6 : J6.j = J5.j := by rw [hJ6]
  have rm6 : J6.room = ((a + 1 : Nat) : Int) := by rw [hJ6]; exact rm5
  clear hJ6
  refine asI_h ?_
  refine br_t rfl ?_
  rw [← v6]
  refine Lines_c (J := J6) 1 H rfl ok6 (by rw [l6]; decide) (fun r2 w okr2 H => ?_)
  have hrn2 : r2.n = 0 := by have := okr2.len; rw [l6] at this; simp at this; omega
  refine asSl_h ?_
  refine br_t (by rw [hrn2]; rfl) ?_
  refine addY_c (e := eK 0) T 2 H rfl ok6 (eK_may (by omega)) Sl.nil d6 (by rw [l6, rm6]; simp <;> omega) (fun J7 w hJ7 ok7 H => ?_)
  replace H : Sh.Holds w0 (r2.hp 9 :: r.hp 9 :: J7.hp :: hs) w := H
  refine asI_h ?_
  refine br_t rfl ?_
  refine awake4_c E T H (fun w H => ?_)
  refine asBoo_h ?_
  exact k _ H.tail.tail.tail
end Go.Proofs.YteppbgalecjlfaaDoor
