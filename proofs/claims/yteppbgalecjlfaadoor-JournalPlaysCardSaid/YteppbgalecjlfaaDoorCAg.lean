/- What law4's JournalAgain computes: true, of any two numbers. Conditions: none. -/
import Derived.Test.YteppbgalecjlfaaDoorCJ3
import Derived.Test.YteppbgalecjlfaaDoorFC
set_option linter.unusedVariables false
set_option maxRecDepth 100000
namespace Go.Proofs.YteppbgalecjlfaaDoor
open Go Go.Sh

def LB (e : En) : ByteArray := B (lineL e)
theorem good_ents {es : List En} (h : ∀ e ∈ es, mayN e = true) : goodL (es.map LB) = es.map LB := by
  unfold goodL
  induction es with
  | nil => rfl
  | cons e es ih =>
    rw [List.map_cons, List.takeWhile_cons, if_pos (show okS (LB e) = true from okS_line (h e (by simp)))]
    rw [ih (fun x hx => h x (by simp [hx]))]
theorem ent_ents {es : List En} (h : ∀ e ∈ es, mayN e = true) : entL (es.map LB) = es := by
  unfold entL
  rw [good_ents h, List.map_map]
  refine (List.map_congr_left (g := _root_.id) fun e he => ?_).trans (List.map_id _)
  show (parseE (lineL e)).2 = e
  rw [parse_line (h e he)]
theorem crash00 {ls : List ByteArray} {a : Nat} (h : a ≤ ls.length) : crashL ls (a : Int) 0 0 = ls.take a := by
  have hc : cutI ((ls.length : Int) - a) 0 = 0 := by unfold cutI; split <;> (try split) <;> omega
  cases hq : ls[a]? with
  | none =>
    rw [crashL_none (m := a) (by rw [hc]; omega) hq]
    have := List.getElem?_eq_none_iff.1 hq
    rw [List.take_of_length_le (by omega)]
  | some s =>
    have hp : pieceB s 0 = B [] := by
      have : cutI ((s.size : Int) - 1) 0 = 0 := by unfold cutI; split <;> (try split) <;> omega
      unfold pieceB; rw [this]; rfl
    rw [crashL_at (m := a) (s := s) (by rw [hc]; omega) hq, if_pos hp]
def eY (c : UInt8) (j : Nat) : En := ⟨[c], j, []⟩
theorem eY_may {c : UInt8} {j : Nat} (hc : 97 ≤ c.toNat ∧ c.toNat ≤ 122) (h : j < 900) : mayN (eY c j) = true := by
  have h1 : decide ((j : Int) ≥ 0) = true := by simp
  have h2 : decide ((j : Int) ≤ 999) = true := by simp; omega
  have h3 : namedB (B [c]) = true := by
    have : okc c = true := by simp [okc]; exact hc
    show ((B [c]).data.toList.all okc && decide (1 ≤ (B [c]).size)) && decide ((B [c]).size ≤ 8) = true
    simp [B_size, this]
  have h4 : numberedB [] = true := by decide
  show (namedB (B [c]) && (decide ((j : Int) ≥ 0) && (decide ((j : Int) ≤ 999) && numberedB []))) = true
  rw [h1, h2, h3, h4]; rfl
def entsY (c : UInt8) (n : Nat) : List En := (List.range n).map (eY c)
theorem entsY_succ (c : UInt8) (n : Nat) : entsY c (n + 1) = entsY c n ++ [eY c n] := by simp [entsY, List.range_succ]
theorem entsY_len (c : UInt8) (n : Nat) : (entsY c n).length = n := by simp [entsY]
theorem entsY_may {c : UInt8} {n : Nat} (hc : 97 ≤ c.toNat ∧ c.toNat ≤ 122) (hn : n ≤ 900) : ∀ e ∈ entsY c n, mayN e = true := by
  intro e he
  obtain ⟨j, hj, rfl⟩ := List.mem_map.1 he
  exact eY_may hc (by have := List.mem_range.1 hj; omega)
theorem LB_size {es : List En} (h : ∀ e ∈ es, mayN e = true) : ∀ s ∈ es.map LB, s.size ≤ 100000 := by
  intro s hs
  obtain ⟨e, he, rfl⟩ := List.mem_map.1 hs
  have := line_size (h e he)
  show (B (lineL e)).size ≤ _
  omega
/-- a journal of the block j with room for 4096, up, that holds these entries -/
structure Has (J : Jr) (j : Nat) (es : List En) (sure : Int) (down : Bool) : Prop where
  ok : J.Ok
  blk : J.j = j
  room : J.room = 4096
  lines : J.lines = es.map LB
  sure : J.sure = sure
  down : J.down = down
set_option maxHeartbeats 1000000 in
theorem Again_c {w0 w : World} {hs : List Hp} {K : KV} {x y : Int} (E : Errs w0) (T : Tab w0) (H : Sh.Holds w0 hs w) (k : ∀ w', Sh.Holds w0 hs w' → K (.bool true) w') : gocall Tryd.prog 4 [I x, I y] K w := by
  apply F4_go; unfold F4
  refine ⟨by decide, ?_⟩
  refine ⟨by decide, ?_⟩
  obtain ⟨a, ha, ea⟩ := idx_mod x (n := 30) (by omega) (by omega)
  obtain ⟨b, hb, eb⟩ := idx_mod y (n := 30) (by omega) (by omega)
  have ea' : IntKind.i64.wrap ((IntKind.u64.wrap x).tmod 30) = (a : Int) := ea
  have eb' : IntKind.i64.wrap ((IntKind.u64.wrap y).tmod 30) = (b : Int) := eb
  rw [ea', eb']
  refine newJ_c H (fun J w ok l0 s0 d0 r0 H => ?_)
  have hroom : roomB 4096 = 4096 := by decide
  rw [hroom] at r0
  refine asPtr_h ?_
  have m97 : ∀ n, n ≤ 900 → ∀ e ∈ entsY 97 n, mayN e = true := fun n hn => entsY_may (by decide) hn
  have m98 : ∀ n, n ≤ 900 → ∀ e ∈ entsY 98 n, mayN e = true := fun n hn => entsY_may (by decide) hn
  refine ⟨fun z w => ∃ J' : Jr, Has J' J.j (entsY 97 z.1.toNat) 0 false ∧ Sh.Holds w0 (J'.hp :: hs) w ∧ 0 ≤ z.1 ∧ z.1 ≤ a, fun z _ => ((a : Int) - z.1).toNat, ⟨J, ⟨ok, rfl, r0, by rw [l0]; rfl, s0, d0⟩, H, by simp, by simp⟩, ?_⟩
  generalize J.j = j0
  clear H ok l0 s0 d0 r0 J
  rintro ⟨z, u⟩ w ⟨J1, h1, H, g0, g1⟩
  simp only at h1 g0 g1
  have hv : ∀ {J : Jr} {es sure down}, Has J j0 es sure down → (.pointer (some ⟨j0, 0, none⟩) : Value) = J.v := fun h => by rw [← h.blk]
  refine br_s (fun h => ?_) (fun h => ?_)
  · simp only [decide_eq_true_eq] at h
    obtain ⟨i, rfl⟩ : ∃ i : Nat, z = i := ⟨z.toNat, by omega⟩
    rw [Int.toNat_natCast] at h1
    rw [hv h1]
    refine addY_c (e := eY 97 i) T 0 H rfl h1.ok (eY_may (by decide) (by omega)) Sl.nil h1.down (by rw [h1.lines, List.length_map, entsY_len, h1.room]; omega) (fun J2 w hJ2 ok2 H => ?_)
    refine asI_h ?_
    have hw : IntKind.wrap .i64 ((i : Int) + 1) = ((i + 1 : Nat) : Int) := by rw [wrap64 (by omega) (by omega)]; rfl
    simp only [hw]
    refine ⟨⟨J2, ⟨ok2, by rw [hJ2]; exact h1.blk, by rw [hJ2]; exact h1.room, ?_, by rw [hJ2]; exact h1.sure, by rw [hJ2]; exact h1.down⟩, H, by omega, by omega⟩, by omega⟩
    rw [Int.toNat_natCast, entsY_succ, hJ2]
    simp only [h1.lines, List.map_append]
    rfl
  simp only [decide_eq_false_iff_not] at h
  rw [show z.toNat = a by omega] at h1
  rw [hv h1]
  refine sync_c 0 H rfl h1.ok h1.down (fun J3 w hJ3 ok3 H => ?_)
  replace H : Sh.Holds w0 (J3.hp :: hs) w := H
  have h3 : Has J3 j0 (entsY 97 a ++ entsY 98 0) a false := ⟨ok3, by rw [hJ3]; exact h1.blk, by rw [hJ3]; exact h1.room, by rw [hJ3]; simp [h1.lines, entsY], by rw [hJ3]; simp [h1.lines, entsY_len], by rw [hJ3]; exact h1.down⟩
  rw [← hv h1]
  clear hJ3 ok3 h1
  refine asI_h ?_
  refine ⟨fun z w => ∃ J' : Jr, Has J' j0 (entsY 97 a ++ entsY 98 z.1.toNat) a false ∧ Sh.Holds w0 (J'.hp :: hs) w ∧ 0 ≤ z.1 ∧ z.1 ≤ b, fun z _ => ((b : Int) - z.1).toNat, ⟨J3, h3, H, by simp, by simp⟩, ?_⟩
  clear H h3 h g0 g1
  rintro ⟨z, u⟩ w ⟨J1, h1, H, g0, g1⟩
  simp only at h1 g0 g1
  refine br_s (fun h => ?_) (fun h => ?_)
  · simp only [decide_eq_true_eq] at h
    obtain ⟨i, rfl⟩ : ∃ i : Nat, z = i := ⟨z.toNat, by omega⟩
    rw [Int.toNat_natCast] at h1
    rw [hv h1]
    refine addY_c (e := eY 98 i) T 0 H rfl h1.ok (eY_may (by decide) (by omega)) Sl.nil h1.down (by rw [h1.lines, List.length_map, List.length_append, entsY_len, entsY_len, h1.room]; omega) (fun J2 w hJ2 ok2 H => ?_)
    refine asI_h ?_
    have hw : IntKind.wrap .i64 ((i : Int) + 1) = ((i + 1 : Nat) : Int) := by rw [wrap64 (by omega) (by omega)]; rfl
    simp only [hw]
    refine ⟨⟨J2, ⟨ok2, by rw [hJ2]; exact h1.blk, by rw [hJ2]; exact h1.room, ?_, by rw [hJ2]; exact h1.sure, by rw [hJ2]; exact h1.down⟩, H, by omega, by omega⟩, by omega⟩
    rw [Int.toNat_natCast, entsY_succ, hJ2]
    simp only [h1.lines, List.map_append, List.append_assoc]
    rfl
  simp only [decide_eq_false_iff_not] at h
  rw [show z.toNat = b by omega] at h1
  refine ⟨fun z w => ∃ (J' : Jr) (n : Nat), n ≤ 900 ∧ Has J' j0 (entsY 97 a ++ entsY 98 n) a false ∧ (2 ≤ z.1 → n = 0) ∧ Sh.Holds w0 (J'.hp :: hs) w ∧ 0 ≤ z.1 ∧ z.1 ≤ 2, fun z _ => ((2 : Int) - z.1).toNat, ⟨J1, b, by omega, h1, by simp, H, by simp, by simp⟩, ?_⟩
  clear H h1 h g0 g1
  rintro ⟨z, f, u⟩ w ⟨J1, n, hn, h1, hz, H, g0, g1⟩
  simp only at hz g0 g1
  have hmay : ∀ e ∈ entsY 97 a ++ entsY 98 n, mayN e = true := fun e he => by
    rcases List.mem_append.1 he with he | he
    · exact m97 a (by omega) e he
    · exact m98 n hn e he
  refine br_s (fun h => ?_) (fun h => ?_)
  · simp only [decide_eq_true_eq] at h
    rw [hv h1]
    refine Crash_c (J := J1) 0 H rfl h1.ok (by rw [h1.lines]; exact LB_size hmay) (by rw [h1.lines, List.length_map, List.length_append, entsY_len, entsY_len]; omega) (by rw [h1.sure]; omega) (by rw [h1.sure, h1.lines, List.length_map, List.length_append, entsY_len, entsY_len]; omega) (fun J2 w hJ2 ok2 H => ?_)
    replace H : Sh.Holds w0 (J2.hp :: hs) w := H
    rw [h1.down] at hJ2
    simp only [Bool.false_eq_true, if_false] at hJ2
    have h2 : Has J2 j0 (entsY 97 a) a true := by
      refine ⟨ok2, by rw [hJ2]; exact h1.blk, by rw [hJ2]; exact h1.room, ?_, by rw [hJ2]; exact h1.sure, by rw [hJ2]⟩
      rw [hJ2]
      simp only
      rw [h1.sure, h1.lines, crash00 (by rw [List.length_map, List.length_append, entsY_len]; omega), List.map_append, List.take_append_of_le_length (by rw [List.length_map, entsY_len]; omega), List.take_of_length_le (by rw [List.length_map, entsY_len]; omega)]
    rw [← hv h1, hv h2]
    refine asT_e [] rfl rfl ?_
    have hg : goodL J2.lines = J2.lines := by rw [h2.lines]; exact good_ents (m97 a (by omega))
    refine Recover_c (J := J2) 0 E T H rfl h2.ok (by rw [h2.lines]; exact LB_size (m97 a (by omega))) (by rw [h2.lines, List.length_map, entsY_len]; omega) (fun J3 w hJ3 ok3 H => ?_)
    replace H : Sh.Holds w0 (J3.hp :: hs) w := H
    rw [hg, h2.down] at hJ3
    rw [hg, h2.down]
    rw [if_pos rfl] at hJ3
    rw [if_pos rfl]
    have h3 : Has J3 j0 (entsY 97 a ++ entsY 98 0) a false := ⟨ok3, by rw [hJ3]; exact h2.blk, by rw [hJ3]; exact h2.room, by rw [hJ3]; simp [h2.lines, entsY], by rw [hJ3]; simp [h2.lines, entsY_len], by rw [hJ3]⟩
    rw [← hv h2, hv h3]
    refine asI_h ?_
    refine br_f (by simp) ?_
    refine Sure_c (J := J3) 0 H rfl (fun w H => ?_)
    refine asI_h ?_
    refine br_f (by rw [h3.sure]; simp) ?_
    have hw : IntKind.wrap .i64 (z + 1) = z + 1 := wrap64 (by omega) (by omega)
    simp only [hw]
    refine ⟨⟨J3, 0, by omega, h3, fun _ => rfl, H, by omega, by omega⟩, by omega⟩
  simp only [decide_eq_false_iff_not] at h
  have hn0 := hz (by omega)
  subst hn0
  have hz0 : entsY 98 0 = [] := rfl
  rw [hz0, List.append_nil] at h1
  rw [hv h1]
  refine addY_c (e := eY 99 7) T 0 H rfl h1.ok (eY_may (by decide) (by omega)) Sl.nil h1.down (by rw [h1.lines, List.length_map, entsY_len, h1.room]; omega) (fun J2 w hJ2 ok2 H => ?_)
  replace H : Sh.Holds w0 (J2.hp :: hs) w := H
  have h2 : Has J2 j0 (entsY 97 a ++ [eY 99 7]) a false := ⟨ok2, by rw [hJ2]; exact h1.blk, by rw [hJ2]; exact h1.room, by rw [hJ2]; simp only [h1.lines, List.map_append]; rfl, by rw [hJ2]; exact h1.sure, by rw [hJ2]; exact h1.down⟩
  rw [← hv h1, hv h2]
  have hmay2 : ∀ e ∈ entsY 97 a ++ [eY 99 7], mayN e = true := fun e he => by
    rcases List.mem_append.1 he with he | he
    · exact m97 a (by omega) e he
    · simp only [List.mem_singleton] at he; subst he; exact eY_may (by decide) (by omega)
  refine asI_h ?_
  refine br_f rfl ?_
  refine allJ_c (J := J2) 0 E T H rfl h2.ok (by rw [h2.lines]; exact LB_size hmay2) (by rw [h2.lines, List.length_map, List.length_append, entsY_len]; simp; omega) (fun row es w hes okr oks H => ?_)
  rw [h2.lines, ent_ents hmay2] at hes
  have hle : (entsY 97 a ++ [eY 99 7]).length = a + 1 := by rw [List.length_append, entsY_len]; rfl
  rw [List.take_of_length_le (by rw [hle]; show a + 1 ≤ 100; omega)] at hes
  have hel : es.length = a + 1 := by have := congrArg List.length hes; rw [List.length_map, hle] at this; exact this
  have hfl : (es.flatMap enC).length = es.length * 3 := Sh.flat_len (f := enC) (z := 3) (fun _ => rfl) es
  have hrn : row.n = a + 1 := by have := okr.len; omega
  refine asSl_h ?_
  have ew : IntKind.i64.wrap ((a : Int) + 1) = (a : Int) + 1 := wrap64 (by omega) (by omega)
  rw [ew]
  refine br_t (by rw [hrn]; simp) ?_
  refine slAt_h okr (by omega) (by omega) (fun g hg => ?_)
  have hlast : (es.map Prod.fst)[a]? = some (eY 99 7) := by
    rw [hes, List.getElem?_append_right (by rw [entsY_len]; omega), entsY_len, Nat.sub_self]; rfl
  rw [List.getElem?_map] at hlast
  obtain ⟨q, hq, hq2⟩ := Option.map_eq_some_iff.1 hlast
  have hcell := Sh.flat_at (f := enC) (z := 3) (fun _ => rfl) hq (j := 0) (by omega)
  refine ldR_h 0 (e := 29) H rfl okr hg (v := .string (B q.1.k)) (by rw [Int.toNat_natCast]; exact hcell) ?_
  refine asStr_h ?_
  rw [hq2]
  refine br_t (show strEq (B [99]) (B [99]) = true by rw [strEq_B]; rfl) ?_
  refine awake4_c E T H (fun w H => ?_)
  refine asBoo_h ?_
  exact k _ (Holds.right (a := es.map fun y => y.2.hp 3) H.tail).tail
end Go.Proofs.YteppbgalecjlfaaDoor
