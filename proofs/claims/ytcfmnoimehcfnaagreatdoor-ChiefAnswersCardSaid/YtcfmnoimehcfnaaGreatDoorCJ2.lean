/- Contracts of journal's Recover and Crash. Conditions: none. -/
import Derived.Test.YtcfmnoimehcfnaaGreatDoorCJ
set_option linter.unusedVariables false
set_option maxRecDepth 100000
namespace Go.Proofs.YtcfmnoimehcfnaaGreatDoor
open Go Go.Sh

theorem Row.cut {r : Row} {xs : List Value} (h : r.Ok 1 xs) {m : Nat} (hm : m ≤ r.n) : (Row.mk r.g m r.c r.cur).Ok 1 (xs.take m) := by
  refine ⟨by rw [List.length_take]; have := h.len; simp only; omega, fun hg => ?_, fun g hg => ?_⟩
  · have := h.no hg; exact ⟨by have := this.1; show m = 0; omega, this.2⟩
  · obtain ⟨h1, h2, h3, h4⟩ := h.yes g hg
    refine ⟨by simp only; omega, h2, h3, ?_⟩
    simp only
    rw [← h4, List.take_take, Nat.mul_one, Nat.mul_one, Nat.min_eq_left hm]
theorem slSl0_h {r : Row} {xs : List Value} {m : Nat} {w : World} {K : Option Addr → Nat → Nat → World → Prop} (h : r.Ok 1 xs) (hm : m ≤ r.n) (hk : K r.p m r.c w) : slSl r.p r.c 0 (m : Int) 1 K w := by
  have hc : r.n ≤ r.c := by
    cases hg : r.g with
    | none => have := (h.no hg).1; omega
    | some g => exact (h.yes g hg).1
  refine ⟨by omega, by omega, by omega, ?_⟩
  have ea : (if r.c = Int.toNat 0 then r.p else r.p.map (·.add (Int.toNat 0 * 1))) = r.p := by
    split
    · rfl
    · cases hg : r.g with
      | none => simp [Row.p, hg]
      | some g => simp [Row.p, hg, Addr.add_lit]
  rw [ea]
  exact hk
theorem good_le (ls : List ByteArray) : (goodL ls).length ≤ ls.length := by
  unfold goodL
  exact (List.takeWhile_sublist _).length_le
theorem good_eq (ls : List ByteArray) : goodL ls = ls.take (goodL ls).length := by
  have h : goodL ls <+: ls := List.takeWhile_prefix _
  exact List.prefix_iff_eq_take.1 h
theorem Recover_c {w0 w : World} {hs : List Hp} {K : KV} {J : Jr} (i : Nat) (E : Errs w0) (T : Tab w0) (H : Sh.Holds w0 hs w) (hi : hs[i]? = some J.hp) (ok : J.Ok) (hl : ∀ s ∈ J.lines, s.size ≤ 100000) (hn : J.lines.length ≤ 5000)
    (k : ∀ (J' : Jr) w', J' = (if J.down = true then { J with r := J'.r, lines := goodL J.lines, sure := (goodL J.lines).length, down := false } else J) → J'.Ok → Sh.Holds w0 (hs.set i J'.hp) w' → K (I (if J.down = true then (J.lines.length : Int) - (goodL J.lines).length else 0)) w') :
    gocall Tryz.prog 123 [J.v] K w := by
  have hrn := Jr.n ok
  have hgl := good_le J.lines
  apply F123_go; unfold F123
  refine br_f rfl ?_
  refine nn_h ?_
  replace H := H.open2 i hi
  apply ld_h 0 H rfl rfl; refine asBoo_h ?_
  replace H := H.shut2 i hi
  cases hd : J.down with
  | false =>
    have := k J w (by rw [if_neg (by simp [hd])]) ok (by rwa [set_same i hi])
    rw [if_neg (by simp [hd])] at this
    exact br_t rfl this
  | true =>
  rw [hd] at k
  refine br_f rfl ?_
  refine nw_h H (fun k11 w H => ?_)
  apply st_h 0 H rfl rfl rfl; intro w H
  apply F124_go; unfold F124
  refine nw_h H (fun kb w H => ?_)
  refine asFn_h ?_
  refine rfn_h H (fun D l R w hround H => ?_)
  obtain ⟨C, hC⟩ : ∃ C : Nat → List Hp → Prop, C = fun (n : Nat) (cs : List Hp) => cs = [(l, R .ready none)] :: [(D, .deferred (some []))] :: [(k11, .cells #[I n] 3 (0, 0))] :: hs := ⟨_, rfl⟩
  have H2 : Sh.Holds w0 (([(l, R .ready none)] :: [(D, .deferred (some []))] :: [(k11, .cells #[I 0] 3 (0, 0))] :: hs) ++ [[(kb, .cells #[J.v] 131 (0, 0))]]) w :=
    Holds.swap (a := [[(kb, .cells #[J.v] 131 (0, 0))]]) (H.bring 2 rfl)
  refine all_c (J := J) (ij := i + 3) C (fun _ => False) E T hl hn ok H2 (by simpa using hi) (by rw [hC]; rfl) ?_ ?_ (fun _ _ h => h.elim)
  · intro i' s p n c cs fr K' w hg h0 hc hsl H kt kf
    rw [hC] at hc
    subst hc
    have hil := (List.getElem?_eq_some_iff.1 hg).1
    refine hround _ _ _ (H.mem 0 rfl) ?_
    refine asT_e [_] rfl rfl ?_
    refine asN_e [_, _, _] rfl rfl ?_
    refine asStr_e rfl ?_
    refine asI_e rfl ?_
    refine asSl_e rfl ?_
    refine rfb_h 0 H rfl (fun w H => ?_)
    apply ld_h 2 H rfl rfl; refine asI_h ?_
    have ew : IntKind.i64.wrap ((i' : Int) + 1) = ((i' + 1 : Nat) : Int) := by rw [wrap64 (by omega) (by omega)]; rfl
    rw [ew]
    apply st_h 2 H rfl rfl rfl; intro w H
    refine rfy_h 0 H rfl (fun w H => ?_)
    exact kt _ w (by rw [hC]) H
  · intro cs' w hc H
    rw [hC] at hc
    subst hc
    refine rfe_h 0 (st := .ready) (pe := none) (by simp) H rfl (fun w H => ?_)
    unfold rfj
    simp only
    replace H := H.drew
    refine nn_h ?_
    have hi3 : ([(l, R .exhausted none)] :: [(D, .deferred (some []))] :: [(k11, .cells #[I ((goodL J.lines).length : Int)] 3 (0, 0))] :: hs)[i + 3]? = some J.hp := by simpa using hi
    replace H := H.open2 (i + 3) hi3
    replace H : Sh.Holds w0 ([(J.j, .cells #[I J.room, J.r.v, I J.sure, .bool J.down] 235 (0, 0))] :: J.r.hp 9 :: [(l, R .exhausted none)] :: [(D, .deferred (some []))] :: [(k11, .cells #[I ((goodL J.lines).length : Int)] 3 (0, 0))] :: hs.eraseIdx i) w.drew := H
    apply ld_h 0 H rfl rfl; refine asSl_h ?_
    apply ld_h 4 H rfl rfl; refine asI_h ?_
    replace H := H.drew
    refine keeps_s (hs' := [[(k11, .cells #[I ((goodL J.lines).length : Int)] 3 (0, 0))]]) H (by exact Sub.cons 4 rfl (Sub.nil _)) ?_
    refine nn_h ?_
    apply ld_h 0 H rfl rfl; refine asSl_h ?_
    apply ld_h 4 H rfl rfl; refine asI_h ?_
    refine slSl0_h ok.row (by omega) ?_
    apply ldS_h 0 rfl rfl; refine asI_h ?_
    refine nn_h ?_
    apply st_h 0 H rfl rfl rfl; intro w H
    refine kp_s H (by exact Sub.cons 4 rfl (Sub.nil _)) ?_
    refine nn_h ?_
    apply st_h 0 H rfl rfl rfl; intro w H
    refine kp_s H (by exact Sub.cons 4 rfl (Sub.nil _)) ?_
    refine nn_h ?_
    apply st_h 0 H rfl rfl rfl; intro w H
    refine dfr_h 3 H rfl (fun w H => ?_)
    have ew : IntKind.i64.wrap ((J.r.n : Int) - ((goodL J.lines).length : Int)) = (J.lines.length : Int) - (goodL J.lines).length := by rw [hrn]; exact wrap64 (by omega) (by omega)
    rw [ew]
    rw [if_pos rfl] at k
    refine k ⟨J.j, J.room, Row.mk J.r.g (goodL J.lines).length J.r.c J.r.cur, goodL J.lines, (goodL J.lines).length, false⟩ w (by rw [if_pos rfl]) ⟨?_, ok.room⟩ (Holds.close2 i (Sub.holds (Sub.cons 0 rfl (Sub.cons 0 rfl (Sub.skip (Sub.skip (Sub.skip (Sub.refl _)))))) H) hi)
    have := Row.cut ok.row (m := (goodL J.lines).length) (by omega)
    rwa [← List.map_take, ← good_eq] at this
def cutI (a x : Int) : Int := if (if a < x then a else x) > 0 then if a < x then a else x else 0
theorem cutI_range {a : Int} (x : Int) (h : 0 ≤ a) : 0 ≤ cutI a x ∧ cutI a x ≤ a := by
  unfold cutI; split <;> (try split) <;> omega
def pieceB (s : ByteArray) (x : Int) : ByteArray := B (s.data.toList.take (cutI ((s.size : Int) - 1) x).toNat)
theorem piece_c {w0 w : World} {hs : List Hp} {K : KV} {s : ByteArray} {x : Int} (hl : s.size ≤ 1000000) (H : Sh.Holds w0 hs w) (k : ∀ w', Sh.Holds w0 hs w' → K (St (pieceB s x)) w') : gocall Tryz.prog 215 [.string s, I x] K w := by
  obtain ⟨t, rfl⟩ : ∃ t, s = B t := ⟨s.data.toList, (B_data _).symm⟩
  rw [B_size] at hl
  apply F215_go; unfold F215
  have ew : IntKind.i64.wrap (((B t).size : Int) - 1) = (t.length : Int) - 1 := by rw [B_size]; exact wrap64 (by omega) (by omega)
  rw [ew]
  have hk := k w H
  unfold pieceB at hk
  rw [B_size] at hk
  have h1 : 0 ≤ cutI ((t.length : Int) - 1) x ∧ cutI ((t.length : Int) - 1) x ≤ t.length := by
    unfold cutI; split <;> (try split) <;> omega
  show strSl (B t) 0 (cutI ((t.length : Int) - 1) x) _ w
  obtain ⟨m, hm⟩ : ∃ m : Nat, cutI ((t.length : Int) - 1) x = m := ⟨(cutI ((t.length : Int) - 1) x).toNat, by omega⟩
  rw [hm] at hk h1 ⊢
  exact sl_take (by omega) hk
def crashL (ls : List ByteArray) (sure stay torn : Int) : List ByteArray :=
  let m := (sure + cutI ((ls.length : Int) - sure) stay).toNat
  match ls[m]? with
  | none => ls
  | some s => if pieceB s torn = B [] then ls.take m else ls.take m ++ [pieceB s torn]
set_option maxHeartbeats 1000000 in
theorem Crash_c {w0 w : World} {hs : List Hp} {K : KV} {J : Jr} {x1 x2 : Int} (i : Nat) (H : Sh.Holds w0 hs w) (hi : hs[i]? = some J.hp) (ok : J.Ok) (hl : ∀ s ∈ J.lines, s.size ≤ 100000) (hn : J.lines.length ≤ 5000) (hs0 : 0 ≤ J.sure) (hs1 : J.sure ≤ J.lines.length)
    (k : ∀ (J' : Jr) w', J' = (if J.down = true then J else { J with r := J'.r, lines := crashL J.lines J.sure x1 x2, down := true }) → J'.Ok → Sh.Holds w0 (hs.set i J'.hp) w' → K (.tuple #[]) w') :
    gocall Tryz.prog 121 [J.v, I x1, I x2] K w := by
  have hrn := Jr.n ok
  apply F121_go; unfold F121
  refine br_f rfl ?_
  refine nn_h ?_
  have H0 := H
  replace H := H.open2 i hi
  apply ld_h 0 H rfl rfl; refine asBoo_h ?_
  refine br_s (fun hd => k J w (by rw [if_pos hd]) ok (by rwa [set_same i hi])) (fun hd => ?_)
  rw [hd] at k
  simp only [Bool.false_eq_true, if_false] at k
  have hc := cutI_range x1 (a := (J.lines.length : Int) - J.sure) (by omega)
  obtain ⟨m, hm⟩ : ∃ m : Nat, J.sure + cutI ((J.lines.length : Int) - J.sure) x1 = m := ⟨(J.sure + cutI ((J.lines.length : Int) - J.sure) x1).toNat, by omega⟩
  have ew : IntKind.i64.wrap ((J.r.n : Int) - J.sure) = (J.lines.length : Int) - J.sure := by rw [hrn]; exact wrap64 (by omega) (by omega)
  have em : IntKind.i64.wrap (J.sure + if (if (J.lines.length : Int) - J.sure < x1 then (J.lines.length : Int) - J.sure else x1) > 0 then if (J.lines.length : Int) - J.sure < x1 then (J.lines.length : Int) - J.sure else x1 else 0) = m := by
    show IntKind.i64.wrap (J.sure + cutI ((J.lines.length : Int) - J.sure) x1) = m
    rw [hm]; exact wrap64 (by omega) (by omega)
  have eL : crashL J.lines J.sure x1 x2 = match J.lines[m]? with
      | none => J.lines
      | some s => if pieceB s x2 = B [] then J.lines.take m else J.lines.take m ++ [pieceB s x2] := by
    unfold crashL; rw [hm, Int.toNat_natCast]
  refine nn_h ?_
  apply st_h 0 H rfl rfl rfl; intro w H
  replace H := H.drew
  refine nn_h ?_
  apply ld_h 0 H rfl rfl; refine asI_h ?_
  refine nn_h ?_
  apply ld_h 0 H rfl rfl; refine asSl_h ?_
  refine nn_h ?_
  apply ld_h 0 H rfl rfl; refine asI_h ?_
  refine nn_h ?_
  apply ld_h 0 H rfl rfl; refine asSl_h ?_
  rw [ew, em]
  refine br_s (fun hb => ?_) (fun hb => ?_)
  · have hb : m = J.lines.length := by have : (m : Int) = J.r.n := by simpa using hb
                                       omega
    refine k ⟨J.j, J.room, J.r, J.lines, J.sure, true⟩ _ ?_ ⟨ok.row, ok.room⟩ (Holds.close2 i H hi)
    rw [eL, hb, List.getElem?_eq_none (Nat.le_refl _)]
  have hb : m ≠ J.lines.length := by have : ¬ (m : Int) = J.r.n := by simpa using hb
                                     omega
  have hml : m < J.lines.length := by omega
  have hg := List.getElem?_eq_getElem hml
  rw [hg] at eL
  simp only at eL
  refine nn_h ?_
  apply ld_h 0 H rfl rfl; refine asSl_h ?_
  refine slAt_h ok.row (by omega) (by omega) (fun g hgg => ?_)
  refine ldR_h 1 (e := 9) H rfl ok.row hgg (v := St J.lines[m]) (by simp [hg]) ?_
  refine asStr_h ?_
  refine piece_c (by have := hl _ (List.getElem_mem hml); omega) H (fun w H => ?_)
  refine asStr_h ?_
  refine nn_h ?_
  apply ld_h 0 H rfl rfl; refine asSl_h ?_
  refine slSl0_h ok.row (by omega) ?_
  refine nn_h ?_
  apply st_h 0 H rfl rfl rfl; intro w H
  have okc := Row.cut ok.row (m := m) (by omega)
  rw [← List.map_take] at okc
  refine br_s (fun h2 => ?_) (fun h2 => ?_)
  · have h2' : pieceB J.lines[m] x2 ≠ B [] := by
      intro e
      have h3 : (!strEq (pieceB J.lines[m] x2) (B [])) = true := h2
      rw [e, strEq_B] at h3
      simp at h3
    rw [if_neg h2'] at eL
    refine nn_h ?_
    replace H : Sh.Holds w0 ([(J.j, .cells #[I J.room, .slice J.r.p m J.r.c, I J.sure, .bool true] 235 (0, 0))] :: J.r.hp 9 :: hs.eraseIdx i) w := H
    apply ld_h 0 H rfl rfl; refine asSl_h ?_
    refine nw_h H (fun kb w H => ?_)
    have H2 : Sh.Holds w0 ((Row.mk J.r.g m J.r.c J.r.cur).hp 9 :: [(kb, .cells #[St (pieceB J.lines[m] x2)] 9 (0, 0))] :: [(J.j, .cells #[I J.room, .slice J.r.p m J.r.c, I J.sure, .bool true] 235 (0, 0))] :: hs.eraseIdx i) w := H.bring 2 rfl
    refine bapp1_h (r := Row.mk J.r.g m J.r.c J.r.cur) (news := [St (pieceB J.lines[m] x2)]) el80 0 (H := H2) rfl okc rfl (by simp [Value.oneCell']) (by simp only; omega) (by simp only; unfold maxLen; omega) (fun r' w hr1 hr2 H => ?_)
    refine asSl_h ?_
    refine nn_h ?_
    replace H : Sh.Holds w0 (r'.hp 9 :: [(kb, .cells #[St (pieceB J.lines[m] x2)] 9 (0, 0))] :: [(J.j, .cells #[I J.room, .slice J.r.p m J.r.c, I J.sure, .bool true] 235 (0, 0))] :: hs.eraseIdx i) w := H
    apply st_h 2 H rfl rfl rfl; intro w H
    replace H : Sh.Holds w0 (r'.hp 9 :: [(kb, .cells #[St (pieceB J.lines[m] x2)] 9 (0, 0))] :: [(J.j, .cells #[I J.room, r'.v, I J.sure, .bool true] 235 (0, 0))] :: hs.eraseIdx i) w := H
    replace H : Sh.Holds w0 ([(J.j, .cells #[I J.room, r'.v, I J.sure, .bool true] 235 (0, 0))] :: r'.hp 9 :: hs.eraseIdx i) w := Sub.holds (Sub.cons 2 rfl (Sub.cons 0 rfl (Sub.skip (Sub.refl _)))) H
    refine k ⟨J.j, J.room, r', J.lines.take m ++ [pieceB J.lines[m] x2], J.sure, true⟩ w (by rw [eL]) ⟨?_, ok.room⟩ (Holds.close2 i H hi)
    show r'.Ok 1 ((J.lines.take m ++ [pieceB J.lines[m] x2]).map St)
    rw [List.map_append]
    exact hr2
  · have h2' : pieceB J.lines[m] x2 = B [] := by
      have h3 : (!strEq (B (pieceB J.lines[m] x2).data.toList) (B [])) = false := by rw [B_data]; exact h2
      rw [strEq_B] at h3
      have h4 : (pieceB J.lines[m] x2).data.toList = [] := by simpa using h3
      rw [← B_data (pieceB J.lines[m] x2), h4]
    rw [if_pos h2'] at eL
    replace H : Sh.Holds w0 ([(J.j, .cells #[I J.room, .slice J.r.p m J.r.c, I J.sure, .bool true] 235 (0, 0))] :: J.r.hp 9 :: hs.eraseIdx i) w := H
    exact k ⟨J.j, J.room, Row.mk J.r.g m J.r.c J.r.cur, J.lines.take m, J.sure, true⟩ w (by rw [eL]) ⟨okc, ok.room⟩ (Holds.close2 i H hi)
end Go.Proofs.YtcfmnoimehcfnaaGreatDoor
