/- What law5's OrderTexts computes: true, of every order, place and byte. Conditions: none. -/
import Derived.Test.YtiihiaicggmhjaaDoorFOTx
set_option linter.unusedVariables false
set_option maxRecDepth 100000
namespace Go.Proofs.YtiihiaicggmhjaaDoor
open Go Go.Sh

def textTail (S195 : World → Prop) (n185 : Int) (k187 : Nat) (s112 : ByteArray) (M : Int) (K : KV) (w197 : World) : Prop :=
  br (n185 != 0) (fun w198 =>
    gocall Tryd.prog (23) [] (fun v199 w200 =>
      asBoo (v199) (fun b201 w202 =>
        kp (S195) (fun w203 =>
          K (Value.bool (b201)) (w203)) (w202)) (w200)) (w198)) (fun w204 =>
    ldS (S195) (⟨k187, 0, none⟩) (fun v205 w206 =>
      asI (IntKind.i64) (v205) (fun n207 w208 =>
        ldS (S195) (⟨k187, 1, none⟩) (fun v209 w210 =>
          asI (IntKind.i64) (v209) (fun n211 w212 =>
            ldS (S195) (⟨k187, 2, none⟩) (fun v213 w214 =>
              asI (IntKind.i64) (v213) (fun n215 w216 =>
                ldS (S195) (⟨k187, 3, none⟩) (fun v217 w218 =>
                  asI (IntKind.i64) (v217) (fun n219 w220 =>
                    ldS (S195) (⟨k187, 4, none⟩) (fun v221 w222 =>
                      asI (IntKind.i64) (v221) (fun n223 w224 =>
                        ldS (S195) (⟨k187, 5, none⟩) (fun v225 w226 =>
                          asSl (v225) (fun p227 k228 k229 w230 =>
                            strSl (s112) (0) ((M)) (fun s231 w232 =>
                              gocall Tryd.prog (24) [(Value.agg #[(Value.int IntKind.i64 (n207)), (Value.int IntKind.i64 (n211)), (Value.int IntKind.i64 (n215)), (Value.int IntKind.i64 (n219)), (Value.int IntKind.i64 (n223)), (Value.slice p227 (k228) (k229))])] (fun v233 w234 =>
                                asStr (v233) (fun s235 w236 =>
                                  kp (S195) (fun w237 =>
                                    br (strEq s235 s231) (fun w238 =>
                                      gocall Tryd.prog (23) [] (fun v239 w240 =>
                                        asBoo (v239) (fun b241 w242 =>
                                          kp (S195) (fun w243 =>
                                            K (Value.bool (b241)) (w243)) (w242)) (w240)) (w238)) (fun w244 =>
                                      K (Value.bool (false)) (w244)) (w237)) (w236)) (w234)) (w232)) (w230)) (w226)) (w224)) (w222)) (w220)) (w218)) (w216)) (w214)) (w212)) (w210)) (w208)) (w206)) (w204)) (w197)
theorem odT_len {o : Od} (h : mayOd o = true) : (odT o).length ≤ 400 := by
  obtain ⟨⟨f1, f2, f3, f4, f5, f6, f7⟩, hl3⟩ := mayOd_fit h
  have g1 := itoa_len f1
  have g2 := itoa_len f2
  have g3 := itoa_len f3
  have g4 := itoa_len f4
  have g5 := itoa_len f5
  have g6 := spsT_len o.steps f7
  simp only [odT, lHash, lColon, lX, lFor, lBy, List.length_append, List.length_cons, List.length_nil]
  omega
theorem wrap_at {x : Int} {n : Nat} (h : n ≤ 1000) : IntKind.u64.wrap (IntKind.i64.wrap ((n : Int) + 1)) ≠ 0 ∧ ∃ m : Nat, IntKind.i64.wrap ((IntKind.u64.wrap x).tmod (IntKind.u64.wrap (IntKind.i64.wrap ((n : Int) + 1)))) = (m : Int) ∧ m ≤ n := by
  have e1 : IntKind.i64.wrap ((n : Int) + 1) = (n : Int) + 1 := wrap64 (by omega) (by omega)
  have e2 : IntKind.u64.wrap ((n : Int) + 1) = (n : Int) + 1 := by
    show ((n : Int) + 1) % 18446744073709551616 = _
    omega
  have e3 : 0 ≤ IntKind.u64.wrap x := by
    show 0 ≤ x % 18446744073709551616
    omega
  rw [e1, e2]
  generalize IntKind.u64.wrap x = y at e3
  have h1 := Int.tmod_nonneg ((n : Int) + 1) e3
  have h2 := Int.tmod_lt_of_pos y (by omega : (0 : Int) < (n : Int) + 1)
  rw [wrap64 (by omega) (by omega)]
  exact ⟨by omega, (y.tmod ((n : Int) + 1)).toNat, by omega, by omega⟩
theorem sl_take {t : List UInt8} {m : Nat} {K : ByteArray → World → Prop} {w : World} (h : m ≤ t.length) (k : K (B (t.take m)) w) : strSl (B t) 0 (m : Int) K w :=
  ⟨by omega, by omega, by rw [B_size]; omega, by rw [show (B t).extract (Int.toNat 0) (m : Int).toNat = B (t.take m) from B_take t m]; exact k⟩
theorem sl_drop {t : List UInt8} {m : Nat} {K : ByteArray → World → Prop} {w : World} (h : m ≤ t.length) (k : K (B (t.drop m)) w) : strSl (B t) (m : Int) ((B t).size : Int) K w :=
  ⟨by omega, by rw [B_size]; omega, by omega, by rw [show (B t).extract (m : Int).toNat (Int.toNat ((B t).size : Int)) = B (t.drop m) by rw [Int.toNat_natCast, Int.toNat_natCast, B_size]; exact B_drop t m]; exact k⟩
def errN (s : List UInt8) : Int := if (parseO s).isSome then 0 else 2
abbrev bare (o : Od) : Od := ⟨o.id, o.item, o.qty, o.client, o.price, []⟩
theorem textTail_c {w0 w : World} {hs : List Hp} {K : KV} {t : List UInt8} {m k187 : Nat} {r : Row} (E : Errs w0) (T : Tab w0) (ht : t.length ≤ 1000) (hm : m ≤ t.length)
    (H : Holds w0 (odHp k187 (bare ((parseO (t.take m)).getD Od.zero)) r.v :: r.hp 52 :: hs) w) (ok : r.Ok 2 (sps ((parseO (t.take m)).getD Od.zero).steps)) (k : ∀ w', Holds w0 hs w' → K (.bool true) w') :
    textTail (Holds w0 (odHp k187 (bare ((parseO (t.take m)).getD Od.zero)) r.v :: r.hp 52 :: hs)) (errN (t.take m)) k187 (B t) (m : Int) K w := by
  have aw : ∀ {w}, Holds w0 (odHp k187 (bare ((parseO (t.take m)).getD Od.zero)) r.v :: r.hp 52 :: hs) w → gocall Tryd.prog 23 [] (fun v199 w200 => asBoo (v199) (fun b201 w202 => kp (Holds w0 (odHp k187 (bare ((parseO (t.take m)).getD Od.zero)) r.v :: r.hp 52 :: hs)) (fun w203 => K (Value.bool (b201)) (w203)) (w202)) (w200)) w := by
    intro w H
    refine awake5_c E T H (fun w H => ?_)
    refine asBoo_h ?_
    refine kp_h H ?_
    exact k _ H.tail.tail
  unfold textTail
  cases hp : parseO (t.take m) with
  | none =>
    have e : errN (t.take m) = 2 := by simp [errN, hp]
    rw [e]
    rw [hp] at aw H
    refine br_t rfl ?_
    exact aw H
  | some q =>
    have e : errN (t.take m) = 0 := by simp [errN, hp]
    rw [e]
    rw [hp] at aw H ok
    simp only [Option.getD_some] at aw H ok ⊢
    refine br_f rfl ?_
    apply ldS6_h 0 rfl
    refine sl_take hm ?_
    have hm2 := (parseO_some hp).1
    refine Text_c (o := q) T H (Sl.row 1 rfl ok) (by have := (mayOd_fit hm2).2; omega) (fun w H => ?_)
    refine asStr_h ?_
    refine kp_h H ?_
    refine br_t ?_ (aw H)
    rw [strEq_B, parseO_odTx hp]
    simp
theorem Texts_c {w0 w : World} {hs : List Hp} {K : KV} {o : Od} {p : Option Addr} {n c : Nat} {x ch : Int} (E : Errs w0) (T : Tab w0) (H : Holds w0 hs w) (hsl : Sl (Holds w0 hs) p n 2 (sps o.steps)) (k : ∀ w', Holds w0 hs w' → K (.bool true) w') :
    gocall Tryd.prog 10 [odV o (.slice p n c), I x, .int .u8 ch] K w := by
  have hn : n = o.steps.length := by have := hsl.len; rw [sps, flat_len Sp.len] at this; omega
  apply F10_go; unfold F10
  refine nwO_h H (fun k10 w H => ?_)
  apply ld6_h 0 H rfl
  refine light_c (o := o) H (fun w H => ?_)
  refine asBoo_h ?_
  refine br_s (fun h1 => ?_) (fun h1 => ?_)
  · refine awake5_c E T H (fun w H => ?_)
    refine asBoo_h ?_
    exact k _ H.tail
  have hl : o.steps.length ≤ 20 := by simp at h1; omega
  apply ld6_h 0 H rfl
  refine mayO_c (l := o.steps) H (hsl.mono fun w H => H.tail) (by omega) (fun w H => ?_)
  refine asBoo_h ?_
  refine br_s (fun h2 => ?_) (fun h2 => ?_)
  · refine awake5_c E T H (fun w H => ?_)
    refine asBoo_h ?_
    exact k _ H.tail
  have hm : mayOd o = true := by simpa [mayOd] using h2
  apply ld6_h 0 H rfl
  refine Text_c (o := o) T H (hsl.mono fun w H => H.tail) (by omega) (fun w H => ?_)
  refine asStr_h ?_
  have et : odTx o = odT o := by rw [odTx, if_pos hm]
  rw [et]
  have htl := odT_len hm
  obtain ⟨t, ht⟩ : ∃ t, odT o = t := ⟨_, rfl⟩
  rw [ht] at htl ⊢
  obtain ⟨hz, m, hme, hml⟩ := wrap_at (x := x) (n := (B t).size) (by rw [B_size]; omega)
  rw [B_size] at hml
  refine ⟨hz, ?_⟩
  rw [hme]
  replace H := H.drew
  refine keeps_h H ?_
  refine sl_take hml ?_
  refine sl_drop hml ?_
  refine nw_h H (fun k121 w H => ?_)
  refine kp_s H (by (repeat first | exact Sub.refl _ | (refine Sub.cons 0 rfl ?_) | (refine Sub.cons 1 rfl ?_) | (refine Sub.cons 2 rfl ?_) | (refine Sub.cons 3 rfl ?_) | (refine Sub.cons 4 rfl ?_) | (refine Sub.cons 5 rfl ?_) | (refine Sub.cons 6 rfl ?_) | (refine Sub.cons 7 rfl ?_) | refine Sub.skip ?_ | exact Sub.nil _)) ?_
  refine cnv_h (ns := [ch]) bt 0 H rfl rfl ?_
  refine asStr_h ?_
  refine kp_s H (by (repeat first | exact Sub.refl _ | (refine Sub.cons 0 rfl ?_) | (refine Sub.cons 1 rfl ?_) | (refine Sub.cons 2 rfl ?_) | (refine Sub.cons 3 rfl ?_) | (refine Sub.cons 4 rfl ?_) | (refine Sub.cons 5 rfl ?_) | (refine Sub.cons 6 rfl ?_) | (refine Sub.cons 7 rfl ?_) | refine Sub.skip ?_ | exact Sub.nil _)) ?_
  have eb : bytesOf [ch] = B [UInt8.ofNat ch.toNat] := rfl
  rw [eb]
  refine cat_B (by rw [List.length_take]; simp; omega) ?_
  refine cat_B (by rw [List.length_append, List.length_take, List.length_drop]; simp; omega) ?_
  obtain ⟨s, hs0⟩ : ∃ s, t.take m ++ [UInt8.ofNat ch.toNat] ++ t.drop m = s := ⟨_, rfl⟩
  have hsl2 : s.length = t.length + 1 := by
    rw [← hs0]; simp only [List.length_append, List.length_take, List.length_drop, List.length_cons, List.length_nil]; omega
  rw [hs0]
  refine Parse_c (s := s) E T H (by omega) (fun r1 w ok1 H => ?_)
  refine res_h (o := (parseO s).getD Od.zero) ?_
  refine nw6_h H (fun k155 w H => ?_)
  refine sl_take hml ?_
  refine Parse_c (s := t.take m) E T H (by rw [List.length_take]; omega) (fun r2 w ok2 H => ?_)
  refine res_h (o := (parseO (t.take m)).getD Od.zero) ?_
  refine nw6_h H (fun k187 w H => ?_)
  replace H := H.drew
  refine keeps_h H ?_
  cases hp : parseO s with
  | none =>
    rw [hp] at H
    refine br_t rfl ?_
    exact textTail_c (r := r2) E T (by omega) hml H ok2 (fun w' H => k w' H.tail.tail.tail.tail)
  | some pp =>
    rw [hp] at H ok1
    simp only [Option.getD_some] at H ok1 ⊢
    have hmp := (parseO_some hp).1
    have hne : sameOd o pp = false := by
      cases e : sameOd o pp with
      | false => rfl
      | true =>
        exfalso
        have e2 := sameOd_iff.1 e
        have := (parseO_some hp).2
        rw [← e2, ht] at this
        rw [← this] at hsl2; omega
    refine br_f rfl ?_
    apply ldS6_h 2 rfl
    refine Text_c (o := pp) T H (Sl.row 3 rfl ok1) (by have := (mayOd_fit hmp).2; omega) (fun w H => ?_)
    refine asStr_h ?_
    refine kp_h H ?_
    refine br_t ?_ ?_
    · rw [strEq_B, parseO_odTx hp]; simp
    apply ldS6_h 5 rfl
    apply ldS6_h 2 rfl
    refine SameOrder_c (a := o) (b := pp) H (hsl.mono fun w H => H.tail.tail.tail.tail.tail.tail) (Sl.row 3 rfl ok1) (by omega) (fun w H => ?_)
    refine asBoo_h ?_
    refine kp_h H ?_
    rw [hne]
    refine br_t rfl ?_
    exact textTail_c (r := r2) E T (by omega) hml H ok2 (fun w' H => k w' H.tail.tail.tail.tail)
end Go.Proofs.YtiihiaicggmhjaaDoor
