/- Contract of law5's awake, and what an order's text and its reading have to do with each other. Conditions: none. -/
import Derived.Test.YtiihiaicggmhjaaDoorC14
set_option linter.unusedVariables false
set_option maxRecDepth 100000
namespace Go.Proofs.YtiihiaicggmhjaaDoor
open Go Go.Sh

section
variable {w0 w : World} {hs : List Hp}
theorem ldS6_h (i : Nat) {k n c : Nat} {o : Od} {p : Option Addr} {X : Int → Int → Int → Int → Int → Option Addr → Nat → Nat → World → Prop} (hi : hs[i]? = some (odHp k o (.slice p n c))) (hk : X o.id o.item o.qty o.client o.price p n c w) :
    ldS (Holds w0 hs) ⟨k, 0, none⟩ (fun v1 w1 => asI .i64 v1 (fun n1 w2 => ldS (Holds w0 hs) ⟨k, 1, none⟩ (fun v3 w3 => asI .i64 v3 (fun n2 w4 => ldS (Holds w0 hs) ⟨k, 2, none⟩ (fun v5 w5 => asI .i64 v5 (fun n3 w6 => ldS (Holds w0 hs) ⟨k, 3, none⟩ (fun v7 w7 => asI .i64 v7 (fun n4 w8 =>
      ldS (Holds w0 hs) ⟨k, 4, none⟩ (fun v9 w9 => asI .i64 v9 (fun n5 w10 => ldS (Holds w0 hs) ⟨k, 5, none⟩ (fun v11 w11 => asSl v11 (fun p n c w12 => X n1 n2 n3 n4 n5 p n c w12) w11) w10) w9) w8) w7) w6) w5) w4) w3) w2) w1) w := by
  unfold odHp at hi
  apply ldS_h i hi rfl; refine asI_h ?_
  apply ldS_h i hi rfl; refine asI_h ?_
  apply ldS_h i hi rfl; refine asI_h ?_
  apply ldS_h i hi rfl; refine asI_h ?_
  apply ldS_h i hi rfl; refine asI_h ?_
  apply ldS_h i hi rfl; refine asSl_h ?_
  exact hk
end
theorem parseO_text {o : Od} (h : mayOd o = true) : parseO (odT o) = some o := by
  rw [parseO, parse_back (mayOd_fit h).1, if_pos (by simp [goodR, h])]
theorem parseO_some {s : List UInt8} {o : Od} (h : parseO s = some o) : mayOd o = true ∧ odT o = s := by
  unfold parseO at h
  split at h
  · rename_i hg
    cases h
    simp only [goodR, Bool.and_eq_true, decide_eq_true_eq, Bool.not_eq_true'] at hg
    refine ⟨hg.2.2, (parse_good ?_).symm⟩
    exact Prod.ext hg.1 (Prod.ext hg.2.1 rfl)
  · cases h
theorem parseO_odTx {s : List UInt8} {o : Od} (h : parseO s = some o) : odTx o = s := by
  obtain ⟨h1, h2⟩ := parseO_some h
  rw [odTx, if_pos h1, h2]
theorem parseO_nil : parseO [] = none := by
  cases h : parseO [] with
  | none => rfl
  | some o =>
    have := (parseO_some h).2
    simp [odT, lHash] at this
def oA : Od := ⟨7, 2, 5, 3, 100, [⟨4, 1⟩]⟩
def lA : List UInt8 := [35, 55, 58, 32, 53, 120, 50, 32, 102, 111, 114, 32, 49, 48, 48, 32, 98, 121, 32, 51, 59, 32, 52, 42, 49]
theorem oA_may : mayOd oA = true := by decide
theorem itoa1 {n : Int} (h0 : 0 ≤ n) (h1 : n < 10) : Lib.itoa n = [UInt8.ofNat (48 + n.toNat)] := by
  rw [itoa_dec h0, Lib.decDigits, dif_pos (by omega)]
theorem oA_text : odT oA = lA := by
  have h100 : Lib.itoa 100 = [49, 48, 48] := by
    rw [itoa_dec (by omega), Lib.decDigits, dif_neg (by decide), Lib.decDigits, dif_neg (by decide), Lib.decDigits, dif_pos (by decide)]
    rfl
  simp only [odT, oA, spsT, List.flatMap_cons, List.flatMap_nil, spT, h100, itoa1 (n := 7) (by omega) (by omega), itoa1 (n := 2) (by omega) (by omega), itoa1 (n := 5) (by omega) (by omega), itoa1 (n := 3) (by omega) (by omega), itoa1 (n := 4) (by omega) (by omega), itoa1 (n := 1) (by omega) (by omega)]
  rfl
theorem parse_lA : parseO lA = some oA := by rw [← oA_text]; exact parseO_text oA_may
theorem awake5_c {w0 w : World} {hs : List Hp} {K : KV} (E : Errs w0) (T : Tab w0) (H : Holds w0 hs w) (k : ∀ w', Holds w0 hs w' → K (.bool true) w') : gocall Tryd.prog 23 [] K w := by
  apply F23_go; unfold F23
  refine nw_h H (fun k0 w H => ?_)
  refine nw6_h H (fun k2 w H => ?_)
  refine Parse_c (s := lA) E T H (by decide) (fun r w ok H => ?_)
  rw [parse_lA] at ok ⊢
  have ok : r.Ok 2 (sps oA.steps) := ok
  refine res_h (o := oA) ?_
  refine nw6_h H (fun k32 w H => ?_)
  apply ld6_h 2 H rfl
  have hA : ∀ (hs : List Hp) (i : Nat), hs[i]? = some [(k0, .cells (sps oA.steps).toArray 52 (0, 0))] → Sl (Holds w0 hs) (some ⟨k0, 0, none⟩) 1 2 (sps oA.steps) := fun hs i h => Sl.block i h rfl
  refine Text_c (o := oA) T H (hA _ 3 rfl) (by decide) (fun w H => ?_)
  refine asStr_h ?_
  have e1 : odTx oA = lA := by rw [odTx, if_pos oA_may, oA_text]
  rw [e1]
  refine br_t ((strEq_B lA lA).trans (by simp)) ?_
  refine br_t rfl ?_
  apply ld6_h 2 H rfl
  apply ld6_h 0 H rfl
  refine Same_c (a := oA) (b := oA) H (hA _ 3 rfl) (Sl.row 1 rfl ok) (by decide) (fun w H => ?_)
  refine asBoo_h ?_
  rw [sameOd_iff.2 rfl]
  refine br_t rfl ?_
  apply ld6_h 2 H rfl
  refine at_c (l := oA.steps) H (hA _ 3 rfl) (by decide) (fun w H => ?_)
  refine asI_h ?_
  have e2 : (idx (isSvc 5) oA.steps == -1) = true := by decide
  rw [e2]
  exact k _ H.tail.tail.tail.tail
end Go.Proofs.YtiihiaicggmhjaaDoor
