/- What law19's ServiceOrders computes: true. Conditions: none. -/
import Derived.Test.YtjckakeolmbidaaDoorFVO
set_option linter.unusedVariables false
set_option maxRecDepth 100000
namespace Go.Proofs.YtjckakeolmbidaaDoor
open Go Go.Sh

theorem idx_one (x : Int) {n : Nat} (h0 : 0 < n) (hn : n ≤ 100000) : ∃ m : Int, 1 ≤ m ∧ m ≤ n ∧ IntKind.i64.wrap (1 + IntKind.i64.wrap ((IntKind.u64.wrap x).tmod (n : Int))) = m := by
  have e2 : 0 ≤ IntKind.u64.wrap x := by rw [show IntKind.u64.wrap x = x % 18446744073709551616 by simp [IntKind.wrap, IntKind.bits, IntKind.signed]]; omega
  generalize IntKind.u64.wrap x = u at *
  rw [Int.tmod_eq_emod_of_nonneg e2]
  have h1 := Int.emod_nonneg u (b := (n : Int)) (by omega)
  have h2 := Int.emod_lt_of_pos u (b := (n : Int)) (by omega)
  refine ⟨1 + u % n, by omega, by omega, ?_⟩
  rw [wrap64 (n := u % n) (by omega) (by omega), wrap64 (by omega) (by omega)]
theorem new_is {S : Sv} (ok : S.Ok) (h1 : S.J.lines = []) (h2 : S.J.sure = 0) (h3 : S.J.down = false) (h4 : S.B.left = clampB S.room) (h5 : ∀ y, S.B.h y = 0) (h6 : ∀ y, S.s y = 0) : SvIs S [] false :=
  ⟨ok, by rw [h1]; rfl, by simp, by rw [h2]; rfl, h3, by simp, by simp only [Bool.false_eq_true, if_false]; exact ⟨h4, h5, h6⟩⟩
set_option maxHeartbeats 1000000 in
theorem Orders_c {w0 w : World} {hs : List Hp} {K : KV} {x0 x1 : Int} {b : Bool} (E : Errs w0) (T : Tab w0) (H : Sh.Holds w0 hs w) (k : ∀ w', Sh.Holds w0 hs w' → K (.bool true) w') : gocall Tryd.prog 7 [I x0, I x1, .bool b] K w := by
  apply F7_go; unfold F7
  obtain ⟨a, ha1, ha2, ea⟩ := idx_one x0 (n := 100) (by omega) (by omega)
  obtain ⟨c, hc1, hc2, ec⟩ := idx_one x1 (n := 100) (by omega) (by omega)
  have ea : IntKind.i64.wrap (1 + IntKind.i64.wrap ((IntKind.u64.wrap x0).tmod 100)) = a := ea
  have ec : IntKind.i64.wrap (1 + IntKind.i64.wrap ((IntKind.u64.wrap x1).tmod 100)) = c := ec
  rw [ea, ec]
  refine ⟨by decide, ?_⟩
  refine ⟨by decide, ?_⟩
  refine newS_c H (by omega) (fun S w ok a1 a2 a3 a4 a5 a6 a7 a8 a9 H => ?_)
  have I0 := new_is ok a3 a4 a5 (by rw [a7, a2]) a8 a9
  have hr : S.J.room = 50 := by rw [a6]; decide
  refine asPtr_h ?_
  have t1 : takeA 200 (fun _ => 0) 1 a = 0 := by unfold takeA; rw [if_neg (by omega), if_neg (by simp), if_neg (by omega)]
  have z0 : SA.run S.room [] = ⟨200, fun _ => 0, fun _ => 0⟩ := by rw [a2]; rfl
  have e1 : ansE S [] 1 0 4 1 a = (some (.did 1 a), 2) := by
    unfold ansE
    rw [if_pos ⟨a1.symm, rfl, by omega, by omega, .inl rfl⟩, if_pos rfl, z0, hr]
    simp [SA.doE, t1]
  refine handleI_c T H I0 (fun h0 => by rw [e1] at h0; simp at h0) (fun _ q1 S1 w I1 c1 H => ?_)
  rw [e1] at I1 H
  refine asSl_h ?_
  rw [← c1.n]
  have r1 : S1.J.room = 50 := by rw [c1.jroom, hr]
  have z1 : SA.run S1.room [.did 1 a] = ⟨200 - a, fun x => if x = 1 then a else 0, fun x => if x = 1 then 1 else 0⟩ := by
    rw [show ([.did 1 a] : List SE) = [] ++ [.did 1 a] from rfl, SA.run_add, c1.room, z0]
    simp [SA.step, t1]
  replace I1 : SvIs S1 [.did 1 a] false := I1
  replace H : Sh.Holds w0 ([(q1, ansO 2 S.node 1 0)] :: S1.hp :: hs) w := H
  -- the end of all
  have fin : ∀ {S2 : Sv} {es : List SE} {l : Int} {w : World}, SvIs S2 es false → S2.n = S1.n → (SA.run S2.room es).s 2 = 0 → S2.J.room = 50 → es.length < 50 → S2.node = 4 → takeA (SA.run S2.room es).left (SA.run S2.room es).h 2 c = 0 → l = (SA.run S2.room es).left - c → Sh.Holds w0 ([(q1, ansO 2 S.node 1 0)] :: S2.hp :: hs) w →
      gocall Tryd.prog 30 [.pointer (some ⟨S1.n, 0, none⟩), msgV 1 0 4 2 0 c 0] (fun v w => asSl v (fun p n _ w => gocall Tryd.prog 28 [.pointer (some ⟨S1.n, 0, none⟩), I 0, I 0] (fun v w => asT 0 v (fun _ w => gocall Tryd.prog 31 [.pointer (some ⟨S1.n, 0, none⟩)] (fun v w => asT 0 v (fun _ w =>
        br ((1 : Int) == 1) (fun w => slAt (some ⟨q1, 0, none⟩) 1 0 7 (fun a w => ld a (fun v w => asI .i64 v (fun n1 w => br (n1 == 2) (fun w => br ((n : Int) == 1) (fun w => slAt p n 0 7 (fun a w => ld a (fun v w => asI .i64 v (fun n2 w => br (n2 == 2) (fun w =>
          gocall Tryd.prog 32 [.pointer (some ⟨S1.n, 0, none⟩), I 2] (fun v w => asI .i64 v (fun n3 w => br (n3 == 1) (fun w => gocall Tryd.prog 33 [.pointer (some ⟨S1.n, 0, none⟩)] (fun v w => asI .i64 v (fun n4 w => br (n4 == l) (fun w =>
            gocall Tryd.prog 34 [] (fun v w => asBoo v (fun b w => K (.bool b) w) w) w) (fun w => K (.bool false) w) w) w) w) (fun w => K (.bool false) w) w) w) w) (fun w => K (.bool false) w) w) w) w) w) (fun w => K (.bool false) w) w) (fun w => K (.bool false) w) w) w) w) w) (fun w => K (.bool false) w) w) w) w) w) w) w) w := by
    intro S2 es l w I2 hn hs0 hr2 hl hnode htk hlv H
    rw [← hn]
    have e2 : ansE S2 es 1 0 4 2 c = (some (.did 2 c), 2) := by
      unfold ansE
      rw [if_pos ⟨hnode.symm, rfl, by omega, by omega, .inl rfl⟩, if_pos rfl, hr2]
      unfold SA.doE
      rw [if_neg (by omega), if_pos hs0, if_pos (by omega), if_pos htk]
    refine handleI_c T H I2 (fun h0 => by rw [e2] at h0; simp at h0) (fun _ q3 S3 w I3 c3 H => ?_)
    rw [e2] at I3 H
    refine asSl_h ?_
    rw [← c3.n]
    refine crashS_c H I3 (fun S4 w I4 n4 d4 m4 j4 H => ?_)
    refine asT_e [] rfl rfl ?_
    rw [← n4]
    refine startS_c E T H I4 (fun S5 w I5 n5 d5 m5 j5 H => ?_)
    refine asT_e [] rfl rfl ?_
    rw [← n5]
    have u := I5.up
    have hrm : S5.room = S2.room := by rw [m5, m4, c3.room]
    have z5 : SA.run S5.room (es ++ [.did 2 c]) = (SA.run S2.room es).step (.did 2 c) := by rw [hrm, SA.run_add]
    simp only [Option.toList_some] at u
    rw [z5] at u
    refine br_t rfl ?_
    refine slAt_b (by omega) (by omega) ?_
    replace H : Sh.Holds w0 (S5.hp :: [(q3, .cells #[I 2, I S2.node, I 0, I 2, I 0, I 0, I 0] 30 (0, 0))] :: [(q1, .cells #[I 2, I S.node, I 0, I 1, I 0, I 0, I 0] 30 (0, 0))] :: hs) w := H
    apply ld_h 2 H rfl rfl; refine asI_h ?_
    refine br_t rfl ?_
    refine br_t rfl ?_
    refine slAt_b (by omega) (by omega) ?_
    apply ld_h 1 H rfl rfl; refine asI_h ?_
    refine br_t rfl ?_
    refine stateS_c (S := S5) 0 H rfl (fun w H => ?_)
    refine asI_h ?_
    refine br_t (by rw [u.s]; simp [SA.step]) ?_
    refine leftS_c (S := S5) 0 H rfl (fun w H => ?_)
    refine asI_h ?_
    refine br_t (by rw [u.left]; simp only [SA.step]; rw [if_pos htk, hlv]; simp) ?_
    refine awakeV_c T H (fun w H => ?_)
    refine asBoo_h ?_
    exact k _ H.tail.tail.tail
  cases b with
  | true =>
    refine br_t rfl ?_
    have e2 : ansE S1 [.did 1 a] 4 0 4 1 0 = (some (.undid 1), 5) := by
      unfold ansE
      rw [if_pos ⟨by rw [c1.node, a1], rfl, by omega, by omega, .inr rfl⟩, if_neg (by omega), z1, r1]
      simp [SA.undoE]
    refine handleI_c T H I1 (fun h0 => by rw [e2] at h0; simp at h0) (fun _ q2 S2 w I2 c2 H => ?_)
    rw [e2] at I2 H
    refine asSl_h ?_
    have z2 : SA.run S2.room ([.did 1 a] ++ [.undid 1]) = ⟨200, fun _ => 0, fun x => if x = 1 then 3 else if x = 1 then 1 else 0⟩ := by
      rw [SA.run_add, c2.room, z1]
      simp only [SA.step, if_true]
      congr 1
      · omega
      · funext x
        by_cases hx : x = 1
        · rw [if_pos hx]
        · rw [if_neg hx, if_neg hx]
    have tk : takeA 200 (fun _ => 0) 2 c = 0 := by unfold takeA; rw [if_neg (by omega), if_neg (by simp), if_neg (by omega)]
    refine fin (l := IntKind.i64.wrap (IntKind.i64.wrap (200 - 0) - c)) I2 c2.n (by simp only [Option.toList_some]; rw [z2]; simp) (by rw [c2.jroom, r1]) (by simp) (by rw [c2.node, c1.node, a1]) (by simp only [Option.toList_some]; rw [z2]; exact tk) ?_ H.re
    simp only [Option.toList_some]
    rw [z2, wrap64 (n := 200 - 0) (by omega) (by omega), wrap64 (by omega) (by omega)]
    simp
  | false =>
    refine br_f rfl ?_
    have tk : takeA (200 - a) (fun x => if x = 1 then a else 0) 2 c = 0 := by unfold takeA; rw [if_neg (by omega), if_neg (by simp), if_neg (by omega)]
    refine fin (l := IntKind.i64.wrap (IntKind.i64.wrap (200 - a) - c)) I1 rfl (by rw [z1]; simp) r1 (by simp) (by rw [c1.node, a1]) (by rw [z1]; exact tk) ?_ H
    rw [z1, wrap64 (n := 200 - a) (by omega) (by omega), wrap64 (by omega) (by omega)]
end Go.Proofs.YtjckakeolmbidaaDoor
