/- The shallow readings of some functions of the program (printed by a program of ours out of the model's own evaluation) and, for each, the proof that it is one. Conditions: none. -/
import Derived.Test.YtjckakeolmbidaaGreatDoorM6a
set_option maxRecDepth 100000
set_option linter.unusedVariables false
namespace Go.Proofs.YtjckakeolmbidaaGreatDoor
open Go Go.Sh
def F7 (b0 : Bool) (b1 : Bool) (b2 : Bool) (x3 : Int) (K : KV) (w : World) : Prop :=
  divW (1000) (fun w4 =>
  nw (Obj.cells #[(Value.int IntKind.i64 (1000))] 3 (0, 0)) (fun k5 w6 =>
  gocall Tryz.prog (40) [(Value.int IntKind.i64 (2)), (Value.slice (some ⟨k5, 0, none⟩) (1) (1)), (Value.int IntKind.i64 (50))] (fun v7 w8 =>
  asPtr (v7) (fun p9 w10 =>
  br (p9.isNone) (fun w11 =>
  K (Value.bool (false)) (w11)) (fun w12 =>
  gocall Tryz.prog (49) [(Value.pointer p9), (Value.int IntKind.i64 (5)), (Value.bool (b0))] (fun v13 w14 =>
  asI (IntKind.i64) (v13) (fun n15 w16 =>
  br (n15 != 7) (fun w17 =>
  K (Value.bool (false)) (w17)) (fun w18 =>
  gocall Tryz.prog (41) [(Value.pointer p9), (Value.agg #[(Value.int IntKind.i64 (6)), (Value.int IntKind.i64 (0)), (Value.int IntKind.i64 (2)), (Value.int IntKind.i64 (5)), (Value.int IntKind.i64 (0)), (Value.int IntKind.i64 (0)), (Value.int IntKind.i64 (IntKind.i64.wrap (1 + IntKind.i64.wrap ((IntKind.u64.wrap x3).tmod 1000))))])] (fun v19 w20 =>
  asSl (v19) (fun p21 k22 k23 w24 =>
  br ((↑k22 : Int) != 1) (fun w25 =>
  K (Value.bool (false)) (w25)) (fun w26 =>
  slAt (p21) (k22) (0) (7) (fun a27 w28 =>
  ld (a27) (fun v29 w30 =>
  asI (IntKind.i64) (v29) (fun n31 w32 =>
  br (n31 != 7) (fun w33 =>
  K (Value.bool (false)) (w33)) (fun w34 =>
  gocall Tryz.prog (48) [(Value.pointer p9), (Value.int IntKind.i64 (5))] (fun v35 w36 =>
  asSl (v35) (fun p37 k38 k39 w40 =>
  br ((↑k38 : Int) != 2) (fun w41 =>
  K (Value.bool (false)) (w41)) (fun w42 =>
  gocall Tryz.prog (49) [(Value.pointer p9), (Value.int IntKind.i64 (5)), (Value.bool (b0))] (fun v43 w44 =>
  asI (IntKind.i64) (v43) (fun n45 w46 =>
  br (n45 != 0) (fun w47 =>
  K (Value.bool (false)) (w47)) (fun w48 =>
  gocall Tryz.prog (49) [(Value.pointer p9), (Value.int IntKind.i64 (5)), (Value.bool (!b0))] (fun v49 w50 =>
  asI (IntKind.i64) (v49) (fun n51 w52 =>
  br (n51 != 7) (fun w53 =>
  K (Value.bool (false)) (w53)) (fun w54 =>
  gocall Tryz.prog (48) [(Value.pointer p9), (Value.int IntKind.i64 (5))] (fun v55 w56 =>
  asSl (v55) (fun p57 k58 k59 w60 =>
  br ((↑k58 : Int) != 0) (fun w61 =>
  K (Value.bool (false)) (w61)) (fun w62 =>
  join (X := Unit) (fun J63 w64 =>
  br (b2) (fun w65 =>
  gocall Tryz.prog (42) [(Value.pointer p9), (Value.int IntKind.i64 (0)), (Value.int IntKind.i64 (0))] (fun v66 w67 =>
  asT (0) (v66) (fun f68 w69 =>
  gocall Tryz.prog (49) [(Value.pointer p9), (Value.int IntKind.i64 (5)), (Value.bool (b0))] (fun v70 w71 =>
  asI (IntKind.i64) (v70) (fun n72 w73 =>
  br (n72 != 10) (fun w74 =>
  K (Value.bool (false)) (w74)) (fun w75 =>
  gocall Tryz.prog (43) [(Value.pointer p9)] (fun v76 w77 =>
  asT (0) (v76) (fun f78 w79 =>
  J63 () (w79)) (w77)) (w75)) (w73)) (w71)) (w69)) (w67)) (w65)) (fun w80 =>
  J63 () (w80)) (w64)) (fun x81 w82 =>
  join (X := (Int) × Unit) (fun J83 w84 =>
  br (b0) (fun w85 =>
  J83 (IntKind.i64.wrap (1 + IntKind.i64.wrap ((IntKind.u64.wrap x3).tmod 1000)), ()) (w85)) (fun w86 =>
  J83 (0, ()) (w86)) (w84)) (fun x87 w88 =>
  join (X := (Int) × Unit) (fun J89 w90 =>
  br (b1) (fun w91 =>
  J89 (9, ()) (w91)) (fun w92 =>
  J89 (10, ()) (w92)) (w90)) (fun x93 w94 =>
  loop (X := (Int) × Unit) (0, ()) (fun x95 rec96 w97 =>
  br (decide (x95.fst < 2)) (fun w98 =>
  gocall Tryz.prog (41) [(Value.pointer p9), (Value.agg #[(Value.int IntKind.i64 (x93.fst)), (Value.int IntKind.i64 (0)), (Value.int IntKind.i64 (2)), (Value.int IntKind.i64 (5)), (Value.int IntKind.i64 (0)), (Value.int IntKind.i64 (0)), (Value.int IntKind.i64 (0))])] (fun v99 w100 =>
  asSl (v99) (fun p101 k102 k103 w104 =>
  br ((↑k102 : Int) != 1) (fun w105 =>
  K (Value.bool (false)) (w105)) (fun w106 =>
  slAt (p101) (k102) (0) (7) (fun a107 w108 =>
  ld (⟨a107.block, a107.off + 2, none⟩) (fun v109 w110 =>
  asI (IntKind.i64) (v109) (fun n111 w112 =>
  br (n111 != 0) (fun w113 =>
  K (Value.bool (false)) (w113)) (fun w114 =>
  slAt (p101) (k102) (0) (7) (fun a115 w116 =>
  ld (a115) (fun v117 w118 =>
  asI (IntKind.i64) (v117) (fun n119 w120 =>
  br (!(n119 == 17) == if true = true then !b0 == b1 else b0 == b1) (fun w121 =>
  K (Value.bool (false)) (w121)) (fun w122 =>
  slAt (p101) (k102) (0) (7) (fun a123 w124 =>
  ld (a123) (fun v125 w126 =>
  asI (IntKind.i64) (v125) (fun n127 w128 =>
  br (!(n127 == 11) == if false = true then !b0 == b1 else b0 == b1) (fun w129 =>
  K (Value.bool (false)) (w129)) (fun w130 =>
  gocall Tryz.prog (52) [(Value.pointer p9)] (fun v131 w132 =>
  asPtr (v131) (fun p133 w134 =>
  gocall Tryz.prog (53) [(Value.pointer p133)] (fun v135 w136 =>
  asI (IntKind.i64) (v135) (fun n137 w138 =>
  br (n137 != x87.fst) (fun w139 =>
  K (Value.bool (false)) (w139)) (fun w140 =>
  rec96 (IntKind.i64.wrap (x95.fst + 1), ()) (w140)) (w138)) (w136)) (w134)) (w132)) (w130)) (w128)) (w126)) (w124)) (w122)) (w120)) (w118)) (w116)) (w114)) (w112)) (w110)) (w108)) (w106)) (w104)) (w100)) (w98)) (fun w141 =>
  gocall Tryz.prog (47) [] (fun v142 w143 =>
  asBoo (v142) (fun b144 w145 =>
  K (Value.bool (b144)) (w145)) (w143)) (w141)) (w97)) (w94)) (w88)) (w82)) (w62)) (w60)) (w56)) (w54)) (w52)) (w50)) (w48)) (w46)) (w44)) (w42)) (w40)) (w36)) (w34)) (w32)) (w30)) (w28)) (w26)) (w24)) (w20)) (w18)) (w16)) (w14)) (w12)) (w10)) (w8)) (w6)) (w4)) (w)
theorem F7_eq (b0 : Bool) (b1 : Bool) (b2 : Bool) (x3 : Int) : sBody Tryz.prog [(4000013, []), (4000016, [11, 0]), (4000019, [12, 0])] Tryz.f7 [(Value.bool b0), (Value.bool b1), (Value.bool b2), (Value.int IntKind.i64 x3)] = F7 b0 b1 b2 x3 := by kernel_rfl
theorem F7_go (b0 : Bool) (b1 : Bool) (b2 : Bool) (x3 : Int) {K : KV} {w : World} (h : F7 b0 b1 b2 x3 K w) : gocall Tryz.prog 7 [(Value.bool b0), (Value.bool b1), (Value.bool b2), (Value.int IntKind.i64 x3)] K w :=
  ⟨by kernel_rfl, calls_of_sBody (T := [(4000013, []), (4000016, [11, 0]), (4000019, [12, 0])]) mixed Tryz.func7 (by kernel_rfl) (by rw [F7_eq]; exact h)⟩

def fE (b : Bool) : KE := ⟨if b = true then 4 else 5, 5, []⟩
set_option maxHeartbeats 2000000 in
theorem Forced_c {w0 w : World} {hs : List Hp} {K : KV} {x3 : Int} {b0 b1 b2 : Bool} (E : Errs w0) (T : Tab w0) (H : Sh.Holds w0 hs w) (k : ∀ w', Sh.Holds w0 hs w' → K (.bool true) w') : gocall Tryz.prog 7 [.bool b0, .bool b1, .bool b2, I x3] K w := by
  apply F7_go; unfold F7
  obtain ⟨q, hq1, hq2, eq⟩ := idx_up x3 (n := 1000) (by omega) (by omega)
  have eq : IntKind.i64.wrap (1 + IntKind.i64.wrap ((IntKind.u64.wrap x3).tmod 1000)) = q := eq
  rw [eq]
  refine ⟨by decide, ?_⟩
  refine nw_h H (fun k0 w H => ?_)
  refine newM_c 0 H rfl (fun S w I0 hg hr H => ?_)
  have hr : S.J.room = 50 := by rw [hr]; rfl
  refine asPtr_h ?_
  refine br_f rfl ?_
  have f0 : forceM (MA.run S.g []) ([] : List KE).length S.J.room 5 b0 = (none, 7) := by rw [hg, hr]; cases b0 <;> rfl
  refine forceM_c (yes := b0) T H I0 (fun S1 w I1 c1 H => ?_)
  rw [f0] at I1
  simp only [Option.toList_none, List.append_nil] at I1
  rw [f0]
  refine asI_h ?_
  refine br_f rfl ?_
  rw [← c1.n]
  have g1 : S1.g = 1000 := c1.g.trans hg
  have r1 : S1.J.room = 50 := c1.room.trans hr
  have hres : (MA.run 1000 []).B.resv 5 q = 0 := by
    show PB.resv ⟨clampB 1000, 0, [], fun _ => none⟩ 5 q = 0
    have hc : clampB 1000 = 1000 := rfl
    unfold PB.resv
    rw [hc]
    simp only [qOf, tot, List.map_nil, List.sum_nil]
    rw [if_neg (by omega), if_neg (by simp), if_neg (by omega), if_neg (by omega)]
  have hcan : canM (MA.run 1000 []) 6 5 q = true := by
    unfold canM
    rw [hres]; rfl
  have e1 : ansM (MA.run S1.g []) ([] : List KE).length S1.J.room 6 0 2 5 0 q = (some ⟨1, 5, [0, q]⟩, 7) := by
    unfold ansM
    rw [g1, r1, if_pos (by decide), hcan]
    have es : (MA.run 1000 []).s 5 = 0 := rfl
    have ev : vNext 0 6 true = (1, 7) := rfl
    rw [es, ev]
    rfl
  refine handleM_c T H I1 (fun _ => rfl) (fun h => by rw [e1] at h; exact absurd h (by simp)) (fun _ q1 S2 w I2 c2 H => ?_)
  rw [e1] at I2 H
  simp only [Option.toList_some, List.nil_append] at I2
  have g2 : S2.g = 1000 := c2.g.trans g1
  have r2 : S2.J.room = 50 := c2.room.trans r1
  have u2 := I2.up
  rw [g2] at u2
  have eB : (MA.run 1000 [⟨1, 5, [0, q]⟩]).B = ⟨1000, 0, [(5, q)], fun _ => none⟩ := by
    show PB.play (MA.run 1000 []).B 1 5 [0, q] = _
    unfold PB.play
    rw [if_pos rfl]
    show PB.take (MA.run 1000 []).B 5 q = _
    unfold PB.take
    rw [if_pos hres]; rfl
  refine asSl_h ?_
  refine br_f rfl ?_
  refine slAt_b (by omega) (by omega) ?_
  refine ld_h (v := I 7) 0 H rfl rfl ?_; refine asI_h ?_
  refine br_f rfl ?_
  rw [← c2.n]
  refine ringM_c (S := S2) H I2 (fun h => absurd (u2.s 5) (fun e => h (by rw [e]; rfl))) (fun _ q2 w H => ?_)
  refine asSl_h ?_
  refine br_f rfl ?_
  have s1 : (MA.run 1000 [⟨1, 5, [0, q]⟩]).s 5 = 1 := rfl
  have f1 : forceM (MA.run S2.g [⟨1, 5, [0, q]⟩]) ([⟨1, 5, [0, q]⟩] : List KE).length S2.J.room 5 b0 = (some (fE b0), 0) := by
    unfold forceM
    rw [g2, r2, s1]
    cases b0 <;> rfl
  refine forceM_c (yes := b0) T H I2 (fun S3 w I3 c3 H => ?_)
  rw [f1] at I3
  simp only [Option.toList_some, List.singleton_append] at I3
  rw [f1]
  refine asI_h ?_
  refine br_f rfl ?_
  rw [← c3.n]
  have g3 : S3.g = 1000 := c3.g.trans g2
  have r3 : S3.J.room = 50 := c3.room.trans r2
  have s2 : (MA.run 1000 [⟨1, 5, [0, q]⟩, fE b0]).s 5 = if b0 = true then 4 else 5 := by cases b0 <;> rfl
  have t2 : (MA.run 1000 [⟨1, 5, [0, q]⟩, fE b0]).B.t = if b0 = true then q else 0 := by
    show (PB.play (MA.run 1000 [⟨1, 5, [0, q]⟩]).B (fE b0).st 5 []).t = _
    rw [eB]
    cases b0
    · rfl
    · show 0 + q = q
      omega
  have f2 : forceM (MA.run S3.g [⟨1, 5, [0, q]⟩, fE b0]) ([⟨1, 5, [0, q]⟩, fE b0] : List KE).length S3.J.room 5 (!b0) = (none, 7) := by
    unfold forceM
    rw [g3, r3, s2]
    cases b0 <;> rfl
  refine forceM_c (yes := !b0) T H I3 (fun S4 w I4 c4 H => ?_)
  rw [f2] at I4
  simp only [Option.toList_none, List.append_nil] at I4
  rw [f2]
  refine asI_h ?_
  refine br_f rfl ?_
  rw [← c4.n]
  have g4 : S4.g = 1000 := c4.g.trans g3
  have r4 : S4.J.room = 50 := c4.room.trans r3
  have u4 := I4.up
  rw [g4] at u4
  refine ringM_c (S := S4) H I4 (fun _ w H => ?_) (fun h => by rw [u4.s, s2] at h; cases b0 <;> simp at h)
  refine asSl_h ?_
  refine br_f rfl ?_
  have H : Sh.Holds w0 (S4.hp :: hs) w := H.re
  refine ⟨fun _ w => ∃ S' : Mp, MpIs S' [⟨1, 5, [0, q]⟩, fE b0] false ∧ S'.n = S4.n ∧ S'.g = 1000 ∧ S'.J.room = 50 ∧ Sh.Holds w0 (S'.hp :: hs) w, ?_, ?_⟩
  · refine br_s (fun h => ?_) (fun h => ?_)
    · refine crashM_c H I4 (fun S5 w I5 c5 H => ?_)
      refine asT_e [] rfl rfl ?_
      rw [← c5.n]
      refine forceDownM_c (S := S5) (yes := b0) H I5.dn (fun w H => ?_)
      refine asI_h ?_
      refine br_f rfl ?_
      refine startM_c E T H I5 (fun S6 w I6 c6 H => ?_)
      refine asT_e [] rfl rfl ?_
      exact ⟨S6, I6, c6.n, c6.g.trans (c5.g.trans g4), c6.room.trans (c5.room.trans r4), H⟩
    · exact ⟨S4, I4, rfl, g4, r4, H⟩
  · generalize S4.n = nn
    rintro u w P0
    refine ⟨fun x w' => x.1 = (if b0 = true then q else 0) ∧ w' = w, ?_, ?_⟩
    · cases b0
      · exact ⟨rfl, rfl⟩
      · exact ⟨rfl, rfl⟩
    rintro ⟨tl, u1⟩ w' ⟨htl, rfl⟩
    refine ⟨fun x w'' => x.1 = (if b1 = true then 9 else 10) ∧ w'' = w', ?_, ?_⟩
    · cases b1
      · exact ⟨rfl, rfl⟩
      · exact ⟨rfl, rfl⟩
    rintro ⟨kd, u3⟩ w'' ⟨hkd, rfl⟩
    simp only at htl hkd
    refine ⟨fun x w => (0 ≤ x.1 ∧ x.1 ≤ 2) ∧ ∃ S' : Mp, MpIs S' [⟨1, 5, [0, q]⟩, fE b0] false ∧ S'.n = nn ∧ S'.g = 1000 ∧ S'.J.room = 50 ∧ Sh.Holds w0 (S'.hp :: hs) w, fun x _ => (2 - x.1).toNat, ⟨⟨by simp, by simp⟩, P0⟩, ?_⟩
    rintro ⟨i, u5⟩ w ⟨⟨h0, h1⟩, S5, I5, n5, g5, r5, H⟩
    simp only at h0 h1
    subst n5
    refine br_s (fun h2 => ?_) (fun h2 => ?_)
    · simp only [decide_eq_true_eq] at h2
      have e5 : ansM (MA.run S5.g [⟨1, 5, [0, q]⟩, fE b0]) ([⟨1, 5, [0, q]⟩, fE b0] : List KE).length S5.J.room kd 0 2 5 0 0 = (none, if b0 = b1 then 11 else 17) := by
        unfold ansM
        rw [g5, r5, if_pos (by decide), s2, hkd]
        generalize canM _ _ _ _ = cc
        cases b0 <;> cases b1 <;> cases cc <;> rfl
      refine handleM_c T H I5 (fun _ => rfl) (fun h => by rw [e5] at h; cases b0 <;> cases b1 <;> simp at h) (fun _ q3 S6 w I6 c6 H => ?_)
      rw [e5] at I6 H
      simp only [Option.toList_none, List.append_nil] at I6
      have g6 : S6.g = 1000 := c6.g.trans g5
      have u6 := I6.up
      rw [g6] at u6
      have hto : toK (if b0 = b1 then 11 else 17) 0 = 0 := by cases b0 <;> cases b1 <;> rfl
      refine asSl_h ?_
      rw [← c6.n]
      refine br_f rfl ?_
      refine slAt_b (by omega) (by omega) ?_
      refine ld_h (v := I (toK (if b0 = b1 then 11 else 17) 0)) 0 H rfl rfl ?_; refine asI_h ?_
      refine br_f (by rw [hto]; rfl) ?_
      refine slAt_b (by omega) (by omega) ?_
      refine ld_h (v := I (if b0 = b1 then 11 else 17)) 0 H rfl rfl ?_; refine asI_h ?_
      refine br_f (by cases b0 <;> cases b1 <;> rfl) ?_
      refine slAt_b (by omega) (by omega) ?_
      refine ld_h (v := I (if b0 = b1 then 11 else 17)) 0 H rfl rfl ?_; refine asI_h ?_
      refine br_f (by cases b0 <;> cases b1 <;> rfl) ?_
      refine moneyM_c (S := S6) H (fun w H => ?_)
      refine asPtr_h ?_
      refine tillS_c (S := S6) H (fun w H => ?_)
      rw [u6.B, t2]
      refine asI_h ?_
      refine br_f (by simp [htl]) ?_
      have w1 : IntKind.wrap .i64 (i + 1) = i + 1 := wrap64 (by omega) (by omega)
      simp only [w1]
      exact ⟨⟨⟨by omega, by omega⟩, S6, I6, rfl, g6, c6.room.trans r5, H.re⟩, by omega⟩
    · refine awakeK_c T H (fun w H => ?_)
      refine asBoo_h ?_
      exact k _ H.tail
end Go.Proofs.YtjckakeolmbidaaGreatDoor
