/- The chief, texts put together. Conditions: none. -/
import Derived.Test.YtcfmnoimehcfnaaGreatDoorXB
set_option linter.unusedVariables false
set_option linter.unusedSimpArgs false
set_option maxRecDepth 100000
namespace Go.Proofs.YtcfmnoimehcfnaaGreatDoor
open Go Go.Sh

def withT (S : Ch) (T : Tw) : Ch := ⟨S.n, S.most, S.room, S.tr, S.J, S.used, S.m, S.l, S.c, T, S.X⟩
theorem ChIs.withT {S : Ch} {P : CP} {s : CS} (I0 : ChIs S P s) {T : Tw} {B : Int → Option Int} (ok : T.Ok) (htr : T.tr = S.T.tr) (hB : T.B = B) : ChIs (withT S T) P { s with B := B } :=
  ⟨⟨I0.ok.j, I0.ok.m, ok, I0.ok.x, I0.ok.g, I0.ok.r, I0.ok.u⟩, I0.lines, I0.wf, I0.sure, I0.le, I0.dn, I0.len, I0.used, I0.jroom, I0.room, I0.most, ⟨htr.trans I0.tries.1, I0.tries.2⟩, I0.L, hB, I0.eq⟩
theorem ChK.withT (S : Ch) {T : Tw} (hb : T.b = S.T.b) : ChK S (withT S T) := ⟨rfl, rfl, rfl, hb, fun _ _ h => h⟩
section
variable {w0 w : World} {hs R : List Hp} {K : KV}
theorem mlook {S : Ch} {md : Md} {id : Int} (i : Nat) (H : Sh.Holds w0 hs w) (hi : hs[i]? = some [(S.m, mapG S.l S.c)]) (ok : S.Ok) (k0 : S.L id = none → K (.pointer none) w) (k1 : ∀ p x, S.L id = some x → LedP S id p → K (.pointer (some ⟨p, 0, none⟩)) w) : mget md Tryz.prog 133 (.map (some S.m)) (I id) false K w := by
  refine mgetG_h TML i H hi ?_
  cases hL : S.L id with
  | none => rw [ok.g, ok.none hL]; exact k0 hL
  | some x =>
    obtain ⟨p, hp⟩ := LedP.of ok hL
    have hp' : getG S.l id = some (.pointer (some ⟨p, 0, none⟩)) := hp
    rw [hp']
    exact k1 p x hL hp
theorem downC_c {S : Ch} (H : Sh.Holds w0 hs w) [D : Del hs S.hp R] (k : ∀ w', Sh.Holds w0 (S.hp :: R) w' → K (.bool S.J.down) w') : gocall Tryz.prog 91 [S.v] K w := by
  replace H := openC (H.get S.hp)
  apply F91_go; unfold F91
  refine br_t rfl ?_
  (with_reducible repeat first|refine ldA (by assumption) ?_|refine Stp.imp ?_|refine stA (by assumption) rfl fun _ _=>?_|refine nw_h (by assumption) fun _ _ _=>?_|refine ldSA ?_|refine asT_e [] rfl rfl ?_|refine ldD (by assumption) ?_|refine nwD (by assumption) fun _ _ _=>?_)
  refine downJ_c (J := S.J) 1 H rfl (fun w H => ?_)
  (with_reducible repeat first|refine ldA (by assumption) ?_|refine Stp.imp ?_|refine stA (by assumption) rfl fun _ _=>?_|refine nw_h (by assumption) fun _ _ _=>?_|refine ldSA ?_|refine asT_e [] rfl rfl ?_|refine ldD (by assumption) ?_|refine nwD (by assumption) fun _ _ _=>?_)
  exact k _ (shutC H)
theorem goes_c {S : Ch} {P : CP} {s : CS} {id : Int} {p : Nat} {x : Ld} (T : Tab w0) (H : Sh.Holds w0 hs w) [D : Del hs S.hp R] (I0 : ChIs S P s) (hL : s.L id = some x) (hp : LedP S id p)
    (k : ∀ (r : Row) (S' : Ch) w', ChIs S' P (goesC P s id).1 → ChK S S' → r.Ok 7 (mgs (goesC P s id).2) → Sh.Holds w0 (r.hp 35 :: S'.hp :: R) w' → K r.v w') :
    gocall Tryz.prog 105 [S.v, .pointer (some ⟨p, 0, none⟩)] K w := by
  have hL' : S.L id = some x := by rw [I0.L]; exact hL
  obtain ⟨c, A, Bs, g⟩ := ledGet I0.ok hL' hp
  have gx := g.xe
  have gp := g.pe
  subst gx gp
  replace H := openL (g.out (H.get S.hp))
  have es : goesC P s id = if overF c.x.o c.x.f = true then (cutC (againC P s id) id, []) else sendsC P (againC P s id) id := by unfold goesC; rw [hL]
  apply F105_go; unfold F105
  replace H := H.drew
  (with_reducible repeat first|refine ldA (by assumption) ?_|refine Stp.imp ?_|refine stA (by assumption) rfl fun _ _=>?_|refine nw_h (by assumption) fun _ _ _=>?_|refine ldSA ?_|refine asT_e [] rfl rfl ?_|refine ldD (by assumption) ?_|refine nwD (by assumption) fun _ _ _=>?_)
  rw [g.ide]
  refine again_c (T := S.T) (id := id) H I0.ok.T (fun b T1 w ok1 to1 H => ?_)
  obtain ⟨t1, t2, t3⟩ := to1
  (with_reducible repeat first|refine ldA (by assumption) ?_|refine Stp.imp ?_|refine stA (by assumption) rfl fun _ _=>?_|refine nw_h (by assumption) fun _ _ _=>?_|refine ldSA ?_|refine asT_e [] rfl rfl ?_|refine ldD (by assumption) ?_|refine nwD (by assumption) fun _ _ _=>?_)
  have ev : S.T.v = T1.v := by show Value.pointer _ = Value.pointer _; rw [t1]
  rw [ev] at H
  have H2 : Sh.Holds w0 ((withT S T1).hp :: R) w := by
    have H3 : Sh.Holds w0 ([(c.p, .cells #[I c.x.o.id, I c.x.o.item, I c.x.o.qty, I c.x.o.client, I c.x.o.price, c.sR.v, c.dR.v, c.uR.v, .bool c.x.f.asked, .bool c.x.f.yes, .bool c.x.f.turned, .bool c.x.f.a0, .bool c.x.f.a1, .bool c.x.f.shipped, .bool c.x.f.d0, .bool c.x.f.d1, .bool c.x.f.acc, .pointer (taP c.T)] 147 (0, 0))] :: c.sR.hp 81 :: c.dR.hp 4 :: c.uR.hp 4 :: taH c.T c.x.t :: ledsH (A ++ Bs) :: [(S.n, .cells #[I S.most, I S.room, I S.tr, S.J.v, I S.used, .map (some S.m), T1.v] 136 (0, 0))] :: S.J.hp :: [(S.m, mapG S.l S.c)] :: T1.hp :: R) w := Holds.re H
    have g1 : LedG (withT S T1) id c.p c.x c A Bs := ⟨g.hX, g.xe, g.pe, g.ide, g.hA, g.ok, g.le⟩
    exact g1.back (shutL H3)
  clear H
  have I1 : ChIs (withT S T1) P (againC P s id) := I0.withT ok1 t2 (by
    rw [t3, I0.B, I0.tries.1]
    split
    · rfl
    · rename_i h
      have : s.B id = none := by cases e : s.B id with
        | none => rfl
        | some v => rw [e] at h; exact absurd rfl h
      have h2 := updI_same s.B id
      rw [this] at h2; exact h2)
  have hL1 : (againC P s id).L id = some c.x := hL
  have hp1 : LedP (withT S T1) id c.p := hp
  have c1 : ChK S (withT S T1) := .withT S t1
  refine overS_c (S := withT S T1) H2 I1.ok hL' hp1 (fun w H => ?_)
  (with_reducible repeat first|refine ldA (by assumption) ?_|refine Stp.imp ?_|refine stA (by assumption) rfl fun _ _=>?_|refine nw_h (by assumption) fun _ _ _=>?_|refine ldSA ?_|refine asT_e [] rfl rfl ?_|refine ldD (by assumption) ?_|refine nwD (by assumption) fun _ _ _=>?_)
  refine br_s (fun h => ?_) (fun h => ?_)
  · rw [if_pos h] at es
    rw [es] at k
    replace H := openL ((show LedG (withT S T1) id c.p c.x c A Bs from ⟨g.hX, g.xe, g.pe, g.ide, g.hA, g.ok, g.le⟩).out H.drew)
    replace H : Sh.Holds w0 ([(c.p, .cells #[I c.x.o.id, I c.x.o.item, I c.x.o.qty, I c.x.o.client, I c.x.o.price, c.sR.v, c.dR.v, c.uR.v, .bool c.x.f.asked, .bool c.x.f.yes, .bool c.x.f.turned, .bool c.x.f.a0, .bool c.x.f.a1, .bool c.x.f.shipped, .bool c.x.f.d0, .bool c.x.f.d1, .bool c.x.f.acc, .pointer (taP c.T)] 147 (0, 0))] :: c.sR.hp 81 :: c.dR.hp 4 :: c.uR.hp 4 :: taH c.T c.x.t :: ledsH (A ++ Bs) :: [(S.n, .cells #[I S.most, I S.room, I S.tr, S.J.v, I S.used, .map (some S.m), T1.v] 136 (0, 0))] :: S.J.hp :: [(S.m, mapG S.l S.c)] :: T1.hp :: R) _ := H
    (with_reducible repeat first|refine ldA (by assumption) ?_|refine Stp.imp ?_|refine stA (by assumption) rfl fun _ _=>?_|refine nw_h (by assumption) fun _ _ _=>?_|refine ldSA ?_|refine asT_e [] rfl rfl ?_|refine ldD (by assumption) ?_|refine nwD (by assumption) fun _ _ _=>?_)
    rw [g.ide]
    refine cut_c (T := T1) (id := id) H ok1 (fun b T2 w ok2 to2 H => ?_)
    obtain ⟨q1, q2, q3⟩ := to2
    (with_reducible repeat first|refine ldA (by assumption) ?_|refine Stp.imp ?_|refine stA (by assumption) rfl fun _ _=>?_|refine nw_h (by assumption) fun _ _ _=>?_|refine ldSA ?_|refine asT_e [] rfl rfl ?_|refine ldD (by assumption) ?_|refine nwD (by assumption) fun _ _ _=>?_)
    have ev2 : T1.v = T2.v := by show Value.pointer _ = Value.pointer _; rw [q1]
    rw [ev2] at H
    have H3 : Sh.Holds w0 ([(c.p, .cells #[I c.x.o.id, I c.x.o.item, I c.x.o.qty, I c.x.o.client, I c.x.o.price, c.sR.v, c.dR.v, c.uR.v, .bool c.x.f.asked, .bool c.x.f.yes, .bool c.x.f.turned, .bool c.x.f.a0, .bool c.x.f.a1, .bool c.x.f.shipped, .bool c.x.f.d0, .bool c.x.f.d1, .bool c.x.f.acc, .pointer (taP c.T)] 147 (0, 0))] :: c.sR.hp 81 :: c.dR.hp 4 :: c.uR.hp 4 :: taH c.T c.x.t :: ledsH (A ++ Bs) :: [(S.n, .cells #[I S.most, I S.room, I S.tr, S.J.v, I S.used, .map (some S.m), T2.v] 136 (0, 0))] :: S.J.hp :: [(S.m, mapG S.l S.c)] :: T2.hp :: R) w := Holds.re H
    have g2 : LedG (withT (withT S T1) T2) id c.p c.x c A Bs := ⟨g.hX, g.xe, g.pe, g.ide, g.hA, g.ok, g.le⟩
    have H4 : Sh.Holds w0 ((withT (withT S T1) T2).hp :: R) w := g2.back (shutL H3)
    exact k Row.nil _ w (I1.withT ok2 q2 (by rw [q3, show T1.B = (againC P s id).B from I1.B])) (c1.trans (.withT _ q1)) (Row.nil_ok 7) (Holds.nil H4)
  · rw [if_neg (by simp [h])] at es
    rw [es] at k
    refine sends_c (S := withT S T1) T H I1 hL1 hp1 (fun r S2 w I2 c2 okr H => ?_)
    (with_reducible repeat first|refine ldA (by assumption) ?_|refine Stp.imp ?_|refine stA (by assumption) rfl fun _ _=>?_|refine nw_h (by assumption) fun _ _ _=>?_|refine ldSA ?_|refine asT_e [] rfl rfl ?_|refine ldD (by assumption) ?_|refine nwD (by assumption) fun _ _ _=>?_)
    exact k r S2 _ I2 (c1.trans c2) okr H
theorem turns_c {S : Ch} {P : CP} {s : CS} {id : Int} {p : Nat} {x : Ld} (T : Tab w0) (H : Sh.Holds w0 hs w) [D : Del hs S.hp R] (I0 : ChIs S P s) (hL : s.L id = some x) (hp : LedP S id p)
    (k : ∀ (r : Row) (S' : Ch) w', ChIs S' P (turnsC P s id).1 → ChK S S' → r.Ok 7 (mgs (turnsC P s id).2.1) → Sh.Holds w0 (r.hp 35 :: S'.hp :: R) w' → K (.tuple #[r.v, I (turnsC P s id).2.2]) w') :
    gocall Tryz.prog 114 [S.v, .pointer (some ⟨p, 0, none⟩)] K w := by
  have hL' : S.L id = some x := by rw [I0.L]; exact hL
  obtain ⟨c, A, Bs, g⟩ := ledGet I0.ok hL' hp
  have hid := I0.id hL
  have gx := g.xe
  have gp := g.pe
  subst gx gp
  replace H := openL (g.out (H.get S.hp))
  apply F114_go; unfold F114
  (with_reducible repeat first|refine ldA (by assumption) ?_|refine Stp.imp ?_|refine stA (by assumption) rfl fun _ _=>?_|refine nw_h (by assumption) fun _ _ _=>?_|refine ldSA ?_|refine asT_e [] rfl rfl ?_|refine ldD (by assumption) ?_|refine nwD (by assumption) fun _ _ _=>?_)
  rw [g.ide]
  refine entry_c H (fun w H => ?_)
  refine asN_e [_, _, _] rfl rfl ?_
  refine asStr_e rfl ?_
  refine asI_e rfl ?_
  refine asSl_e rfl ?_
  have H0 := g.back (shutL H)
  clear H
  refine nw_h H0 (fun q w H => ?_)
  replace H : Sh.Holds w0 ([(q, .cells #[.string (B (ceL 7)), I id, .slice none 0 0] 139 (0, 0))] :: S.hp :: R) w := H
  refine sures_c (l := [(⟨7, id, []⟩, none, 0, 0)]) T H I0 (EsS.one (e := ⟨7, id, []⟩) Sl.nil) (by simp) (okSeq.one (okE_bare hid (.inr (.inr (.inl rfl))))) (fun hN w H => ?_) (fun s' hN S1 w I1 c1 H => ?_)
  · have hN : suresC P s [⟨7, id, []⟩] = none := hN
    have e : turnsC P s id = (s, [], 5) := by unfold turnsC; rw [hN]
    rw [e] at k
    (with_reducible repeat first|refine ldA (by assumption) ?_|refine Stp.imp ?_|refine stA (by assumption) rfl fun _ _=>?_|refine nw_h (by assumption) fun _ _ _=>?_|refine ldSA ?_|refine asT_e [] rfl rfl ?_|refine ldD (by assumption) ?_|refine nwD (by assumption) fun _ _ _=>?_)
    refine br_t rfl ?_
    exact k Row.nil S w I0 (.rfl' S) (Row.nil_ok 7) (Holds.nil (Holds.re H))
  · have hN : suresC P s [⟨7, id, []⟩] = some s' := hN
    have e : turnsC P s id = ((goesC P s' id).1, (goesC P s' id).2, 0) := by unfold turnsC; rw [hN]
    rw [e] at k
    (with_reducible repeat first|refine ldA (by assumption) ?_|refine Stp.imp ?_|refine stA (by assumption) rfl fun _ _=>?_|refine nw_h (by assumption) fun _ _ _=>?_|refine ldSA ?_|refine asT_e [] rfl rfl ?_|refine ldD (by assumption) ?_|refine nwD (by assumption) fun _ _ _=>?_)
    refine br_f rfl ?_
    have hL1 : ∃ y, s'.L id = some y := by
      have := sures_L hN
      rw [this]
      show ∃ y, playC s.L ⟨7, id, []⟩ id = some y
      unfold playC
      rw [if_neg (by simp)]
      simp only [hL, updI, if_true]
      exact ⟨_, rfl⟩
    obtain ⟨y, hy⟩ := hL1
    have en : S.n = S1.n := c1.n.symm
    rw [en]
    refine goes_c (S := S1) T H I1 hy (hp.keep c1) (fun r S2 w I2 c2 okr H => ?_)
    (with_reducible repeat first|refine ldA (by assumption) ?_|refine Stp.imp ?_|refine stA (by assumption) rfl fun _ _=>?_|refine nw_h (by assumption) fun _ _ _=>?_|refine ldSA ?_|refine asT_e [] rfl rfl ?_|refine ldD (by assumption) ?_|refine nwD (by assumption) fun _ _ _=>?_)
    exact k r S2 _ I2 (c1.trans c2) okr (Holds.re H)
theorem newC_c {a b t : Int} (H : Sh.Holds w0 hs w) (k : ∀ (S : Ch) w', ChIs S ⟨(if (if 64 < a then 64 else a) > 1 then if 64 < a then 64 else a else 1), roomB b, triesB t⟩ CS.zero → Sh.Holds w0 (S.hp :: hs) w' → K S.v w') : gocall Tryz.prog 17 [I a, I b, I t] K w := by
  apply F17_go; unfold F17
  refine newJ_c H (fun J w okJ j1 j2 j3 j4 H => ?_)
  refine asPtr_h ?_
  refine nw_h H (fun n w H => ?_)
  apply F99_go; unfold F99
  refine nw_h H (fun m w H => ?_)
  (with_reducible repeat first|refine ldA (by assumption) ?_|refine Stp.imp ?_|refine stA (by assumption) rfl fun _ _=>?_|refine nw_h (by assumption) fun _ _ _=>?_|refine ldSA ?_|refine asT_e [] rfl rfl ?_|refine ldD (by assumption) ?_|refine nwD (by assumption) fun _ _ _=>?_)
  refine newTw_c H (fun T w okT t1 t2 H => ?_)
  (with_reducible repeat first|refine ldA (by assumption) ?_|refine Stp.imp ?_|refine stA (by assumption) rfl fun _ _=>?_|refine nw_h (by assumption) fun _ _ _=>?_|refine ldSA ?_|refine asT_e [] rfl rfl ?_|refine ldD (by assumption) ?_|refine nwD (by assumption) fun _ _ _=>?_)
  rename_i w1 H1 w2 H2 w H
  have H9 : Sh.Holds w0 ([(n, .cells #[I (if (if 64 < a then 64 else a) > 1 then if 64 < a then 64 else a else 1), I (roomB b), I t, J.v, I 0, .map (some m), T.v] 136 (0, 0))] :: J.hp :: [(m, mapG [] 0)] :: T.hp :: [] :: hs) w := by
    have H8 : Sh.Holds w0 (T.hp :: [(m, mapG [] 0)] :: [(n, .cells #[I (if (if 64 < a then 64 else a) > 1 then if 64 < a then 64 else a else 1), I (roomB b), I t, J.v, I 0, .map (some m), T.v] 136 (0, 0))] :: J.hp :: hs) w := H
    have H7 := Holds.nil H8
    exact Holds.re H7
  have hr : 1 ≤ roomB b ∧ roomB b ≤ 4096 := by unfold roomB; split <;> split <;> omega
  refine k ⟨n, _, roomB b, t, J, 0, m, [], 0, T, []⟩ _ ⟨⟨okJ, .nil 0, okT, fun c hc => (by simp at hc), fun id => rfl, fun id h => (by cases h), by show (0 : Int) ≤ 0 ∧ (0 : Int) ≤ 4096; omega⟩, by rw [j1]; rfl, fun i e h => (by simp [CS.zero] at h), by rw [j2]; rfl, Nat.le_refl _, j3, by show ((0 : Nat) : Int) ≤ roomB b; omega, rfl, j4, ⟨rfl, hr⟩, rfl, ⟨t1, rfl⟩, rfl, t2, fun id => rfl⟩ (shutC (S := ⟨n, _, roomB b, t, J, 0, m, [], 0, T, []⟩) H9)
theorem stateC_c {S : Ch} {P : CP} {s : CS} {id : Int} (H : Sh.Holds w0 hs w) [D : Del hs S.hp R] (I0 : ChIs S P s) (k : ∀ w', Sh.Holds w0 (S.hp :: R) w' → K (I (stateC s id)) w') : gocall Tryz.prog 21 [S.v, I id] K w := by
  replace H := openC (H.get S.hp)
  unfold stateC at k
  rw [← I0.L] at k
  apply F21_go; unfold F21
  refine br_f rfl ?_
  (with_reducible repeat first|refine ldA (by assumption) ?_|refine Stp.imp ?_|refine stA (by assumption) rfl fun _ _=>?_|refine nw_h (by assumption) fun _ _ _=>?_|refine ldSA ?_|refine asT_e [] rfl rfl ?_|refine ldD (by assumption) ?_|refine nwD (by assumption) fun _ _ _=>?_)
  refine mlook (S := S) 2 H rfl I0.ok (fun hL => ?_) (fun p x hL hp => ?_)
  · rw [hL] at k
    (with_reducible repeat first|refine ldA (by assumption) ?_|refine Stp.imp ?_|refine stA (by assumption) rfl fun _ _=>?_|refine nw_h (by assumption) fun _ _ _=>?_|refine ldSA ?_|refine asT_e [] rfl rfl ?_|refine ldD (by assumption) ?_|refine nwD (by assumption) fun _ _ _=>?_)
    refine br_t rfl ?_
    exact k _ (shutC H)
  · rw [hL] at k
    (with_reducible repeat first|refine ldA (by assumption) ?_|refine Stp.imp ?_|refine stA (by assumption) rfl fun _ _=>?_|refine nw_h (by assumption) fun _ _ _=>?_|refine ldSA ?_|refine asT_e [] rfl rfl ?_|refine ldD (by assumption) ?_|refine nwD (by assumption) fun _ _ _=>?_)
    refine br_f rfl ?_
    obtain ⟨c, A, Bs, g⟩ := ledGet I0.ok hL hp
    have gx := g.xe
    have gp := g.pe
    subst gx gp
    replace H := openL (g.out (shutC H.drew))
    have look : ∀ {md : Md} {K : KV} {w : World}, Sh.Holds w0 ([(c.p, .cells #[I c.x.o.id, I c.x.o.item, I c.x.o.qty, I c.x.o.client, I c.x.o.price, c.sR.v, c.dR.v, c.uR.v, .bool c.x.f.asked, .bool c.x.f.yes, .bool c.x.f.turned, .bool c.x.f.a0, .bool c.x.f.a1, .bool c.x.f.shipped, .bool c.x.f.d0, .bool c.x.f.d1, .bool c.x.f.acc, .pointer (taP c.T)] 147 (0, 0))] :: c.sR.hp 81 :: c.dR.hp 4 :: c.uR.hp 4 :: taH c.T c.x.t :: ledsH (A ++ Bs) :: [(S.n, .cells #[I S.most, I S.room, I S.tr, S.J.v, I S.used, .map (some S.m), S.T.v] 136 (0, 0))] :: S.J.hp :: [(S.m, mapG S.l S.c)] :: S.T.hp :: R) w → K (.pointer (some ⟨c.p, 0, none⟩)) w → mget md Tryz.prog 133 (.map (some S.m)) (I id) false K w := fun {md K w} H hk => by
      refine mgetG_h TML 8 H rfl ?_
      have hp' : getG S.l id = some (.pointer (some ⟨c.p, 0, none⟩)) := hp
      rw [hp']; exact hk
    (with_reducible repeat first|refine ldA (by assumption) ?_|refine Stp.imp ?_|refine stA (by assumption) rfl fun _ _=>?_|refine nw_h (by assumption) fun _ _ _=>?_|refine ldSA ?_|refine asT_e [] rfl rfl ?_|refine ldD (by assumption) ?_|refine nwD (by assumption) fun _ _ _=>?_)
    refine look H ?_
    (with_reducible repeat first|refine ldA (by assumption) ?_|refine Stp.imp ?_|refine stA (by assumption) rfl fun _ _=>?_|refine nw_h (by assumption) fun _ _ _=>?_|refine ldSA ?_|refine asT_e [] rfl rfl ?_|refine ldD (by assumption) ?_|refine nwD (by assumption) fun _ _ _=>?_)
    refine look H ?_
    (with_reducible repeat first|refine ldA (by assumption) ?_|refine Stp.imp ?_|refine stA (by assumption) rfl fun _ _=>?_|refine nw_h (by assumption) fun _ _ _=>?_|refine ldSA ?_|refine asT_e [] rfl rfl ?_|refine ldD (by assumption) ?_|refine nwD (by assumption) fun _ _ _=>?_)
    refine stateF_c (o := c.x.o) (f := c.x.f) (by first|assumption|(apply Holds.drew; assumption)) g.ok.of (fun w H => ?_)
    (with_reducible repeat first|refine ldA (by assumption) ?_|refine Stp.imp ?_|refine stA (by assumption) rfl fun _ _=>?_|refine nw_h (by assumption) fun _ _ _=>?_|refine ldSA ?_|refine asT_e [] rfl rfl ?_|refine ldD (by assumption) ?_|refine nwD (by assumption) fun _ _ _=>?_)
    exact k _ (g.back (shutL H))
end
end Go.Proofs.YtcfmnoimehcfnaaGreatDoor
namespace Go.Proofs.YtcfmnoimehcfnaaGreatDoor
open Go Go.Sh

theorem cnt_push {l : List TriG} {f : TriG → Bool} {seen : Array Nat} {t : TriG} (hn : (l.map (·.2.2)).Nodup) (ht : t ∈ l) (hs : seen.contains t.2.2 = false) :
    l.countP (fun u => (seen.push t.2.2).contains u.2.2 && f u) = l.countP (fun u => seen.contains u.2.2 && f u) + (if f t = true then 1 else 0) := by
  induction l with
  | nil => simp at ht
  | cons a r ih =>
    simp only [List.map_cons, List.nodup_cons] at hn
    simp only [List.countP_cons]
    rcases List.mem_cons.1 ht with rfl | h
    · have hr : r.countP (fun u => (seen.push t.2.2).contains u.2.2 && f u) = r.countP (fun u => seen.contains u.2.2 && f u) := by
        refine List.countP_congr (fun u hu => ?_)
        have hne : u.2.2 ≠ t.2.2 := fun e => hn.1 (List.mem_map.2 ⟨u, hu, e⟩)
        rw [Array.contains_push]
        have : (u.2.2 == t.2.2) = false := by simpa using hne
        rw [this]; simp
      rw [hr, Array.contains_push, hs]
      simp
    · have hne : a.2.2 ≠ t.2.2 := fun e => hn.1 (List.mem_map.2 ⟨t, h, e.symm⟩)
      rw [ih hn.2 h, Array.contains_push]
      have : (a.2.2 == t.2.2) = false := by simpa using hne
      rw [this]
      simp; omega
theorem allI_nodup : allI.Nodup := by
  unfold allI
  unfold List.Nodup
  rw [List.pairwise_map]
  exact (List.nodup_range (n := 1000)).imp (fun {a b} h => by omega)
theorem allI_mem {i : Int} : i ∈ allI ↔ 0 ≤ i ∧ i < 1000 := by
  unfold allI
  simp only [List.mem_map, List.mem_range]
  constructor
  · rintro ⟨n, hn, rfl⟩; omega
  · rintro ⟨h0, h1⟩; exact ⟨i.toNat, by omega, by omega⟩
theorem cnt_all {l : List TriG} {L : Int → Option Ld} (hn : (l.map (·.1)).Nodup) (hk : ∀ t ∈ l, 1 ≤ t.1 ∧ t.1 ≤ 999) (hL : ∀ i, (L i).isSome = true → i ∈ l.map (·.1)) :
    (l.countP (fun t => !overL (L t.1)) : Int) = openN L := by
  unfold openN
  have h1 : l.countP (fun t => !overL (L t.1)) = (l.map (·.1)).countP (fun i => !overL (L i)) := by
    rw [List.countP_map]; rfl
  rw [h1, List.countP_eq_length_filter, List.countP_eq_length_filter]
  congr 1
  refine List.Perm.length_eq ((List.perm_ext_iff_of_nodup (hn.filter _) (allI_nodup.filter _)).2 (fun i => ?_))
  simp only [List.mem_filter]
  constructor
  · rintro ⟨h, g⟩
    obtain ⟨t, ht, rfl⟩ := List.mem_map.1 h
    have := hk t ht
    exact ⟨allI_mem.2 (by omega), g⟩
  · rintro ⟨-, g⟩
    refine ⟨hL i ?_, g⟩
    cases e : L i with
    | none => rw [e] at g; simp [overL] at g
    | some x => rfl
section
variable {w0 w : World} {hs R : List Hp} {K : KV}
theorem keyedC {S : Ch} (ok : S.Ok) {t : TriG} (ht : t ∈ S.l) : ∃ p x, t.2.1 = .pointer (some ⟨p, 0, none⟩) ∧ LedP S t.1 p ∧ S.L t.1 = some x := by
  have h1 := getG_of ok.m.keys ht
  have h2 := ok.g t.1
  rw [h1] at h2
  cases e : findX S.X t.1 with
  | none => rw [e] at h2; cases h2
  | some c =>
    rw [e] at h2
    have h3 : t.2.1 = c.v := Option.some.inj h2
    refine ⟨c.p, c.x, h3, ?_, by unfold Ch.L; rw [e]; rfl⟩
    show getG S.l t.1 = _
    rw [h1, h3]
set_option maxHeartbeats 1000000 in
theorem open_c {S : Ch} (H : Sh.Holds w0 hs w) [D : Del hs S.hp R] (ok : S.Ok) (k : ∀ w', Sh.Holds w0 (S.hp :: R) w' → K (I (openN S.L)) w') : gocall Tryz.prog 101 [S.v] K w := by
  replace H := openC (H.get S.hp)
  apply F101_go; unfold F101
  (with_reducible repeat first|refine ldA (by assumption) ?_|refine Stp.imp ?_|refine stA (by assumption) rfl fun _ _=>?_|refine nw_h (by assumption) fun _ _ _=>?_|refine ldSA ?_|refine asT_e [] rfl rfl ?_|refine ldD (by assumption) ?_|refine nwD (by assumption) fun _ _ _=>?_)
  refine mrngG_h (t := 133) rfl 2 H rfl (fun r w H => ?_)
  let base : List Hp := [(S.n, .cells #[I S.most, I S.room, I S.tr, S.J.v, I S.used, .map (some S.m), S.T.v] 136 (0, 0))] :: S.J.hp :: [(S.m, mapG S.l S.c)] :: S.T.hp :: ledsH S.X :: R
  have hlen : S.l.length ≤ 1000 := by
    have hp := List.Perm.length_eq ((List.perm_ext_iff_of_nodup ok.m.keys (allI_nodup.filter (fun i => (S.l.map (·.1)).contains i))).2 (fun i => by
      simp only [List.mem_filter, List.contains_iff_mem]
      refine ⟨fun h => ⟨?_, h⟩, fun h => h.2⟩
      obtain ⟨t, ht, rfl⟩ := List.mem_map.1 h
      obtain ⟨p, x, -, -, h4⟩ := keyedC ok ht
      have := ok.r t.1 (by unfold Ch.L at h4; cases e : findX S.X t.1 with
        | none => rw [e] at h4; cases h4
        | some c => rfl)
      exact allI_mem.2 (by omega)))
    have h2 := List.length_filter_le (fun i => (S.l.map (·.1)).contains i) allI
    have e : allI.length = 1000 := by simp [allI]
    have this : (S.l.map (·.1)).length ≤ 1000 := by omega
    simpa using this
  have hkr : ∀ t ∈ S.l, 1 ≤ t.1 ∧ t.1 ≤ 999 := fun t ht => by
    obtain ⟨p, x, -, -, h4⟩ := keyedC ok ht
    exact ok.r t.1 (by unfold Ch.L at h4; cases e : findX S.X t.1 with
      | none => rw [e] at h4; cases h4
      | some c => rfl)
  have hcnt : ∀ seen : Array Nat, S.l.countP (fun u => seen.contains u.2.2 && !overL (S.L u.1)) ≤ 1000 := fun seen => Nat.le_trans List.countP_le_length hlen
  refine ⟨fun y w => ∃ seen, y.1 = (S.l.countP (fun u => seen.contains u.2.2 && !overL (S.L u.1)) : Nat) ∧ Sh.Holds w0 ([(r, itO S.m S.c seen S.c)] :: base) w, fun _ w => itL S.l r w, ⟨#[], by simp, H⟩, ?_⟩
  clear H
  rintro ⟨n, u⟩ w ⟨seen, hn, H⟩
  dsimp only at hn
  have hmw : itL S.l r w = (leftOf (S.l.map entG).toArray seen).size := itL_h H
  refine mnxtG_h 2 H rfl ok.m.born (Nat.le_refl _) (fun hall => ?_) (fun t ht hns2 hlt w H => ?_)
  · refine ⟨false, [], rfl, ?_⟩
    refine br_f rfl ?_
    have e1 : S.l.countP (fun u => seen.contains u.2.2 && !overL (S.L u.1)) = S.l.countP (fun u => !overL (S.L u.1)) := List.countP_congr (fun t ht => by rw [hall t ht]; simp)
    have e2 : n = openN S.L := by
      rw [hn, e1]
      refine cnt_all ok.m.keys hkr (fun i hi => ?_)
      cases hL : S.L i with
      | none => rw [hL] at hi; cases hi
      | some x =>
        obtain ⟨p, hp⟩ := LedP.of ok hL
        obtain ⟨t, ht, e, -⟩ := getG_mem hp
        exact List.mem_map.2 ⟨t, ht, e⟩
    rw [e2]
    exact k _ (shutC (Holds.tail H))
  · refine ⟨true, [I t.1, t.2.1], rfl, ?_⟩
    refine br_t rfl ?_
    refine mtryG_h 3 0 H rfl rfl ht ok.m ?_
    refine asT_e [I t.1, t.2.1] rfl rfl ?_
    obtain ⟨p, x, h1, h2, h3⟩ := keyedC ok ht
    refine asPtr_e (show fld [I t.1, t.2.1] 1 = _ from h1) ?_
    replace H : Sh.Holds w0 ([(r, itO S.m S.c (seen.push t.2.2) S.c)] :: [(S.n, .cells #[I S.most, I S.room, I S.tr, S.J.v, I S.used, .map (some S.m), S.T.v] 136 (0, 0))] :: S.J.hp :: [(S.m, mapG S.l S.c)] :: S.T.hp :: ledsH S.X :: R) w := H
    have H2 := shutC (S := S) (R := [(r, itO S.m S.c (seen.push t.2.2) S.c)] :: R) (Holds.re H)
    refine overS_c (S := S) H2 ok h3 h2 (fun w H => ?_)
    refine asBoo_h ?_
    have Hb : Sh.Holds w0 ([(r, itO S.m S.c (seen.push t.2.2) S.c)] :: base) w := by
      have H3 := openC H
      exact Holds.re H3
    have hp := cnt_push (f := fun u => !overL (S.L u.1)) ok.m.stamps ht hns2
    have hov : overL (S.L t.1) = overF x.o x.f := by rw [h3]; rfl
    have hdec : itL S.l r w < (leftOf (S.l.map entG).toArray seen).size := by rw [itL_h Hb]; exact hlt
    have hc := hcnt seen
    refine br_s (fun hb => ?_) (fun hb => ?_)
    · have hw : IntKind.wrap .i64 (n + 1) = n + 1 := wrap64 (by omega) (by omega)
      simp only [hw]
      refine ⟨⟨seen.push t.2.2, ?_, Hb⟩, by show itL S.l r w < itL S.l r _; rw [hmw]; exact hdec⟩
      rw [hp, if_pos (by rw [hov]; exact hb), hn]; omega
    · refine ⟨⟨seen.push t.2.2, ?_, Hb⟩, by show itL S.l r w < itL S.l r _; rw [hmw]; exact hdec⟩
      rw [hp, if_neg (by rw [hov]; simpa using hb), hn]; rfl
end
end Go.Proofs.YtcfmnoimehcfnaaGreatDoor
namespace Go.Proofs.YtcfmnoimehcfnaaGreatDoor
open Go Go.Sh

theorem mayOd_out {o : Od} (h : mayOd o = true) : (1 ≤ o.id ∧ o.id ≤ 999) ∧ (0 ≤ o.item ∧ o.item ≤ 7) ∧ (0 ≤ o.client ∧ o.client ≤ 7) ∧ (1 ≤ o.qty ∧ o.qty ≤ 1000000000) ∧ (1 ≤ o.price ∧ o.price ≤ 1000000000) ∧ o.steps.length ≤ 3 ∧ ∀ p ∈ o.steps, (4 ≤ p.svc ∧ p.svc ≤ 6) ∧ (1 ≤ p.n ∧ p.n ≤ 1000000000) := by
  simp only [mayOd, mayO, Bool.and_eq_true, decide_eq_true_eq, inB, someB, mayB, stepsB, List.all_eq_true, List.mem_range] at h
  obtain ⟨h1, h2, h3, h4, h5, h6, h7⟩ := h
  refine ⟨by omega, by omega, by omega, by omega, by omega, h2, fun p hp => ?_⟩
  obtain ⟨i, hi, rfl⟩ := List.getElem_of_mem hp
  have := h1 i hi
  simp only [stepB, List.getElem?_eq_getElem hi, Bool.and_eq_true, decide_eq_true_eq, inB, someB, mayB] at this
  omega
def ledN (o : Od) : Ld := ⟨o, { Fc.zero with done := List.replicate o.steps.length false, undone := List.replicate o.steps.length false }, none⟩
theorem updI_upd {α : Type} (L : Int → Option α) (id : Int) (x y : Option α) : updI (updI L id x) id y = updI L id y := by
  funext z; unfold updI; split <;> rfl
theorem steps_play (L : Int → Option Ld) (o : Od) : ∀ (b a : List Sp), (stepEs o.id b a.length).foldl playC (updI L o.id (some (ledN { o with steps := a }))) = updI L o.id (some (ledN { o with steps := a ++ b }))
  | [], a => by simp [stepEs]
  | p :: r, a => by
    simp only [stepEs, List.foldl_cons]
    have e : playC (updI L o.id (some (ledN { o with steps := a }))) ⟨2, o.id, [((a.length : Nat) : Int), p.svc, p.n]⟩ = updI L o.id (some (ledN { o with steps := a ++ [p] })) := by
      unfold playC
      rw [if_neg (by simp)]
      have hl : updI L o.id (some (ledN { o with steps := a })) o.id = some (ledN { o with steps := a }) := by simp [updI]
      simp only [hl]
      rw [updI_upd]
      congr 2
      unfold Ld.play
      rw [if_pos rfl]
      simp only [Ld.step, ledN, List.getD_cons_succ, List.getD_cons_zero, List.length_append, List.length_cons, List.length_nil, Nat.zero_add]
      rw [List.replicate_succ']
    rw [e]
    have := steps_play L o r (a ++ [p])
    rw [List.length_append, List.length_singleton] at this
    rw [this, List.append_assoc]; rfl
theorem begin_play (L : Int → Option Ld) (o : Od) : (beginEs o).foldl playC L = updI L o.id (some (ledN o)) := by
  unfold beginEs
  rw [List.foldl_cons]
  have e : playC L ⟨1, o.id, [o.item, o.qty, o.client, o.price]⟩ = updI L o.id (some (ledN { o with steps := [] })) := by
    unfold playC
    rw [if_pos rfl]; rfl
  rw [e]
  have := steps_play L o o.steps []
  simpa using this
theorem stepEs_at (id : Int) : ∀ (l : List Sp) (k i : Nat), (stepEs id l k)[i]? = (l[i]?).map fun p => ⟨2, id, [((k + i : Nat) : Int), p.svc, p.n]⟩
  | [], k, i => by simp [stepEs]
  | p :: r, k, 0 => by simp [stepEs]
  | p :: r, k, i + 1 => by
    simp only [stepEs, List.getElem?_cons_succ]
    rw [stepEs_at id r (k + 1) i, show k + 1 + i = k + (i + 1) by omega]
theorem stepEs_len (id : Int) : ∀ (l : List Sp) (k : Nat), (stepEs id l k).length = l.length
  | [], _ => rfl
  | p :: r, k => by simp [stepEs, stepEs_len id r]
theorem begin_ok {L : Int → Option Ld} {o : Od} (hm : mayOd o = true) (hL : L o.id = none) : okSeq L (beginEs o) := by
  obtain ⟨h1, h2, h3, h4, h5, h6, h7⟩ := mayOd_out hm
  intro i e he
  unfold beginEs at he ⊢
  cases i with
  | zero =>
    simp at he; subst he
    exact ⟨h1, .inl ⟨rfl, hL, _, _, _, _, rfl, by unfold numOk; omega, by unfold numOk; omega, by unfold numOk; omega, by unfold numOk; omega⟩⟩
  | succ i =>
    rw [List.getElem?_cons_succ, stepEs_at] at he
    cases hp : o.steps[i]? with
    | none => rw [hp] at he; cases he
    | some p =>
      rw [hp] at he
      have he := (Option.some.inj he).symm
      subst he
      have hi := (List.getElem?_eq_some_iff.1 hp).1
      have := h7 p (List.mem_of_getElem? hp)
      exact ⟨h1, .inr (.inl ⟨rfl, _, _, _, rfl, by unfold numOk; omega, by unfold numOk; omega, by unfold numOk; omega⟩)⟩
theorem elE : ElTy Tryz.prog 141 139 3 48 := ⟨⟨_, _, rfl, rfl, rfl, rfl, rfl, rfl⟩, by omega⟩
theorem ecells_one (l : List (CE × Option Addr × Nat × Nat)) : ∀ u ∈ l.flatMap ecells, u.oneCell' = true := by
  intro u hu
  obtain ⟨m, -, hm⟩ := List.mem_flatMap.1 hu
  simp only [ecells, List.mem_cons, List.not_mem_nil, or_false] at hm
  rcases hm with rfl | rfl | rfl <;> rfl
section
variable {w0 w : World} {hs R : List Hp} {K : KV}
set_option maxHeartbeats 4000000 in
theorem begin_c {S : Ch} {P : CP} {s : CS} {o : Od} {p : Option Addr} {n c : Nat} (T : Tab w0) (H : Sh.Holds w0 hs w) [D : Del hs S.hp R] (I0 : ChIs S P s) (hsl : Sl (Sh.Holds w0 R) p n 2 (sps o.steps)) (hol : o.steps.length < 1000000)
    (k : ∀ (r : Row) (S' : Ch) w', ChIs S' P (beginC P s o).1 → ChK S S' → r.Ok 7 (mgs (beginC P s o).2.1) → Sh.Holds w0 (r.hp 35 :: S'.hp :: R) w' → K (.tuple #[r.v, I (beginC P s o).2.2]) w') :
    gocall Tryz.prog 18 [S.v, odV o (.slice p n c)] K w := by
  replace H := H.get S.hp
  have hn : n = o.steps.length := by have := hsl.len; rw [sps, flat_len Sp.len] at this; omega
  have em : mayO o.id o.item o.qty o.client o.price o.steps = mayOd o := rfl
  have bad : ∀ (x : Int) {w : World} {q : Nat} {v : Obj}, beginC P s o = (s, [], x) → Sh.Holds w0 (S.hp :: [(q, v)] :: R) w → K (.tuple #[.slice none 0 0, I x]) w := fun x {w q v} e H => by
    rw [e] at k
    exact k Row.nil S w I0 (.rfl' S) (Row.nil_ok 7) (Holds.nil (Holds.drop1 H))
  apply F18_go; unfold F18
  refine nw_h H (fun k9 w H => ?_)
  refine br_f rfl ?_
  refine downC_c (S := S) H (fun w H => ?_)
  (with_reducible repeat first|refine ldA (by assumption) ?_|refine Stp.imp ?_|refine stA (by assumption) rfl fun _ _=>?_|refine nw_h (by assumption) fun _ _ _=>?_|refine ldSA ?_|refine asT_e [] rfl rfl ?_|refine ldD (by assumption) ?_|refine nwD (by assumption) fun _ _ _=>?_)
  rw [I0.dn]
  refine br_f rfl ?_
  (with_reducible repeat first|refine ldA (by assumption) ?_|refine Stp.imp ?_|refine stA (by assumption) rfl fun _ _=>?_|refine nw_h (by assumption) fun _ _ _=>?_|refine ldSA ?_|refine asT_e [] rfl rfl ?_|refine ldD (by assumption) ?_|refine nwD (by assumption) fun _ _ _=>?_)
  refine mayO_c (l := o.steps) H (hsl.mono fun w H => H.tail.tail) hol (fun w H => ?_)
  (with_reducible repeat first|refine ldA (by assumption) ?_|refine Stp.imp ?_|refine stA (by assumption) rfl fun _ _=>?_|refine nw_h (by assumption) fun _ _ _=>?_|refine ldSA ?_|refine asT_e [] rfl rfl ?_|refine ldD (by assumption) ?_|refine nwD (by assumption) fun _ _ _=>?_)
  rw [em]
  refine br_s (fun h => bad 1 (by unfold beginC; rw [if_pos (by simpa using h)]) H) (fun hm => ?_)
  have hm : mayOd o = true := by simpa using hm
  replace H : Sh.Holds w0 (S.hp :: [(k9, .cells #[I o.id, I o.item, I o.qty, I o.client, I o.price, .slice p n c] 24 (0, 0))] :: R) w.drew := H.drew
  replace H := openC H
  (with_reducible repeat first|refine ldA (by assumption) ?_|refine Stp.imp ?_|refine stA (by assumption) rfl fun _ _=>?_|refine nw_h (by assumption) fun _ _ _=>?_|refine ldSA ?_|refine asT_e [] rfl rfl ?_|refine ldD (by assumption) ?_|refine nwD (by assumption) fun _ _ _=>?_)
  have fin : S.L o.id = none → ∀ {w : World}, Sh.Holds w0 (S.hp :: [(k9, .cells #[I o.id, I o.item, I o.qty, I o.client, I o.price, .slice p n c] 24 (0, 0))] :: R) w → True := fun _ _ _ => trivial
  refine mlook (S := S) 2 H rfl I0.ok (fun hL => ?_) (fun p' x hL hp => ?_)
  rotate_left
  · (with_reducible repeat first|refine ldA (by assumption) ?_|refine Stp.imp ?_|refine stA (by assumption) rfl fun _ _=>?_|refine nw_h (by assumption) fun _ _ _=>?_|refine ldSA ?_|refine asT_e [] rfl rfl ?_|refine ldD (by assumption) ?_|refine nwD (by assumption) fun _ _ _=>?_)
    exact br_t rfl (bad 8 (by unfold beginC; rw [if_neg (by simp [hm]), if_pos (by rw [← I0.L, hL]; rfl)]) (shutC H))
  have hLs : s.L o.id = none := by rw [← I0.L]; exact hL
  (with_reducible repeat first|refine ldA (by assumption) ?_|refine Stp.imp ?_|refine stA (by assumption) rfl fun _ _=>?_|refine nw_h (by assumption) fun _ _ _=>?_|refine ldSA ?_|refine asT_e [] rfl rfl ?_|refine ldD (by assumption) ?_|refine nwD (by assumption) fun _ _ _=>?_)
  refine br_f rfl ?_
  replace H := H.drew
  refine keepsA [[(S.n, .cells #[I S.most, I S.room, I S.tr, S.J.v, I S.used, .map (some S.m), S.T.v] 136 (0, 0))]] H ?_
  (with_reducible repeat first|refine ldA (by assumption) ?_|refine Stp.imp ?_|refine stA (by assumption) rfl fun _ _=>?_|refine nw_h (by assumption) fun _ _ _=>?_|refine ldSA ?_|refine asT_e [] rfl rfl ?_|refine ldD (by assumption) ?_|refine nwD (by assumption) fun _ _ _=>?_)
  refine open_c (S := S) (shutC H) I0.ok (fun w H => ?_)
  (with_reducible repeat first|refine ldA (by assumption) ?_|refine Stp.imp ?_|refine stA (by assumption) rfl fun _ _=>?_|refine nw_h (by assumption) fun _ _ _=>?_|refine ldSA ?_|refine asT_e [] rfl rfl ?_|refine ldD (by assumption) ?_|refine nwD (by assumption) fun _ _ _=>?_)
  replace H := openC H
  refine kpA H ?_
  rw [I0.L, I0.most]
  refine br_s (fun h => bad 5 (by unfold beginC; rw [if_neg (by simp [hm]), if_neg (by rw [hLs]; simp), if_pos (by simpa using h)]) (shutC H)) (fun hop => ?_)
  have hop : ¬ openN s.L ≥ P.most := by simpa using hop
  have hb : beginC P s o = (match suresC P s (beginEs o) with | none => (s, [], 5) | some s' => ((goesC P (hangC P s' o.id) o.id).1, (goesC P (hangC P s' o.id) o.id).2, 0)) := by
    unfold beginC; rw [if_neg (by simp [hm]), if_neg (by rw [hLs]; simp), if_neg hop]; rfl
  (with_reducible repeat first|refine ldA (by assumption) ?_|refine Stp.imp ?_|refine stA (by assumption) rfl fun _ _=>?_|refine nw_h (by assumption) fun _ _ _=>?_|refine ldSA ?_|refine asT_e [] rfl rfl ?_|refine ldD (by assumption) ?_|refine nwD (by assumption) fun _ _ _=>?_)
  rename_i k102 w1 H1
  refine entry_c H1 (fun w H => ?_)
  clear H1
  refine asN_e [_, _, _] rfl rfl ?_
  refine asStr_e rfl ?_
  refine asI_e rfl ?_
  refine asSl_e rfl ?_
  refine nw_h H (fun k116 w H => ?_)
  (with_reducible repeat first|refine ldA (by assumption) ?_|refine Stp.imp ?_|refine stA (by assumption) rfl fun _ _=>?_|refine nw_h (by assumption) fun _ _ _=>?_|refine ldSA ?_|refine asT_e [] rfl rfl ?_|refine ldD (by assumption) ?_|refine nwD (by assumption) fun _ _ _=>?_)
  obtain ⟨m1, m2, m3, m4, m5, m6, m7⟩ := mayOd_out hm
  let ob : Hp := [(k9, .cells #[I o.id, I o.item, I o.qty, I o.client, I o.price, .slice p n c] 24 (0, 0))]
  have H0 : Sh.Holds w0 ((Row.mk (some k116) 1 1 (ecells (⟨1, o.id, [o.item, o.qty, o.client, o.price]⟩, some ⟨k102, 0, none⟩, 4, 4)).toArray).hp 139 :: [(k102, .cells #[I o.item, I o.qty, I o.client, I o.price] 3 (0, 0))] :: S.hp :: ob :: R) w := by
    have H3 : Sh.Holds w0 ([(k116, .cells #[.string (B (ceL 1)), I o.id, .slice (some ⟨k102, 0, none⟩) 4 4] 139 (0, 0))] :: [(k102, .cells #[I o.item, I o.qty, I o.client, I o.price] 3 (0, 0))] :: [(S.n, .cells #[I S.most, I S.room, I S.tr, S.J.v, I S.used, .map (some S.m), S.T.v] 136 (0, 0))] :: S.J.hp :: [(S.m, mapG S.l S.c)] :: S.T.hp :: ledsH S.X :: [(k9, .cells #[I o.id, I o.item, I o.qty, I o.client, I o.price, .slice p n c] 24 (0, 0))] :: R) w := H
    have H4 := shutC (S := S) (R := [(k116, .cells #[.string (B (ceL 1)), I o.id, .slice (some ⟨k102, 0, none⟩) 4 4] 139 (0, 0))] :: [(k102, .cells #[I o.item, I o.qty, I o.client, I o.price] 3 (0, 0))] :: [(k9, .cells #[I o.id, I o.item, I o.qty, I o.client, I o.price, .slice p n c] 24 (0, 0))] :: R) (Holds.re H3)
    have H5 : Sh.Holds w0 ([(k116, .cells #[.string (B (ceL 1)), I o.id, .slice (some ⟨k102, 0, none⟩) 4 4] 139 (0, 0))] :: [(k102, .cells #[I o.item, I o.qty, I o.client, I o.price] 3 (0, 0))] :: S.hp :: [(k9, .cells #[I o.id, I o.item, I o.qty, I o.client, I o.price, .slice p n c] 24 (0, 0))] :: R) w := Holds.re H4
    exact H5
  clear H
  refine ⟨fun y w => (0 ≤ y.1 ∧ y.1 ≤ o.steps.length) ∧ ∃ (r : Row) (Q : Hp) (l : List (CE × Option Addr × Nat × Nat)), r.v = .slice y.2.1.1 y.2.1.2.1 y.2.1.2.2 ∧ r.Ok 3 (l.flatMap ecells) ∧ l.map (·.1) = ⟨1, o.id, [o.item, o.qty, o.client, o.price]⟩ :: (stepEs o.id o.steps 0).take y.1.toNat ∧ (∀ x ∈ l, Sl (Sh.Holds w0 [Q]) x.2.1 x.2.2.1 1 (x.1.ns.map I)) ∧ Sh.Holds w0 (r.hp 139 :: Q :: S.hp :: ob :: R) w, fun y _ => (o.steps.length - y.1).toNat, ⟨by simp, _, _, [(⟨1, o.id, [o.item, o.qty, o.client, o.price]⟩, some ⟨k102, 0, none⟩, 4, 4)], rfl, ?_, by simp, ?_, H0⟩, ?_⟩
  · exact Row.lit (vals := ecells (⟨1, o.id, [o.item, o.qty, o.client, o.price]⟩, some ⟨k102, 0, none⟩, 4, 4)) rfl (by unfold maxLen; omega)
  · intro x hx
    simp only [List.mem_singleton] at hx
    subst hx
    exact Sl.block (vals := [I o.item, I o.qty, I o.client, I o.price]) 0 rfl rfl
  clear H0
  rintro ⟨i, ⟨p1, n1, c1⟩, u⟩ w ⟨⟨h0, h1⟩, r, Q, l, hv, okr, hl, hq, H⟩
  dsimp only at h0 h1 hv hl
  dsimp only
  rw [← hv]
  have hll : r.n = l.length := by have := okr.len; rw [flat_len (f := ecells) (z := 3) (fun _ => rfl)] at this; omega
  have hll2 : l.length = 1 + i.toNat := by
    have := congrArg List.length hl
    simp only [List.length_map, List.length_cons, List.length_take, stepEs_len] at this
    omega
  refine br_s (fun hlt => ?_) (fun hlt => ?_)
  · simp only [decide_eq_true_eq] at hlt
    have hwi : IntKind.wrap .i64 (i + 1) = i + 1 := wrap64 (by omega) (by omega)
    simp only [hwi]
    have hi : i.toNat < o.steps.length := by omega
    have hp' := List.getElem?_eq_getElem hi
    have hcc := fun {j : Nat} (hj : j < 2) => flat_at (f := Sp.cells) Sp.len hp' hj
    generalize hs1 : o.steps[i.toNat] = sp at hp' hcc
    have hst : Sl (Sh.Holds w0 (r.hp 139 :: Q :: S.hp :: ob :: R)) p n 2 (sps o.steps) := hsl.mono fun w H => H.tail.tail.tail.tail
    refine slAt_s hst h0 (by omega) (fun b1 o1 hp => ?_)
    refine ldS_s hst hp H (v := I sp.svc) (hcc (j := 0) (by omega)) ?_
    refine asI_h ?_
    refine ldS_s (j := i.toNat * 2 + 1) hst hp H (v := I sp.n) (hcc (j := 1) (by omega)) ?_
    refine asI_h ?_
    replace H : Sh.Holds w0 (r.hp 139 :: Q :: S.hp :: [(k9, .cells #[I o.id, I o.item, I o.qty, I o.client, I o.price, .slice p n c] 24 (0, 0))] :: R) w := H
    refine nw_h H (fun k138 w H => ?_)
    refine stA H rfl (fun w H => ?_)
    refine stA H rfl (fun w H => ?_)
    (with_reducible repeat first|refine ldA (by assumption) ?_|refine Stp.imp ?_|refine stA (by assumption) rfl fun _ _=>?_|refine nw_h (by assumption) fun _ _ _=>?_|refine ldSA ?_|refine asT_e [] rfl rfl ?_|refine ldD (by assumption) ?_|refine nwD (by assumption) fun _ _ _=>?_)
    rename_i k154 w1 H1
    refine entry_c H1 (fun w H => ?_)
    clear H1
    refine asN_e [_, _, _] rfl rfl ?_
    refine asStr_e rfl ?_
    refine asI_e rfl ?_
    refine asSl_e rfl ?_
    refine nw_h H (fun k168 w H => ?_)
    replace H : Sh.Holds w0 ([(k168, .cells #[.string (B (ceL 2)), I o.id, .slice (some ⟨k154, 0, none⟩) 3 3] 139 (0, 0))] :: [(k154, .cells #[I i, I sp.svc, I sp.n] 3 (0, 0))] :: [(k138, .cells #[I sp.svc, I sp.n] 81 (0, 0))] :: r.hp 139 :: Q :: S.hp :: ob :: R) w := H
    replace H := H.get (r.hp 139)
    refine bapp1_h (news := ecells (⟨2, o.id, [i, sp.svc, sp.n]⟩, some ⟨k154, 0, none⟩, 3, 3)) elE 0 H rfl okr rfl (by simp [ecells, Value.oneCell']) (by omega) (by unfold maxLen; omega) (fun r' w hn' ok' H => ?_)
    refine asSl_h ?_
    have H6 : Sh.Holds w0 ([(k154, .cells #[I i, I sp.svc, I sp.n] 3 (0, 0))] :: Q :: r'.hp 139 :: S.hp :: ob :: R) w := Holds.re H
    have H7 := H6.join
    refine ⟨⟨by omega, r', [(k154, .cells #[I i, I sp.svc, I sp.n] 3 (0, 0))] ++ Q, l ++ [(⟨2, o.id, [i, sp.svc, sp.n]⟩, some ⟨k154, 0, none⟩, 3, 3)], rfl, ?_, ?_, ?_, Holds.re H7⟩, by omega⟩
    · rw [List.flatMap_append]
      simpa using ok'
    · have ht : (stepEs o.id o.steps 0)[i.toNat]? = some ⟨2, o.id, [i, sp.svc, sp.n]⟩ := by
        rw [stepEs_at, hp']
        simp only [Option.map_some, Nat.zero_add]
        rw [show ((i.toNat : Nat) : Int) = i by omega]
      rw [List.map_append, hl, show (i + 1).toNat = i.toNat + 1 by omega, List.take_add_one, ht]; rfl
    · intro x hx
      rcases List.mem_append.1 hx with hx | hx
      · exact (hq x hx).mono fun w H => (Holds.split H).tail
      · simp only [List.mem_singleton] at hx
        subst hx
        refine Sl.mono (S := Sh.Holds w0 [[(k154, .cells #[I i, I sp.svc, I sp.n] 3 (0, 0))]]) ?_ (fun w H => by
          have H2 := Holds.split H
          exact Holds.re H2)
        exact Sl.block (vals := [I i, I sp.svc, I sp.n]) 0 rfl rfl
  · simp only [decide_eq_false_iff_not] at hlt
    have hi : i.toNat = (stepEs o.id o.steps 0).length := by rw [stepEs_len]; omega
    rw [hi, List.take_length] at hl
    have hle : l.map (·.1) = beginEs o := hl
    have hEs : EsS (Sh.Holds w0 (r.hp 139 :: Q :: ob :: R)) r.p r.n l := ⟨Sl.row 0 rfl okr, fun x hx => (hq x hx).mono fun w H => Holds.re H⟩
    refine sures_c (S := S) (l := l) T H I0 hEs (by omega) (by rw [hle]; exact begin_ok hm hLs) (fun hN w H => ?_) (fun s' hN S1 w I1 c1 H => ?_)
    · rw [hle] at hN
      rw [hN] at hb
      refine asBoo_h ?_
      refine br_t rfl ?_
      have H8 : Sh.Holds w0 (S.hp :: [(k9, .cells #[I o.id, I o.item, I o.qty, I o.client, I o.price, .slice p n c] 24 (0, 0))] :: R) w := Holds.re H
      exact bad 5 hb H8
    · rw [hle] at hN
      rw [hN] at hb
      simp only at hb
      rw [hb] at k
      refine asBoo_h ?_
      refine br_f rfl ?_
      replace H : Sh.Holds w0 (S1.hp :: [(k9, .cells #[I o.id, I o.item, I o.qty, I o.client, I o.price, .slice p n c] 24 (0, 0))] :: R) w := Holds.re H
      replace H := openC H.drew
      have en : S.n = S1.n := c1.n.symm
      rw [en]
      (with_reducible repeat first|refine ldA (by assumption) ?_|refine Stp.imp ?_|refine stA (by assumption) rfl fun _ _=>?_|refine nw_h (by assumption) fun _ _ _=>?_|refine ldSA ?_|refine asT_e [] rfl rfl ?_|refine ldD (by assumption) ?_|refine nwD (by assumption) fun _ _ _=>?_)
      have hL1 : s'.L o.id = some (ledN o) := by
        rw [sures_L hN]
        show (beginEs o).foldl playC s.L o.id = _
        rw [begin_play]; simp [updI]
      refine hang_c (T := S1.T) (id := o.id) H I1.ok.T (fun b T2 w ok2 to2 H => ?_)
      obtain ⟨t1, t2, t3⟩ := to2
      (with_reducible repeat first|refine ldA (by assumption) ?_|refine Stp.imp ?_|refine stA (by assumption) rfl fun _ _=>?_|refine nw_h (by assumption) fun _ _ _=>?_|refine ldSA ?_|refine asT_e [] rfl rfl ?_|refine ldD (by assumption) ?_|refine nwD (by assumption) fun _ _ _=>?_)
      have ev : S1.T.v = T2.v := by show Value.pointer _ = Value.pointer _; rw [t1]
      rw [ev] at H
      have I2 : ChIs (withT S1 T2) P (hangC P s' o.id) := I1.withT ok2 t2 (by
        rw [t3, I1.B, I1.tries.1]
        split
        · rfl
        · exact updI_same s'.B o.id)
      have H9 : Sh.Holds w0 ([(S1.n, .cells #[I S1.most, I S1.room, I S1.tr, S1.J.v, I S1.used, .map (some S1.m), T2.v] 136 (0, 0))] :: S1.J.hp :: [(S1.m, mapG S1.l S1.c)] :: T2.hp :: ledsH S1.X :: [(k9, .cells #[I o.id, I o.item, I o.qty, I o.client, I o.price, .slice p n c] 24 (0, 0))] :: R) w.drew := Holds.re H.drew
      clear H
      (with_reducible repeat first|refine ldA (by assumption) ?_|refine Stp.imp ?_|refine stA (by assumption) rfl fun _ _=>?_|refine nw_h (by assumption) fun _ _ _=>?_|refine ldSA ?_|refine asT_e [] rfl rfl ?_|refine ldD (by assumption) ?_|refine nwD (by assumption) fun _ _ _=>?_)
      have hL2 : S1.L o.id = some (ledN o) := by rw [I1.L]; exact hL1
      refine mlook (S := withT S1 T2) 2 H9 rfl I2.ok (fun hL => ?_) (fun p' x hL hp => ?_)
      · exact absurd (hL2.symm.trans hL) (by simp)
      (with_reducible repeat first|refine ldA (by assumption) ?_|refine Stp.imp ?_|refine stA (by assumption) rfl fun _ _=>?_|refine nw_h (by assumption) fun _ _ _=>?_|refine ldSA ?_|refine asT_e [] rfl rfl ?_|refine ldD (by assumption) ?_|refine nwD (by assumption) fun _ _ _=>?_)
      have H10 := shutC (S := withT S1 T2) H9
      refine goes_c (S := withT S1 T2) T H10 I2 hL1 hp (fun r2 S3 w I3 c3 ok3 H => ?_)
      (with_reducible repeat first|refine ldA (by assumption) ?_|refine Stp.imp ?_|refine stA (by assumption) rfl fun _ _=>?_|refine nw_h (by assumption) fun _ _ _=>?_|refine ldSA ?_|refine asT_e [] rfl rfl ?_|refine ldD (by assumption) ?_|refine nwD (by assumption) fun _ _ _=>?_)
      exact k r2 S3 _ I3 ((c1.trans (.withT S1 t1)).trans c3) ok3 (Holds.re H)
end
end Go.Proofs.YtcfmnoimehcfnaaGreatDoor
namespace Go.Proofs.YtcfmnoimehcfnaaGreatDoor
open Go Go.Sh

section
variable {w0 w : World} {hs R : List Hp} {K : KV}
theorem keeper_c {x : Int} (H : Sh.Holds w0 hs w) (k : ∀ w', Sh.Holds w0 hs w' → K (.tuple #[I (IntKind.i64.wrap (x - 1)), .bool (kpr x)]) w') : gocall Tryz.prog 204 [I x] K w := by
  apply F204_go; unfold F204
  have := k w H
  unfold kpr at this
  refine br_s (fun h => ?_) (fun h => ?_)
  · have h : x = 1 := by simpa using h
    subst h; exact this
  · have h : x ≠ 1 := by simpa using h
    rw [show decide (x = 1) = false by simpa using h, Bool.false_or] at this
    exact this
theorem service_c {c : Lc} {m : Mg} (H : Sh.Holds w0 hs w) [D : Del hs c.hp R] (ok : c.Ok) (k : ∀ w', Sh.Holds w0 (c.hp :: R) w' → K (.bool (svcB c.x m)) w') : gocall Tryz.prog 205 [c.v, m.v] K w := by
  replace H := openL (H.get c.hp)
  have hn := ok.s.len
  rw [sps, flat_len Sp.len] at hn
  apply F205_go; unfold F205
  refine nw_h H (fun k8 w H => ?_)
  replace H := H.drew
  replace H : Sh.Holds w0 ([(k8, .cells #[I m.kind, I m.frm, I m.to, I m.id, I m.step, I m.a, I m.b] 35 (0, 0))] :: [(c.p, .cells #[I c.x.o.id, I c.x.o.item, I c.x.o.qty, I c.x.o.client, I c.x.o.price, c.sR.v, c.dR.v, c.uR.v, .bool c.x.f.asked, .bool c.x.f.yes, .bool c.x.f.turned, .bool c.x.f.a0, .bool c.x.f.a1, .bool c.x.f.shipped, .bool c.x.f.d0, .bool c.x.f.d1, .bool c.x.f.acc, .pointer (taP c.T)] 147 (0, 0))] :: c.sR.hp 81 :: c.dR.hp 4 :: c.uR.hp 4 :: taH c.T c.x.t :: R) w.drew := H
  have out : ∀ {b : Bool} {w : World}, svcB c.x m = b → Sh.Holds w0 ([(k8, .cells #[I m.kind, I m.frm, I m.to, I m.id, I m.step, I m.a, I m.b] 35 (0, 0))] :: [(c.p, .cells #[I c.x.o.id, I c.x.o.item, I c.x.o.qty, I c.x.o.client, I c.x.o.price, c.sR.v, c.dR.v, c.uR.v, .bool c.x.f.asked, .bool c.x.f.yes, .bool c.x.f.turned, .bool c.x.f.a0, .bool c.x.f.a1, .bool c.x.f.shipped, .bool c.x.f.d0, .bool c.x.f.d1, .bool c.x.f.acc, .pointer (taP c.T)] 147 (0, 0))] :: c.sR.hp 81 :: c.dR.hp 4 :: c.uR.hp 4 :: taH c.T c.x.t :: R) w → K (.bool b) w := fun e H => e ▸ k _ (shutL H.tail)
  (with_reducible repeat first|refine ldA (by assumption) ?_|refine Stp.imp ?_|refine stA (by assumption) rfl fun _ _=>?_|refine nw_h (by assumption) fun _ _ _=>?_|refine ldSA ?_|refine asT_e [] rfl rfl ?_|refine ldD (by assumption) ?_|refine nwD (by assumption) fun _ _ _=>?_)
  refine br_s (fun h1 => ?_) (fun h1 => out (by unfold svcB; rw [show decide (0 ≤ m.step) = false by simpa using h1]; rfl) H)
  have h1 : 0 ≤ m.step := by simpa using h1
  (with_reducible repeat first|refine ldA (by assumption) ?_|refine Stp.imp ?_|refine stA (by assumption) rfl fun _ _=>?_|refine nw_h (by assumption) fun _ _ _=>?_|refine ldSA ?_|refine asT_e [] rfl rfl ?_|refine ldD (by assumption) ?_|refine nwD (by assumption) fun _ _ _=>?_)
  refine br_s (fun h2 => ?_) (fun h2 => out (by
    have h2 : ¬ m.step < c.x.o.steps.length := by simp at h2; omega
    unfold svcB; simp [h2]) H)
  have h2 : m.step < c.x.o.steps.length := by simp at h2; omega
  (with_reducible repeat first|refine ldA (by assumption) ?_|refine Stp.imp ?_|refine stA (by assumption) rfl fun _ _=>?_|refine nw_h (by assumption) fun _ _ _=>?_|refine ldSA ?_|refine asT_e [] rfl rfl ?_|refine ldD (by assumption) ?_|refine nwD (by assumption) fun _ _ _=>?_)
  have hi : m.step.toNat < c.x.o.steps.length := by omega
  have hp' := List.getElem?_eq_getElem hi
  have hcc := fun {j : Nat} (hj : j < 2) => flat_at (f := Sp.cells) Sp.len hp' hj
  have hsl : Sl (Sh.Holds w0 ([(k8, .cells #[I m.kind, I m.frm, I m.to, I m.id, I m.step, I m.a, I m.b] 35 (0, 0))] :: [(c.p, .cells #[I c.x.o.id, I c.x.o.item, I c.x.o.qty, I c.x.o.client, I c.x.o.price, c.sR.v, c.dR.v, c.uR.v, .bool c.x.f.asked, .bool c.x.f.yes, .bool c.x.f.turned, .bool c.x.f.a0, .bool c.x.f.a1, .bool c.x.f.shipped, .bool c.x.f.d0, .bool c.x.f.d1, .bool c.x.f.acc, .pointer (taP c.T)] 147 (0, 0))] :: c.sR.hp 81 :: c.dR.hp 4 :: c.uR.hp 4 :: taH c.T c.x.t :: R)) c.sR.p c.sR.n 2 (sps c.x.o.steps) := Sl.row 2 rfl ok.s
  refine slAt_s hsl h1 (by omega) (fun b1 o1 hp => ?_)
  refine ldS_s hsl hp H (v := I c.x.o.steps[m.step.toNat].svc) (hcc (j := 0) (by omega)) ?_
  (with_reducible repeat first|refine ldA (by assumption) ?_|refine Stp.imp ?_|refine stA (by assumption) rfl fun _ _=>?_|refine nw_h (by assumption) fun _ _ _=>?_|refine ldSA ?_|refine asT_e [] rfl rfl ?_|refine ldD (by assumption) ?_|refine nwD (by assumption) fun _ _ _=>?_)
  refine out ?_ H
  have hd : c.x.o.steps.getD m.step.toNat ⟨0, 0⟩ = c.x.o.steps[m.step.toNat] := by rw [List.getD_eq_getElem?_getD, hp']; rfl
  unfold svcB
  rw [hd, show decide (0 ≤ m.step) = true by simpa using h1, show decide (m.step < c.x.o.steps.length) = true by simpa using h2]
  rfl
theorem serviceS_c {S : Ch} {id : Int} {p : Nat} {x : Ld} {m : Mg} (H : Sh.Holds w0 hs w) [D : Del hs S.hp R] (ok : S.Ok) (hL : S.L id = some x) (hp : LedP S id p) (k : ∀ w', Sh.Holds w0 (S.hp :: R) w' → K (.bool (svcB x m)) w') : gocall Tryz.prog 205 [.pointer (some ⟨p, 0, none⟩), m.v] K w := by
  obtain ⟨c, A, B, g⟩ := ledGet ok hL hp
  have e : (.pointer (some ⟨p, 0, none⟩) : Value) = c.v := by show _ = Value.pointer (some ⟨c.p, 0, none⟩); rw [g.pe]
  rw [e]
  refine service_c (c := c) (g.out (H.get S.hp)) g.ok (fun w H => ?_)
  rw [g.xe]
  exact k _ (g.back H)
theorem idx_not {l : List Bool} : idx (fun y => false == y) l = idx isNot l := by
  congr 1; funext y; cases y <;> rfl
/-- where the order of that number lies, if there is one -/
def PtOf (S : Ch) (s : CS) (id : Int) (pt : Option Addr) : Prop := (s.L id = none ∧ pt = none) ∨ ∃ x p, s.L id = some x ∧ LedP S id p ∧ pt = some ⟨p, 0, none⟩
theorem tells_c {S : Ch} {P : CP} {s : CS} {m : Mg} {pt : Option Addr} (H : Sh.Holds w0 hs w) [D : Del hs S.hp R] (I0 : ChIs S P s) (hpt : PtOf S s m.id pt)
    (k : ∀ (r : Row) w', r.Ok 7 (mgs (tellsC s m)) → Sh.Holds w0 (r.hp 35 :: S.hp :: R) w' → K r.v w') :
    gocall Tryz.prog 106 [S.v, .pointer pt, m.v] K w := by
  replace H := H.get S.hp
  apply F106_go; unfold F106
  refine nw_h H (fun k9 w H => ?_)
  replace H : Sh.Holds w0 ([(k9, .cells #[I m.kind, I m.frm, I m.to, I m.id, I m.step, I m.a, I m.b] 35 (0, 0))] :: S.hp :: R) w := H
  have no : tellsC s m = [] → ∀ {A : List Hp} [Re (S.hp :: R) A] {w : World}, Sh.Holds w0 A w → K (.slice none 0 0) w := fun e {A} _ {w} H => by
    rw [e] at k
    exact k Row.nil w (Row.nil_ok 7) (Holds.nil (Holds.re H))
  have one : ∀ (kd : Int), tellsC s m = [⟨kd, 0, m.frm, m.id, 0, 0, 0⟩] → ∀ {A : List Hp} [Re (S.hp :: R) A] {q : Nat} {w : World}, Sh.Holds w0 ([(q, .cells #[I kd, I 0, I m.frm, I m.id, I 0, I 0, I 0] 35 (0, 0))] :: A) w → K (.slice (some ⟨q, 0, none⟩) 1 1) w := fun kd e {A} _ {q w} H => by
    rw [e] at k
    have H2 : Sh.Holds w0 ([(q, .cells (mgs [⟨kd, 0, m.frm, m.id, 0, 0, 0⟩]).toArray 35 (0, 0))] :: A) w := H
    have H3 : Sh.Holds w0 ([(q, .cells (mgs [⟨kd, 0, m.frm, m.id, 0, 0, 0⟩]).toArray 35 (0, 0))] :: S.hp :: R) w := Holds.re H2
    exact k _ w (Row.lit (k := q) (vals := mgs [⟨kd, 0, m.frm, m.id, 0, 0, 0⟩]) rfl (by unfold maxLen; omega)) H3
  (with_reducible repeat first|refine ldA (by assumption) ?_|refine Stp.imp ?_|refine stA (by assumption) rfl fun _ _=>?_|refine nw_h (by assumption) fun _ _ _=>?_|refine ldSA ?_|refine asT_e [] rfl rfl ?_|refine ldD (by assumption) ?_|refine nwD (by assumption) fun _ _ _=>?_)
  refine keeper_c H (fun w H => ?_)
  refine asT_e [_, _] rfl rfl ?_
  refine asI_e rfl ?_
  refine asBoo_e rfl ?_
  refine br_s (fun h => no (by unfold tellsC; rw [if_pos (by simpa using h)]) H) (fun hk => ?_)
  have hk : ¬ kpr m.frm = false := by simpa using hk
  rcases hpt with ⟨hL, rfl⟩ | ⟨x, p, hL, hp, rfl⟩
  · have e : tellsC s m = [⟨14, 0, m.frm, m.id, 0, 0, 0⟩] := by unfold tellsC; rw [if_neg hk, hL]
    (with_reducible repeat first|refine ldA (by assumption) ?_|refine Stp.imp ?_|refine stA (by assumption) rfl fun _ _=>?_|refine nw_h (by assumption) fun _ _ _=>?_|refine ldSA ?_|refine asT_e [] rfl rfl ?_|refine ldD (by assumption) ?_|refine nwD (by assumption) fun _ _ _=>?_)
    refine br_t rfl ?_
    (with_reducible repeat first|refine ldA (by assumption) ?_|refine Stp.imp ?_|refine stA (by assumption) rfl fun _ _=>?_|refine nw_h (by assumption) fun _ _ _=>?_|refine ldSA ?_|refine asT_e [] rfl rfl ?_|refine ldD (by assumption) ?_|refine nwD (by assumption) fun _ _ _=>?_)
    exact one 14 e (by assumption)
  · have hL' : S.L m.id = some x := by rw [I0.L]; exact hL
    obtain ⟨c, A, Bs, g⟩ := ledGet I0.ok hL' hp
    have gx := g.xe
    have gp := g.pe
    subst gx gp
    have e : tellsC s m = if c.x.f.turned = true then [⟨14, 0, m.frm, m.id, 0, 0, 0⟩] else if c.x.f.yes = true then [⟨13, 0, m.frm, m.id, 0, 0, 0⟩] else [] := by unfold tellsC; rw [if_neg hk, hL]
    (with_reducible repeat first|refine ldA (by assumption) ?_|refine Stp.imp ?_|refine stA (by assumption) rfl fun _ _=>?_|refine nw_h (by assumption) fun _ _ _=>?_|refine ldSA ?_|refine asT_e [] rfl rfl ?_|refine ldD (by assumption) ?_|refine nwD (by assumption) fun _ _ _=>?_)
    refine br_f rfl ?_
    rename_i k33 w2 H2 w3 H3 w4 H4 w5 H5 w6 H6 w7 H7 w8 H8 w9 H9
    have Hx := openL (g.out (Holds.get S.hp H9))
    replace Hx : Sh.Holds w0 ([(c.p, .cells #[I c.x.o.id, I c.x.o.item, I c.x.o.qty, I c.x.o.client, I c.x.o.price, c.sR.v, c.dR.v, c.uR.v, .bool c.x.f.asked, .bool c.x.f.yes, .bool c.x.f.turned, .bool c.x.f.a0, .bool c.x.f.a1, .bool c.x.f.shipped, .bool c.x.f.d0, .bool c.x.f.d1, .bool c.x.f.acc, .pointer (taP c.T)] 147 (0, 0))] :: c.sR.hp 81 :: c.dR.hp 4 :: c.uR.hp 4 :: taH c.T c.x.t :: ledsH (A ++ Bs) :: [(S.n, .cells #[I S.most, I S.room, I S.tr, S.J.v, I S.used, .map (some S.m), S.T.v] 136 (0, 0))] :: S.J.hp :: [(S.m, mapG S.l S.c)] :: S.T.hp :: [(k33, .cells #[I 0, I 0, I m.frm, I m.id, I 0, I 0, I 0] 35 (0, 0))] :: R) w9 := Holds.re Hx
    clear H2 H3 H4 H5 H6 H7 H8 H9 H
    have back : ∀ {q : Nat} {v : Obj} {w : World}, Sh.Holds w0 ([(c.p, .cells #[I c.x.o.id, I c.x.o.item, I c.x.o.qty, I c.x.o.client, I c.x.o.price, c.sR.v, c.dR.v, c.uR.v, .bool c.x.f.asked, .bool c.x.f.yes, .bool c.x.f.turned, .bool c.x.f.a0, .bool c.x.f.a1, .bool c.x.f.shipped, .bool c.x.f.d0, .bool c.x.f.d1, .bool c.x.f.acc, .pointer (taP c.T)] 147 (0, 0))] :: c.sR.hp 81 :: c.dR.hp 4 :: c.uR.hp 4 :: taH c.T c.x.t :: ledsH (A ++ Bs) :: [(S.n, .cells #[I S.most, I S.room, I S.tr, S.J.v, I S.used, .map (some S.m), S.T.v] 136 (0, 0))] :: S.J.hp :: [(S.m, mapG S.l S.c)] :: S.T.hp :: [(q, v)] :: R) w → Sh.Holds w0 (S.hp :: [(q, v)] :: R) w := fun H => g.back (shutL H)
    (with_reducible repeat first|refine ldA (by assumption) ?_|refine Stp.imp ?_|refine stA (by assumption) rfl fun _ _=>?_|refine nw_h (by assumption) fun _ _ _=>?_|refine ldSA ?_|refine asT_e [] rfl rfl ?_|refine ldD (by assumption) ?_|refine nwD (by assumption) fun _ _ _=>?_)
    refine br_s (fun ht => ?_) (fun ht => ?_)
    · rw [if_pos ht] at e
      refine stA Hx rfl (fun w Hy => ?_)
      have Hz := back Hy
      clear Hx Hy
      (with_reducible repeat first|refine ldA (by assumption) ?_|refine Stp.imp ?_|refine stA (by assumption) rfl fun _ _=>?_|refine nw_h (by assumption) fun _ _ _=>?_|refine ldSA ?_|refine asT_e [] rfl rfl ?_|refine ldD (by assumption) ?_|refine nwD (by assumption) fun _ _ _=>?_)
      exact one 14 e (by assumption)
    · rw [if_neg (by simp [ht])] at e
      (with_reducible repeat first|refine ldA (by assumption) ?_|refine Stp.imp ?_|refine stA (by assumption) rfl fun _ _=>?_|refine nw_h (by assumption) fun _ _ _=>?_|refine ldSA ?_|refine asT_e [] rfl rfl ?_|refine ldD (by assumption) ?_|refine nwD (by assumption) fun _ _ _=>?_)
      refine br_s (fun hy => ?_) (fun hy => ?_)
      · rw [if_pos hy] at e
        refine stA Hx rfl (fun w Hy => ?_)
        have Hz := back Hy
        clear Hx Hy
        (with_reducible repeat first|refine ldA (by assumption) ?_|refine Stp.imp ?_|refine stA (by assumption) rfl fun _ _=>?_|refine nw_h (by assumption) fun _ _ _=>?_|refine ldSA ?_|refine asT_e [] rfl rfl ?_|refine ldD (by assumption) ?_|refine nwD (by assumption) fun _ _ _=>?_)
        exact one 13 e (by assumption)
      · rw [if_neg (by simp [hy])] at e
        exact no e (back Hx)
end
end Go.Proofs.YtcfmnoimehcfnaaGreatDoor
namespace Go.Proofs.YtcfmnoimehcfnaaGreatDoor
open Go Go.Sh

theorem ChIs.one {S : Ch} {P : CP} {s : CS} (I0 : ChIs S P s) {id : Int} {x : Ld} (hL : s.L id = some x) (k : Int) (hk : k ≠ 1) (ns : List Int) : ∃ y, playC s.L ⟨k, id, ns⟩ id = some y := by
  unfold playC
  rw [if_neg hk]
  simp only [hL, updI, if_true]
  exact ⟨_, rfl⟩
section
variable {w0 w : World} {hs R : List Hp} {K : KV}
set_option maxHeartbeats 4000000 in
theorem steps_c {S : Ch} {P : CP} {s : CS} {m : Mg} {p : Nat} {x : Ld} (T : Tab w0) (H : Sh.Holds w0 hs w) [D : Del hs S.hp R] (I0 : ChIs S P s) (hL : s.L m.id = some x) (hp : LedP S m.id p)
    (k : ∀ (r : Row) (S' : Ch) w', ChIs S' P (stepsC P s x m).1 → ChK S S' → r.Ok 7 (mgs (stepsC P s x m).2) → Sh.Holds w0 (r.hp 35 :: S'.hp :: R) w' → K r.v w') :
    gocall Tryz.prog 107 [S.v, .pointer (some ⟨p, 0, none⟩), m.v] K w := by
  replace H := H.get S.hp
  have hL' : S.L m.id = some x := by rw [I0.L]; exact hL
  have hid := I0.id hL
  obtain ⟨c, A, Bs, g⟩ := ledGet I0.ok hL' hp
  have gx := g.xe
  have gp := g.pe
  subst gx gp
  have okc := g.ok
  have hle := g.le
  have hu := I0.ok.u
  apply F107_go; unfold F107
  refine nw_h H (fun k9 w H => ?_)
  replace H : Sh.Holds w0 ([(k9, .cells #[I m.kind, I m.frm, I m.to, I m.id, I m.step, I m.a, I m.b] 35 (0, 0))] :: S.hp :: R) w := H
  have no : stepsC P s c.x m = (s, []) → ∀ {A : List Hp} [Re (S.hp :: R) A] {w : World}, Sh.Holds w0 A w → K (.slice none 0 0) w := fun e {A} _ {w} H => by
    rw [e] at k
    exact k Row.nil S w I0 (.rfl' S) (Row.nil_ok 7) (Holds.nil (Holds.re H))
  have opn : ∀ {w : World}, Sh.Holds w0 (S.hp :: [(k9, .cells #[I m.kind, I m.frm, I m.to, I m.id, I m.step, I m.a, I m.b] 35 (0, 0))] :: R) w → Sh.Holds w0 ([(c.p, .cells #[I c.x.o.id, I c.x.o.item, I c.x.o.qty, I c.x.o.client, I c.x.o.price, c.sR.v, c.dR.v, c.uR.v, .bool c.x.f.asked, .bool c.x.f.yes, .bool c.x.f.turned, .bool c.x.f.a0, .bool c.x.f.a1, .bool c.x.f.shipped, .bool c.x.f.d0, .bool c.x.f.d1, .bool c.x.f.acc, .pointer (taP c.T)] 147 (0, 0))] :: c.sR.hp 81 :: c.dR.hp 4 :: c.uR.hp 4 :: taH c.T c.x.t :: ledsH (A ++ Bs) :: [(S.n, .cells #[I S.most, I S.room, I S.tr, S.J.v, I S.used, .map (some S.m), S.T.v] 136 (0, 0))] :: S.J.hp :: [(S.m, mapG S.l S.c)] :: S.T.hp :: [(k9, .cells #[I m.kind, I m.frm, I m.to, I m.id, I m.step, I m.a, I m.b] 35 (0, 0))] :: R) w := fun H => openL (g.out H)
  have cls : ∀ {w : World} {Q : List Hp}, Sh.Holds w0 ([(c.p, .cells #[I c.x.o.id, I c.x.o.item, I c.x.o.qty, I c.x.o.client, I c.x.o.price, c.sR.v, c.dR.v, c.uR.v, .bool c.x.f.asked, .bool c.x.f.yes, .bool c.x.f.turned, .bool c.x.f.a0, .bool c.x.f.a1, .bool c.x.f.shipped, .bool c.x.f.d0, .bool c.x.f.d1, .bool c.x.f.acc, .pointer (taP c.T)] 147 (0, 0))] :: c.sR.hp 81 :: c.dR.hp 4 :: c.uR.hp 4 :: taH c.T c.x.t :: ledsH (A ++ Bs) :: [(S.n, .cells #[I S.most, I S.room, I S.tr, S.J.v, I S.used, .map (some S.m), S.T.v] 136 (0, 0))] :: S.J.hp :: [(S.m, mapG S.l S.c)] :: S.T.hp :: Q) w → Sh.Holds w0 (S.hp :: Q) w := fun H => g.back (shutL H)
  -- an entry of a step is noted, and it goes on
  have note : ∀ (kd : Int) (b : ByteArray) (w : World), (kd = 4 ∨ kd = 5) → b = B (ceL kd) → (0 ≤ m.step ∧ m.step < c.x.o.steps.length) → stepsC P s c.x m = onC P s ⟨kd, m.id, [m.step]⟩ → ∀ {q kb : Nat}, Sh.Holds w0 ([(q, .cells #[.string b, I m.id, .slice (some ⟨kb, 0, none⟩) 1 1] 139 (0, 0))] :: [(kb, .cells #[I m.step] 3 (0, 0))] :: S.hp :: [(k9, .cells #[I m.kind, I m.frm, I m.to, I m.id, I m.step, I m.a, I m.b] 35 (0, 0))] :: R) w →
      gocall Tryz.prog 110 [S.v, .slice (some ⟨q, 0, none⟩) 1 1] (fun v w => asBoo v (fun b w => br (!b) (fun w => K (.slice none 0 0) w) (fun w => gocall Tryz.prog 105 [S.v, .pointer (some ⟨c.p, 0, none⟩)] (fun v w => asSl v (fun p n c w => K (.slice p n c) w) w) w) w) w) w := by
    intro kd b w hkd hb hst e q kb H
    subst hb
    rw [e] at k
    refine notes_c (S := S) (l := [(⟨kd, m.id, [m.step]⟩, some ⟨kb, 0, none⟩, 1, 1)]) T H I0 (EsS.one (e := ⟨kd, m.id, [m.step]⟩) (Sl.block (vals := [I m.step]) 0 rfl rfl)) (by simp) (okSeq.one ⟨hid, .inr (.inr (.inr (.inl ⟨hkd, m.step, rfl, by have := okc.len; omega, fun y hy => by rw [hL] at hy; cases hy; exact hst.2⟩)))⟩) (fun hN w H => ?_) (fun s' hN S1 w I1 c1 H => ?_)
    · have hN : noteC P s [⟨kd, m.id, [m.step]⟩] = none := hN
      have e2 : onC P s ⟨kd, m.id, [m.step]⟩ = (s, []) := by unfold onC; rw [hN]
      rw [e2] at k
      (with_reducible repeat first|refine ldA (by assumption) ?_|refine Stp.imp ?_|refine stA (by assumption) rfl fun _ _=>?_|refine nw_h (by assumption) fun _ _ _=>?_|refine ldSA ?_|refine asT_e [] rfl rfl ?_|refine ldD (by assumption) ?_|refine nwD (by assumption) fun _ _ _=>?_)
      refine br_t rfl ?_
      exact k Row.nil S w I0 (.rfl' S) (Row.nil_ok 7) (Holds.nil (Holds.re H))
    · have hN : noteC P s [⟨kd, m.id, [m.step]⟩] = some s' := hN
      have e2 : onC P s ⟨kd, m.id, [m.step]⟩ = goesC P s' m.id := by unfold onC; rw [hN]
      rw [e2] at k
      (with_reducible repeat first|refine ldA (by assumption) ?_|refine Stp.imp ?_|refine stA (by assumption) rfl fun _ _=>?_|refine nw_h (by assumption) fun _ _ _=>?_|refine ldSA ?_|refine asT_e [] rfl rfl ?_|refine ldD (by assumption) ?_|refine nwD (by assumption) fun _ _ _=>?_)
      refine br_f rfl ?_
      have hL1 : ∃ y, s'.L m.id = some y := by
        rw [note_L hN]
        exact I0.one hL kd (by omega) [m.step]
      obtain ⟨y, hy⟩ := hL1
      have en : S.v = S1.v := by show Value.pointer _ = Value.pointer _; rw [c1.n]
      rw [en]
      refine goes_c (S := S1) T H I1 hy (hp.keep c1) (fun r S2 w I2 c2 okr H => ?_)
      (with_reducible repeat first|refine ldA (by assumption) ?_|refine Stp.imp ?_|refine stA (by assumption) rfl fun _ _=>?_|refine nw_h (by assumption) fun _ _ _=>?_|refine ldSA ?_|refine asT_e [] rfl rfl ?_|refine ldD (by assumption) ?_|refine nwD (by assumption) fun _ _ _=>?_)
      exact k r S2 _ I2 (c1.trans c2) okr (Holds.re H)
  (with_reducible repeat first|refine ldA (by assumption) ?_|refine Stp.imp ?_|refine stA (by assumption) rfl fun _ _=>?_|refine nw_h (by assumption) fun _ _ _=>?_|refine ldSA ?_|refine asT_e [] rfl rfl ?_|refine ldD (by assumption) ?_|refine nwD (by assumption) fun _ _ _=>?_)
  refine serviceS_c (S := S) (m := m) H I0.ok hL' hp (fun w H => ?_)
  (with_reducible repeat first|refine ldA (by assumption) ?_|refine Stp.imp ?_|refine stA (by assumption) rfl fun _ _=>?_|refine nw_h (by assumption) fun _ _ _=>?_|refine ldSA ?_|refine asT_e [] rfl rfl ?_|refine ldD (by assumption) ?_|refine nwD (by assumption) fun _ _ _=>?_)
  refine br_s (fun h => no (by unfold stepsC; rw [if_pos (by simpa using h)]) H) (fun hv => ?_)
  have hv : svcB c.x m = true := by simpa using hv
  have hst : 0 ≤ m.step ∧ m.step < c.x.o.steps.length := by
    simp only [svcB, Bool.and_eq_true, decide_eq_true_eq] at hv; exact ⟨hv.1, hv.2.1⟩
  have e0 : stepsC P s c.x m = if m.kind = 3 ∧ c.x.f.decided = false then ((turnsC P s m.id).1, (turnsC P s m.id).2.1) else if m.kind = 2 then (if c.x.f.asked = false ∧ c.x.f.decided = false ∧ idx isNot c.x.f.done = m.step then onC P s ⟨4, m.id, [m.step]⟩ else (s, [])) else if m.kind = 5 then (if c.x.f.turned = true ∧ lastI c.x.f.undone = m.step then onC P s ⟨5, m.id, [m.step]⟩ else (s, [])) else (s, []) := by
    unfold stepsC; rw [if_neg (by simp [hv])]
  (with_reducible repeat first|refine ldA (by assumption) ?_|refine Stp.imp ?_|refine stA (by assumption) rfl fun _ _=>?_|refine nw_h (by assumption) fun _ _ _=>?_|refine ldSA ?_|refine asT_e [] rfl rfl ?_|refine ldD (by assumption) ?_|refine nwD (by assumption) fun _ _ _=>?_)
  refine br_s (fun h3 => ?_) (fun h3 => ?_)
  · have h3 : m.kind = 3 := by simpa using h3
    refine decidedS_c (S := S) H I0.ok hL' hp (fun w H => ?_)
    (with_reducible repeat first|refine ldA (by assumption) ?_|refine Stp.imp ?_|refine stA (by assumption) rfl fun _ _=>?_|refine nw_h (by assumption) fun _ _ _=>?_|refine ldSA ?_|refine asT_e [] rfl rfl ?_|refine ldD (by assumption) ?_|refine nwD (by assumption) fun _ _ _=>?_)
    refine br_s (fun hd => ?_) (fun hd => ?_)
    · have hd : c.x.f.decided = false := by simpa using hd
      rw [if_pos ⟨h3, hd⟩] at e0
      rw [e0] at k
      refine turns_c (S := S) T H I0 hL hp (fun r S' w I1 c1 okr H => ?_)
      refine asT_e [_, _] rfl rfl ?_
      refine asSl_e rfl ?_
      refine asI_e rfl ?_
      exact k r S' _ I1 c1 okr (Holds.re H)
    · have hd : c.x.f.decided = true := by simpa using hd
      rw [if_neg (by rw [hd]; simp), if_neg (by omega), if_neg (by omega)] at e0
      replace H : Sh.Holds w0 (S.hp :: [(k9, .cells #[I m.kind, I m.frm, I m.to, I m.id, I m.step, I m.a, I m.b] 35 (0, 0))] :: R) _ := H
      (with_reducible repeat first|refine ldA (by assumption) ?_|refine Stp.imp ?_|refine stA (by assumption) rfl fun _ _=>?_|refine nw_h (by assumption) fun _ _ _=>?_|refine ldSA ?_|refine asT_e [] rfl rfl ?_|refine ldD (by assumption) ?_|refine nwD (by assumption) fun _ _ _=>?_)
      refine br_f (by simp [h3]) ?_
      (with_reducible repeat first|refine ldA (by assumption) ?_|refine Stp.imp ?_|refine stA (by assumption) rfl fun _ _=>?_|refine nw_h (by assumption) fun _ _ _=>?_|refine ldSA ?_|refine asT_e [] rfl rfl ?_|refine ldD (by assumption) ?_|refine nwD (by assumption) fun _ _ _=>?_)
      refine br_f (by simp [h3]) ?_
      exact no e0 H
  have h3 : m.kind ≠ 3 := by simpa using h3
  rw [if_neg (by simp [h3])] at e0
  replace H : Sh.Holds w0 (S.hp :: [(k9, .cells #[I m.kind, I m.frm, I m.to, I m.id, I m.step, I m.a, I m.b] 35 (0, 0))] :: R) _ := H
  (with_reducible repeat first|refine ldA (by assumption) ?_|refine Stp.imp ?_|refine stA (by assumption) rfl fun _ _=>?_|refine nw_h (by assumption) fun _ _ _=>?_|refine ldSA ?_|refine asT_e [] rfl rfl ?_|refine ldD (by assumption) ?_|refine nwD (by assumption) fun _ _ _=>?_)
  refine br_s (fun h2 => ?_) (fun h2 => ?_)
  · have h2 : m.kind = 2 := by simpa using h2
    rw [if_pos h2] at e0
    have H2 := opn H.drew
    refine keepsA [[(c.p, .cells #[I c.x.o.id, I c.x.o.item, I c.x.o.qty, I c.x.o.client, I c.x.o.price, c.sR.v, c.dR.v, c.uR.v, .bool c.x.f.asked, .bool c.x.f.yes, .bool c.x.f.turned, .bool c.x.f.a0, .bool c.x.f.a1, .bool c.x.f.shipped, .bool c.x.f.d0, .bool c.x.f.d1, .bool c.x.f.acc, .pointer (taP c.T)] 147 (0, 0))], [(k9, .cells #[I m.kind, I m.frm, I m.to, I m.id, I m.step, I m.a, I m.b] 35 (0, 0))]] H2 ?_
    (with_reducible repeat first|refine ldA (by assumption) ?_|refine Stp.imp ?_|refine stA (by assumption) rfl fun _ _=>?_|refine nw_h (by assumption) fun _ _ _=>?_|refine ldSA ?_|refine asT_e [] rfl rfl ?_|refine ldD (by assumption) ?_|refine nwD (by assumption) fun _ _ _=>?_)
    refine br_s (fun ha => ?_) (fun ha => no (by rw [e0, if_neg (fun q => by rw [q.1] at ha; simp at ha)]) (cls H2))
    have ha : c.x.f.asked = false := by simpa using ha
    refine decidedS_c (S := S) (cls H2) I0.ok hL' hp (fun w H => ?_)
    (with_reducible repeat first|refine ldA (by assumption) ?_|refine Stp.imp ?_|refine stA (by assumption) rfl fun _ _=>?_|refine nw_h (by assumption) fun _ _ _=>?_|refine ldSA ?_|refine asT_e [] rfl rfl ?_|refine ldD (by assumption) ?_|refine nwD (by assumption) fun _ _ _=>?_)
    have H3 := opn H
    refine kpA H3 ?_
    refine br_s (fun hd => ?_) (fun hd => no (by rw [e0, if_neg (fun q => by rw [q.2.1] at hd; simp at hd)]) (cls H3))
    have hd : c.x.f.decided = false := by simpa using hd
    (with_reducible repeat first|refine ldA (by assumption) ?_|refine Stp.imp ?_|refine stA (by assumption) rfl fun _ _=>?_|refine nw_h (by assumption) fun _ _ _=>?_|refine ldSA ?_|refine asT_e [] rfl rfl ?_|refine ldD (by assumption) ?_|refine nwD (by assumption) fun _ _ _=>?_)
    refine IndexB_c (l := c.x.f.done) H3 (Sl.row 2 rfl okc.d) (by have := okc.dl; have := okc.len; omega) (fun w H => ?_)
    rw [idx_not]
    (with_reducible repeat first|refine ldA (by assumption) ?_|refine Stp.imp ?_|refine stA (by assumption) rfl fun _ _=>?_|refine nw_h (by assumption) fun _ _ _=>?_|refine ldSA ?_|refine asT_e [] rfl rfl ?_|refine ldD (by assumption) ?_|refine nwD (by assumption) fun _ _ _=>?_)
    refine kpA H ?_
    refine br_s (fun hi => ?_) (fun hi => no (by rw [e0, if_neg (fun q => by rw [q.2.2] at hi; simp at hi)]) (cls H))
    have hi : idx isNot c.x.f.done = m.step := by simpa using hi
    rw [if_pos ⟨ha, hd, hi⟩] at e0
    (with_reducible repeat first|refine ldA (by assumption) ?_|refine Stp.imp ?_|refine stA (by assumption) rfl fun _ _=>?_|refine nw_h (by assumption) fun _ _ _=>?_|refine ldSA ?_|refine asT_e [] rfl rfl ?_|refine ldD (by assumption) ?_|refine nwD (by assumption) fun _ _ _=>?_)
    refine kpA (by assumption) ?_
    rename_i k112 w5 H5
    refine entry_c H5 (fun w H => ?_)
    refine asN_e [_, _, _] rfl rfl ?_
    refine asStr_e rfl ?_
    refine asI_e rfl ?_
    refine asSl_e rfl ?_
    refine nw_h H (fun q w H => ?_)
    have H6 := cls (Holds.re (a := [(c.p, .cells #[I c.x.o.id, I c.x.o.item, I c.x.o.qty, I c.x.o.client, I c.x.o.price, c.sR.v, c.dR.v, c.uR.v, .bool c.x.f.asked, .bool c.x.f.yes, .bool c.x.f.turned, .bool c.x.f.a0, .bool c.x.f.a1, .bool c.x.f.shipped, .bool c.x.f.d0, .bool c.x.f.d1, .bool c.x.f.acc, .pointer (taP c.T)] 147 (0, 0))] :: c.sR.hp 81 :: c.dR.hp 4 :: c.uR.hp 4 :: taH c.T c.x.t :: ledsH (A ++ Bs) :: [(S.n, .cells #[I S.most, I S.room, I S.tr, S.J.v, I S.used, .map (some S.m), S.T.v] 136 (0, 0))] :: S.J.hp :: [(S.m, mapG S.l S.c)] :: S.T.hp :: [(q, .cells #[.string ⟨#[100, 111, 110, 101]⟩, I m.id, .slice (some ⟨k112, 0, none⟩) 1 1] 139 (0, 0))] :: [(k112, .cells #[I m.step] 3 (0, 0))] :: [(k9, .cells #[I m.kind, I m.frm, I m.to, I m.id, I m.step, I m.a, I m.b] 35 (0, 0))] :: R) H)
    exact note 4 ⟨#[100, 111, 110, 101]⟩ _ (.inl rfl) rfl hst e0 (q := q) (kb := k112) (Holds.re H6)
  have h2 : m.kind ≠ 2 := by simpa using h2
  rw [if_neg h2] at e0
  (with_reducible repeat first|refine ldA (by assumption) ?_|refine Stp.imp ?_|refine stA (by assumption) rfl fun _ _=>?_|refine nw_h (by assumption) fun _ _ _=>?_|refine ldSA ?_|refine asT_e [] rfl rfl ?_|refine ldD (by assumption) ?_|refine nwD (by assumption) fun _ _ _=>?_)
  refine br_s (fun h5 => ?_) (fun h5 => no (by rw [e0, if_neg (by simpa using h5)]) H)
  have h5 : m.kind = 5 := by simpa using h5
  rw [if_pos h5] at e0
  have H2 := opn H.drew
  refine keepsA [[(c.p, .cells #[I c.x.o.id, I c.x.o.item, I c.x.o.qty, I c.x.o.client, I c.x.o.price, c.sR.v, c.dR.v, c.uR.v, .bool c.x.f.asked, .bool c.x.f.yes, .bool c.x.f.turned, .bool c.x.f.a0, .bool c.x.f.a1, .bool c.x.f.shipped, .bool c.x.f.d0, .bool c.x.f.d1, .bool c.x.f.acc, .pointer (taP c.T)] 147 (0, 0))], [(k9, .cells #[I m.kind, I m.frm, I m.to, I m.id, I m.step, I m.a, I m.b] 35 (0, 0))]] H2 ?_
  (with_reducible repeat first|refine ldA (by assumption) ?_|refine Stp.imp ?_|refine stA (by assumption) rfl fun _ _=>?_|refine nw_h (by assumption) fun _ _ _=>?_|refine ldSA ?_|refine asT_e [] rfl rfl ?_|refine ldD (by assumption) ?_|refine nwD (by assumption) fun _ _ _=>?_)
  refine br_s (fun ht => ?_) (fun ht => no (by rw [e0, if_neg (fun q => by rw [q.1] at ht; cases ht)]) (cls H2))
  (with_reducible repeat first|refine ldA (by assumption) ?_|refine Stp.imp ?_|refine stA (by assumption) rfl fun _ _=>?_|refine nw_h (by assumption) fun _ _ _=>?_|refine ldSA ?_|refine asT_e [] rfl rfl ?_|refine ldD (by assumption) ?_|refine nwD (by assumption) fun _ _ _=>?_)
  refine lastFalse_c (l := c.x.f.undone) H2 (Sl.row 3 rfl okc.u) (by have := okc.ul; have := okc.len; omega) (fun w H => ?_)
  (with_reducible repeat first|refine ldA (by assumption) ?_|refine Stp.imp ?_|refine stA (by assumption) rfl fun _ _=>?_|refine nw_h (by assumption) fun _ _ _=>?_|refine ldSA ?_|refine asT_e [] rfl rfl ?_|refine ldD (by assumption) ?_|refine nwD (by assumption) fun _ _ _=>?_)
  refine kpA H ?_
  refine br_s (fun hi => ?_) (fun hi => no (by rw [e0, if_neg (fun q => by rw [q.2] at hi; simp at hi)]) (cls H))
  have hi : lastI c.x.f.undone = m.step := by simpa using hi
  rw [if_pos ⟨ht, hi⟩] at e0
  (with_reducible repeat first|refine ldA (by assumption) ?_|refine Stp.imp ?_|refine stA (by assumption) rfl fun _ _=>?_|refine nw_h (by assumption) fun _ _ _=>?_|refine ldSA ?_|refine asT_e [] rfl rfl ?_|refine ldD (by assumption) ?_|refine nwD (by assumption) fun _ _ _=>?_)
  refine kpA (by assumption) ?_
  rename_i k112 w5 H5
  refine entry_c H5 (fun w H => ?_)
  refine asN_e [_, _, _] rfl rfl ?_
  refine asStr_e rfl ?_
  refine asI_e rfl ?_
  refine asSl_e rfl ?_
  refine nw_h H (fun q w H => ?_)
  have H6 := cls (Holds.re (a := [(c.p, .cells #[I c.x.o.id, I c.x.o.item, I c.x.o.qty, I c.x.o.client, I c.x.o.price, c.sR.v, c.dR.v, c.uR.v, .bool c.x.f.asked, .bool c.x.f.yes, .bool c.x.f.turned, .bool c.x.f.a0, .bool c.x.f.a1, .bool c.x.f.shipped, .bool c.x.f.d0, .bool c.x.f.d1, .bool c.x.f.acc, .pointer (taP c.T)] 147 (0, 0))] :: c.sR.hp 81 :: c.dR.hp 4 :: c.uR.hp 4 :: taH c.T c.x.t :: ledsH (A ++ Bs) :: [(S.n, .cells #[I S.most, I S.room, I S.tr, S.J.v, I S.used, .map (some S.m), S.T.v] 136 (0, 0))] :: S.J.hp :: [(S.m, mapG S.l S.c)] :: S.T.hp :: [(q, .cells #[.string ⟨#[117, 110, 100, 111, 110, 101]⟩, I m.id, .slice (some ⟨k112, 0, none⟩) 1 1] 139 (0, 0))] :: [(k112, .cells #[I m.step] 3 (0, 0))] :: [(k9, .cells #[I m.kind, I m.frm, I m.to, I m.id, I m.step, I m.a, I m.b] 35 (0, 0))] :: R) H)
  exact note 5 ⟨#[117, 110, 100, 111, 110, 101]⟩ _ (.inr rfl) rfl hst e0 (q := q) (kb := k112) (Holds.re H6)
end
end Go.Proofs.YtcfmnoimehcfnaaGreatDoor
