/- The chief, texts put together. Conditions: none. -/
import Derived.Test.YtcfmnoimehcfnaaGreatDoorXC
set_option linter.unusedVariables false
set_option linter.unusedSimpArgs false
set_option maxRecDepth 100000
namespace Go.Proofs.YtcfmnoimehcfnaaGreatDoor
open Go Go.Sh

theorem kpr_out {x : Int} (h : kpr x = true) : x = 1 ∨ x = 2 := by
  unfold kpr at h; simpa using h
section
variable {w0 w : World} {hs R : List Hp} {K : KV}
set_option maxHeartbeats 4000000 in
theorem votes_c {S : Ch} {P : CP} {s : CS} {m : Mg} {p : Nat} {x : Ld} (T : Tab w0) (H : Sh.Holds w0 hs w) [D : Del hs S.hp R] (I0 : ChIs S P s) (hL : s.L m.id = some x) (hp : LedP S m.id p) (htt : x.t ≠ some (true, true))
    (k : ∀ (r : Row) (S' : Ch) w', ChIs S' P (votesC P s x m).1 → ChK S S' → r.Ok 7 (mgs (votesC P s x m).2) → Sh.Holds w0 (r.hp 35 :: S'.hp :: R) w' → K r.v w') :
    gocall Tryz.prog 108 [S.v, .pointer (some ⟨p, 0, none⟩), m.v] K w := by
  replace H := H.get S.hp
  have hL' : S.L m.id = some x := by rw [I0.L]; exact hL
  have hid := I0.id hL
  obtain ⟨c, A, Bs, g⟩ := ledGet I0.ok hL' hp
  have gx := g.xe
  have gp := g.pe
  subst gx gp
  have okc := g.ok
  have hle := g.le
  have hu := I0.ok.u
  apply F108_go; unfold F108
  refine nw_h H (fun k9 w H => ?_)
  replace H : Sh.Holds w0 ([(k9, .cells #[I m.kind, I m.frm, I m.to, I m.id, I m.step, I m.a, I m.b] 35 (0, 0))] :: S.hp :: R) w := H
  have no : votesC P s c.x m = (s, []) → ∀ {A : List Hp} [Re (S.hp :: R) A] {w : World}, Sh.Holds w0 A w → K (.slice none 0 0) w := fun e {A} _ {w} H => by
    rw [e] at k
    exact k Row.nil S w I0 (.rfl' S) (Row.nil_ok 7) (Holds.nil (Holds.re H))
  have cls : ∀ {w : World} {Q : List Hp}, Sh.Holds w0 ([(c.p, .cells #[I c.x.o.id, I c.x.o.item, I c.x.o.qty, I c.x.o.client, I c.x.o.price, c.sR.v, c.dR.v, c.uR.v, .bool c.x.f.asked, .bool c.x.f.yes, .bool c.x.f.turned, .bool c.x.f.a0, .bool c.x.f.a1, .bool c.x.f.shipped, .bool c.x.f.d0, .bool c.x.f.d1, .bool c.x.f.acc, .pointer (taP c.T)] 147 (0, 0))] :: c.sR.hp 81 :: c.dR.hp 4 :: c.uR.hp 4 :: taH c.T c.x.t :: ledsH (A ++ Bs) :: [(S.n, .cells #[I S.most, I S.room, I S.tr, S.J.v, I S.used, .map (some S.m), S.T.v] 136 (0, 0))] :: S.J.hp :: [(S.m, mapG S.l S.c)] :: S.T.hp :: Q) w → Sh.Holds w0 (S.hp :: Q) w := fun H => g.back (shutL H)
  -- an entry is noted, all is made sure, and it goes on
  have sure : ∀ (kd : Int) (b : ByteArray) (w : World), (kd = 6 ∨ kd = 7) → b = B (ceL kd) → votesC P s c.x m = onSC P s ⟨kd, m.id, []⟩ → ∀ {q : Nat} {Q : List Hp} [Re ([(q, .cells #[.string b, I m.id, .slice none 0 0] 139 (0, 0))] :: S.hp :: R) Q], Sh.Holds w0 Q w →
      gocall Tryz.prog 103 [S.v, .slice (some ⟨q, 0, none⟩) 1 1] (fun v w => asBoo v (fun b w => br (!b) (fun w => K (.slice none 0 0) w) (fun w => gocall Tryz.prog 105 [S.v, .pointer (some ⟨c.p, 0, none⟩)] (fun v w => asSl v (fun p n c w => K (.slice p n c) w) w) w) w) w) w := by
    intro kd b w hkd hb e q Q _ H
    have H : Sh.Holds w0 ([(q, .cells #[.string b, I m.id, .slice none 0 0] 139 (0, 0))] :: S.hp :: R) w := Holds.re H
    subst hb
    rw [e] at k
    refine sures_c (S := S) (l := [(⟨kd, m.id, []⟩, none, 0, 0)]) T H I0 (EsS.one (e := ⟨kd, m.id, []⟩) Sl.nil) (by simp) (okSeq.one (okE_bare hid (by omega))) (fun hN w H => ?_) (fun s' hN S1 w I1 c1 H => ?_)
    · have hN : suresC P s [⟨kd, m.id, []⟩] = none := hN
      have e2 : onSC P s ⟨kd, m.id, []⟩ = (s, []) := by unfold onSC; rw [hN]
      rw [e2] at k
      (with_reducible repeat first|refine ldA (by assumption) ?_|refine Stp.imp ?_|refine stA (by assumption) rfl fun _ _=>?_|refine nw_h (by assumption) fun _ _ _=>?_|refine ldSA ?_|refine asT_e [] rfl rfl ?_|refine ldD (by assumption) ?_|refine nwD (by assumption) fun _ _ _=>?_)
      refine br_t rfl ?_
      exact k Row.nil S w I0 (.rfl' S) (Row.nil_ok 7) (Holds.nil (Holds.re H))
    · have hN : suresC P s [⟨kd, m.id, []⟩] = some s' := hN
      have e2 : onSC P s ⟨kd, m.id, []⟩ = goesC P s' m.id := by unfold onSC; rw [hN]
      rw [e2] at k
      (with_reducible repeat first|refine ldA (by assumption) ?_|refine Stp.imp ?_|refine stA (by assumption) rfl fun _ _=>?_|refine nw_h (by assumption) fun _ _ _=>?_|refine ldSA ?_|refine asT_e [] rfl rfl ?_|refine ldD (by assumption) ?_|refine nwD (by assumption) fun _ _ _=>?_)
      refine br_f rfl ?_
      have hL1 : ∃ y, s'.L m.id = some y := by
        rw [sures_L hN]
        exact I0.one hL kd (by omega) []
      obtain ⟨y, hy⟩ := hL1
      have en : S.v = S1.v := by show Value.pointer _ = Value.pointer _; rw [c1.n]
      rw [en]
      refine goes_c (S := S1) T H I1 hy (hp.keep c1) (fun r S2 w I2 c2 okr H => ?_)
      (with_reducible repeat first|refine ldA (by assumption) ?_|refine Stp.imp ?_|refine stA (by assumption) rfl fun _ _=>?_|refine nw_h (by assumption) fun _ _ _=>?_|refine ldSA ?_|refine asT_e [] rfl rfl ?_|refine ldD (by assumption) ?_|refine nwD (by assumption) fun _ _ _=>?_)
      exact k r S2 _ I2 (c1.trans c2) okr (Holds.re H)
  (with_reducible repeat first|refine ldA (by assumption) ?_|refine Stp.imp ?_|refine stA (by assumption) rfl fun _ _=>?_|refine nw_h (by assumption) fun _ _ _=>?_|refine ldSA ?_|refine asT_e [] rfl rfl ?_|refine ldD (by assumption) ?_|refine nwD (by assumption) fun _ _ _=>?_)
  refine keeper_c H (fun w H => ?_)
  refine asT_e [_, _] rfl rfl ?_
  refine asI_e rfl ?_
  refine asBoo_e rfl ?_
  refine br_s (fun h => no (by unfold votesC; rw [if_pos (by simpa using h)]) H) (fun hk => ?_)
  have hk : kpr m.frm = true := by simpa using hk
  have hfr := kpr_out hk
  have hw : IntKind.wrap .i64 (m.frm - 1) = m.frm - 1 := wrap64 (by omega) (by omega)
  rw [hw]
  have H2 := openL (g.out (Holds.get S.hp H))
  cases ht : c.x.t with
  | none =>
    have hT : c.T = none := by have := okc.t; rw [ht] at this; simpa using this
    have eP : taP c.T = none := by rw [hT]; rfl
    have H3 := H2
    rw [eP] at H3
    (with_reducible repeat first|refine ldA (by assumption) ?_|refine Stp.imp ?_|refine stA (by assumption) rfl fun _ _=>?_|refine nw_h (by assumption) fun _ _ _=>?_|refine ldSA ?_|refine asT_e [] rfl rfl ?_|refine ldD (by assumption) ?_|refine nwD (by assumption) fun _ _ _=>?_)
    refine br_t rfl ?_
    refine no (by unfold votesC; rw [if_neg (by simp [hk]), ht]) (cls H2)
  | some t =>
    obtain ⟨Ta1, hT⟩ : ∃ Ta1, c.T = some Ta1 := by
      have := okc.t; rw [ht] at this
      exact Option.isSome_iff_exists.1 this
    have eP : taP c.T = some ⟨Ta1.q, 0, none⟩ := by rw [hT]; rfl
    have eT : taH c.T c.x.t = Ta1.hp t := by rw [hT, ht]; rfl
    have e0 : votesC P s c.x m = if m.kind ≠ 7 then onSC P s ⟨7, m.id, []⟩ else if waitsT t = [m.frm - 1] then onSC P s ⟨6, m.id, []⟩ else ({ s with L := updI s.L m.id (some ⟨c.x.o, c.x.f, some (sayT t m.frm)⟩) }, []) := by
      unfold votesC; rw [if_neg (by simp [hk]), ht]
    have cls2 : ∀ {w : World} {Q : List Hp}, Sh.Holds w0 ([(c.p, .cells #[I c.x.o.id, I c.x.o.item, I c.x.o.qty, I c.x.o.client, I c.x.o.price, c.sR.v, c.dR.v, c.uR.v, .bool c.x.f.asked, .bool c.x.f.yes, .bool c.x.f.turned, .bool c.x.f.a0, .bool c.x.f.a1, .bool c.x.f.shipped, .bool c.x.f.d0, .bool c.x.f.d1, .bool c.x.f.acc, .pointer (some ⟨Ta1.q, 0, none⟩)] 147 (0, 0))] :: c.sR.hp 81 :: c.dR.hp 4 :: c.uR.hp 4 :: Ta1.hp t :: ledsH (A ++ Bs) :: [(S.n, .cells #[I S.most, I S.room, I S.tr, S.J.v, I S.used, .map (some S.m), S.T.v] 136 (0, 0))] :: S.J.hp :: [(S.m, mapG S.l S.c)] :: S.T.hp :: Q) w → Sh.Holds w0 (S.hp :: Q) w := fun {w Q} H => by
      rw [← eT, ← eP] at H
      exact cls H
    rw [eP, eT] at H2
    clear H
    (with_reducible repeat first|refine ldA (by assumption) ?_|refine Stp.imp ?_|refine stA (by assumption) rfl fun _ _=>?_|refine nw_h (by assumption) fun _ _ _=>?_|refine ldSA ?_|refine asT_e [] rfl rfl ?_|refine ldD (by assumption) ?_|refine nwD (by assumption) fun _ _ _=>?_)
    refine br_f rfl ?_
    (with_reducible repeat first|refine ldA (by assumption) ?_|refine Stp.imp ?_|refine stA (by assumption) rfl fun _ _=>?_|refine nw_h (by assumption) fun _ _ _=>?_|refine ldSA ?_|refine asT_e [] rfl rfl ?_|refine ldD (by assumption) ?_|refine nwD (by assumption) fun _ _ _=>?_)
    refine waits_c (T := Ta1) (t := t) H2 (fun r1 w ok1 hn1 H => ?_)
    (with_reducible repeat first|refine ldA (by assumption) ?_|refine Stp.imp ?_|refine stA (by assumption) rfl fun _ _=>?_|refine nw_h (by assumption) fun _ _ _=>?_|refine ldSA ?_|refine asT_e [] rfl rfl ?_|refine ldD (by assumption) ?_|refine nwD (by assumption) fun _ _ _=>?_)
    replace H : Sh.Holds w0 (r1.hp 3 :: Ta1.hp t :: [(c.p, .cells #[I c.x.o.id, I c.x.o.item, I c.x.o.qty, I c.x.o.client, I c.x.o.price, c.sR.v, c.dR.v, c.uR.v, .bool c.x.f.asked, .bool c.x.f.yes, .bool c.x.f.turned, .bool c.x.f.a0, .bool c.x.f.a1, .bool c.x.f.shipped, .bool c.x.f.d0, .bool c.x.f.d1, .bool c.x.f.acc, .pointer (some ⟨Ta1.q, 0, none⟩)] 147 (0, 0))] :: c.sR.hp 81 :: c.dR.hp 4 :: c.uR.hp 4 :: ledsH (A ++ Bs) :: [(S.n, .cells #[I S.most, I S.room, I S.tr, S.J.v, I S.used, .map (some S.m), S.T.v] 136 (0, 0))] :: S.J.hp :: [(S.m, mapG S.l S.c)] :: S.T.hp :: [(k9, .cells #[I m.kind, I m.frm, I m.to, I m.id, I m.step, I m.a, I m.b] 35 (0, 0))] :: R) w := H
    refine br_s (fun h7 => ?_) (fun h7 => ?_)
    · have h7 : m.kind ≠ 7 := by simpa using h7
      rw [if_pos h7] at e0
      (with_reducible repeat first|refine ldA (by assumption) ?_|refine Stp.imp ?_|refine stA (by assumption) rfl fun _ _=>?_|refine nw_h (by assumption) fun _ _ _=>?_|refine ldSA ?_|refine asT_e [] rfl rfl ?_|refine ldD (by assumption) ?_|refine nwD (by assumption) fun _ _ _=>?_)
      refine entry_c H (fun w H => ?_)
      refine asN_e [_, _, _] rfl rfl ?_
      refine asStr_e rfl ?_
      refine asI_e rfl ?_
      refine asSl_e rfl ?_
      have H4 := cls2 (Q := [(k9, .cells #[I m.kind, I m.frm, I m.to, I m.id, I m.step, I m.a, I m.b] 35 (0, 0))] :: R) (Holds.re H)
      clear H
      refine nw_h H4 (fun q w H => ?_)
      exact sure 7 ⟨#[116, 117, 114, 110]⟩ _ (.inr rfl) rfl e0 (q := q) H
    have h7 : m.kind = 7 := by simpa using h7
    rw [if_neg (by simp [h7])] at e0
    refine br_t (by simp [h7]) ?_
    refine nw_h H (fun k82 w H => ?_)
    refine EqualI_c (a := waitsT t) (b := [m.frm - 1]) H (Sl.row 1 rfl ok1) (Sl.block (vals := [I (m.frm - 1)]) 0 rfl rfl) (by unfold waitsT; split <;> split <;> simp) (fun w H => ?_)
    (with_reducible repeat first|refine ldA (by assumption) ?_|refine Stp.imp ?_|refine stA (by assumption) rfl fun _ _=>?_|refine nw_h (by assumption) fun _ _ _=>?_|refine ldSA ?_|refine asT_e [] rfl rfl ?_|refine ldD (by assumption) ?_|refine nwD (by assumption) fun _ _ _=>?_)
    refine br_s (fun he => ?_) (fun he => ?_)
    · have he : waitsT t = [m.frm - 1] := by simpa using he
      rw [if_pos he] at e0
      (with_reducible repeat first|refine ldA (by assumption) ?_|refine Stp.imp ?_|refine stA (by assumption) rfl fun _ _=>?_|refine nw_h (by assumption) fun _ _ _=>?_|refine ldSA ?_|refine asT_e [] rfl rfl ?_|refine ldD (by assumption) ?_|refine nwD (by assumption) fun _ _ _=>?_)
      refine entry_c H (fun w H => ?_)
      refine asN_e [_, _, _] rfl rfl ?_
      refine asStr_e rfl ?_
      refine asI_e rfl ?_
      refine asSl_e rfl ?_
      have H4 := cls2 (Q := [(k9, .cells #[I m.kind, I m.frm, I m.to, I m.id, I m.step, I m.a, I m.b] 35 (0, 0))] :: R) (Holds.re H)
      clear H
      refine nw_h H4 (fun q w H => ?_)
      exact sure 6 ⟨#[121, 101, 115]⟩ _ (.inl rfl) rfl e0 (q := q) H
    · have he : waitsT t ≠ [m.frm - 1] := by simpa using he
      rw [if_neg he] at e0
      rw [e0] at k
      (with_reducible repeat first|refine ldA (by assumption) ?_|refine Stp.imp ?_|refine stA (by assumption) rfl fun _ _=>?_|refine nw_h (by assumption) fun _ _ _=>?_|refine ldSA ?_|refine asT_e [] rfl rfl ?_|refine ldD (by assumption) ?_|refine nwD (by assumption) fun _ _ _=>?_)
      have hb7 : (m.kind == 7) = true := by simp [h7]
      rw [hb7]
      have hne : waitsT (sayT t (m.frm - 1 + 1)) ≠ [] := by
        rw [show m.frm - 1 + 1 = m.frm by omega]
        intro q
        have h1 : (sayT t m.frm).1 = true ∧ (sayT t m.frm).2 = true := by
          unfold waitsT at q
          cases h1 : (sayT t m.frm).1 <;> cases h2 : (sayT t m.frm).2 <;> simp [h1, h2] at q ⊢
        obtain ⟨t1, t2⟩ := t
        rcases hfr with hfr | hfr
        · rw [hfr] at h1 he
          simp only [sayT, if_true] at h1
          have : t2 = true := h1.2
          subst this
          cases t1
          · exact he rfl
          · exact htt ht
        · rw [hfr] at h1 he
          simp only [sayT, show ¬ ((2 : Int) = 1) by omega, if_false] at h1
          have : t1 = true := h1.1
          subst this
          cases t2
          · exact he rfl
          · exact htt ht
      refine say_c (T := Ta1) (t := t) (i := m.frm - 1) H (by omega) hne (fun w H => ?_)
      rw [show m.frm - 1 + 1 = m.frm by omega] at H
      (with_reducible repeat first|refine ldA (by assumption) ?_|refine Stp.imp ?_|refine stA (by assumption) rfl fun _ _=>?_|refine nw_h (by assumption) fun _ _ _=>?_|refine ldSA ?_|refine asT_e [] rfl rfl ?_|refine ldD (by assumption) ?_|refine nwD (by assumption) fun _ _ _=>?_)
      let c' : Lc := ⟨c.p, c.sR, c.dR, c.uR, some Ta1, ⟨c.x.o, c.x.f, some (sayT t m.frm)⟩⟩
      have okc' : c'.Ok := ⟨okc.s, okc.d, okc.u, okc.dl, okc.ul, okc.len, rfl⟩
      have H5 : Sh.Holds w0 ([(c.p, .cells #[I c.x.o.id, I c.x.o.item, I c.x.o.qty, I c.x.o.client, I c.x.o.price, c.sR.v, c.dR.v, c.uR.v, .bool c.x.f.asked, .bool c.x.f.yes, .bool c.x.f.turned, .bool c.x.f.a0, .bool c.x.f.a1, .bool c.x.f.shipped, .bool c.x.f.d0, .bool c.x.f.d1, .bool c.x.f.acc, .pointer (some ⟨Ta1.q, 0, none⟩)] 147 (0, 0))] :: c.sR.hp 81 :: c.dR.hp 4 :: c.uR.hp 4 :: Ta1.hp (sayT t m.frm) :: ledsH (A ++ Bs) :: [(S.n, .cells #[I S.most, I S.room, I S.tr, S.J.v, I S.used, .map (some S.m), S.T.v] 136 (0, 0))] :: S.J.hp :: [(S.m, mapG S.l S.c)] :: S.T.hp :: R) w := Holds.re H
      have g' : LedG (S.put A Bs c') m.id c.p c'.x c' A Bs := ⟨rfl, rfl, rfl, g.ide, g.hA, okc', g.le⟩
      have H6 : Sh.Holds w0 ((S.put A Bs c').hp :: R) w := g'.back (shutL (c := c') H5)
      refine k Row.nil (S.put A Bs c') w ⟨Ch.put_ok I0.ok g.hX g.hA g.ide g.ide rfl okc' g.le, I0.lines, I0.wf, I0.sure, I0.le, I0.dn, I0.len, I0.used, I0.jroom, I0.room, I0.most, I0.tries, ?_, I0.B, ?_⟩ ⟨rfl, rfl, rfl, rfl, fun _ _ h => h⟩ (Row.nil_ok 7) (Holds.nil H6)
      · have e9 : (S.put A Bs c').L = updI S.L m.id (some c'.x) := Ch.put_L g.hX g.hA g.ide (show c'.x.o.id = m.id from g.ide)
        rw [e9, I0.L]
      · intro id
        show (updI s.L m.id (some ⟨c.x.o, c.x.f, some (sayT t m.frm)⟩) id).map ofL = _
        unfold updI
        split
        · rename_i e; subst e
          have := I0.eq m.id
          rw [hL] at this
          exact this
        · exact I0.eq id
end
end Go.Proofs.YtcfmnoimehcfnaaGreatDoor
namespace Go.Proofs.YtcfmnoimehcfnaaGreatDoor
open Go Go.Sh

section
variable {w0 w : World} {hs R : List Hp} {K : KV}
set_option maxHeartbeats 4000000 in
theorem acks_c {S : Ch} {P : CP} {s : CS} {m : Mg} {p : Nat} {x : Ld} (T : Tab w0) (H : Sh.Holds w0 hs w) [D : Del hs S.hp R] (I0 : ChIs S P s) (hL : s.L m.id = some x) (hp : LedP S m.id p)
    (k : ∀ (r : Row) (S' : Ch) w', ChIs S' P (acksC P s x m).1 → ChK S S' → r.Ok 7 (mgs (acksC P s x m).2) → Sh.Holds w0 (r.hp 35 :: S'.hp :: R) w' → K r.v w') :
    gocall Tryz.prog 109 [S.v, .pointer (some ⟨p, 0, none⟩), m.v] K w := by
  replace H := H.get S.hp
  have hL' : S.L m.id = some x := by rw [I0.L]; exact hL
  have hid := I0.id hL
  obtain ⟨c, A, Bs, g⟩ := ledGet I0.ok hL' hp
  have gx := g.xe
  have gp := g.pe
  subst gx gp
  apply F109_go; unfold F109
  refine nw_h H (fun k9 w H => ?_)
  replace H : Sh.Holds w0 ([(k9, .cells #[I m.kind, I m.frm, I m.to, I m.id, I m.step, I m.a, I m.b] 35 (0, 0))] :: S.hp :: R) w := H
  have no : acksC P s c.x m = (s, []) → ∀ {A : List Hp} [Re (S.hp :: R) A] {w : World}, Sh.Holds w0 A w → K (.slice none 0 0) w := fun e {A} _ {w} H => by
    rw [e] at k
    exact k Row.nil S w I0 (.rfl' S) (Row.nil_ok 7) (Holds.nil (Holds.re H))
  have cls : ∀ {w : World} {Q : List Hp}, Sh.Holds w0 ([(c.p, .cells #[I c.x.o.id, I c.x.o.item, I c.x.o.qty, I c.x.o.client, I c.x.o.price, c.sR.v, c.dR.v, c.uR.v, .bool c.x.f.asked, .bool c.x.f.yes, .bool c.x.f.turned, .bool c.x.f.a0, .bool c.x.f.a1, .bool c.x.f.shipped, .bool c.x.f.d0, .bool c.x.f.d1, .bool c.x.f.acc, .pointer (taP c.T)] 147 (0, 0))] :: c.sR.hp 81 :: c.dR.hp 4 :: c.uR.hp 4 :: taH c.T c.x.t :: ledsH (A ++ Bs) :: [(S.n, .cells #[I S.most, I S.room, I S.tr, S.J.v, I S.used, .map (some S.m), S.T.v] 136 (0, 0))] :: S.J.hp :: [(S.m, mapG S.l S.c)] :: S.T.hp :: Q) w → Sh.Holds w0 (S.hp :: Q) w := fun H => g.back (shutL H)
  (with_reducible repeat first|refine ldA (by assumption) ?_|refine Stp.imp ?_|refine stA (by assumption) rfl fun _ _=>?_|refine nw_h (by assumption) fun _ _ _=>?_|refine ldSA ?_|refine asT_e [] rfl rfl ?_|refine ldD (by assumption) ?_|refine nwD (by assumption) fun _ _ _=>?_)
  refine keeper_c H (fun w H => ?_)
  refine asT_e [_, _] rfl rfl ?_
  refine asI_e rfl ?_
  refine asBoo_e rfl ?_
  refine br_s (fun h => no (by unfold acksC; rw [if_pos (.inl (by simpa using h))]) H) (fun hk => ?_)
  have hk : kpr m.frm = true := by simpa using hk
  have hfr := kpr_out hk
  have hw : IntKind.wrap .i64 (m.frm - 1) = m.frm - 1 := wrap64 (by omega) (by omega)
  rw [hw]
  refine decidedS_c (S := S) H I0.ok hL' hp (fun w H => ?_)
  (with_reducible repeat first|refine ldA (by assumption) ?_|refine Stp.imp ?_|refine stA (by assumption) rfl fun _ _=>?_|refine nw_h (by assumption) fun _ _ _=>?_|refine ldSA ?_|refine asT_e [] rfl rfl ?_|refine ldD (by assumption) ?_|refine nwD (by assumption) fun _ _ _=>?_)
  refine br_s (fun h => no (by unfold acksC; rw [if_pos (.inr (by simpa using h))]) H) (fun hd => ?_)
  have hd : c.x.f.decided = true := by simpa using hd
  have e0 : acksC P s c.x m = if m.kind = 11 then (if ackF c.x.f m.frm = true then (s, []) else onC P s ⟨8, m.id, [m.frm]⟩)
      else if dmgF c.x.f m.frm = true then (s, [⟨18, 0, m.frm, m.id, 0, 0, 0⟩]) else match suresC P s [⟨9, m.id, [m.frm]⟩] with
      | none => (s, [])
      | some s' => ((goesC P s' m.id).1, ⟨18, 0, m.frm, m.id, 0, 0, 0⟩ :: (goesC P s' m.id).2) := by
    unfold acksC; rw [if_neg (by simp [hk, hd])]; rfl
  replace H : Sh.Holds w0 (S.hp :: [(k9, .cells #[I m.kind, I m.frm, I m.to, I m.id, I m.step, I m.a, I m.b] 35 (0, 0))] :: R) _ := H
  (with_reducible repeat first|refine ldA (by assumption) ?_|refine Stp.imp ?_|refine stA (by assumption) rfl fun _ _=>?_|refine nw_h (by assumption) fun _ _ _=>?_|refine ldSA ?_|refine asT_e [] rfl rfl ?_|refine ldD (by assumption) ?_|refine nwD (by assumption) fun _ _ _=>?_)
  refine br_s (fun h11 => ?_) (fun h11 => ?_)
  · have h11 : m.kind = 11 := by simpa using h11
    rw [if_pos h11] at e0
    have H2 := openL (g.out H)
    have ack : ∀ {X : Bool → World → Prop} {w : World}, Sh.Holds w0 ([(c.p, .cells #[I c.x.o.id, I c.x.o.item, I c.x.o.qty, I c.x.o.client, I c.x.o.price, c.sR.v, c.dR.v, c.uR.v, .bool c.x.f.asked, .bool c.x.f.yes, .bool c.x.f.turned, .bool c.x.f.a0, .bool c.x.f.a1, .bool c.x.f.shipped, .bool c.x.f.d0, .bool c.x.f.d1, .bool c.x.f.acc, .pointer (taP c.T)] 147 (0, 0))] :: c.sR.hp 81 :: c.dR.hp 4 :: c.uR.hp 4 :: taH c.T c.x.t :: ledsH (A ++ Bs) :: [(S.n, .cells #[I S.most, I S.room, I S.tr, S.J.v, I S.used, .map (some S.m), S.T.v] 136 (0, 0))] :: S.J.hp :: [(S.m, mapG S.l S.c)] :: S.T.hp :: [(k9, .cells #[I m.kind, I m.frm, I m.to, I m.id, I m.step, I m.a, I m.b] 35 (0, 0))] :: R) w → X (ackF c.x.f m.frm) w → arAt ⟨c.p, 11, none⟩ 2 (m.frm - 1) 1 (fun a w => ld a (fun v w => asBoo v X w) w) w := fun {X w} H hX => by
      unfold ackF at hX
      rcases hfr with hfr | hfr
      · rw [hfr] at hX ⊢
        refine arO_h 0 11 rfl rfl (by omega) ?_
        refine ldA H ?_
        exact asBoo_h hX
      · rw [hfr] at hX ⊢
        refine arO_h 1 12 rfl rfl (by omega) ?_
        refine ldA H ?_
        exact asBoo_h hX
    (with_reducible repeat first|refine ldA (by assumption) ?_|refine Stp.imp ?_|refine stA (by assumption) rfl fun _ _=>?_|refine nw_h (by assumption) fun _ _ _=>?_|refine ldSA ?_|refine asT_e [] rfl rfl ?_|refine ldD (by assumption) ?_|refine nwD (by assumption) fun _ _ _=>?_)
    refine ack H2 ?_
    refine br_s (fun ha => no (by rw [e0, if_pos ha]) (cls H2)) (fun ha => ?_)
    rw [if_neg (by simp [ha])] at e0
    rw [e0] at k
    (with_reducible repeat first|refine ldA (by assumption) ?_|refine Stp.imp ?_|refine stA (by assumption) rfl fun _ _=>?_|refine nw_h (by assumption) fun _ _ _=>?_|refine ldSA ?_|refine asT_e [] rfl rfl ?_|refine ldD (by assumption) ?_|refine nwD (by assumption) fun _ _ _=>?_)
    rename_i k54 w5 H5
    refine entry_c H5 (fun w H => ?_)
    clear H5
    refine asN_e [_, _, _] rfl rfl ?_
    refine asStr_e rfl ?_
    refine asI_e rfl ?_
    refine asSl_e rfl ?_
    refine nw_h H (fun q w H => ?_)
    have H6 := cls (Holds.re (a := [(c.p, .cells #[I c.x.o.id, I c.x.o.item, I c.x.o.qty, I c.x.o.client, I c.x.o.price, c.sR.v, c.dR.v, c.uR.v, .bool c.x.f.asked, .bool c.x.f.yes, .bool c.x.f.turned, .bool c.x.f.a0, .bool c.x.f.a1, .bool c.x.f.shipped, .bool c.x.f.d0, .bool c.x.f.d1, .bool c.x.f.acc, .pointer (taP c.T)] 147 (0, 0))] :: c.sR.hp 81 :: c.dR.hp 4 :: c.uR.hp 4 :: taH c.T c.x.t :: ledsH (A ++ Bs) :: [(S.n, .cells #[I S.most, I S.room, I S.tr, S.J.v, I S.used, .map (some S.m), S.T.v] 136 (0, 0))] :: S.J.hp :: [(S.m, mapG S.l S.c)] :: S.T.hp :: [(q, .cells #[.string ⟨#[97, 99, 107]⟩, I m.id, .slice (some ⟨k54, 0, none⟩) 1 1] 139 (0, 0))] :: [(k54, .cells #[I m.frm] 3 (0, 0))] :: R) H)
    have H7 : Sh.Holds w0 ([(q, .cells #[.string (B (ceL 8)), I m.id, .slice (some ⟨k54, 0, none⟩) 1 1] 139 (0, 0))] :: [(k54, .cells #[I m.frm] 3 (0, 0))] :: S.hp :: R) w := by
      have H8 : Sh.Holds w0 (S.hp :: [(q, .cells #[.string (B (ceL 8)), I m.id, .slice (some ⟨k54, 0, none⟩) 1 1] 139 (0, 0))] :: [(k54, .cells #[I m.frm] 3 (0, 0))] :: R) w := H6
      exact Holds.re H8
    refine notes_c (S := S) (l := [(⟨8, m.id, [m.frm]⟩, some ⟨k54, 0, none⟩, 1, 1)]) T H7 I0 (EsS.one (e := ⟨8, m.id, [m.frm]⟩) (Sl.block (vals := [I m.frm]) 0 rfl rfl)) (by simp) (okSeq.one ⟨hid, .inr (.inr (.inr (.inr ⟨.inl rfl, m.frm, rfl, hfr⟩)))⟩) (fun hN w H => ?_) (fun s' hN S1 w I1 c1 H => ?_)
    · have hN : noteC P s [⟨8, m.id, [m.frm]⟩] = none := hN
      have e2 : onC P s ⟨8, m.id, [m.frm]⟩ = (s, []) := by unfold onC; rw [hN]
      rw [e2] at k
      (with_reducible repeat first|refine ldA (by assumption) ?_|refine Stp.imp ?_|refine stA (by assumption) rfl fun _ _=>?_|refine nw_h (by assumption) fun _ _ _=>?_|refine ldSA ?_|refine asT_e [] rfl rfl ?_|refine ldD (by assumption) ?_|refine nwD (by assumption) fun _ _ _=>?_)
      refine br_t rfl ?_
      exact k Row.nil S w I0 (.rfl' S) (Row.nil_ok 7) (Holds.nil (Holds.re H))
    · have hN : noteC P s [⟨8, m.id, [m.frm]⟩] = some s' := hN
      have e2 : onC P s ⟨8, m.id, [m.frm]⟩ = goesC P s' m.id := by unfold onC; rw [hN]
      rw [e2] at k
      (with_reducible repeat first|refine ldA (by assumption) ?_|refine Stp.imp ?_|refine stA (by assumption) rfl fun _ _=>?_|refine nw_h (by assumption) fun _ _ _=>?_|refine ldSA ?_|refine asT_e [] rfl rfl ?_|refine ldD (by assumption) ?_|refine nwD (by assumption) fun _ _ _=>?_)
      refine br_f rfl ?_
      have hL1 : ∃ y, s'.L m.id = some y := by
        rw [note_L hN]
        exact I0.one hL 8 (by omega) [m.frm]
      obtain ⟨y, hy⟩ := hL1
      have en : S.n = S1.n := c1.n.symm
      rw [en]
      refine goes_c (S := S1) T H I1 hy (hp.keep c1) (fun r S2 w I2 c2 okr H => ?_)
      (with_reducible repeat first|refine ldA (by assumption) ?_|refine Stp.imp ?_|refine stA (by assumption) rfl fun _ _=>?_|refine nw_h (by assumption) fun _ _ _=>?_|refine ldSA ?_|refine asT_e [] rfl rfl ?_|refine ldD (by assumption) ?_|refine nwD (by assumption) fun _ _ _=>?_)
      exact k r S2 _ I2 (c1.trans c2) okr (Holds.re H)
  have h11 : m.kind ≠ 11 := by simpa using h11
  rw [if_neg h11] at e0
  (with_reducible repeat first|refine ldA (by assumption) ?_|refine Stp.imp ?_|refine stA (by assumption) rfl fun _ _=>?_|refine nw_h (by assumption) fun _ _ _=>?_|refine ldSA ?_|refine asT_e [] rfl rfl ?_|refine ldD (by assumption) ?_|refine nwD (by assumption) fun _ _ _=>?_)
  rename_i k91 w2 H2 w3 H3 w4 H4 w5 H5 w6 H6 w7 H7 w8 H8 w9 H9
  clear H2 H3 H4 H5 H6 H7 H8 H
  have Hx := openL (g.out (Holds.get S.hp H9))
  replace Hx : Sh.Holds w0 ([(c.p, .cells #[I c.x.o.id, I c.x.o.item, I c.x.o.qty, I c.x.o.client, I c.x.o.price, c.sR.v, c.dR.v, c.uR.v, .bool c.x.f.asked, .bool c.x.f.yes, .bool c.x.f.turned, .bool c.x.f.a0, .bool c.x.f.a1, .bool c.x.f.shipped, .bool c.x.f.d0, .bool c.x.f.d1, .bool c.x.f.acc, .pointer (taP c.T)] 147 (0, 0))] :: c.sR.hp 81 :: c.dR.hp 4 :: c.uR.hp 4 :: taH c.T c.x.t :: ledsH (A ++ Bs) :: [(S.n, .cells #[I S.most, I S.room, I S.tr, S.J.v, I S.used, .map (some S.m), S.T.v] 136 (0, 0))] :: S.J.hp :: [(S.m, mapG S.l S.c)] :: S.T.hp :: [(k91, .cells #[I 18, I 0, I m.frm, I m.id, I 0, I 0, I 0] 35 (0, 0))] :: [(k9, .cells #[I m.kind, I m.frm, I m.to, I m.id, I m.step, I m.a, I m.b] 35 (0, 0))] :: R) w9 := Holds.re Hx
  clear H9
  have dmg : ∀ {X : Bool → World → Prop} {w : World}, Sh.Holds w0 ([(c.p, .cells #[I c.x.o.id, I c.x.o.item, I c.x.o.qty, I c.x.o.client, I c.x.o.price, c.sR.v, c.dR.v, c.uR.v, .bool c.x.f.asked, .bool c.x.f.yes, .bool c.x.f.turned, .bool c.x.f.a0, .bool c.x.f.a1, .bool c.x.f.shipped, .bool c.x.f.d0, .bool c.x.f.d1, .bool c.x.f.acc, .pointer (taP c.T)] 147 (0, 0))] :: c.sR.hp 81 :: c.dR.hp 4 :: c.uR.hp 4 :: taH c.T c.x.t :: ledsH (A ++ Bs) :: [(S.n, .cells #[I S.most, I S.room, I S.tr, S.J.v, I S.used, .map (some S.m), S.T.v] 136 (0, 0))] :: S.J.hp :: [(S.m, mapG S.l S.c)] :: S.T.hp :: [(k91, .cells #[I 18, I 0, I m.frm, I m.id, I 0, I 0, I 0] 35 (0, 0))] :: [(k9, .cells #[I m.kind, I m.frm, I m.to, I m.id, I m.step, I m.a, I m.b] 35 (0, 0))] :: R) w → X (dmgF c.x.f m.frm) w → arAt ⟨c.p, 14, none⟩ 2 (m.frm - 1) 1 (fun a w => ld a (fun v w => asBoo v X w) w) w := fun {X w} H hX => by
    unfold dmgF at hX
    rcases hfr with hfr | hfr
    · rw [hfr] at hX ⊢
      refine arO_h 0 14 rfl rfl (by omega) ?_
      refine ldA H ?_
      exact asBoo_h hX
    · rw [hfr] at hX ⊢
      refine arO_h 1 15 rfl rfl (by omega) ?_
      refine ldA H ?_
      exact asBoo_h hX
  (with_reducible repeat first|refine ldA (by assumption) ?_|refine Stp.imp ?_|refine stA (by assumption) rfl fun _ _=>?_|refine nw_h (by assumption) fun _ _ _=>?_|refine ldSA ?_|refine asT_e [] rfl rfl ?_|refine ldD (by assumption) ?_|refine nwD (by assumption) fun _ _ _=>?_)
  refine dmg Hx ?_
  refine br_s (fun ha => ?_) (fun ha => ?_)
  · rw [if_pos ha] at e0
    rw [e0] at k
    (with_reducible repeat first|refine ldA (by assumption) ?_|refine Stp.imp ?_|refine stA (by assumption) rfl fun _ _=>?_|refine nw_h (by assumption) fun _ _ _=>?_|refine ldSA ?_|refine asT_e [] rfl rfl ?_|refine ldD (by assumption) ?_|refine nwD (by assumption) fun _ _ _=>?_)
    rename_i q w1 H1
    have H2 : Sh.Holds w0 ([(q, .cells (mgs [⟨18, 0, m.frm, m.id, 0, 0, 0⟩]).toArray 35 (0, 0))] :: [(c.p, .cells #[I c.x.o.id, I c.x.o.item, I c.x.o.qty, I c.x.o.client, I c.x.o.price, c.sR.v, c.dR.v, c.uR.v, .bool c.x.f.asked, .bool c.x.f.yes, .bool c.x.f.turned, .bool c.x.f.a0, .bool c.x.f.a1, .bool c.x.f.shipped, .bool c.x.f.d0, .bool c.x.f.d1, .bool c.x.f.acc, .pointer (taP c.T)] 147 (0, 0))] :: c.sR.hp 81 :: c.dR.hp 4 :: c.uR.hp 4 :: taH c.T c.x.t :: ledsH (A ++ Bs) :: [(S.n, .cells #[I S.most, I S.room, I S.tr, S.J.v, I S.used, .map (some S.m), S.T.v] 136 (0, 0))] :: S.J.hp :: [(S.m, mapG S.l S.c)] :: S.T.hp :: [(k91, .cells #[I 18, I 0, I m.frm, I m.id, I 0, I 0, I 0] 35 (0, 0))] :: [(k9, .cells #[I m.kind, I m.frm, I m.to, I m.id, I m.step, I m.a, I m.b] 35 (0, 0))] :: R) w1 := H1
    have H3 := cls (Holds.re (a := [(c.p, .cells #[I c.x.o.id, I c.x.o.item, I c.x.o.qty, I c.x.o.client, I c.x.o.price, c.sR.v, c.dR.v, c.uR.v, .bool c.x.f.asked, .bool c.x.f.yes, .bool c.x.f.turned, .bool c.x.f.a0, .bool c.x.f.a1, .bool c.x.f.shipped, .bool c.x.f.d0, .bool c.x.f.d1, .bool c.x.f.acc, .pointer (taP c.T)] 147 (0, 0))] :: c.sR.hp 81 :: c.dR.hp 4 :: c.uR.hp 4 :: taH c.T c.x.t :: ledsH (A ++ Bs) :: [(S.n, .cells #[I S.most, I S.room, I S.tr, S.J.v, I S.used, .map (some S.m), S.T.v] 136 (0, 0))] :: S.J.hp :: [(S.m, mapG S.l S.c)] :: S.T.hp :: [(q, .cells (mgs [⟨18, 0, m.frm, m.id, 0, 0, 0⟩]).toArray 35 (0, 0))] :: R) H2)
    have H4 : Sh.Holds w0 ([(q, .cells (mgs [⟨18, 0, m.frm, m.id, 0, 0, 0⟩]).toArray 35 (0, 0))] :: S.hp :: R) w1 := Holds.re H3
    exact k _ S w1 I0 (.rfl' S) (Row.lit (k := q) (vals := mgs [⟨18, 0, m.frm, m.id, 0, 0, 0⟩]) rfl (by unfold maxLen; omega)) H4
  rw [if_neg (by simp [ha])] at e0
  (with_reducible repeat first|refine ldA (by assumption) ?_|refine Stp.imp ?_|refine stA (by assumption) rfl fun _ _=>?_|refine nw_h (by assumption) fun _ _ _=>?_|refine ldSA ?_|refine asT_e [] rfl rfl ?_|refine ldD (by assumption) ?_|refine nwD (by assumption) fun _ _ _=>?_)
  rename_i k148 w5 H5
  refine entry_c H5 (fun w H => ?_)
  clear H5
  refine asN_e [_, _, _] rfl rfl ?_
  refine asStr_e rfl ?_
  refine asI_e rfl ?_
  refine asSl_e rfl ?_
  refine nw_h H (fun q w H => ?_)
  have H6 := cls (Holds.re (a := [(c.p, .cells #[I c.x.o.id, I c.x.o.item, I c.x.o.qty, I c.x.o.client, I c.x.o.price, c.sR.v, c.dR.v, c.uR.v, .bool c.x.f.asked, .bool c.x.f.yes, .bool c.x.f.turned, .bool c.x.f.a0, .bool c.x.f.a1, .bool c.x.f.shipped, .bool c.x.f.d0, .bool c.x.f.d1, .bool c.x.f.acc, .pointer (taP c.T)] 147 (0, 0))] :: c.sR.hp 81 :: c.dR.hp 4 :: c.uR.hp 4 :: taH c.T c.x.t :: ledsH (A ++ Bs) :: [(S.n, .cells #[I S.most, I S.room, I S.tr, S.J.v, I S.used, .map (some S.m), S.T.v] 136 (0, 0))] :: S.J.hp :: [(S.m, mapG S.l S.c)] :: S.T.hp :: [(q, .cells #[.string ⟨#[100, 97, 109, 97, 103, 101]⟩, I m.id, .slice (some ⟨k148, 0, none⟩) 1 1] 139 (0, 0))] :: [(k148, .cells #[I m.frm] 3 (0, 0))] :: [(k91, .cells #[I 18, I 0, I m.frm, I m.id, I 0, I 0, I 0] 35 (0, 0))] :: R) H)
  have H7 : Sh.Holds w0 ([(q, .cells #[.string (B (ceL 9)), I m.id, .slice (some ⟨k148, 0, none⟩) 1 1] 139 (0, 0))] :: [(k148, .cells #[I m.frm] 3 (0, 0))] :: S.hp :: [(k91, .cells #[I 18, I 0, I m.frm, I m.id, I 0, I 0, I 0] 35 (0, 0))] :: R) w := by
    have H8 : Sh.Holds w0 (S.hp :: [(q, .cells #[.string (B (ceL 9)), I m.id, .slice (some ⟨k148, 0, none⟩) 1 1] 139 (0, 0))] :: [(k148, .cells #[I m.frm] 3 (0, 0))] :: [(k91, .cells #[I 18, I 0, I m.frm, I m.id, I 0, I 0, I 0] 35 (0, 0))] :: R) w := H6
    exact Holds.re H8
  refine sures_c (S := S) (l := [(⟨9, m.id, [m.frm]⟩, some ⟨k148, 0, none⟩, 1, 1)]) T H7 I0 (EsS.one (e := ⟨9, m.id, [m.frm]⟩) (Sl.block (vals := [I m.frm]) 0 rfl rfl)) (by simp) (okSeq.one ⟨hid, .inr (.inr (.inr (.inr ⟨.inr rfl, m.frm, rfl, hfr⟩)))⟩) (fun hN w H => ?_) (fun s' hN S1 w I1 c1 H => ?_)
  · have hN : suresC P s [⟨9, m.id, [m.frm]⟩] = none := hN
    rw [hN] at e0
    simp only at e0
    rw [e0] at k
    (with_reducible repeat first|refine ldA (by assumption) ?_|refine Stp.imp ?_|refine stA (by assumption) rfl fun _ _=>?_|refine nw_h (by assumption) fun _ _ _=>?_|refine ldSA ?_|refine asT_e [] rfl rfl ?_|refine ldD (by assumption) ?_|refine nwD (by assumption) fun _ _ _=>?_)
    refine br_t rfl ?_
    exact k Row.nil S w I0 (.rfl' S) (Row.nil_ok 7) (Holds.nil (Holds.re H))
  · have hN : suresC P s [⟨9, m.id, [m.frm]⟩] = some s' := hN
    rw [hN] at e0
    simp only at e0
    rw [e0] at k
    (with_reducible repeat first|refine ldA (by assumption) ?_|refine Stp.imp ?_|refine stA (by assumption) rfl fun _ _=>?_|refine nw_h (by assumption) fun _ _ _=>?_|refine ldSA ?_|refine asT_e [] rfl rfl ?_|refine ldD (by assumption) ?_|refine nwD (by assumption) fun _ _ _=>?_)
    refine br_f rfl ?_
    have hL1 : ∃ y, s'.L m.id = some y := by
      rw [sures_L hN]
      exact I0.one hL 9 (by omega) [m.frm]
    obtain ⟨y, hy⟩ := hL1
    have en : S.n = S1.n := c1.n.symm
    rw [en]
    replace H : Sh.Holds w0 (S1.hp :: [(k91, .cells #[I 18, I 0, I m.frm, I m.id, I 0, I 0, I 0] 35 (0, 0))] :: R) w.drew := Holds.re H.drew
    refine keepsA [[(k91, .cells #[I 18, I 0, I m.frm, I m.id, I 0, I 0, I 0] 35 (0, 0))]] H ?_
    have glen : (goesC P s' m.id).2.length ≤ 3 := by
      have key : ∀ t : CS, (sendsC P t m.id).2.length ≤ 3 := fun t => by
        unfold sendsC
        split
        · simp
        · split
          · split
            · simp
            · exact nextM_len _ _
          · exact nextM_len _ _
      unfold goesC
      split
      · simp
      · split
        · simp
        · exact key _
    (with_reducible repeat first|refine ldA (by assumption) ?_|refine Stp.imp ?_|refine stA (by assumption) rfl fun _ _=>?_|refine nw_h (by assumption) fun _ _ _=>?_|refine ldSA ?_|refine asT_e [] rfl rfl ?_|refine ldD (by assumption) ?_|refine nwD (by assumption) fun _ _ _=>?_)
    refine both_h ?_ ?_
    · refine nw_h H (fun kb w H => ?_)
      refine goes_c (S := S1) T H I1 hy (hp.keep c1) (fun r S2 w I2 c2 okr H => ?_)
      (with_reducible repeat first|refine ldA (by assumption) ?_|refine Stp.imp ?_|refine stA (by assumption) rfl fun _ _=>?_|refine nw_h (by assumption) fun _ _ _=>?_|refine ldSA ?_|refine asT_e [] rfl rfl ?_|refine ldD (by assumption) ?_|refine nwD (by assumption) fun _ _ _=>?_)
      refine kpA H ?_
      have H8 : Sh.Holds w0 ((Row.mk (some kb) 1 1 (mgs [⟨18, 0, m.frm, m.id, 0, 0, 0⟩]).toArray).hp 35 :: r.hp 35 :: S2.hp :: R) w := by
        have H9 : Sh.Holds w0 (r.hp 35 :: S2.hp :: [(kb, .cells (mgs [⟨18, 0, m.frm, m.id, 0, 0, 0⟩]).toArray 35 (0, 0))] :: [(k91, .cells #[I 18, I 0, I m.frm, I m.id, I 0, I 0, I 0] 35 (0, 0))] :: R) w := H
        have H10 : Sh.Holds w0 ([(kb, .cells (mgs [⟨18, 0, m.frm, m.id, 0, 0, 0⟩]).toArray 35 (0, 0))] :: r.hp 35 :: S2.hp :: R) w := Holds.re H9
        exact H10
      have hrn := mgs_n okr
      refine bapp_a (r := Row.mk (some kb) 1 1 (mgs [⟨18, 0, m.frm, m.id, 0, 0, 0⟩]).toArray) elM H8 (Row.lit (k := kb) (vals := mgs [⟨18, 0, m.frm, m.id, 0, 0, 0⟩]) rfl (by unfold maxLen; omega)) (Sl.row 1 rfl okr) (mgs_one _) (by simp only; omega) (by simp only; unfold maxLen; omega) (fun r3 w hn3 ok3 H => ?_)
      (with_reducible repeat first|refine ldA (by assumption) ?_|refine Stp.imp ?_|refine stA (by assumption) rfl fun _ _=>?_|refine nw_h (by assumption) fun _ _ _=>?_|refine ldSA ?_|refine asT_e [] rfl rfl ?_|refine ldD (by assumption) ?_|refine nwD (by assumption) fun _ _ _=>?_)
      refine k r3 S2 _ I2 (c1.trans c2) ?_ (Holds.re H)
      exact ok3
    · refine goes_c (S := S1) T H I1 hy (hp.keep c1) (fun r S2 w I2 c2 okr H => ?_)
      (with_reducible repeat first|refine ldA (by assumption) ?_|refine Stp.imp ?_|refine stA (by assumption) rfl fun _ _=>?_|refine nw_h (by assumption) fun _ _ _=>?_|refine ldSA ?_|refine asT_e [] rfl rfl ?_|refine ldD (by assumption) ?_|refine nwD (by assumption) fun _ _ _=>?_)
      refine kpA H ?_
      refine nw_h H (fun kb w H => ?_)
      try refine kpA H ?_
      have H8 : Sh.Holds w0 ((Row.mk (some kb) 1 1 (mgs [⟨18, 0, m.frm, m.id, 0, 0, 0⟩]).toArray).hp 35 :: r.hp 35 :: S2.hp :: R) w := by
        have H9 : Sh.Holds w0 ([(kb, .cells (mgs [⟨18, 0, m.frm, m.id, 0, 0, 0⟩]).toArray 35 (0, 0))] :: r.hp 35 :: S2.hp :: [(k91, .cells #[I 18, I 0, I m.frm, I m.id, I 0, I 0, I 0] 35 (0, 0))] :: R) w := H
        have H10 : Sh.Holds w0 ([(kb, .cells (mgs [⟨18, 0, m.frm, m.id, 0, 0, 0⟩]).toArray 35 (0, 0))] :: r.hp 35 :: S2.hp :: R) w := Holds.re H9
        exact H10
      have hrn := mgs_n okr
      refine bapp_a (r := Row.mk (some kb) 1 1 (mgs [⟨18, 0, m.frm, m.id, 0, 0, 0⟩]).toArray) elM H8 (Row.lit (k := kb) (vals := mgs [⟨18, 0, m.frm, m.id, 0, 0, 0⟩]) rfl (by unfold maxLen; omega)) (Sl.row 1 rfl okr) (mgs_one _) (by simp only; omega) (by simp only; unfold maxLen; omega) (fun r3 w hn3 ok3 H => ?_)
      (with_reducible repeat first|refine ldA (by assumption) ?_|refine Stp.imp ?_|refine stA (by assumption) rfl fun _ _=>?_|refine nw_h (by assumption) fun _ _ _=>?_|refine ldSA ?_|refine asT_e [] rfl rfl ?_|refine ldD (by assumption) ?_|refine nwD (by assumption) fun _ _ _=>?_)
      refine k r3 S2 _ I2 (c1.trans c2) ?_ (Holds.re H)
      exact ok3
end
end Go.Proofs.YtcfmnoimehcfnaaGreatDoor
namespace Go.Proofs.YtcfmnoimehcfnaaGreatDoor
open Go Go.Sh

theorem handle_some {P : CP} {s : CS} {m : Mg} {x : Ld} (h0 : m.to = 0) (h12 : m.kind ≠ 12) (hL : s.L m.id = some x) : handleC P s m = if m.kind = 2 ∨ m.kind = 3 ∨ m.kind = 5 then stepsC P s x m else if m.kind = 7 ∨ m.kind = 8 then votesC P s x m else if m.kind = 11 ∨ m.kind = 17 then acksC P s x m
    else if m.kind = 16 then (if m.frm = 3 ∧ x.f.yes = true ∧ x.f.shipped = false then onC P s ⟨10, m.id, []⟩ else (s, [])) else (s, []) := by
  unfold handleC; rw [if_neg (by simp [h0]), if_neg h12, hL]
section
variable {w0 w : World} {hs R : List Hp} {K : KV}
set_option maxHeartbeats 4000000 in
theorem handle_c {S : Ch} {P : CP} {s : CS} {m : Mg} (T : Tab w0) (H : Sh.Holds w0 hs w) [D : Del hs S.hp R] (I0 : ChIs S P s) (htt : ∀ x, s.L m.id = some x → x.t ≠ some (true, true))
    (k : ∀ (r : Row) (S' : Ch) w', ChIs S' P (handleC P s m).1 → ChK S S' → r.Ok 7 (mgs (handleC P s m).2) → Sh.Holds w0 (r.hp 35 :: S'.hp :: R) w' → K r.v w') :
    gocall Tryz.prog 19 [S.v, m.v] K w := by
  replace H := H.get S.hp
  apply F19_go; unfold F19
  refine nw_h H (fun k9 w H => ?_)
  replace H : Sh.Holds w0 ([(k9, .cells #[I m.kind, I m.frm, I m.to, I m.id, I m.step, I m.a, I m.b] 35 (0, 0))] :: S.hp :: R) w := H
  have no : handleC P s m = (s, []) → ∀ {A : List Hp} [Re (S.hp :: R) A] {w : World}, Sh.Holds w0 A w → K (.slice none 0 0) w := fun e {A} _ {w} H => by
    rw [e] at k
    exact k Row.nil S w I0 (.rfl' S) (Row.nil_ok 7) (Holds.nil (Holds.re H))
  refine br_f rfl ?_
  refine downC_c (S := S) H (fun w H => ?_)
  refine asBoo_h ?_
  refine br_f I0.dn ?_
  replace H : Sh.Holds w0 (S.hp :: [(k9, .cells #[I m.kind, I m.frm, I m.to, I m.id, I m.step, I m.a, I m.b] 35 (0, 0))] :: R) w := H
  (with_reducible repeat first|refine ldA (by assumption) ?_|refine Stp.imp ?_|refine stA (by assumption) rfl fun _ _=>?_|refine nw_h (by assumption) fun _ _ _=>?_|refine ldSA ?_|refine asT_e [] rfl rfl ?_|refine ldD (by assumption) ?_|refine nwD (by assumption) fun _ _ _=>?_)
  refine br_s (fun h => no (by unfold handleC; rw [if_pos (by simpa using h)]) H) (fun h0 => ?_)
  have h0 : m.to = 0 := by simpa using h0
  have H := (openC H).drew
  replace H : Sh.Holds w0 ([(S.n, .cells #[I S.most, I S.room, I S.tr, S.J.v, I S.used, .map (some S.m), S.T.v] 136 (0, 0))] :: S.J.hp :: [(S.m, mapG S.l S.c)] :: S.T.hp :: ledsH S.X :: [(k9, .cells #[I m.kind, I m.frm, I m.to, I m.id, I m.step, I m.a, I m.b] 35 (0, 0))] :: R) _ := H
  (with_reducible repeat first|refine ldA (by assumption) ?_|refine Stp.imp ?_|refine stA (by assumption) rfl fun _ _=>?_|refine nw_h (by assumption) fun _ _ _=>?_|refine ldSA ?_|refine asT_e [] rfl rfl ?_|refine ldD (by assumption) ?_|refine nwD (by assumption) fun _ _ _=>?_)
  refine mlook (S := S) 2 H rfl I0.ok (fun hL => ?_) (fun p x hL hp => ?_)
  · rw [I0.L] at hL
    (with_reducible repeat first|refine ldA (by assumption) ?_|refine Stp.imp ?_|refine stA (by assumption) rfl fun _ _=>?_|refine nw_h (by assumption) fun _ _ _=>?_|refine ldSA ?_|refine asT_e [] rfl rfl ?_|refine ldD (by assumption) ?_|refine nwD (by assumption) fun _ _ _=>?_)
    refine br_s (fun h => ?_) (fun h => ?_)
    · have e : handleC P s m = (s, tellsC s m) := by unfold handleC; rw [if_neg (by simp [h0]), if_pos (by simpa using h)]
      rw [e] at k
      (with_reducible repeat first|refine ldA (by assumption) ?_|refine Stp.imp ?_|refine stA (by assumption) rfl fun _ _=>?_|refine nw_h (by assumption) fun _ _ _=>?_|refine ldSA ?_|refine asT_e [] rfl rfl ?_|refine ldD (by assumption) ?_|refine nwD (by assumption) fun _ _ _=>?_)
      refine tells_c (S := S) (P := P) (s := s) (m := m) (shutC H) I0 (.inl ⟨hL, rfl⟩) (fun r w okr H => ?_)
      (with_reducible repeat first|refine ldA (by assumption) ?_|refine Stp.imp ?_|refine stA (by assumption) rfl fun _ _=>?_|refine nw_h (by assumption) fun _ _ _=>?_|refine ldSA ?_|refine asT_e [] rfl rfl ?_|refine ldD (by assumption) ?_|refine nwD (by assumption) fun _ _ _=>?_)
      exact k r S _ I0 (.rfl' S) okr (Holds.re H)
    · refine br_t rfl ?_
      refine no ?_ (shutC H)
      unfold handleC; rw [if_neg (by simp [h0]), if_neg (by simpa using h), hL]
  rw [I0.L] at hL
  (with_reducible repeat first|refine ldA (by assumption) ?_|refine Stp.imp ?_|refine stA (by assumption) rfl fun _ _=>?_|refine nw_h (by assumption) fun _ _ _=>?_|refine ldSA ?_|refine asT_e [] rfl rfl ?_|refine ldD (by assumption) ?_|refine nwD (by assumption) fun _ _ _=>?_)
  refine br_s (fun h => ?_) (fun h12 => ?_)
  · have e : handleC P s m = (s, tellsC s m) := by unfold handleC; rw [if_neg (by simp [h0]), if_pos (by simpa using h)]
    rw [e] at k
    (with_reducible repeat first|refine ldA (by assumption) ?_|refine Stp.imp ?_|refine stA (by assumption) rfl fun _ _=>?_|refine nw_h (by assumption) fun _ _ _=>?_|refine ldSA ?_|refine asT_e [] rfl rfl ?_|refine ldD (by assumption) ?_|refine nwD (by assumption) fun _ _ _=>?_)
    refine tells_c (S := S) (P := P) (s := s) (m := m) (shutC H) I0 (.inr ⟨x, p, hL, hp, rfl⟩) (fun r w okr H => ?_)
    (with_reducible repeat first|refine ldA (by assumption) ?_|refine Stp.imp ?_|refine stA (by assumption) rfl fun _ _=>?_|refine nw_h (by assumption) fun _ _ _=>?_|refine ldSA ?_|refine asT_e [] rfl rfl ?_|refine ldD (by assumption) ?_|refine nwD (by assumption) fun _ _ _=>?_)
    exact k r S _ I0 (.rfl' S) okr (Holds.re H)
  have h12 : m.kind ≠ 12 := by simpa using h12
  have eh := handle_some (P := P) h0 h12 hL
  refine br_f rfl ?_
  (with_reducible repeat first|refine ldA (by assumption) ?_|refine Stp.imp ?_|refine stA (by assumption) rfl fun _ _=>?_|refine nw_h (by assumption) fun _ _ _=>?_|refine ldSA ?_|refine asT_e [] rfl rfl ?_|refine ldD (by assumption) ?_|refine nwD (by assumption) fun _ _ _=>?_)
  refine br_s (fun h => ?_) (fun h2 => ?_)
  · have h : m.kind = 2 := by simpa using h
    have ek : handleC P s m = stepsC P s x m := by
      rw [eh]; simp [h]
    (with_reducible repeat first|refine ldA (by assumption) ?_|refine Stp.imp ?_|refine stA (by assumption) rfl fun _ _=>?_|refine nw_h (by assumption) fun _ _ _=>?_|refine ldSA ?_|refine asT_e [] rfl rfl ?_|refine ldD (by assumption) ?_|refine nwD (by assumption) fun _ _ _=>?_)
    refine steps_c (S := S) (m := m) T (shutC H) I0 hL hp (fun r S' w I1 c1 okr H => ?_)
    (with_reducible repeat first|refine ldA (by assumption) ?_|refine Stp.imp ?_|refine stA (by assumption) rfl fun _ _=>?_|refine nw_h (by assumption) fun _ _ _=>?_|refine ldSA ?_|refine asT_e [] rfl rfl ?_|refine ldD (by assumption) ?_|refine nwD (by assumption) fun _ _ _=>?_)
    rw [ek] at k
    exact k r S' _ I1 c1 okr (Holds.re H)
  have h2 : m.kind ≠ 2 := by simpa using h2
  refine br_s (fun h => ?_) (fun h3 => ?_)
  · have h : m.kind = 3 := by simpa using h
    have ek : handleC P s m = stepsC P s x m := by
      rw [eh]; simp [h]
    (with_reducible repeat first|refine ldA (by assumption) ?_|refine Stp.imp ?_|refine stA (by assumption) rfl fun _ _=>?_|refine nw_h (by assumption) fun _ _ _=>?_|refine ldSA ?_|refine asT_e [] rfl rfl ?_|refine ldD (by assumption) ?_|refine nwD (by assumption) fun _ _ _=>?_)
    refine steps_c (S := S) (m := m) T (shutC H) I0 hL hp (fun r S' w I1 c1 okr H => ?_)
    (with_reducible repeat first|refine ldA (by assumption) ?_|refine Stp.imp ?_|refine stA (by assumption) rfl fun _ _=>?_|refine nw_h (by assumption) fun _ _ _=>?_|refine ldSA ?_|refine asT_e [] rfl rfl ?_|refine ldD (by assumption) ?_|refine nwD (by assumption) fun _ _ _=>?_)
    rw [ek] at k
    exact k r S' _ I1 c1 okr (Holds.re H)
  have h3 : m.kind ≠ 3 := by simpa using h3
  refine br_s (fun h => ?_) (fun h5 => ?_)
  · have h : m.kind = 5 := by simpa using h
    have ek : handleC P s m = stepsC P s x m := by
      rw [eh]; simp [h]
    (with_reducible repeat first|refine ldA (by assumption) ?_|refine Stp.imp ?_|refine stA (by assumption) rfl fun _ _=>?_|refine nw_h (by assumption) fun _ _ _=>?_|refine ldSA ?_|refine asT_e [] rfl rfl ?_|refine ldD (by assumption) ?_|refine nwD (by assumption) fun _ _ _=>?_)
    refine steps_c (S := S) (m := m) T (shutC H) I0 hL hp (fun r S' w I1 c1 okr H => ?_)
    (with_reducible repeat first|refine ldA (by assumption) ?_|refine Stp.imp ?_|refine stA (by assumption) rfl fun _ _=>?_|refine nw_h (by assumption) fun _ _ _=>?_|refine ldSA ?_|refine asT_e [] rfl rfl ?_|refine ldD (by assumption) ?_|refine nwD (by assumption) fun _ _ _=>?_)
    rw [ek] at k
    exact k r S' _ I1 c1 okr (Holds.re H)
  have h5 : m.kind ≠ 5 := by simpa using h5
  refine br_s (fun h => ?_) (fun h7 => ?_)
  · have h : m.kind = 7 := by simpa using h
    have ek : handleC P s m = votesC P s x m := by
      rw [eh]; simp [h]
    (with_reducible repeat first|refine ldA (by assumption) ?_|refine Stp.imp ?_|refine stA (by assumption) rfl fun _ _=>?_|refine nw_h (by assumption) fun _ _ _=>?_|refine ldSA ?_|refine asT_e [] rfl rfl ?_|refine ldD (by assumption) ?_|refine nwD (by assumption) fun _ _ _=>?_)
    refine votes_c (S := S) (m := m) T (shutC H) I0 hL hp (htt x hL) (fun r S' w I1 c1 okr H => ?_)
    (with_reducible repeat first|refine ldA (by assumption) ?_|refine Stp.imp ?_|refine stA (by assumption) rfl fun _ _=>?_|refine nw_h (by assumption) fun _ _ _=>?_|refine ldSA ?_|refine asT_e [] rfl rfl ?_|refine ldD (by assumption) ?_|refine nwD (by assumption) fun _ _ _=>?_)
    rw [ek] at k
    exact k r S' _ I1 c1 okr (Holds.re H)
  have h7 : m.kind ≠ 7 := by simpa using h7
  refine br_s (fun h => ?_) (fun h8 => ?_)
  · have h : m.kind = 8 := by simpa using h
    have ek : handleC P s m = votesC P s x m := by
      rw [eh]; simp [h]
    (with_reducible repeat first|refine ldA (by assumption) ?_|refine Stp.imp ?_|refine stA (by assumption) rfl fun _ _=>?_|refine nw_h (by assumption) fun _ _ _=>?_|refine ldSA ?_|refine asT_e [] rfl rfl ?_|refine ldD (by assumption) ?_|refine nwD (by assumption) fun _ _ _=>?_)
    refine votes_c (S := S) (m := m) T (shutC H) I0 hL hp (htt x hL) (fun r S' w I1 c1 okr H => ?_)
    (with_reducible repeat first|refine ldA (by assumption) ?_|refine Stp.imp ?_|refine stA (by assumption) rfl fun _ _=>?_|refine nw_h (by assumption) fun _ _ _=>?_|refine ldSA ?_|refine asT_e [] rfl rfl ?_|refine ldD (by assumption) ?_|refine nwD (by assumption) fun _ _ _=>?_)
    rw [ek] at k
    exact k r S' _ I1 c1 okr (Holds.re H)
  have h8 : m.kind ≠ 8 := by simpa using h8
  refine br_s (fun h => ?_) (fun h11 => ?_)
  · have h : m.kind = 11 := by simpa using h
    have ek : handleC P s m = acksC P s x m := by
      rw [eh]; simp [h]
    (with_reducible repeat first|refine ldA (by assumption) ?_|refine Stp.imp ?_|refine stA (by assumption) rfl fun _ _=>?_|refine nw_h (by assumption) fun _ _ _=>?_|refine ldSA ?_|refine asT_e [] rfl rfl ?_|refine ldD (by assumption) ?_|refine nwD (by assumption) fun _ _ _=>?_)
    refine acks_c (S := S) (m := m) T (shutC H) I0 hL hp (fun r S' w I1 c1 okr H => ?_)
    (with_reducible repeat first|refine ldA (by assumption) ?_|refine Stp.imp ?_|refine stA (by assumption) rfl fun _ _=>?_|refine nw_h (by assumption) fun _ _ _=>?_|refine ldSA ?_|refine asT_e [] rfl rfl ?_|refine ldD (by assumption) ?_|refine nwD (by assumption) fun _ _ _=>?_)
    rw [ek] at k
    exact k r S' _ I1 c1 okr (Holds.re H)
  have h11 : m.kind ≠ 11 := by simpa using h11
  refine br_s (fun h => ?_) (fun h17 => ?_)
  · have h : m.kind = 17 := by simpa using h
    have ek : handleC P s m = acksC P s x m := by
      rw [eh]; simp [h]
    (with_reducible repeat first|refine ldA (by assumption) ?_|refine Stp.imp ?_|refine stA (by assumption) rfl fun _ _=>?_|refine nw_h (by assumption) fun _ _ _=>?_|refine ldSA ?_|refine asT_e [] rfl rfl ?_|refine ldD (by assumption) ?_|refine nwD (by assumption) fun _ _ _=>?_)
    refine acks_c (S := S) (m := m) T (shutC H) I0 hL hp (fun r S' w I1 c1 okr H => ?_)
    (with_reducible repeat first|refine ldA (by assumption) ?_|refine Stp.imp ?_|refine stA (by assumption) rfl fun _ _=>?_|refine nw_h (by assumption) fun _ _ _=>?_|refine ldSA ?_|refine asT_e [] rfl rfl ?_|refine ldD (by assumption) ?_|refine nwD (by assumption) fun _ _ _=>?_)
    rw [ek] at k
    exact k r S' _ I1 c1 okr (Holds.re H)
  have h17 : m.kind ≠ 17 := by simpa using h17
  refine br_s (fun h => ?_) (fun h16 => ?_)
  · have h : m.kind = 16 := by simpa using h
    have ek : handleC P s m = if m.frm = 3 ∧ x.f.yes = true ∧ x.f.shipped = false then onC P s ⟨10, m.id, []⟩ else (s, []) := by
      rw [eh]; simp [h]
    have hL' : S.L m.id = some x := by rw [I0.L]; exact hL
    have hid := I0.id hL
    obtain ⟨c, A, Bs, g⟩ := ledGet I0.ok hL' hp
    have gx := g.xe
    have gp := g.pe
    subst gx gp
    have H2 := openL (g.out (shutC H))
    replace H2 : Sh.Holds w0 ([(c.p, .cells #[I c.x.o.id, I c.x.o.item, I c.x.o.qty, I c.x.o.client, I c.x.o.price, c.sR.v, c.dR.v, c.uR.v, .bool c.x.f.asked, .bool c.x.f.yes, .bool c.x.f.turned, .bool c.x.f.a0, .bool c.x.f.a1, .bool c.x.f.shipped, .bool c.x.f.d0, .bool c.x.f.d1, .bool c.x.f.acc, .pointer (taP c.T)] 147 (0, 0))] :: c.sR.hp 81 :: c.dR.hp 4 :: c.uR.hp 4 :: taH c.T c.x.t :: ledsH (A ++ Bs) :: [(S.n, .cells #[I S.most, I S.room, I S.tr, S.J.v, I S.used, .map (some S.m), S.T.v] 136 (0, 0))] :: S.J.hp :: [(S.m, mapG S.l S.c)] :: S.T.hp :: [(k9, .cells #[I m.kind, I m.frm, I m.to, I m.id, I m.step, I m.a, I m.b] 35 (0, 0))] :: R) _ := H2
    clear H
    have cls : ∀ {w : World} {Q : List Hp}, Sh.Holds w0 ([(c.p, .cells #[I c.x.o.id, I c.x.o.item, I c.x.o.qty, I c.x.o.client, I c.x.o.price, c.sR.v, c.dR.v, c.uR.v, .bool c.x.f.asked, .bool c.x.f.yes, .bool c.x.f.turned, .bool c.x.f.a0, .bool c.x.f.a1, .bool c.x.f.shipped, .bool c.x.f.d0, .bool c.x.f.d1, .bool c.x.f.acc, .pointer (taP c.T)] 147 (0, 0))] :: c.sR.hp 81 :: c.dR.hp 4 :: c.uR.hp 4 :: taH c.T c.x.t :: ledsH (A ++ Bs) :: [(S.n, .cells #[I S.most, I S.room, I S.tr, S.J.v, I S.used, .map (some S.m), S.T.v] 136 (0, 0))] :: S.J.hp :: [(S.m, mapG S.l S.c)] :: S.T.hp :: Q) w → Sh.Holds w0 (S.hp :: Q) w := fun H => g.back (shutL H)
    (with_reducible repeat first|refine ldA (by assumption) ?_|refine Stp.imp ?_|refine stA (by assumption) rfl fun _ _=>?_|refine nw_h (by assumption) fun _ _ _=>?_|refine ldSA ?_|refine asT_e [] rfl rfl ?_|refine ldD (by assumption) ?_|refine nwD (by assumption) fun _ _ _=>?_)
    refine br_s (fun h3 => ?_) (fun h3 => ?_)
    rotate_left
    · refine no ?_ (cls H2)
      rw [ek, if_neg (by rintro ⟨a, -, -⟩; rw [a] at h3; simp at h3)]
    have h3 : m.frm = 3 := by simpa using h3
    (with_reducible repeat first|refine ldA (by assumption) ?_|refine Stp.imp ?_|refine stA (by assumption) rfl fun _ _=>?_|refine nw_h (by assumption) fun _ _ _=>?_|refine ldSA ?_|refine asT_e [] rfl rfl ?_|refine ldD (by assumption) ?_|refine nwD (by assumption) fun _ _ _=>?_)
    refine br_s (fun hy => ?_) (fun hy => ?_)
    rotate_left
    · refine no ?_ (cls H2)
      rw [ek, if_neg (by rintro ⟨-, a, -⟩; rw [a] at hy; simp at hy)]
    (with_reducible repeat first|refine ldA (by assumption) ?_|refine Stp.imp ?_|refine stA (by assumption) rfl fun _ _=>?_|refine nw_h (by assumption) fun _ _ _=>?_|refine ldSA ?_|refine asT_e [] rfl rfl ?_|refine ldD (by assumption) ?_|refine nwD (by assumption) fun _ _ _=>?_)
    refine br_s (fun hn => ?_) (fun hn => ?_)
    rotate_left
    · refine no ?_ (cls H2)
      rw [ek, if_neg (by rintro ⟨-, -, a⟩; rw [a] at hn; simp at hn)]
    have hn : c.x.f.shipped = false := by simpa using hn
    rw [if_pos ⟨h3, hy, hn⟩] at ek
    rw [ek] at k
    (with_reducible repeat first|refine ldA (by assumption) ?_|refine Stp.imp ?_|refine stA (by assumption) rfl fun _ _=>?_|refine nw_h (by assumption) fun _ _ _=>?_|refine ldSA ?_|refine asT_e [] rfl rfl ?_|refine ldD (by assumption) ?_|refine nwD (by assumption) fun _ _ _=>?_)
    refine entry_c H2 (fun w H => ?_)
    refine asN_e [_, _, _] rfl rfl ?_
    refine asStr_e rfl ?_
    refine asI_e rfl ?_
    refine asSl_e rfl ?_
    have H0 := cls H
    clear H
    refine nw_h H0 (fun q w H => ?_)
    replace H : Sh.Holds w0 ([(q, .cells #[.string (B (ceL 10)), I m.id, .slice none 0 0] 139 (0, 0))] :: S.hp :: [(k9, .cells #[I m.kind, I m.frm, I m.to, I m.id, I m.step, I m.a, I m.b] 35 (0, 0))] :: R) w := H
    refine notes_c (S := S) (l := [(⟨10, m.id, []⟩, none, 0, 0)]) T H I0 (EsS.one (e := ⟨10, m.id, []⟩) Sl.nil) (by simp) (okSeq.one (okE_bare hid (.inr (.inr (.inr (.inl rfl)))))) (fun hN w H => ?_) (fun s' hN S1 w I1 c1 H => ?_)
    · have hN : noteC P s [⟨10, m.id, []⟩] = none := hN
      have e2 : onC P s ⟨10, m.id, []⟩ = (s, []) := by unfold onC; rw [hN]
      rw [e2] at k
      (with_reducible repeat first|refine ldA (by assumption) ?_|refine Stp.imp ?_|refine stA (by assumption) rfl fun _ _=>?_|refine nw_h (by assumption) fun _ _ _=>?_|refine ldSA ?_|refine asT_e [] rfl rfl ?_|refine ldD (by assumption) ?_|refine nwD (by assumption) fun _ _ _=>?_)
      refine br_f rfl ?_
      exact k Row.nil S w I0 (.rfl' S) (Row.nil_ok 7) (Holds.nil (Holds.re H))
    · have hN : noteC P s [⟨10, m.id, []⟩] = some s' := hN
      have e2 : onC P s ⟨10, m.id, []⟩ = goesC P s' m.id := by unfold onC; rw [hN]
      rw [e2] at k
      (with_reducible repeat first|refine ldA (by assumption) ?_|refine Stp.imp ?_|refine stA (by assumption) rfl fun _ _=>?_|refine nw_h (by assumption) fun _ _ _=>?_|refine ldSA ?_|refine asT_e [] rfl rfl ?_|refine ldD (by assumption) ?_|refine nwD (by assumption) fun _ _ _=>?_)
      refine br_t rfl ?_
      have hL1 : ∃ y, s'.L m.id = some y := by
        rw [note_L hN]
        exact I0.one hL 10 (by omega) []
      obtain ⟨y, hy⟩ := hL1
      have en : S.n = S1.n := c1.n.symm
      rw [en]
      refine goes_c (S := S1) T H I1 hy (hp.keep c1) (fun r S2 w I2 c2 okr H => ?_)
      (with_reducible repeat first|refine ldA (by assumption) ?_|refine Stp.imp ?_|refine stA (by assumption) rfl fun _ _=>?_|refine nw_h (by assumption) fun _ _ _=>?_|refine ldSA ?_|refine asT_e [] rfl rfl ?_|refine ldD (by assumption) ?_|refine nwD (by assumption) fun _ _ _=>?_)
      exact k r S2 _ I2 (c1.trans c2) okr (Holds.re H)
  have h16 : m.kind ≠ 16 := by simpa using h16
  refine no ?_ (shutC H)
  rw [eh]; simp [h2, h3, h5, h7, h8, h11, h17, h16]
end
end Go.Proofs.YtcfmnoimehcfnaaGreatDoor
namespace Go.Proofs.YtcfmnoimehcfnaaGreatDoor
open Go Go.Sh

section
variable {w0 w : World} {hs R : List Hp} {K : KV}
theorem mlookP {S : Ch} {P : CP} {s : CS} {md : Md} {id : Int} (i : Nat) (H : Sh.Holds w0 hs w) (hi : hs[i]? = some [(S.m, mapG S.l S.c)]) (I0 : ChIs S P s) (k : ∀ pt, PtOf S s id pt → K (.pointer pt) w) : mget md Tryz.prog 133 (.map (some S.m)) (I id) false K w :=
  mlook i H hi I0.ok (fun hL => k _ (.inl ⟨by rw [← I0.L]; exact hL, rfl⟩)) (fun p x hL hp => k _ (.inr ⟨x, p, by rw [← I0.L]; exact hL, hp, rfl⟩))
set_option maxHeartbeats 1000000 in
theorem cancel_c {S : Ch} {P : CP} {s : CS} {id : Int} (T : Tab w0) (H : Sh.Holds w0 hs w) [D : Del hs S.hp R] (I0 : ChIs S P s)
    (k : ∀ (r : Row) (S' : Ch) w', ChIs S' P (cancelC P s id).1 → ChK S S' → r.Ok 7 (mgs (cancelC P s id).2.1) → Sh.Holds w0 (r.hp 35 :: S'.hp :: R) w' → K (.tuple #[r.v, I (cancelC P s id).2.2]) w') :
    gocall Tryz.prog 23 [S.v, I id] K w := by
  replace H := H.get S.hp
  have no : ∀ (y : Int), cancelC P s id = (s, [], y) → ∀ {A : List Hp} [Re (S.hp :: R) A] {w : World}, Sh.Holds w0 A w → K (.tuple #[.slice none 0 0, I y]) w := fun y e {A} _ {w} H => by
    rw [e] at k
    exact k Row.nil S w I0 (.rfl' S) (Row.nil_ok 7) (Holds.nil (Holds.re H))
  apply F23_go; unfold F23
  refine br_f rfl ?_
  refine downC_c (S := S) H (fun w H => ?_)
  refine asBoo_h ?_
  refine br_f I0.dn ?_
  replace H := openC H
  (with_reducible repeat first|refine ldA (by assumption) ?_|refine Stp.imp ?_|refine stA (by assumption) rfl fun _ _=>?_|refine nw_h (by assumption) fun _ _ _=>?_|refine ldSA ?_|refine asT_e [] rfl rfl ?_|refine ldD (by assumption) ?_|refine nwD (by assumption) fun _ _ _=>?_)
  refine mlook (S := S) 2 H rfl I0.ok (fun hL => ?_) (fun p x hL hp => ?_)
  · rw [I0.L] at hL
    (with_reducible repeat first|refine ldA (by assumption) ?_|refine Stp.imp ?_|refine stA (by assumption) rfl fun _ _=>?_|refine nw_h (by assumption) fun _ _ _=>?_|refine ldSA ?_|refine asT_e [] rfl rfl ?_|refine ldD (by assumption) ?_|refine nwD (by assumption) fun _ _ _=>?_)
    refine br_t rfl ?_
    refine no 6 ?_ (shutC H)
    unfold cancelC; rw [hL]
  have hLs := hL
  rw [I0.L] at hLs
  have look : ∀ {md : Md} {K : KV} {w : World}, Sh.Holds w0 ([(S.n, .cells #[I S.most, I S.room, I S.tr, S.J.v, I S.used, .map (some S.m), S.T.v] 136 (0, 0))] :: S.J.hp :: [(S.m, mapG S.l S.c)] :: S.T.hp :: ledsH S.X :: R) w → K (.pointer (some ⟨p, 0, none⟩)) w → mget md Tryz.prog 133 (.map (some S.m)) (I id) false K w := fun {md K w} H hk => by
    refine mgetG_h TML 2 H rfl ?_
    have hp' : getG S.l id = some (.pointer (some ⟨p, 0, none⟩)) := hp
    rw [hp']; exact hk
  have e0 : cancelC P s id = if x.f.decided = true then (s, [], 7) else turnsC P s id := by unfold cancelC; rw [hLs]
  (with_reducible repeat first|refine ldA (by assumption) ?_|refine Stp.imp ?_|refine stA (by assumption) rfl fun _ _=>?_|refine nw_h (by assumption) fun _ _ _=>?_|refine ldSA ?_|refine asT_e [] rfl rfl ?_|refine ldD (by assumption) ?_|refine nwD (by assumption) fun _ _ _=>?_)
  refine br_f rfl ?_
  (with_reducible repeat first|refine ldA (by assumption) ?_|refine Stp.imp ?_|refine stA (by assumption) rfl fun _ _=>?_|refine nw_h (by assumption) fun _ _ _=>?_|refine ldSA ?_|refine asT_e [] rfl rfl ?_|refine ldD (by assumption) ?_|refine nwD (by assumption) fun _ _ _=>?_)
  refine look H ?_
  (with_reducible repeat first|refine ldA (by assumption) ?_|refine Stp.imp ?_|refine stA (by assumption) rfl fun _ _=>?_|refine nw_h (by assumption) fun _ _ _=>?_|refine ldSA ?_|refine asT_e [] rfl rfl ?_|refine ldD (by assumption) ?_|refine nwD (by assumption) fun _ _ _=>?_)
  refine decidedS_c (S := S) (shutC H) I0.ok hL hp (fun w H => ?_)
  refine asBoo_h ?_
  refine br_s (fun h => no 7 (by rw [e0, if_pos h]) H) (fun h => ?_)
  rw [if_neg (by simp [h])] at e0
  rw [e0] at k
  replace H := openC H
  (with_reducible repeat first|refine ldA (by assumption) ?_|refine Stp.imp ?_|refine stA (by assumption) rfl fun _ _=>?_|refine nw_h (by assumption) fun _ _ _=>?_|refine ldSA ?_|refine asT_e [] rfl rfl ?_|refine ldD (by assumption) ?_|refine nwD (by assumption) fun _ _ _=>?_)
  refine look H ?_
  (with_reducible repeat first|refine ldA (by assumption) ?_|refine Stp.imp ?_|refine stA (by assumption) rfl fun _ _=>?_|refine nw_h (by assumption) fun _ _ _=>?_|refine ldSA ?_|refine asT_e [] rfl rfl ?_|refine ldD (by assumption) ?_|refine nwD (by assumption) fun _ _ _=>?_)
  refine turns_c (S := S) T (shutC H) I0 hLs hp (fun r S2 w I2 c2 okr H => ?_)
  refine asT_e [_, _] rfl rfl ?_
  refine asSl_e rfl ?_
  refine asI_e rfl ?_
  exact k r S2 _ I2 c2 okr (Holds.re H)
set_option maxHeartbeats 2000000 in
theorem ring_c {S : Ch} {P : CP} {s : CS} {id : Int} (T : Tab w0) (H : Sh.Holds w0 hs w) [D : Del hs S.hp R] (I0 : ChIs S P s)
    (k : ∀ (r : Row) (S' : Ch) w', ChIs S' P (ringC P s id).1 → ChK S S' → r.Ok 7 (mgs (ringC P s id).2) → Sh.Holds w0 (r.hp 35 :: S'.hp :: R) w' → K r.v w') :
    gocall Tryz.prog 22 [S.v, I id] K w := by
  replace H := H.get S.hp
  apply F22_go; unfold F22
  refine br_f rfl ?_
  refine downC_c (S := S) H (fun w H => ?_)
  refine asBoo_h ?_
  refine br_f I0.dn ?_
  replace H := openC H
  (with_reducible repeat first|refine ldA (by assumption) ?_|refine Stp.imp ?_|refine stA (by assumption) rfl fun _ _=>?_|refine nw_h (by assumption) fun _ _ _=>?_|refine ldSA ?_|refine asT_e [] rfl rfl ?_|refine ldD (by assumption) ?_|refine nwD (by assumption) fun _ _ _=>?_)
  refine mlookP (S := S) 2 H rfl I0 (fun pt hpt => ?_)
  refine asPtr_e rfl ?_
  (with_reducible repeat first|refine ldA (by assumption) ?_|refine Stp.imp ?_|refine stA (by assumption) rfl fun _ _=>?_|refine nw_h (by assumption) fun _ _ _=>?_|refine ldSA ?_|refine asT_e [] rfl rfl ?_|refine ldD (by assumption) ?_|refine nwD (by assumption) fun _ _ _=>?_)
  refine ringB_c (T := S.T) (id := id) H I0.ok.T (fun T1 w ok1 to1 H => ?_)
  obtain ⟨t1, t2, t3⟩ := to1
  have ev : S.T.v = T1.v := by show Value.pointer _ = Value.pointer _; rw [t1]
  rw [ev] at H
  have H1 : Sh.Holds w0 ([(S.n, .cells #[I S.most, I S.room, I S.tr, S.J.v, I S.used, .map (some S.m), T1.v] 136 (0, 0))] :: S.J.hp :: [(S.m, mapG S.l S.c)] :: T1.hp :: ledsH S.X :: R) w := Holds.re H
  have H2 : Sh.Holds w0 ((withT S T1).hp :: R) w := shutC (S := withT S T1) H1
  clear H H1
  rw [I0.B] at t3 ⊢
  have cK : ChK S (withT S T1) := .withT S t1
  refine asT_e [_, _] rfl rfl ?_
  refine asBoo_e rfl ?_
  refine asBoo_e rfl ?_
  cases hb : s.B id with
  | none =>
    refine br_t (by simp [hb]) ?_
    have e : ringC P s id = (s, []) := by unfold ringC; rw [hb]
    rw [e] at k
    have I1 : ChIs (withT S T1) P s := by
      have := I0.withT (B := s.B) ok1 t2 (by rw [t3, hb]; simp only [Option.map_none]; rw [← hb]; exact updI_same _ _)
      exact this
    exact k Row.nil _ w I1 cK (Row.nil_ok 7) (Holds.nil H2)
  | some b =>
    refine br_f (by simp [hb]) ?_
    rw [hb] at t3
    simp only [Option.map_some] at t3
    rcases hpt with ⟨hL, rfl⟩ | ⟨x, p, hL, hp, rfl⟩
    · have e : ringC P s id = ({ s with B := if b = 0 then s.B else updI s.B id (some (b - 1)) }, []) := by unfold ringC; rw [hb, hL]
      rw [e] at k
      refine br_t rfl ?_
      have I1 : ChIs (withT S T1) P { s with B := if b = 0 then s.B else updI s.B id (some (b - 1)) } := I0.withT ok1 t2 (by
        rw [t3]
        split
        · rename_i h; rw [h] at hb; rw [← hb]; exact updI_same _ _
        · rfl)
      exact k Row.nil _ w I1 cK (Row.nil_ok 7) (Holds.nil H2)
    refine br_f rfl ?_
    have e : ringC P s id = if b = 0 then (if x.f.decided = false then ((turnsC P s id).1, (turnsC P s id).2.1) else sendsC P (againC P s id) id) else sendsC P { s with B := updI s.B id (some (b - 1)) } id := by unfold ringC; rw [hb, hL]
    have hp1 : LedP (withT S T1) id p := hp
    by_cases h0 : b = 0
    · subst h0
      have tB : T1.B = s.B := by rw [t3, if_pos rfl, ← hb]; exact updI_same _ _
      have I1 : ChIs (withT S T1) P s := I0.withT ok1 t2 tB
      rw [if_pos rfl] at e
      refine br_t (by simp [hb]) ?_
      have hL1 : (withT S T1).L id = some x := by rw [I1.L]; exact hL
      refine decidedS_c (S := withT S T1) H2 I1.ok hL1 hp1 (fun w H => ?_)
      refine asBoo_h ?_
      refine br_s (fun h => ?_) (fun h => ?_)
      · have h : x.f.decided = false := by simpa using h
        rw [if_pos h] at e
        rw [e] at k
        refine turns_c (S := withT S T1) T H I1 hL hp1 (fun r S2 w I2 c2 okr H => ?_)
        refine asT_e [_, _] rfl rfl ?_
        refine asSl_e rfl ?_
        refine asI_e rfl ?_
        exact k r S2 _ I2 (cK.trans c2) okr (Holds.re H)
      · have h : x.f.decided = true := by simpa using h
        rw [if_neg (by simp [h])] at e
        rw [e] at k
        refine br_t (by simp [hb]) ?_
        replace H : Sh.Holds w0 ([(S.n, .cells #[I S.most, I S.room, I S.tr, S.J.v, I S.used, .map (some S.m), T1.v] 136 (0, 0))] :: S.J.hp :: [(S.m, mapG S.l S.c)] :: T1.hp :: ledsH S.X :: R) w := openC H
        (with_reducible repeat first|refine ldA (by assumption) ?_|refine Stp.imp ?_|refine stA (by assumption) rfl fun _ _=>?_|refine nw_h (by assumption) fun _ _ _=>?_|refine ldSA ?_|refine asT_e [] rfl rfl ?_|refine ldD (by assumption) ?_|refine nwD (by assumption) fun _ _ _=>?_)
        refine again_c (T := T1) (id := id) H ok1 (fun b2 T2 w ok2 to2 H => ?_)
        obtain ⟨q1, q2, q3⟩ := to2
        refine asBoo_h ?_
        have ev2 : T1.v = T2.v := by show Value.pointer _ = Value.pointer _; rw [q1]
        have H3 : Sh.Holds w0 ((withT (withT S T1) T2).hp :: R) w := by
          have H4 : Sh.Holds w0 (T2.hp :: [(S.n, .cells #[I S.most, I S.room, I S.tr, S.J.v, I S.used, .map (some S.m), T1.v] 136 (0, 0))] :: S.J.hp :: [(S.m, mapG S.l S.c)] :: ledsH S.X :: R) w := Holds.re H
          rw [ev2] at H4
          have H5 : Sh.Holds w0 ([(S.n, .cells #[I S.most, I S.room, I S.tr, S.J.v, I S.used, .map (some S.m), T2.v] 136 (0, 0))] :: S.J.hp :: [(S.m, mapG S.l S.c)] :: T2.hp :: ledsH S.X :: R) w := Holds.re H4
          exact shutC (S := withT (withT S T1) T2) H5
        have I2 : ChIs (withT (withT S T1) T2) P (againC P s id) := I1.withT ok2 q2 (by
          rw [q3, tB, t2, I0.tries.1]
          split
          · rfl
          · rename_i h
            have : s.B id = none := by cases e : s.B id with
              | none => rfl
              | some v => rw [e] at h; exact absurd rfl h
            have h2 := updI_same s.B id
            rw [this] at h2; exact h2)
        refine sends_c (S := withT (withT S T1) T2) T H3 I2 hL hp1 (fun r S3 w I3 c3 okr H => ?_)
        refine asSl_e rfl ?_
        exact k r S3 _ I3 (cK.trans ((ChK.withT (withT S T1) q1).trans c3)) okr (Holds.re H)
    · rw [if_neg h0] at e
      rw [e] at k
      have I1 : ChIs (withT S T1) P { s with B := updI s.B id (some (b - 1)) } := I0.withT ok1 t2 (by rw [t3, if_neg h0])
      refine br_f (by simp [hb, h0]) ?_
      refine br_f (by simp [hb, h0]) ?_
      refine sends_c (S := withT S T1) T H2 I1 hL hp1 (fun r S3 w I3 c3 okr H => ?_)
      refine asSl_e rfl ?_
      exact k r S3 _ I3 (cK.trans c3) okr (Holds.re H)
set_option maxHeartbeats 1000000 in
theorem accept_c {S : Ch} {P : CP} {s : CS} {id : Int} (T : Tab w0) (H : Sh.Holds w0 hs w) [D : Del hs S.hp R] (I0 : ChIs S P s)
    (k : ∀ (S' : Ch) w', ChIs S' P (acceptC P s id).1 → ChK S S' → Sh.Holds w0 (S'.hp :: R) w' → K (I (acceptC P s id).2) w') :
    gocall Tryz.prog 24 [S.v, I id] K w := by
  replace H := H.get S.hp
  have no : ∀ (y : Int), acceptC P s id = (s, y) → ∀ {A : List Hp} [Re (S.hp :: R) A] {w : World}, Sh.Holds w0 A w → K (I y) w := fun y e {A} _ {w} H => by
    rw [e] at k
    exact k S w I0 (.rfl' S) (Holds.re H)
  apply F24_go; unfold F24
  refine br_f rfl ?_
  refine downC_c (S := S) H (fun w H => ?_)
  refine asBoo_h ?_
  refine br_f I0.dn ?_
  replace H := openC H
  (with_reducible repeat first|refine ldA (by assumption) ?_|refine Stp.imp ?_|refine stA (by assumption) rfl fun _ _=>?_|refine nw_h (by assumption) fun _ _ _=>?_|refine ldSA ?_|refine asT_e [] rfl rfl ?_|refine ldD (by assumption) ?_|refine nwD (by assumption) fun _ _ _=>?_)
  refine mlook (S := S) 2 H rfl I0.ok (fun hL => ?_) (fun p x hL hp => ?_)
  · rw [I0.L] at hL
    (with_reducible repeat first|refine ldA (by assumption) ?_|refine Stp.imp ?_|refine stA (by assumption) rfl fun _ _=>?_|refine nw_h (by assumption) fun _ _ _=>?_|refine ldSA ?_|refine asT_e [] rfl rfl ?_|refine ldD (by assumption) ?_|refine nwD (by assumption) fun _ _ _=>?_)
    refine br_t rfl ?_
    refine no 6 ?_ (shutC H)
    unfold acceptC; rw [hL]
  rw [I0.L] at hL
  (with_reducible repeat first|refine ldA (by assumption) ?_|refine Stp.imp ?_|refine stA (by assumption) rfl fun _ _=>?_|refine nw_h (by assumption) fun _ _ _=>?_|refine ldSA ?_|refine asT_e [] rfl rfl ?_|refine ldD (by assumption) ?_|refine nwD (by assumption) fun _ _ _=>?_)
  refine br_f rfl ?_
  refine stateC_c (S := S) (shutC H) I0 (fun w H => ?_)
  have es : stateC s id = stateF x.o x.f := by unfold stateC; rw [hL]
  rw [es]
  refine asI_e rfl ?_
  refine br_s (fun h => ?_) (fun h7 => ?_)
  · refine no 7 ?_ H
    have h : stateF x.o x.f ≠ 7 := by simpa using h
    unfold acceptC; rw [hL]; simp only; rw [if_pos h]
  have h7 : stateF x.o x.f = 7 := by simpa using h7
  have e0 : acceptC P s id = match suresC P s [⟨11, id, []⟩] with
    | none => (s, 5)
    | some s' => ((if overL (s'.L id) = true then cutC s' id else s'), 0) := by
    unfold acceptC; rw [hL]; simp only; rw [if_neg (by simp [h7])]; rfl
  have hid := I0.id hL
  refine entry_c H (fun w H => ?_)
  refine asN_e [_, _, _] rfl rfl ?_
  refine asStr_e rfl ?_
  refine asI_e rfl ?_
  refine asSl_e rfl ?_
  refine nw_h H (fun q w H => ?_)
  replace H : Sh.Holds w0 ([(q, .cells #[.string (B (ceL 11)), I id, .slice none 0 0] 139 (0, 0))] :: S.hp :: R) w := H
  refine sures_c (S := S) (l := [(⟨11, id, []⟩, none, 0, 0)]) T H I0 (EsS.one (e := ⟨11, id, []⟩) Sl.nil) (by simp) (okSeq.one (okE_bare hid (.inr (.inr (.inr (.inr rfl)))))) (fun hN w H => ?_) (fun s' hN S1 w I1 c1 H => ?_)
  · have hN : suresC P s [⟨11, id, []⟩] = none := hN
    rw [hN] at e0
    refine asBoo_h ?_
    refine br_t rfl ?_
    exact no 5 e0 H
  have hN : suresC P s [⟨11, id, []⟩] = some s' := hN
  rw [hN] at e0
  simp only at e0
  rw [e0] at k
  refine asBoo_h ?_
  refine br_f rfl ?_
  have hL1 : ∃ y, s'.L id = some y := by
    rw [sures_L hN]
    exact I0.one hL 11 (by omega) []
  obtain ⟨y, hy⟩ := hL1
  have hyS : S1.L id = some y := by rw [I1.L]; exact hy
  have hp1 : LedP S1 id p := hp.keep c1
  have en : S.n = S1.n := c1.n.symm
  rw [en]
  replace H : Sh.Holds w0 (S1.hp :: R) w := Holds.re H
  have H := openC H
  (with_reducible repeat first|refine ldA (by assumption) ?_|refine Stp.imp ?_|refine stA (by assumption) rfl fun _ _=>?_|refine nw_h (by assumption) fun _ _ _=>?_|refine ldSA ?_|refine asT_e [] rfl rfl ?_|refine ldD (by assumption) ?_|refine nwD (by assumption) fun _ _ _=>?_)
  have look : ∀ {md : Md} {K : KV} {w : World}, Sh.Holds w0 ([(S1.n, .cells #[I S1.most, I S1.room, I S1.tr, S1.J.v, I S1.used, .map (some S1.m), S1.T.v] 136 (0, 0))] :: S1.J.hp :: [(S1.m, mapG S1.l S1.c)] :: S1.T.hp :: ledsH S1.X :: R) w → K (.pointer (some ⟨p, 0, none⟩)) w → mget md Tryz.prog 133 (.map (some S1.m)) (I id) false K w := fun {md K w} H hk => by
    refine mgetG_h TML 2 H rfl ?_
    have hp' : getG S1.l id = some (.pointer (some ⟨p, 0, none⟩)) := hp1
    rw [hp']; exact hk
  refine look H ?_
  (with_reducible repeat first|refine ldA (by assumption) ?_|refine Stp.imp ?_|refine stA (by assumption) rfl fun _ _=>?_|refine nw_h (by assumption) fun _ _ _=>?_|refine ldSA ?_|refine asT_e [] rfl rfl ?_|refine ldD (by assumption) ?_|refine nwD (by assumption) fun _ _ _=>?_)
  refine overS_c (S := S1) (shutC H) I1.ok hyS hp1 (fun w H => ?_)
  refine asBoo_h ?_
  have eo : overL (s'.L id) = overF y.o y.f := by rw [hy]; rfl
  rw [eo] at k
  refine br_s (fun h => ?_) (fun h => ?_)
  · rw [if_pos h] at k
    replace H := openC H
    (with_reducible repeat first|refine ldA (by assumption) ?_|refine Stp.imp ?_|refine stA (by assumption) rfl fun _ _=>?_|refine nw_h (by assumption) fun _ _ _=>?_|refine ldSA ?_|refine asT_e [] rfl rfl ?_|refine ldD (by assumption) ?_|refine nwD (by assumption) fun _ _ _=>?_)
    refine cut_c (T := S1.T) (id := id) H I1.ok.T (fun b T2 w ok2 to2 H => ?_)
    obtain ⟨q1, q2, q3⟩ := to2
    refine asBoo_h ?_
    have ev2 : S1.T.v = T2.v := by show Value.pointer _ = Value.pointer _; rw [q1]
    rw [ev2] at H
    have H2 : Sh.Holds w0 ([(S1.n, .cells #[I S1.most, I S1.room, I S1.tr, S1.J.v, I S1.used, .map (some S1.m), T2.v] 136 (0, 0))] :: S1.J.hp :: [(S1.m, mapG S1.l S1.c)] :: T2.hp :: ledsH S1.X :: R) w := Holds.re H
    have H3 : Sh.Holds w0 ((withT S1 T2).hp :: R) w := shutC (S := withT S1 T2) H2
    exact k _ w (I1.withT ok2 q2 (by rw [q3, I1.B])) (c1.trans (.withT _ q1)) H3
  · rw [if_neg (by simp [h])] at k
    exact k S1 _ I1 c1 H
end
end Go.Proofs.YtcfmnoimehcfnaaGreatDoor
