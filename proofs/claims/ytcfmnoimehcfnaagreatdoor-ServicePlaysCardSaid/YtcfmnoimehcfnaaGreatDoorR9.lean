/- Contract of the reference's service: a message. Conditions: none. -/
import Derived.Test.YtcfmnoimehcfnaaGreatDoorR8
set_option linter.unusedVariables false
set_option linter.unusedSimpArgs false
set_option maxRecDepth 100000
namespace Go.Proofs.YtcfmnoimehcfnaaGreatDoor
open Go Go.Sh

section
variable {w0 w : World} {hs R : List Hp} {K : KV}
set_option maxHeartbeats 4000000 in
theorem handleRv_c {M : Rv} {es : List SE} {d : Bool} {kind frm to id st a b : Int} (T : Tab w0) (H : Sh.Holds w0 hs w) [D : Del hs M.hp R] (I0 : RvIs M es d)
    (k0 : (ansV M.node M.hold M.J.room es d kind frm to id a).2 = 0 → ∀ (M' : Rv) w', RvIs M' (es ++ (ansV M.node M.hold M.J.room es d kind frm to id a).1.toList) d → RvC M M' → Sh.Holds w0 (M'.hp :: R) w' → K (.slice none 0 0) w')
    (k1 : (ansV M.node M.hold M.J.room es d kind frm to id a).2 ≠ 0 → ∀ (q : Nat) (M' : Rv) w', RvIs M' (es ++ (ansV M.node M.hold M.J.room es d kind frm to id a).1.toList) d → RvC M M' → Sh.Holds w0 ([(q, ansO (ansV M.node M.hold M.J.room es d kind frm to id a).2 M.node id st)] :: M'.hp :: R) w' → K (.slice (some ⟨q, 0, none⟩) 1 1) w') :
    gocall Tryz.prog 50 [M.v, msgV kind frm to id st a b] K w := by
  replace H := H.get M.hp
  have hn := I0.n
  have hlen := I0.len
  have no : (d = true ∨ ¬ (to = M.node ∧ frm = 0 ∧ 1 ≤ id ∧ id ≤ 999 ∧ (kind = 1 ∨ kind = 4))) → ∀ {w}, Sh.Holds w0 (M.hp :: R) w → K (.slice none 0 0) w := fun h w H => by
    have e : ansV M.node M.hold M.J.room es d kind frm to id a = (none, 0) := by
      unfold ansV
      rw [if_pos h]
    rw [e] at k0
    exact k0 rfl M w (by simpa using I0) (.rfl' M) H
  apply F50_go; unfold F50
  refine nw_h H (fun k8 w H => ?_)
  have H : Sh.Holds w0 ([(k8, .cells #[I kind, I frm, I to, I id, I st, I a, I b] 35 (0, 0))] :: M.hp :: R) w := H
  have H0 := H.drew
  replace H : Sh.Holds w0 (M.cs :: M.J.hp :: M.B.hp :: [(k8, .cells #[I kind, I frm, I to, I id, I st, I a, I b] 35 (0, 0))] :: R) _ := openV (H0.get M.hp)
  refine nn_h ?_
  refine cs_ld (i := 2) H (v := M.J.v) rfl ?_; refine asPtr_h ?_
  refine nn_h ?_
  have H2 : Sh.Holds w0 ([(M.J.j, .cells #[I M.J.room, M.J.r.v, I M.J.sure, .bool M.J.down] 64 (0, 0))] :: M.J.r.hp 9 :: M.cs :: M.B.hp :: [(k8, .cells #[I kind, I frm, I to, I id, I st, I a, I b] 35 (0, 0))] :: R) _ := openJ (H.get M.J.hp)
  refine ldA H2 ?_; refine asBoo_h ?_
  rw [I0.dn]
  clear H2
  refine br_s (fun hd => no (.inl hd) H0.tail) (fun hd => ?_)
  subst hd
  refine ldA H0 ?_; refine asI_h ?_
  refine nn_h ?_
  refine cs_ld (i := 0) H (v := I M.node) rfl ?_; refine asI_h ?_
  refine br_s (fun h => no (.inr (fun g => by simp at h; exact h g.1)) H0.tail) (fun h1 => ?_)
  refine ldA H0 ?_; refine asI_h ?_
  refine br_s (fun h => no (.inr (fun g => by simp at h; exact h g.2.1)) H0.tail) (fun h2 => ?_)
  refine ldA H0 ?_; refine asI_h ?_
  refine id1_c H0 (fun w H0 => ?_)
  refine asBoo_h ?_
  refine br_s (fun h => no (.inr (fun g => by simp at h; omega)) H0.tail) (fun h3 => ?_)
  clear H
  have hb : M.B.Ok (SA.run M.hold es).h := I0.b
  have hle : M.B.left = (SA.run M.hold es).left := I0.left
  have hfn : Fn1 M.ss (SA.run M.hold es).s := I0.fn
  have i1 : 1 ≤ id := by simp at h3; omega
  have i2 : id ≤ 999 := by simp at h3; omega
  have hto : to = M.node := by simpa using h1
  have hfr : frm = 0 := by simpa using h2
  clear h1 h2 h3
  have hans1 : kind = 1 → ansV M.node M.hold M.J.room es false kind frm to id a = SA.doE (SA.run M.hold es) M.J.room es.length id a := fun hk => by
    unfold ansV; rw [if_neg (by intro g; rcases g with g | g
                                · cases g
                                · exact g ⟨hto, hfr, i1, i2, .inl hk⟩), if_pos hk]
  have hans4 : kind = 4 → ansV M.node M.hold M.J.room es false kind frm to id a = SA.undoE (SA.run M.hold es) M.J.room es.length id := fun hk => by
    unfold ansV; rw [if_neg (by intro g; rcases g with g | g
                                · cases g
                                · exact g ⟨hto, hfr, i1, i2, .inr hk⟩), if_neg (by omega)]
  refine ⟨fun x w => (ansV M.node M.hold M.J.room es false kind frm to id a).2 = x.1 ∧ x.1 ≠ 0 ∧ ∃ M' : Rv, RvIs M' (es ++ (ansV M.node M.hold M.J.room es false kind frm to id a).1.toList) false ∧ RvC M M' ∧ Sh.Holds w0 ([(k8, .cells #[I kind, I frm, I to, I id, I st, I a, I b] 35 (0, 0))] :: M'.hp :: R) w, ?_, ?_⟩
  · have full : (ansV M.node M.hold M.J.room es false kind frm to id a) = (none, 0) → ∀ {w}, Sh.Holds w0 (M.hp :: R) w → K (.slice none 0 0) w := fun e w H => by
      rw [e] at k0
      exact k0 rfl M w (by simpa using I0) (.rfl' M) H
    replace H0 := H0.drew
    have H : Sh.Holds w0 (M.cs :: M.J.hp :: M.B.hp :: [(k8, .cells #[I kind, I frm, I to, I id, I st, I a, I b] 35 (0, 0))] :: R) _ := openV (H0.get M.hp)
    have hv := hfn.2 id (by omega) (by omega)
    refine ldA H0 ?_; refine asI_h ?_
    refine nn_h ?_
    refine arAt1_h (q := 4) (by omega) (by omega) ?_
    refine cs_ld H (v := I ((SA.run M.hold es).s id)) (by rw [Nat.add_comm]; simp [hv]) ?_
    refine asI_h ?_
    refine ldA H0 ?_; refine asI_h ?_
    refine br_s (fun hk => ?_) (fun hk => ?_)
    · have hk : kind = 1 := by simpa using hk
      have han := hans1 hk
      refine ⟨fun x w => x.1 = (if (SA.run M.hold es).s id = 1 then 2 else 3) ∧ Sh.Holds w0 (M.cs :: M.J.hp :: M.B.hp :: [(k8, .cells #[I kind, I frm, I to, I id, I st, I a, I b] 35 (0, 0))] :: R) w, br_s (fun g => ⟨by rw [if_pos (by simpa using g)], H⟩) (fun g => ⟨by rw [if_neg (by simpa using g)], H⟩), ?_⟩
      clear H H0
      rintro ⟨x, u⟩ w ⟨hx, H⟩
      simp only at hx
      subst hx
      refine br_s (fun hs0 => ?_) (fun hs0 => ?_)
      · have hs0 : (SA.run M.hold es).s id = 0 := by simpa using hs0
        refine ⟨fun _ w => (es.length : Int) < M.J.room ∧ Sh.Holds w0 (M.cs :: M.J.hp :: M.B.hp :: [(k8, .cells #[I kind, I frm, I to, I id, I st, I a, I b] 35 (0, 0))] :: R) w, ?_, ?_⟩
        · replace H := H.drew
          refine nn_h ?_
          refine cs_ld (i := 2) H (v := M.J.v) rfl ?_; refine asPtr_h ?_
          refine nn_h ?_
          have H2 : Sh.Holds w0 ([(M.J.j, .cells #[I M.J.room, M.J.r.v, I M.J.sure, .bool M.J.down] 64 (0, 0))] :: M.J.r.hp 9 :: M.cs :: M.B.hp :: [(k8, .cells #[I kind, I frm, I to, I id, I st, I a, I b] 35 (0, 0))] :: R) _ := openJ (H.get M.J.hp)
          refine ldA H2 ?_; refine asSl_h ?_
          refine nn_h ?_
          refine cs_ld (i := 2) H (v := M.J.v) rfl ?_; refine asPtr_h ?_
          refine nn_h ?_
          refine ldA H2 ?_; refine asI_h ?_
          have hrn := Rj.n I0.j
          refine br_s (fun g => full ?_ (shutV (Holds.re H))) (fun g => ⟨by have := of_decide_eq_false g; omega, H⟩)
          rw [han]
          unfold SA.doE
          rw [if_neg (by omega), if_pos hs0, if_neg (by have := of_decide_eq_true g; omega)]
        · clear H
          rintro _ w ⟨hr, H⟩
          replace H := H.drew
          refine ldA H ?_; refine asI_h ?_
          refine nn_h ?_
          refine arAt1_h (q := 4) (by omega) (by omega) ?_
          refine cs_st H hfn.1 (by omega) (by omega) (fun w H => ?_)
          replace H : Sh.Holds w0 (Rv.cs ⟨M.n, M.node, M.hold, M.J, M.B, M.ss.set id.toNat 2⟩ :: M.J.hp :: M.B.hp :: [(k8, .cells #[I kind, I frm, I to, I id, I st, I a, I b] 35 (0, 0))] :: R) w := H
          refine ldA H ?_; refine asI_h ?_
          refine entryR_c H (fun w H => ?_)
          refine asN_e [_, _, _] rfl rfl ?_
          refine asStr_e rfl ?_; refine asI_e rfl ?_; refine asSl_e rfl ?_
          refine nw_h H (fun k135 w H => ?_)
          replace H : Sh.Holds w0 ([(k135, .cells #[.string ⟨#[]⟩, I 0, .slice none 0 0] 139 (0, 0))] :: Rv.cs ⟨M.n, M.node, M.hold, M.J, M.B, M.ss.set id.toNat 2⟩ :: M.J.hp :: M.B.hp :: [(k8, .cells #[I kind, I frm, I to, I id, I st, I a, I b] 35 (0, 0))] :: R) w := H
          refine stA H rfl fun w H => ?_
          refine stA H rfl fun w H => ?_
          refine stA H rfl fun w H => ?_
          have hdo : ∀ e : SE, (if takeA (SA.run M.hold es).left (SA.run M.hold es).h id a = 0 then SE.did id a else SE.cant id) = e → ansV M.node M.hold M.J.room es false kind frm to id a = (some e, if takeA (SA.run M.hold es).left (SA.run M.hold es).h id a = 0 then 2 else 3) := fun e he => by
            rw [han]
            unfold SA.doE
            rw [if_neg (by omega), if_pos hs0, if_pos hr]
            subst he
            split <;> rfl
          obtain ⟨e, he⟩ : ∃ e : SE, (if takeA (SA.run M.hold es).left (SA.run M.hold es).h id a = 0 then SE.did id a else SE.cant id) = e := ⟨_, rfl⟩
          have hde := hdo e he
          clear hdo
          refine ⟨fun x w => x.1 = (if takeA (SA.run M.hold es).left (SA.run M.hold es).h id a = 0 then 2 else 3) ∧ ∃ (B' : Rh) (ss : List Int) (p : Option Addr) (n c : Nat) (Q : List Hp), B'.b = M.B.b ∧ B'.Ok ((SA.run M.hold es).step e).h ∧ B'.left = ((SA.run M.hold es).step e).left ∧ Fn1 ss ((SA.run M.hold es).step e).s ∧ Sl (Sh.Holds w0 (Q ++ R)) p n 1 (e.en.l.map I) ∧ e.en.id = id ∧ Sh.Holds w0 ([(k135, .cells #[.string (B e.en.k), I id, .slice p n c] 139 (0, 0))] :: Rv.cs ⟨M.n, M.node, M.hold, M.J, B', ss⟩ :: M.J.hp :: B'.hp :: [(k8, .cells #[I kind, I frm, I to, I id, I st, I a, I b] 35 (0, 0))] :: (Q ++ R)) w, ?_, ?_⟩
          · replace H := H.drew
            refine nn_h ?_
            have H3 := H.get (Rv.cs ⟨M.n, M.node, M.hold, M.J, M.B, M.ss.set id.toNat 2⟩)
            refine cs_ld (M := ⟨M.n, M.node, M.hold, M.J, M.B, M.ss.set id.toNat 2⟩) (i := 3) H3 (v := M.B.v) rfl ?_; refine asPtr_h ?_
            refine ldA H ?_; refine asI_h ?_
            refine ldA H ?_; refine asI_h ?_
            clear H3
            refine take7_c (B := M.B) H hb (fun B2 w b1 b2 b3 H => ?_)
            refine asI_h ?_
            have ecs : ∀ ss : List Int, Rv.cs ⟨M.n, M.node, M.hold, M.J, M.B, ss⟩ = Rv.cs ⟨M.n, M.node, M.hold, M.J, B2, ss⟩ := fun ss => by
              unfold Rv.cs; rw [Rh.v, Rh.v, b1]
            rw [ecs] at H
            rw [hle] at b2 b3 ⊢
            refine br_s (fun g => ?_) (fun g => ?_)
            · have g : takeA (SA.run M.hold es).left (SA.run M.hold es).h id a = 0 := by simpa using g
              rw [if_pos g] at he
              subst he
              replace H := H.drew
              refine keepsA [[(k8, .cells #[I kind, I frm, I to, I id, I st, I a, I b] 35 (0, 0))]] H ?_
              refine ldSA ?_; refine asI_h ?_
              refine ldSA ?_; refine asI_h ?_
              refine ldSA ?_; refine asI_h ?_
              refine nn_h ?_
              refine nw_h H (fun k177 w H => ?_)
              replace H : Sh.Holds w0 ([(k177, .cells #[I a] 3 (0, 0))] :: B2.hp :: [(k135, .cells #[.string ⟨#[99, 97, 110, 116]⟩, I id, .slice none 0 0] 139 (0, 0))] :: Rv.cs ⟨M.n, M.node, M.hold, M.J, B2, M.ss.set id.toNat 2⟩ :: M.J.hp :: [(k8, .cells #[I kind, I frm, I to, I id, I st, I a, I b] 35 (0, 0))] :: R) w := H
              refine kpA H ?_
              refine entryR_c H (fun w H => ?_)
              refine asN_e [_, _, _] rfl rfl ?_
              refine asStr_e rfl ?_; refine asI_e rfl ?_; refine asSl_e rfl ?_
              refine kpA H ?_
              refine arAt1_h (q := 4) (by omega) (by omega) ?_
              have H4 := H.get (Rv.cs ⟨M.n, M.node, M.hold, M.J, B2, M.ss.set id.toNat 2⟩)
              refine cs_st (M := ⟨M.n, M.node, M.hold, M.J, B2, M.ss.set id.toNat 2⟩) H4 (by rw [List.length_set]; exact hfn.1) (by omega) (by omega) (fun w H => ?_)
              replace H : Sh.Holds w0 (Rv.cs ⟨M.n, M.node, M.hold, M.J, B2, (M.ss.set id.toNat 2).set id.toNat 1⟩ :: [(k177, .cells #[I a] 3 (0, 0))] :: B2.hp :: [(k135, .cells #[.string ⟨#[99, 97, 110, 116]⟩, I id, .slice none 0 0] 139 (0, 0))] :: M.J.hp :: [(k8, .cells #[I kind, I frm, I to, I id, I st, I a, I b] 35 (0, 0))] :: R) w := H
              clear H4
              refine kpA H ?_
              refine stA H rfl fun w H => ?_
              refine stA H rfl fun w H => ?_
              refine stA H rfl fun w H => ?_
              replace H : Sh.Holds w0 (Rv.cs ⟨M.n, M.node, M.hold, M.J, B2, (M.ss.set id.toNat 2).set id.toNat 1⟩ :: [(k177, .cells #[I a] 3 (0, 0))] :: B2.hp :: [(k135, .cells #[.string (B (SE.did id a).en.k), I id, .slice (some ⟨k177, 0, none⟩) 1 1] 139 (0, 0))] :: M.J.hp :: [(k8, .cells #[I kind, I frm, I to, I id, I st, I a, I b] 35 (0, 0))] :: R) w := H
              refine ⟨by rw [if_pos g], B2, (M.ss.set id.toNat 2).set id.toNat 1, some ⟨k177, 0, none⟩, 1, 1, [[(k177, .cells #[I a] 3 (0, 0))]], b1, ?_, ?_, ?_, Sl.block (vals := [I a]) 0 rfl rfl, rfl, Holds.re (a := [(k135, .cells #[.string (B (SE.did id a).en.k), I id, .slice (some ⟨k177, 0, none⟩) 1 1] 139 (0, 0))] :: Rv.cs ⟨M.n, M.node, M.hold, M.J, B2, (M.ss.set id.toNat 2).set id.toNat 1⟩ :: M.J.hp :: B2.hp :: [(k8, .cells #[I kind, I frm, I to, I id, I st, I a, I b] 35 (0, 0))] :: [(k177, .cells #[I a] 3 (0, 0))] :: R) H⟩
              · exact b2
              · rw [b3]; rfl
              · exact ((hfn.put (q := 2) (j := id) (by omega) (by omega)).put (q := 1) (j := id) (by omega) (by omega)).ext (fun x => by show (if x = id then 1 else _) = _; split <;> simp [*])
            · have g : takeA (SA.run M.hold es).left (SA.run M.hold es).h id a ≠ 0 := by simpa using g
              rw [if_neg g] at he
              subst he
              replace H : Sh.Holds w0 (B2.hp :: [(k135, .cells #[.string (B (SE.cant id).en.k), I id, .slice none 0 0] 139 (0, 0))] :: Rv.cs ⟨M.n, M.node, M.hold, M.J, B2, M.ss.set id.toNat 2⟩ :: M.J.hp :: [(k8, .cells #[I kind, I frm, I to, I id, I st, I a, I b] 35 (0, 0))] :: R) w := H
              refine ⟨?_, B2, M.ss.set id.toNat 2, none, 0, 0, [], b1, ?_, ?_, ?_, Sl.nil, rfl, Holds.re (a := [(k135, .cells #[.string (B (SE.cant id).en.k), I id, .slice none 0 0] 139 (0, 0))] :: Rv.cs ⟨M.n, M.node, M.hold, M.J, B2, M.ss.set id.toNat 2⟩ :: M.J.hp :: B2.hp :: [(k8, .cells #[I kind, I frm, I to, I id, I st, I a, I b] 35 (0, 0))] :: R) H⟩
              · show (if (SA.run M.hold es).s id = 1 then 2 else 3) = _
                rw [if_neg (by omega), if_neg g]
              · refine ⟨b2.fn.ext (fun x => ?_), b2.lo, b2.held, b2.sum⟩
                show (SA.run M.hold es).h x = _
                simp [g]
              · rw [b3, if_neg g]; rfl
              · exact hfn.put (q := 2) (j := id) (by omega) (by omega)
          · clear H
            rintro ⟨x, u⟩ w ⟨hx, B2, ss, p, n, c, Q, b1, b2, b3, b4, hsl, hid, H⟩
            simp only at hx
            subst hx
            replace H := H.drew
            have H3 := H.get (Rv.cs ⟨M.n, M.node, M.hold, M.J, B2, ss⟩)
            refine keepsA [Rv.cs ⟨M.n, M.node, M.hold, M.J, B2, ss⟩, [(k135, .cells #[.string (B e.en.k), I id, .slice p n c] 139 (0, 0))]] H3 ?_
            refine nn_h ?_
            refine ldS_h 0 (v := M.J.v) rfl rfl ?_; refine asPtr_h ?_
            refine ldSA ?_; refine asStr_h ?_
            refine ldSA ?_; refine asI_h ?_
            refine ldSA ?_; refine asSl_h ?_
            clear H3
            refine nw_h H (fun k225 w H => ?_)
            replace H : Sh.Holds w0 ([(k225, .cells #[.string (B e.en.k), I e.en.id, .slice p n c] 139 (0, 0))] :: [(k135, .cells #[.string (B e.en.k), I id, .slice p n c] 139 (0, 0))] :: Rv.cs ⟨M.n, M.node, M.hold, M.J, B2, ss⟩ :: M.J.hp :: B2.hp :: [(k8, .cells #[I kind, I frm, I to, I id, I st, I a, I b] 35 (0, 0))] :: (Q ++ R)) w := by rw [hid]; exact H
            have hsl2 : Sl (Sh.Holds w0 ([(k225, .cells #[.string (B e.en.k), I e.en.id, .slice p n c] 139 (0, 0))] :: [(k135, .cells #[.string (B e.en.k), I id, .slice p n c] 139 (0, 0))] :: Rv.cs ⟨M.n, M.node, M.hold, M.J, B2, ss⟩ :: B2.hp :: [(k8, .cells #[I kind, I frm, I to, I id, I st, I a, I b] 35 (0, 0))] :: (Q ++ R))) p n 1 (e.en.l.map I) := hsl.mono fun w H => H.tail.tail.tail.tail.tail
            have hme : mayN e.en = true := by
              subst he
              split
              · rename_i g
                have := take_range g
                exact may_did i1 i2 this.1 this.2.1
              · exact may_cant i1 i2
            refine kpA H ?_
            refine note1_c (J := M.J) (e := e.en) T H I0.j (by omega) hme inferInstance inferInstance inferInstance hsl2 (fun h => ?_) (fun _ _ J w hJ okJ H => ?_)
            · exfalso
              rcases h with h | h
              · rw [I0.dn] at h; cases h
              · omega
            · refine asBoo_h ?_
              refine kpA H ?_
              rw [hde]
              have ev : M.J.v = J.v := by rw [hJ]
              have e3 : Rv.cs ⟨M.n, M.node, M.hold, M.J, B2, ss⟩ = Rv.cs ⟨M.n, M.node, M.hold, J, B2, ss⟩ := by unfold Rv.cs; rw [ev]
              rw [e3] at H
              refine ⟨rfl, by simp only; split <;> omega, ⟨M.n, M.node, M.hold, J, B2, ss⟩, ⟨okJ, ?_, ?_, ?_, ?_, fun x hx => ?_, ?_, by rw [hJ]; exact I0.dn, by simp; have := I0.j.room; omega⟩, ⟨rfl, rfl, rfl, by rw [hJ]⟩, ?_⟩
              · show B2.Ok (SA.run M.hold (es ++ [e])).h
                rw [SA.run_add]; exact b2
              · show B2.left = (SA.run M.hold (es ++ [e])).left
                rw [SA.run_add]; exact b3
              · show Fn1 ss (SA.run M.hold (es ++ [e])).s
                rw [SA.run_add]; exact b4
              · rw [hJ]
                show M.J.lines ++ [LB e.en] = _
                rw [I0.lines]; simp
              · simp only [Option.toList_some, List.map_append, List.map_cons, List.map_nil] at hx
                rcases List.mem_append.1 hx with hx | hx
                · exact I0.may x hx
                · simp only [List.mem_singleton] at hx; subst hx; exact hme
              · rw [hJ]
                show (M.J.lines.length : Int) + 1 = _
                rw [hn]; simp
              · have H8 : Sh.Holds w0 ((Rv.cs ⟨M.n, M.node, M.hold, J, B2, ss⟩ :: J.hp :: B2.hp :: [(k8, .cells #[I kind, I frm, I to, I id, I st, I a, I b] 35 (0, 0))] :: (Q ++ R))) _ := Holds.re H
                have H9 : Sh.Holds w0 (Q ++ (Rv.cs ⟨M.n, M.node, M.hold, J, B2, ss⟩ :: J.hp :: B2.hp :: [(k8, .cells #[I kind, I frm, I to, I id, I st, I a, I b] 35 (0, 0))] :: R)) _ := Holds.mid (x := [Rv.cs ⟨M.n, M.node, M.hold, J, B2, ss⟩, J.hp, B2.hp, [(k8, .cells #[I kind, I frm, I to, I id, I st, I a, I b] 35 (0, 0))]]) (a := Q) (b := R) H8
                exact (shutV (M := ⟨M.n, M.node, M.hold, J, B2, ss⟩) (Holds.right H9)).bring 1 rfl
      · have hs0 : (SA.run M.hold es).s id ≠ 0 := by simpa using hs0
        have e : ansV M.node M.hold M.J.room es false kind frm to id a = (none, if (SA.run M.hold es).s id = 1 then 2 else 3) := by
          rw [han]
          unfold SA.doE
          split <;> first | rfl | rw [if_neg hs0]
        rw [e]
        exact ⟨rfl, by simp only; split <;> omega, M, by simpa using I0, .rfl' M, (shutV H).bring 1 rfl⟩
    · refine br_s (fun hk4 => ?_) (fun hk4 => ?_)
      · have hk4 : kind = 4 := by simpa using hk4
        have han := hans4 hk4
        refine br_s (fun g => ?a) (fun g0 => br_s (fun g => ?b) (fun g1 => ?c))
        case c =>
          have e : ansV M.node M.hold M.J.room es false kind frm to id a = (none, 5) := by
            rw [han]
            unfold SA.undoE
            rw [if_neg (by simp at g0 g1; omega)]
          rw [e]
          exact ⟨rfl, by simp, M, by simpa using I0, .rfl' M, (shutV H).bring 1 rfl⟩
        all_goals
          have hs : (SA.run M.hold es).s id = 0 ∨ (SA.run M.hold es).s id = 1 := by simp at g; simp [g]
          have hme : mayN (SE.undid id).en = true := may_undid i1 i2
          refine ⟨fun _ w => (es.length : Int) < M.J.room ∧ ∃ J : Rj, J = { M.J with r := J.r, lines := M.J.lines ++ [LB (SE.undid id).en], sure := M.J.lines.length + 1 } ∧ J.Ok ∧ Sh.Holds w0 (Rv.cs ⟨M.n, M.node, M.hold, J, M.B, M.ss⟩ :: J.hp :: M.B.hp :: [(k8, .cells #[I kind, I frm, I to, I id, I st, I a, I b] 35 (0, 0))] :: R) w, ?_, ?_⟩
          · replace H := H.drew
            refine keepsA [M.cs, [(k8, .cells #[I kind, I frm, I to, I id, I st, I a, I b] 35 (0, 0))]] H ?_
            refine nn_h ?_
            refine ldS_h 0 (v := M.J.v) rfl rfl ?_; refine asPtr_h ?_
            refine ldSA ?_; refine asI_h ?_
            refine entryR_c H (fun w H => ?_)
            refine asN_e [_, _, _] rfl rfl ?_
            refine asStr_e rfl ?_; refine asI_e rfl ?_; refine asSl_e rfl ?_
            refine kpA H ?_
            refine nw_h H (fun k264 w H => ?_)
            replace H : Sh.Holds w0 ([(k264, .cells #[.string (B (SE.undid id).en.k), I (SE.undid id).en.id, .slice none 0 0] 139 (0, 0))] :: M.cs :: M.J.hp :: M.B.hp :: [(k8, .cells #[I kind, I frm, I to, I id, I st, I a, I b] 35 (0, 0))] :: R) w := H
            refine kpA H ?_
            refine note1_c (J := M.J) (e := (SE.undid id).en) T H I0.j (by omega) hme inferInstance inferInstance inferInstance Sl.nil (fun h w H => ?_) (fun _ hr J w hJ okJ H => ?_)
            · refine asBoo_h ?_
              refine kpA H ?_
              refine br_t rfl ?_
              refine full ?_ (shutV (Holds.re H))
              rw [han]
              unfold SA.undoE
              rw [if_pos hs, if_neg]
              rcases h with h | h
              · rw [I0.dn] at h; cases h
              · omega
            · refine asBoo_h ?_
              refine kpA H ?_
              refine br_f rfl ?_
              have ev : M.J.v = J.v := by rw [hJ]
              have e3 : M.cs = Rv.cs ⟨M.n, M.node, M.hold, J, M.B, M.ss⟩ := by unfold Rv.cs; rw [ev]
              rw [e3] at H
              exact ⟨by omega, J, hJ, okJ, Holds.re H⟩
          · clear H H0
            rintro _ w ⟨hr, J, hJ, okJ, H⟩
            replace H := H.drew
            refine ldA H ?_; refine asI_h ?_
            refine nn_h ?_
            refine arAt1_h (q := 4) (by omega) (by omega) ?_
            refine cs_st (M := ⟨M.n, M.node, M.hold, J, M.B, M.ss⟩) H hfn.1 (by omega) (by omega) (fun w H => ?_)
            replace H : Sh.Holds w0 (Rv.cs ⟨M.n, M.node, M.hold, J, M.B, M.ss.set id.toNat 3⟩ :: J.hp :: M.B.hp :: [(k8, .cells #[I kind, I frm, I to, I id, I st, I a, I b] 35 (0, 0))] :: R) w := H
            replace H := H.drew
            refine nn_h ?_
            refine cs_ld (M := ⟨M.n, M.node, M.hold, J, M.B, M.ss.set id.toNat 3⟩) (i := 3) H (v := M.B.v) rfl ?_; refine asPtr_h ?_
            refine ldA H ?_; refine asI_h ?_
            refine back7_c (B := M.B) H hb (run_out _ _) (fun B2 c w b1 b2 b3 H => ?_)
            refine asI_h ?_
            have ecs : Rv.cs ⟨M.n, M.node, M.hold, J, M.B, M.ss.set id.toNat 3⟩ = Rv.cs ⟨M.n, M.node, M.hold, J, B2, M.ss.set id.toNat 3⟩ := by
              unfold Rv.cs; rw [Rh.v, Rh.v, b1]
            rw [ecs] at H
            rw [hle] at b3
            have e : ansV M.node M.hold M.J.room es false kind frm to id a = (some (.undid id), 5) := by
              rw [han]
              unfold SA.undoE
              rw [if_pos hs, if_pos hr]
            rw [e]
            have H8 : Sh.Holds w0 (Rv.cs ⟨M.n, M.node, M.hold, J, B2, M.ss.set id.toNat 3⟩ :: J.hp :: B2.hp :: [(k8, .cells #[I kind, I frm, I to, I id, I st, I a, I b] 35 (0, 0))] :: R) _ := Holds.re H
            refine ⟨rfl, by simp, ⟨M.n, M.node, M.hold, J, B2, M.ss.set id.toNat 3⟩, ⟨okJ, ?_, ?_, ?_, ?_, fun x hx => ?_, ?_, by rw [hJ]; exact I0.dn, by simp; have := I0.j.room; omega⟩, ⟨rfl, rfl, rfl, by rw [hJ]⟩, (shutV (M := ⟨M.n, M.node, M.hold, J, B2, M.ss.set id.toNat 3⟩) H8).bring 1 rfl⟩
            · show B2.Ok (SA.run M.hold (es ++ [SE.undid id])).h
              rw [SA.run_add]; exact b2
            · show B2.left = (SA.run M.hold (es ++ [SE.undid id])).left
              rw [SA.run_add]; exact b3
            · show Fn1 (M.ss.set id.toNat 3) (SA.run M.hold (es ++ [SE.undid id])).s
              rw [SA.run_add]; exact hfn.put (by omega) (by omega)
            · rw [hJ]
              show M.J.lines ++ [LB (SE.undid id).en] = _
              rw [I0.lines]; simp
            · simp only [Option.toList_some, List.map_append, List.map_cons, List.map_nil] at hx
              rcases List.mem_append.1 hx with hx | hx
              · exact I0.may x hx
              · simp only [List.mem_singleton] at hx; subst hx; exact hme
            · rw [hJ]
              show (M.J.lines.length : Int) + 1 = _
              rw [hn]; simp
      · exact no (.inr (fun g => by simp at hk hk4; omega)) (shutV (Holds.re H))
  · clear H0
    rintro ⟨x, u⟩ w ⟨e1, e2, M', IM, c, H⟩
    simp only at e1 e2
    replace H := H.drew
    have H3 : Sh.Holds w0 (M'.cs :: M'.J.hp :: M'.B.hp :: [(k8, .cells #[I kind, I frm, I to, I id, I st, I a, I b] 35 (0, 0))] :: R) _ := openV (H.get M'.hp)
    rw [← c.n]
    refine nn_h ?_
    refine cs_ld (i := 0) H3 (v := I M'.node) rfl ?_; refine asI_h ?_
    refine ldA H ?_; refine asI_h ?_
    refine ldA H ?_; refine asI_h ?_
    refine nw_h H (fun q w H => ?_)
    rw [c.node] at H
    rw [← e1] at H
    exact k1 (by rw [e1]; exact e2) q M' w IM c (Holds.re (b := [(q, ansO (ansV M.node M.hold M.J.room es false kind frm to id a).2 M.node id st)] :: [(k8, .cells #[I kind, I frm, I to, I id, I st, I a, I b] 35 (0, 0))] :: M'.hp :: R) H)
end
end Go.Proofs.YtcfmnoimehcfnaaGreatDoor
