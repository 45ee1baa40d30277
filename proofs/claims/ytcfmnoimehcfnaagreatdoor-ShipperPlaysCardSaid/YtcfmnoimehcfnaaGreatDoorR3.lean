/- Contracts of the reference's parcels and shipper. Conditions: none. -/
import Derived.Test.YtcfmnoimehcfnaaGreatDoorR2
import Derived.Test.YtcfmnoimehcfnaaGreatDoorN1s
import Derived.Test.YtcfmnoimehcfnaaGreatDoorFRs
set_option linter.unusedVariables false
set_option linter.unusedSimpArgs false
set_option maxRecDepth 100000
namespace Go.Proofs.YtcfmnoimehcfnaaGreatDoor
open Go Go.Sh

structure Rb where
  b : Nat
  r : Row
  l : List Pk
def Rb.hp (B : Rb) : Hp := [(B.b, .cells #[B.r.v] 157 (0, 0))] ++ B.r.hp 166
abbrev Rb.Ok (B : Rb) : Prop := B.r.Ok 3 (pks B.l)
abbrev Rb.v (B : Rb) : Value := .pointer (some ⟨B.b, 0, none⟩)
theorem Rb.n {B : Rb} (h : B.Ok) : B.r.n = B.l.length := by
  have := h.len
  rw [pks, flat_len Pk.len] at this
  omega
theorem elRb : ElTy Tryz.prog 155 166 3 24 := ⟨⟨_, _, rfl, rfl, rfl, rfl, rfl, rfl⟩, by decide⟩
def anyId (l : List Pk) (id : Int) : Bool := l.any fun p => p.id == id
section
variable {w0 w : World} {hs R : List Hp} {K : KV}
theorem openB {B : Rb} (H : Sh.Holds w0 (B.hp :: R) w) : Sh.Holds w0 ([(B.b, .cells #[B.r.v] 157 (0, 0))] :: B.r.hp 166 :: R) w := H.perm (by simp [Rb.hp])
theorem shutB {B : Rb} (H : Sh.Holds w0 ([(B.b, .cells #[B.r.v] 157 (0, 0))] :: B.r.hp 166 :: R) w) : Sh.Holds w0 (B.hp :: R) w := H.perm (by simp [Rb.hp])
set_option maxHeartbeats 1000000 in
theorem findR_c {B : Rb} {id : Int} (H : Sh.Holds w0 hs w) [D : Del hs B.hp R] (ok : B.Ok) (hl : B.l.length < 1000000)
    (k : ∀ (a b c : Int) w', Sh.Holds w0 (B.hp :: R) w' → K (.tuple #[.agg #[I a, I b, I c], .bool (anyId B.l id)]) w') : gocall Tryz.prog 130 [B.v, I id] K w := by
  have hn := B.n ok
  replace H := openB (H.get B.hp)
  apply F130_go; unfold F130
  refine nw_h H (fun k2 w H => ?_)
  replace H : Sh.Holds w0 ([(k2, .cells #[I 0, I 0, I 0] 166 (0, 0))] :: [(B.b, .cells #[B.r.v] 157 (0, 0))] :: B.r.hp 166 :: R) w := H
  refine nn_h ?_
  refine ldA H ?_; refine asSl_h ?_
  refine ⟨fun x w => Sh.Holds w0 ([(k2, .cells #[I 0, I 0, I 0] 166 (0, 0))] :: [(B.b, .cells #[B.r.v] 157 (0, 0))] :: B.r.hp 166 :: R) w ∧ 0 ≤ x.1 ∧ x.1 ≤ B.l.length ∧ anyId (B.l.take x.1.toNat) id = false, fun x _ => (B.l.length - x.1).toNat, ⟨H, by simp, by simp, by simp [anyId]⟩, ?_⟩
  clear H
  rintro ⟨y, b, u⟩ w ⟨H, h0, h1, hf⟩
  simp only at h0 h1 hf
  refine br_s (fun h => ?_) (fun h => ?_)
  · simp only [decide_eq_true_eq] at h
    refine slAt_h ok h0 h (fun g hg => ?_)
    have hy : y.toNat < B.l.length := by omega
    have hp := List.getElem?_eq_getElem hy
    have hc := fun {q : Nat} (hq : q < 3) => flat_at (f := Pk.cells) Pk.len hp hq
    refine ldR_h 2 H rfl ok hg (v := I B.l[y.toNat].id) (hc (q := 0) (by omega)) ?_; refine asI_h ?_
    refine ldR_h 2 H rfl ok hg (v := I B.l[y.toNat].item) (hc (q := 1) (by omega)) ?_; refine asI_h ?_
    refine ldR_h 2 H rfl ok hg (v := I B.l[y.toNat].qty) (hc (q := 2) (by omega)) ?_; refine asI_h ?_
    have ht : B.l.take (y + 1).toNat = B.l.take y.toNat ++ [B.l[y.toNat]] := by
      rw [show (y + 1).toNat = y.toNat + 1 by omega, List.take_add_one, hp]; rfl
    refine nw_h H (fun k9 w H => ?_)
    replace H : Sh.Holds w0 ([(k9, .cells #[I 0, I 0, I 0] 166 (0, 0))] :: [(k2, .cells #[I 0, I 0, I 0] 166 (0, 0))] :: [(B.b, .cells #[B.r.v] 157 (0, 0))] :: B.r.hp 166 :: R) w := H
    (with_reducible repeat first|refine ldA (by assumption) ?_|refine Stp.imp ?_|refine stA (by assumption) rfl fun _ _=>?_|refine nw_h (by assumption) fun _ _ _=>?_|refine ldSA ?_|refine asT_e [] rfl rfl ?_|refine ldD (by assumption) ?_|refine nwD (by assumption) fun _ _ _=>?_)
    rename_i H9
    refine br_s (fun hb => ?_) (fun hb => ?_)
    · simp only [beq_iff_eq] at hb
      have e : anyId B.l id = true := List.any_eq_true.2 ⟨_, List.getElem_mem hy, by simpa using hb⟩
      (with_reducible repeat first|refine ldA (by assumption) ?_|refine Stp.imp ?_|refine stA (by assumption) rfl fun _ _=>?_|refine nw_h (by assumption) fun _ _ _=>?_|refine ldSA ?_|refine asT_e [] rfl rfl ?_|refine ldD (by assumption) ?_|refine nwD (by assumption) fun _ _ _=>?_)
      rw [← e]
      exact k _ _ _ _ (shutB (Holds.re (by assumption)))
    · have hw : IntKind.wrap .i64 (y + 1) = y + 1 := wrap64 (by omega) (by omega)
      simp only [hw]
      refine ⟨⟨H9.tail, by omega, by omega, ?_⟩, by omega⟩
      simp only [beq_eq_false_iff_ne] at hb
      unfold anyId at hf ⊢
      rw [ht, List.any_append, hf]
      simpa using hb
  · simp only [decide_eq_false_iff_not] at h
    have ht : B.l.take y.toNat = B.l := List.take_of_length_le (by omega)
    rw [ht] at hf
    (with_reducible repeat first|refine ldA (by assumption) ?_|refine Stp.imp ?_|refine stA (by assumption) rfl fun _ _=>?_|refine nw_h (by assumption) fun _ _ _=>?_|refine ldSA ?_|refine asT_e [] rfl rfl ?_|refine ldD (by assumption) ?_|refine nwD (by assumption) fun _ _ _=>?_)
    rw [← hf]
    exact k _ _ _ _ (shutB (Holds.re (by assumption)))
instance okM_dec (id a b : Int) : Decidable (okM id a b) := by unfold okM; infer_instance
def shipR (l : List Pk) (id item qty : Int) : Int := if ¬ okM id item qty then 1 else if anyId l id = true then 8 else 0
set_option maxHeartbeats 1000000 in
theorem shipR_c {B : Rb} {id item qty : Int} (H : Sh.Holds w0 hs w) [D : Del hs B.hp R] (ok : B.Ok) (hl : B.l.length < 1000000)
    (k : ∀ (B' : Rb) w', B'.b = B.b → B'.Ok → B'.l = (if shipR B.l id item qty = 0 then B.l ++ [⟨id, item, qty⟩] else B.l) → Sh.Holds w0 (B'.hp :: R) w' → K (I (shipR B.l id item qty)) w') :
    gocall Tryz.prog 128 [B.v, I id, I item, I qty] K w := by
  replace H := H.get B.hp
  have stay : ∀ w', (n : Int) → shipR B.l id item qty = n → n ≠ 0 → Sh.Holds w0 (B.hp :: R) w' → K (I n) w' := fun w' n hn h0 H' => by
    have := k B w' rfl ok (by rw [if_neg (by omega)]) H'
    rwa [hn] at this
  have bad : ¬ okM id item qty → shipR B.l id item qty = 1 := fun h => by unfold shipR; rw [if_pos h]
  apply F128_go; unfold F128
  refine id1_c H (fun w H => ?_)
  refine asBoo_h ?_
  refine br_s (fun h => stay _ 1 (bad (fun g => ?_)) (by decide) H) (fun h1 => ?_)
  · obtain ⟨a, b, -⟩ := g; simp at h; omega
  refine place_c H (fun w H => ?_)
  refine asBoo_h ?_
  refine br_s (fun h => stay _ 1 (bad (fun g => ?_)) (by decide) H) (fun h2 => ?_)
  · obtain ⟨-, -, a, b, -⟩ := g; simp at h; omega
  refine above7_c H (fun w H => ?_)
  refine asBoo_h ?_
  refine br_s (fun h => stay _ 1 (bad (fun g => ?_)) (by decide) H) (fun h3 => ?_)
  · obtain ⟨-, -, -, -, a, b⟩ := g; simp at h; omega
  have hm : okM id item qty := by simp at h1 h2 h3; unfold okM; omega
  refine findR_c (B := B) H ok hl (fun a b c w H => ?_)
  refine asT_e [_, _] rfl rfl ?_
  refine asN_e [_, _, _] rfl rfl ?_
  refine asI_e rfl ?_; refine asI_e rfl ?_; refine asI_e rfl ?_; refine asBoo_e rfl ?_
  refine nw_h H (fun k9 w H => ?_)
  replace H : Sh.Holds w0 ([(k9, .cells #[I 0, I 0, I 0] 166 (0, 0))] :: B.hp :: R) w := H
  (with_reducible repeat first|refine ldA (by assumption) ?_|refine Stp.imp ?_|refine stA (by assumption) rfl fun _ _=>?_|refine nw_h (by assumption) fun _ _ _=>?_|refine ldSA ?_|refine asT_e [] rfl rfl ?_|refine ldD (by assumption) ?_|refine nwD (by assumption) fun _ _ _=>?_)
  rename_i H9
  refine br_s (fun h => stay _ 8 (by unfold shipR; rw [if_neg (fun h => h hm), if_pos h]) (by decide) H9.tail) (fun h4 => ?_)
  have e0 : shipR B.l id item qty = 0 := by unfold shipR; rw [if_neg (fun h => h hm), if_neg (by simp [h4])]
  replace H := openB H9.tail
  have hn := B.n ok
  refine nn_h ?_
  refine ldA H ?_; refine asSl_h ?_
  refine nw_h H (fun k51 w H => ?_)
  refine bapp1_h (news := Pk.cells ⟨id, item, qty⟩) elRb 0 (H := Holds.bring 2 H rfl) rfl ok rfl (by simp [Pk.cells, Value.oneCell']) (by omega) (by unfold maxLen; omega) (fun r' w1 hr1 hr2 H => ?_)
  replace H : Sh.Holds w0 (r'.hp 166 :: [(k51, .cells #[I id, I item, I qty] 166 (0, 0))] :: [(B.b, .cells #[B.r.v] 157 (0, 0))] :: R) w1 := H
  refine asSl_h ?_
  refine nn_h ?_
  refine stA H rfl fun w H => ?_
  rw [← e0]
  refine k ⟨B.b, r', B.l ++ [⟨id, item, qty⟩]⟩ w rfl ?_ (by rw [if_pos e0]) (shutB (Holds.re H))
  show r'.Ok 3 (pks (B.l ++ [⟨id, item, qty⟩]))
  rw [pks, List.flatMap_append]
  simpa [pks] using hr2
theorem wentR_c {B : Rb} {x : Int} (H : Sh.Holds w0 hs w) [D : Del hs B.hp R] (ok : B.Ok) (hl : B.l.length < 1000000) (hq : ∀ p ∈ B.l, okPk p)
    (k : ∀ w', Sh.Holds w0 (B.hp :: R) w' → K (I (wentB B.l x)) w') : gocall Tryz.prog 39 [B.v, I x] K w := by
  have hn := B.n ok
  replace H := openB (H.get B.hp)
  apply F39_go; unfold F39
  refine nn_h ?_
  refine ldA H ?_; refine asSl_h ?_
  refine ⟨fun y w => Sh.Holds w0 ([(B.b, .cells #[B.r.v] 157 (0, 0))] :: B.r.hp 166 :: R) w ∧ 0 ≤ y.1 ∧ y.1 ≤ B.l.length ∧ y.2.1 = wentB (B.l.take y.1.toNat) x, fun y _ => (B.l.length - y.1).toNat, ⟨H, by simp, by simp, by simp [wentB]⟩, ?_⟩
  clear H
  rintro ⟨y, z, u⟩ w ⟨H, h0, h1, hz⟩
  simp only at h0 h1 hz
  refine br_s (fun h => ?_) (fun h => ?_)
  · simp only [decide_eq_true_eq] at h
    refine slAt_h ok h0 h (fun g hg => ?_)
    have hy : y.toNat < B.l.length := by omega
    have hp := List.getElem?_eq_getElem hy
    have hc := fun {q : Nat} (hq : q < 3) => flat_at (f := Pk.cells) Pk.len hp hq
    refine ldR_h 1 H rfl ok hg (v := I B.l[y.toNat].id) (hc (q := 0) (by omega)) ?_; refine asI_h ?_
    refine ldR_h 1 H rfl ok hg (v := I B.l[y.toNat].item) (hc (q := 1) (by omega)) ?_; refine asI_h ?_
    refine ldR_h 1 H rfl ok hg (v := I B.l[y.toNat].qty) (hc (q := 2) (by omega)) ?_; refine asI_h ?_
    have ht : B.l.take (y + 1).toNat = B.l.take y.toNat ++ [B.l[y.toNat]] := by
      rw [show (y + 1).toNat = y.toNat + 1 by omega, List.take_add_one, hp]; rfl
    have hbd := wentB_bd x (l := B.l.take y.toNat) (fun p hp => hq p (List.mem_of_mem_take hp))
    have hbq := hq _ (List.getElem_mem hy)
    unfold okPk at hbq
    have hlt : (B.l.take y.toNat).length = y.toNat := by rw [List.length_take]; omega
    rw [hlt] at hbd
    have hw : IntKind.wrap .i64 (y + 1) = y + 1 := wrap64 (by omega) (by omega)
    refine nw_h H (fun k9 w H => ?_)
    replace H : Sh.Holds w0 ([(k9, .cells #[I 0, I 0, I 0] 166 (0, 0))] :: [(B.b, .cells #[B.r.v] 157 (0, 0))] :: B.r.hp 166 :: R) w := H
    (with_reducible repeat first|refine ldA (by assumption) ?_|refine Stp.imp ?_|refine stA (by assumption) rfl fun _ _=>?_|refine nw_h (by assumption) fun _ _ _=>?_|refine ldSA ?_|refine asT_e [] rfl rfl ?_|refine ldD (by assumption) ?_|refine nwD (by assumption) fun _ _ _=>?_)
    rename_i H9
    refine br_s (fun hb => ?_) (fun hb => ?_)
    · simp only [beq_iff_eq] at hb
      (with_reducible repeat first|refine ldA (by assumption) ?_|refine Stp.imp ?_|refine stA (by assumption) rfl fun _ _=>?_|refine nw_h (by assumption) fun _ _ _=>?_|refine ldSA ?_|refine asT_e [] rfl rfl ?_|refine ldD (by assumption) ?_|refine nwD (by assumption) fun _ _ _=>?_)
      have hw2 : IntKind.wrap .i64 (z + B.l[y.toNat].qty) = z + B.l[y.toNat].qty := wrap64 (by omega) (by omega)
      simp only [hw, hw2]
      refine ⟨⟨H9.tail, by omega, by omega, ?_⟩, by omega⟩
      rw [ht, wentB_app, wentB_cons, wentB_nil, if_pos hb, hz]; omega
    · simp only [beq_eq_false_iff_ne] at hb
      simp only [hw]
      refine ⟨⟨H9.tail, by omega, by omega, ?_⟩, by omega⟩
      rw [ht, wentB_app, wentB_cons, wentB_nil, if_neg hb, hz]; omega
  · simp only [decide_eq_false_iff_not] at h
    have ht : B.l.take y.toNat = B.l := List.take_of_length_le (by omega)
    rw [ht] at hz
    simp only [hz]
    exact k _ (shutB H)
theorem idsR_c {B : Rb} (H : Sh.Holds w0 hs w) [D : Del hs B.hp R] (ok : B.Ok) (hl : B.l.length < 1000000)
    (k : ∀ (r : Row) w', r.Ok 1 (B.l.map fun p => I p.id) → r.n = B.l.length → Sh.Holds w0 (r.hp 3 :: B.hp :: R) w' → K r.v w') : gocall Tryz.prog 37 [B.v] K w := by
  have hn := B.n ok
  replace H := openB (H.get B.hp)
  apply F37_go; unfold F37
  refine nn_h ?_
  refine ldA H ?_; refine asSl_h ?_
  refine ⟨fun y w => ∃ r : Row, Sh.Holds w0 (r.hp 3 :: [(B.b, .cells #[B.r.v] 157 (0, 0))] :: B.r.hp 166 :: R) w ∧ 0 ≤ y.1 ∧ y.1 ≤ B.l.length ∧ y.2.1 = (r.p, r.n, r.c) ∧ r.n = y.1.toNat ∧ r.Ok 1 ((B.l.take y.1.toNat).map fun p => I p.id), fun y _ => (B.l.length - y.1).toNat, ⟨Row.nil, H.nil, by simp, by simp, rfl, rfl, by simpa using Row.nil_ok 1⟩, ?_⟩
  clear H
  rintro ⟨y, ⟨z1, z2, z3⟩, u⟩ w ⟨r, H, h0, h1, hz, hrn, hr⟩
  cases hz
  simp only at h0 h1 hr hrn
  refine br_s (fun h => ?_) (fun h => ?_)
  · simp only [decide_eq_true_eq] at h
    refine slAt_h ok h0 h (fun g hg => ?_)
    have hy : y.toNat < B.l.length := by omega
    have hp := List.getElem?_eq_getElem hy
    have hc := fun {q : Nat} (hq : q < 3) => flat_at (f := Pk.cells) Pk.len hp hq
    refine ldR_h 2 H rfl ok hg (v := I B.l[y.toNat].id) (hc (q := 0) (by omega)) ?_; refine asI_h ?_
    refine ldR_h 2 H rfl ok hg (v := I B.l[y.toNat].item) (hc (q := 1) (by omega)) ?_; refine asI_h ?_
    refine ldR_h 2 H rfl ok hg (v := I B.l[y.toNat].qty) (hc (q := 2) (by omega)) ?_; refine asI_h ?_
    have ht : B.l.take (y + 1).toNat = B.l.take y.toNat ++ [B.l[y.toNat]] := by
      rw [show (y + 1).toNat = y.toNat + 1 by omega, List.take_add_one, hp]; rfl
    have hw : IntKind.wrap .i64 (y + 1) = y + 1 := wrap64 (by omega) (by omega)
    refine nw_h H (fun k9 w H => ?_)
    replace H : Sh.Holds w0 ([(k9, .cells #[I 0, I 0, I 0] 166 (0, 0))] :: r.hp 3 :: [(B.b, .cells #[B.r.v] 157 (0, 0))] :: B.r.hp 166 :: R) w := H
    (with_reducible repeat first|refine ldA (by assumption) ?_|refine Stp.imp ?_|refine stA (by assumption) rfl fun _ _=>?_|refine nw_h (by assumption) fun _ _ _=>?_|refine ldSA ?_|refine asT_e [] rfl rfl ?_|refine ldD (by assumption) ?_|refine nwD (by assumption) fun _ _ _=>?_)
    rename_i H9
    refine bapp1_h (news := [I B.l[y.toNat].id]) el32 0 (H := Holds.bring 2 H9 rfl) rfl hr rfl (by simp [Value.oneCell']) (by omega) (by unfold maxLen; omega) (fun r' w1 hr1 hr2 H => ?_)
    refine asSl_h ?_
    simp only [hw]
    refine ⟨⟨r', H.drop1.drop1, by omega, by omega, rfl, by omega, ?_⟩, by omega⟩
    rw [ht, List.map_append]
    exact hr2
  · simp only [decide_eq_false_iff_not] at h
    have ht : B.l.take y.toNat = B.l := List.take_of_length_le (by omega)
    rw [ht] at hr
    exact k r w hr (by omega) (H.perm (by simp [Rb.hp]))
end
end Go.Proofs.YtcfmnoimehcfnaaGreatDoor
