/- Contracts of parcel and amount. Conditions: none. -/
import Derived.Test.YtcfmnoimehcfnaaGreatDoorC2
set_option linter.unusedVariables false
set_option maxRecDepth 100000
namespace Go.Proofs.YtcfmnoimehcfnaaGreatDoor
open Go Go.Sh

def mayB (x : Int) : Bool := decide (0 ≤ x) && decide (x ≤ 1000000000)
theorem May_c {w0 w : World} {hs : List Hp} {K : KV} {x : Int} (H : Holds w0 hs w) (k : ∀ w', Holds w0 hs w' → K (.bool (mayB x)) w') : gocall Tryz.prog 265 [I x] K w := by
  apply F265_go; unfold F265
  refine br_s (fun h => ?_) (fun h => ?_)
  · have e : mayB x = decide (x ≤ 1000000000) := by simp only [mayB]; simp at h; simp [h]
    rw [← e]; exact k _ H
  · have e : mayB x = false := by simp only [mayB]; simp at h; simp; omega
    rw [← e]; exact k _ H

structure Pk where
  id : Int
  item : Int
  qty : Int
def Pk.cells (p : Pk) : List Value := [I p.id, I p.item, I p.qty]
theorem Pk.len (p : Pk) : p.cells.length = 3 := rfl
def pks (l : List Pk) : List Value := l.flatMap Pk.cells
structure Book where
  b : Nat
  r : Row
  l : List Pk
def Book.hp (B : Book) : Hp := [(B.b, .cells #[B.r.v] 172 (0, 0))] ++ B.r.hp 174
structure Book.Ok (B : Book) : Prop where
  row : B.r.Ok 3 (pks B.l)
theorem Book.n {B : Book} (h : B.Ok) : B.r.n = B.l.length := by
  have := h.row.len
  rw [pks, flat_len Pk.len] at this
  omega
abbrev Book.v (B : Book) : Value := .pointer (some ⟨B.b, 0, none⟩)

theorem find1_c {w0 w : World} {hs : List Hp} {K : KV} {p : Pk} {q : Nat} {x : Int} (i : Nat) (H : Holds w0 hs w) (hi : hs[i]? = some [(q, .cells #[I x] 3 (0, 0))]) (k : ∀ w', Holds w0 hs w' → K (.bool (p.id == x)) w') :
    gocall Tryz.prog 307 [.agg p.cells.toArray, .pointer (some ⟨q, 0, none⟩)] K w := by
  apply F307_go; unfold F307
  (repeat first|(with_reducible first|refine ldA (by assumption) ?_|refine Stp.imp ?_|refine stA (by assumption) rfl fun _ _=>?_|refine nw_h (by assumption) fun _ _ _=>?_|refine ldSA ?_|refine asT_e [] rfl rfl ?_|refine ldD (by assumption) ?_|refine nwD (by assumption) fun _ _ _=>?_|refine kpA (by first|assumption|(apply Holds.drew; assumption)) ?_)|((with_reducible first|apply asI_e|apply asStr_e|apply asSl_e|apply asBoo_e|apply asPtr_e); rfl))
  apply ld_h (i + 1); assumption; exact hi; rfl
  (repeat first|(with_reducible first|refine ldA (by assumption) ?_|refine Stp.imp ?_|refine stA (by assumption) rfl fun _ _=>?_|refine nw_h (by assumption) fun _ _ _=>?_|refine ldSA ?_|refine asT_e [] rfl rfl ?_|refine ldD (by assumption) ?_|refine nwD (by assumption) fun _ _ _=>?_|refine kpA (by first|assumption|(apply Holds.drew; assumption)) ?_)|((with_reducible first|apply asI_e|apply asStr_e|apply asSl_e|apply asBoo_e|apply asPtr_e); rfl))
  exact k _ (by (first|assumption|exact Holds.re (by first|assumption|(apply Holds.drew; assumption))))
theorem IndexPk_c {w0 w : World} {hs : List Hp} {K : KV} {r : Row} {l : List Pk} {f : Pk → Bool} {g : FuncId} {cap : Array Value} (i : Nat) (H : Holds w0 hs w) (hi : hs[i]? = some (r.hp 174)) (ok : r.Ok 3 (pks l)) (hl : l.length < 1000000)
    (hg : ∀ p ∈ l, ∀ {K : KV} {w}, Holds w0 hs w → (∀ w', Holds w0 hs w' → K (.bool (f p)) w') → gocall Tryz.prog g (.agg p.cells.toArray :: cap.toList) K w) (k : ∀ w', Holds w0 hs w' → K (I (idx f l)) w') :
    gocall Tryz.prog 306 [r.v, .func (.func g) #[] cap] K w := by
  have hn : r.n = l.length := by have := ok.len; rw [pks, flat_len Pk.len] at this; omega
  apply F306_go; unfold F306
  refine ⟨fun x w => Holds w0 hs w ∧ 0 ≤ x.1 ∧ x.1 ≤ l.length ∧ ∀ j : Nat, (j : Int) < x.1 → ∀ p, l[j]? = some p → f p = false, fun x _ => (l.length - x.1).toNat, ⟨H, by simp, by simp, ?_⟩, ?_⟩
  · intro j hj; simp at hj; omega
  · rintro ⟨x, y, u⟩ w ⟨H, h0, h1, hf⟩
    simp only at h0 h1 hf
    refine br_s (fun h => ?_) (fun h => ?_)
    · simp only [decide_eq_true_eq] at h
      refine slAt_h ok h0 h (fun b hb => ?_)
      have hx : x.toNat < l.length := by omega
      have hp := List.getElem?_eq_getElem hx
      have hc := fun {j : Nat} (hj : j < 3) => flat_at (f := Pk.cells) Pk.len hp hj
      refine ldR_h i H hi ok hb (v := I l[x.toNat].id) (hc (j := 0) (by omega)) ?_
      refine asI_h ?_
      refine ldR_h i H hi ok hb (v := I l[x.toNat].item) (hc (j := 1) (by omega)) ?_
      refine asI_h ?_
      refine ldR_h i H hi ok hb (v := I l[x.toNat].qty) (hc (j := 2) (by omega)) ?_
      refine asI_h ?_
      refine hg l[x.toNat] (List.getElem_mem hx) H (fun w1 H1 => ?_)
      refine asBoo_h ?_
      refine br_s (fun hb => ?_) (fun hb => ?_)
      · have e : idx f l = x := by
          have : l.findIdx? f = some x.toNat := by
            rw [List.findIdx?_eq_some_iff_getElem]
            refine ⟨hx, hb, fun j hj => ?_⟩
            have := hf j (by omega) l[j] (List.getElem?_eq_getElem (by omega))
            simp [this]
          simp [idx, this]; omega
        rw [← e]; exact k _ H1
      · have hw : IntKind.wrap .i64 (x + 1) = x + 1 := wrap64 (by omega) (by omega)
        simp only [hw]
        refine ⟨⟨H1, by omega, by omega, fun j hj p hp' => ?_⟩, by omega⟩
        by_cases hj' : (j : Int) < x
        · exact hf j hj' p hp'
        · have : j = x.toNat := by omega
          subst this
          rw [hp] at hp'; cases hp'; exact hb
    · have e : idx f l = -1 := by
        have : l.findIdx? f = none := by
          rw [List.findIdx?_eq_none_iff]
          intro p hp
          obtain ⟨j, hj, rfl⟩ := List.getElem_of_mem hp
          simp at h
          exact hf j (by omega) _ (List.getElem?_eq_getElem hj)
        simp [idx, this]
      rw [← e]; exact k _ H

abbrev hasId (x : Int) : Pk → Bool := fun p => p.id == x
theorem find_c {w0 w : World} {hs : List Hp} {K : KV} {B : Book} {x : Int} (i : Nat) (H : Holds w0 hs w) (hi : hs[i]? = some B.hp) (ok : B.Ok) (hl : B.l.length < 1000000)
    (k : ∀ w', Holds w0 hs w' → K (I (idx (hasId x) B.l)) w') : gocall Tryz.prog 281 [B.v, I x] K w := by
  apply F281_go; unfold F281
  replace H := H.open2 i hi
  (repeat first|(with_reducible first|refine ldA (by assumption) ?_|refine Stp.imp ?_|refine stA (by assumption) rfl fun _ _=>?_|refine nw_h (by assumption) fun _ _ _=>?_|refine ldSA ?_|refine asT_e [] rfl rfl ?_|refine ldD (by assumption) ?_|refine nwD (by assumption) fun _ _ _=>?_|refine kpA (by first|assumption|(apply Holds.drew; assumption)) ?_)|((with_reducible first|apply asI_e|apply asStr_e|apply asSl_e|apply asBoo_e|apply asPtr_e); rfl))
  apply IndexPk_c (f := hasId x) 2 (by (first | assumption | (apply Holds.drew; assumption))) rfl ok.row hl
  · intro p hp K w H k
    exact find1_c 0 H rfl k
  · intro w H
    (repeat first|(with_reducible first|refine ldA (by assumption) ?_|refine Stp.imp ?_|refine stA (by assumption) rfl fun _ _=>?_|refine nw_h (by assumption) fun _ _ _=>?_|refine ldSA ?_|refine asT_e [] rfl rfl ?_|refine ldD (by assumption) ?_|refine nwD (by assumption) fun _ _ _=>?_|refine kpA (by first|assumption|(apply Holds.drew; assumption)) ?_)|((with_reducible first|apply asI_e|apply asStr_e|apply asSl_e|apply asBoo_e|apply asPtr_e); rfl))
    refine k _ (Holds.shut2 i ?_ hi)
    (first|assumption|exact Holds.re (by first|assumption|(apply Holds.drew; assumption)))
theorem idx_lt {α : Type} {f : α → Bool} {l : List α} (h : 0 ≤ idx f l) : ∃ (j : Nat) (hj : j < l.length), idx f l = j ∧ f l[j] = true ∧ l.findIdx? f = some j := by
  unfold idx at h ⊢
  cases e : l.findIdx? f with
  | none => simp [e] at h
  | some j =>
    obtain ⟨hj, h1, h2⟩ := List.findIdx?_eq_some_iff_getElem.1 e
    exact ⟨j, hj, rfl, h1, rfl⟩
theorem Has_c {w0 w : World} {hs : List Hp} {K : KV} {B : Book} {x : Int} (i : Nat) (H : Holds w0 hs w) (hi : hs[i]? = some B.hp) (ok : B.Ok) (hl : B.l.length < 1000000)
    (k : ∀ (a b : Int) w', Holds w0 hs w' → K (.tuple #[I a, I b, .bool (decide (0 ≤ idx (hasId x) B.l))]) w') : gocall Tryz.prog 223 [B.v, I x] K w := by
  apply F223_go; unfold F223
  refine br_f rfl ?_
  apply find_c i H hi ok hl
  intro w H
  (repeat first|(with_reducible first|refine ldA (by assumption) ?_|refine Stp.imp ?_|refine stA (by assumption) rfl fun _ _=>?_|refine nw_h (by assumption) fun _ _ _=>?_|refine ldSA ?_|refine asT_e [] rfl rfl ?_|refine ldD (by assumption) ?_|refine nwD (by assumption) fun _ _ _=>?_|refine kpA (by first|assumption|(apply Holds.drew; assumption)) ?_)|((with_reducible first|apply asI_e|apply asStr_e|apply asSl_e|apply asBoo_e|apply asPtr_e); rfl))
  refine br_s (fun h => ?_) (fun h => ?_)
  · have e : decide (0 ≤ idx (hasId x) B.l) = false := by simp at h; simp; omega
    have := k 0 0 w H
    rwa [e] at this
  · simp at h
    have e : decide (0 ≤ idx (hasId x) B.l) = true := by simp; omega
    obtain ⟨j, hj, e1, -, -⟩ := idx_lt h
    have hn := Book.n ok
    replace H := H.open2 i hi
    replace H := H.drew
    have hp := List.getElem?_eq_getElem hj
    have hc := fun {q : Nat} (hq : q < 3) => flat_at (f := Pk.cells) Pk.len hp hq
    (repeat first|(with_reducible first|refine ldA (by assumption) ?_|refine Stp.imp ?_|refine stA (by assumption) rfl fun _ _=>?_|refine nw_h (by assumption) fun _ _ _=>?_|refine ldSA ?_|refine asT_e [] rfl rfl ?_|refine ldD (by assumption) ?_|refine nwD (by assumption) fun _ _ _=>?_|refine kpA (by first|assumption|(apply Holds.drew; assumption)) ?_)|((with_reducible first|apply asI_e|apply asStr_e|apply asSl_e|apply asBoo_e|apply asPtr_e); rfl))
    refine slAt_h ok.row h (by omega) (fun g hg => ?_)
    rw [show (idx (hasId x) B.l).toNat = j by omega]
    refine ldR_h 1 H rfl ok.row hg (v := I B.l[j].item) (hc (q := 1) (by omega)) ?_
    (repeat first|(with_reducible first|refine ldA (by assumption) ?_|refine Stp.imp ?_|refine stA (by assumption) rfl fun _ _=>?_|refine nw_h (by assumption) fun _ _ _=>?_|refine ldSA ?_|refine asT_e [] rfl rfl ?_|refine ldD (by assumption) ?_|refine nwD (by assumption) fun _ _ _=>?_|refine kpA (by first|assumption|(apply Holds.drew; assumption)) ?_)|((with_reducible first|apply asI_e|apply asStr_e|apply asSl_e|apply asBoo_e|apply asPtr_e); rfl))
    refine slAt_h ok.row h (by omega) (fun g hg => ?_)
    rw [show (idx (hasId x) B.l).toNat = j by omega]
    refine ldR_h 1 H rfl ok.row hg (v := I B.l[j].qty) (hc (q := 2) (by omega)) ?_
    (repeat first|(with_reducible first|refine ldA (by assumption) ?_|refine Stp.imp ?_|refine stA (by assumption) rfl fun _ _=>?_|refine nw_h (by assumption) fun _ _ _=>?_|refine ldSA ?_|refine asT_e [] rfl rfl ?_|refine ldD (by assumption) ?_|refine nwD (by assumption) fun _ _ _=>?_|refine kpA (by first|assumption|(apply Holds.drew; assumption)) ?_)|((with_reducible first|apply asI_e|apply asStr_e|apply asSl_e|apply asBoo_e|apply asPtr_e); rfl))
    rw [← e]
    exact k _ _ _ (H.shut2 i hi)
theorem el61 : ElTy Tryz.prog 170 174 3 24 := ⟨⟨_, _, rfl, rfl, rfl, rfl, rfl, rfl⟩, by decide⟩
def shipB (l : List Pk) (id item qty : Int) : Int := if id < 1 ∨ 999 < id ∨ item < 0 ∨ 8 ≤ item ∨ qty < 1 ∨ 1000000000 < qty then 1 else if 0 ≤ idx (hasId id) l then 8 else 0
theorem Ship_c {w0 w : World} {hs : List Hp} {K : KV} {B : Book} {id item qty : Int} (i : Nat) (H : Holds w0 hs w) (hi : hs[i]? = some B.hp) (ok : B.Ok) (hl : B.l.length < 1000000)
    (k : ∀ (B' : Book) w', B'.b = B.b → B'.Ok → B'.l = (if shipB B.l id item qty = 0 then B.l ++ [⟨id, item, qty⟩] else B.l) → Holds w0 (hs.set i B'.hp) w' → K (I (shipB B.l id item qty)) w') :
    gocall Tryz.prog 219 [B.v, I id, I item, I qty] K w := by
  have stay : ∀ w', (n : Int) → shipB B.l id item qty = n → n ≠ 0 → Holds w0 hs w' → K (I n) w' := fun w' n hn h0 H' => by
    have := k B w' rfl ok (by rw [if_neg (by omega)]) (by rwa [set_same i hi])
    rwa [hn] at this
  apply F219_go; unfold F219
  refine br_f rfl ?_
  refine br_s (fun h => stay _ 1 (by simp at h; simp [shipB, h]) (by decide) H) (fun h1 => ?_)
  refine br_s (fun h => stay _ 1 (by simp at h; simp [shipB, h]) (by decide) H) (fun h2 => ?_)
  refine br_s (fun h => stay _ 1 (by simp at h; simp [shipB, h]) (by decide) H) (fun h3 => ?_)
  refine br_s (fun h => stay _ 1 (by simp at h; simp [shipB, h]) (by decide) H) (fun h4 => ?_)
  refine br_s (fun h => stay _ 1 (by simp at h; simp [shipB, h]) (by decide) H) (fun h5 => ?_)
  apply May_c H
  intro w H
  refine asBoo_h ?_
  refine br_s (fun h => stay _ 1 (by simp [mayB] at h; unfold shipB; rw [if_pos]; omega) (by decide) H) (fun h6 => ?_)
  simp [mayB] at h1 h2 h3 h4 h5 h6
  apply find_c i H hi ok hl
  intro w H
  refine asI_h ?_
  have hg : ¬ (id < 1 ∨ 999 < id ∨ item < 0 ∨ 8 ≤ item ∨ qty < 1 ∨ 1000000000 < qty) := by omega
  refine br_s (fun h => stay _ 8 (by simp at h; unfold shipB; rw [if_neg hg, if_pos h]) (by decide) H) (fun h7 => ?_)
  simp at h7
  have e0 : shipB B.l id item qty = 0 := by unfold shipB; rw [if_neg hg, if_neg (by omega)]
  replace H := H.open2 i hi
  (repeat first|(with_reducible first|refine ldA (by assumption) ?_|refine Stp.imp ?_|refine stA (by assumption) rfl fun _ _=>?_|refine nw_h (by assumption) fun _ _ _=>?_|refine ldSA ?_|refine asT_e [] rfl rfl ?_|refine ldD (by assumption) ?_|refine nwD (by assumption) fun _ _ _=>?_|refine kpA (by first|assumption|(apply Holds.drew; assumption)) ?_)|((with_reducible first|apply asI_e|apply asStr_e|apply asSl_e|apply asBoo_e|apply asPtr_e); rfl))
  have hn := Book.n ok
  refine bapp1_h (news := Pk.cells ⟨id, item, qty⟩) el61 0 (H := Holds.bring 2 (by assumption) rfl) rfl ok.row rfl (by simp [Pk.cells, Value.oneCell']) (by omega) (by unfold maxLen; omega) (fun r' w1 hr1 hr2 H1 => ?_)
  (repeat first | ((with_reducible apply asI_e); rfl) | ((with_reducible apply asBoo_e); rfl) | ((with_reducible apply asStr_e); rfl) | ((with_reducible apply asSl_e); rfl) | ((with_reducible apply asPtr_e); rfl) | ((with_reducible apply asMap_e); rfl) | ((with_reducible apply nn_e); rfl) | ((with_reducible apply ld_h 0); (first | assumption | (apply Holds.drew; assumption)); rfl; rfl) | ((with_reducible apply ld_h 1); (first | assumption | (apply Holds.drew; assumption)); rfl; rfl) | ((with_reducible apply ld_h 2); (first | assumption | (apply Holds.drew; assumption)); rfl; rfl) | ((with_reducible apply ld_h 3); (first | assumption | (apply Holds.drew; assumption)); rfl; rfl) | ((with_reducible apply ld_h 4); (first | assumption | (apply Holds.drew; assumption)); rfl; rfl) | ((with_reducible apply ld_h 5); (first | assumption | (apply Holds.drew; assumption)); rfl; rfl) | ((with_reducible apply ld_h 6); (first | assumption | (apply Holds.drew; assumption)); rfl; rfl) | ((with_reducible apply ldS_h 0); rfl; rfl) | ((with_reducible apply ldS_h 1); rfl; rfl) | ((with_reducible apply ldS_h 2); rfl; rfl) | ((with_reducible apply ldS_h 3); rfl; rfl) | ((with_reducible apply ldS_h 4); rfl; rfl) | ((with_reducible apply ldS_h 5); rfl; rfl) | ((with_reducible apply ldS_h 6); rfl; rfl) | ((with_reducible apply nw_h); (first | assumption | (apply Holds.drew; assumption)); intro _ _ _) | ((with_reducible apply st_h 0); (first | assumption | (apply Holds.drew; assumption)); rfl; rfl; rfl; intro _ _) | ((with_reducible apply st_h 1); (first | assumption | (apply Holds.drew; assumption)); rfl; rfl; rfl; intro _ _) | ((with_reducible apply st_h 2); (first | assumption | (apply Holds.drew; assumption)); rfl; rfl; rfl; intro _ _) | ((with_reducible apply st_h 3); (first | assumption | (apply Holds.drew; assumption)); rfl; rfl; rfl; intro _ _) | ((with_reducible apply st_h 4); (first | assumption | (apply Holds.drew; assumption)); rfl; rfl; rfl; intro _ _) | ((with_reducible apply st_h 5); (first | assumption | (apply Holds.drew; assumption)); rfl; rfl; rfl; intro _ _) | ((with_reducible apply st_h 6); (first | assumption | (apply Holds.drew; assumption)); rfl; rfl; rfl; intro _ _) | ((with_reducible apply kp_s); (first | assumption | (apply Holds.drew; assumption)); (focus ((repeat first | exact Sub.refl _ | (refine Sub.cons 0 rfl ?_) | (refine Sub.cons 1 rfl ?_) | (refine Sub.cons 2 rfl ?_) | (refine Sub.cons 3 rfl ?_) | (refine Sub.cons 4 rfl ?_) | (refine Sub.cons 5 rfl ?_) | (refine Sub.cons 6 rfl ?_) | (refine Sub.cons 7 rfl ?_) | refine Sub.skip ?_ | exact Sub.nil _); done))))
  rw [← e0]
  refine k ⟨B.b, r', B.l ++ [⟨id, item, qty⟩]⟩ _ rfl ⟨?_⟩ (by rw [if_pos e0]) (Holds.close2 i ?_ hi)
  · show r'.Ok 3 (pks (B.l ++ [⟨id, item, qty⟩]))
    rw [pks, List.flatMap_append]
    simpa [pks] using hr2
  · (first | assumption | (apply Holds.drew; assumption) | (refine Sub.holds ?_ (by assumption); (repeat first | exact Sub.refl _ | (refine Sub.cons 0 rfl ?_) | (refine Sub.cons 1 rfl ?_) | (refine Sub.cons 2 rfl ?_) | (refine Sub.cons 3 rfl ?_) | (refine Sub.cons 4 rfl ?_) | (refine Sub.cons 5 rfl ?_) | (refine Sub.cons 6 rfl ?_) | (refine Sub.cons 7 rfl ?_) | refine Sub.skip ?_ | exact Sub.nil _)) | (refine Sub.holds ?_ (Holds.drew (by assumption)); (repeat first | exact Sub.refl _ | (refine Sub.cons 0 rfl ?_) | (refine Sub.cons 1 rfl ?_) | (refine Sub.cons 2 rfl ?_) | (refine Sub.cons 3 rfl ?_) | (refine Sub.cons 4 rfl ?_) | (refine Sub.cons 5 rfl ?_) | (refine Sub.cons 6 rfl ?_) | (refine Sub.cons 7 rfl ?_) | refine Sub.skip ?_ | exact Sub.nil _)))
theorem newBook_c {w0 w : World} {hs : List Hp} {K : KV} (H : Holds w0 hs w) (k : ∀ (B : Book) w', B.Ok → B.l = [] → Holds w0 (B.hp :: hs) w' → K B.v w') : gocall Tryz.prog 119 [] K w := by
  apply F119_go; unfold F119
  (repeat first|(with_reducible first|refine ldA (by assumption) ?_|refine Stp.imp ?_|refine stA (by assumption) rfl fun _ _=>?_|refine nw_h (by assumption) fun _ _ _=>?_|refine ldSA ?_|refine asT_e [] rfl rfl ?_|refine ldD (by assumption) ?_|refine nwD (by assumption) fun _ _ _=>?_|refine kpA (by first|assumption|(apply Holds.drew; assumption)) ?_)|((with_reducible first|apply asI_e|apply asStr_e|apply asSl_e|apply asBoo_e|apply asPtr_e); rfl))
  refine k ⟨_, Row.nil, []⟩ _ ⟨Row.nil_ok 3⟩ rfl ?_
  exact Holds.join (c := [_]) (Holds.bring 1 (Holds.nil (by assumption)) rfl)
def wentB (l : List Pk) (x : Int) : Int := (l.map fun p => if p.item = x then p.qty else 0).sum
theorem wentB_nil (x : Int) : wentB [] x = 0 := rfl
theorem wentB_cons (p : Pk) (l : List Pk) (x : Int) : wentB (p :: l) x = (if p.item = x then p.qty else 0) + wentB l x := by simp [wentB]
theorem wentB_app (l m : List Pk) (x : Int) : wentB (l ++ m) x = wentB l x + wentB m x := by simp [wentB]
def okPk (p : Pk) : Prop := 0 ≤ p.qty ∧ p.qty ≤ 1000000000
theorem wentB_bd {l : List Pk} (x : Int) (h : ∀ p ∈ l, okPk p) : 0 ≤ wentB l x ∧ wentB l x ≤ 1000000000 * l.length := by
  induction l with
  | nil => simp [wentB]
  | cons p l ih =>
    have h1 := h p (by simp)
    have h2 := ih (fun q hq => h q (by simp [hq]))
    rw [wentB_cons]
    unfold okPk at h1
    simp only [List.length_cons, Int.natCast_add]
    split <;> omega
theorem Went_c {w0 w : World} {hs : List Hp} {K : KV} {B : Book} {x : Int} (i : Nat) (H : Holds w0 hs w) (hi : hs[i]? = some B.hp) (ok : B.Ok) (hl : B.l.length < 1000000) (hq : ∀ p ∈ B.l, okPk p)
    (k : ∀ w', Holds w0 hs w' → K (I (wentB B.l x)) w') : gocall Tryz.prog 38 [B.v, I x] K w := by
  have hn := Book.n ok
  apply F38_go; unfold F38
  refine br_f rfl ?_
  replace H := H.open2 i hi
  (repeat first|(with_reducible first|refine ldA (by assumption) ?_|refine Stp.imp ?_|refine stA (by assumption) rfl fun _ _=>?_|refine nw_h (by assumption) fun _ _ _=>?_|refine ldSA ?_|refine asT_e [] rfl rfl ?_|refine ldD (by assumption) ?_|refine nwD (by assumption) fun _ _ _=>?_|refine kpA (by first|assumption|(apply Holds.drew; assumption)) ?_)|((with_reducible first|apply asI_e|apply asStr_e|apply asSl_e|apply asBoo_e|apply asPtr_e); rfl))
  refine ⟨fun y w => Holds w0 ([(B.b, .cells #[B.r.v] 172 (0, 0))] :: B.r.hp 174 :: hs.eraseIdx i) w ∧ 0 ≤ y.1 ∧ y.1 ≤ B.l.length ∧ y.2.1 = wentB (B.l.take y.1.toNat) x, fun y _ => (B.l.length - y.1).toNat, ⟨H, by simp, by simp, by simp [wentB]⟩, ?_⟩
  rintro ⟨y, z, u⟩ w ⟨H, h0, h1, hz⟩
  simp only at h0 h1 hz
  refine br_s (fun h => ?_) (fun h => ?_)
  · simp only [decide_eq_true_eq] at h
    refine slAt_h ok.row h0 h (fun g hg => ?_)
    have hy : y.toNat < B.l.length := by omega
    have hp := List.getElem?_eq_getElem hy
    have hc := fun {q : Nat} (hq : q < 3) => flat_at (f := Pk.cells) Pk.len hp hq
    refine ldR_h 1 H rfl ok.row hg (v := I B.l[y.toNat].id) (hc (q := 0) (by omega)) ?_
    refine asI_h ?_
    refine ldR_h 1 H rfl ok.row hg (v := I B.l[y.toNat].item) (hc (q := 1) (by omega)) ?_
    refine asI_h ?_
    refine ldR_h 1 H rfl ok.row hg (v := I B.l[y.toNat].qty) (hc (q := 2) (by omega)) ?_
    (repeat first|(with_reducible first|refine ldA (by assumption) ?_|refine Stp.imp ?_|refine stA (by assumption) rfl fun _ _=>?_|refine nw_h (by assumption) fun _ _ _=>?_|refine ldSA ?_|refine asT_e [] rfl rfl ?_|refine ldD (by assumption) ?_|refine nwD (by assumption) fun _ _ _=>?_|refine kpA (by first|assumption|(apply Holds.drew; assumption)) ?_)|((with_reducible first|apply asI_e|apply asStr_e|apply asSl_e|apply asBoo_e|apply asPtr_e); rfl))
    have ht : B.l.take (y + 1).toNat = B.l.take y.toNat ++ [B.l[y.toNat]] := by
      rw [show (y + 1).toNat = y.toNat + 1 by omega, List.take_add_one, hp]; rfl
    have hbd := wentB_bd x (l := B.l.take y.toNat) (fun p hp => hq p (List.mem_of_mem_take hp))
    have hbq := hq _ (List.getElem_mem hy)
    unfold okPk at hbq
    have hlt : (B.l.take y.toNat).length = y.toNat := by rw [List.length_take]; omega
    rw [hlt] at hbd
    have hw : IntKind.wrap .i64 (y + 1) = y + 1 := wrap64 (by omega) (by omega)
    refine br_s (fun hb => ?_) (fun hb => ?_)
    · simp only [beq_iff_eq] at hb
      (repeat first|(with_reducible first|refine ldA (by assumption) ?_|refine Stp.imp ?_|refine stA (by assumption) rfl fun _ _=>?_|refine nw_h (by assumption) fun _ _ _=>?_|refine ldSA ?_|refine asT_e [] rfl rfl ?_|refine ldD (by assumption) ?_|refine nwD (by assumption) fun _ _ _=>?_|refine kpA (by first|assumption|(apply Holds.drew; assumption)) ?_)|((with_reducible first|apply asI_e|apply asStr_e|apply asSl_e|apply asBoo_e|apply asPtr_e); rfl))
      dsimp only
      rw [hw, wrap64 (by omega) (by omega)]
      refine ⟨⟨?_, by omega, by omega, ?_⟩, by omega⟩
      · (first|assumption|exact Holds.re (by first|assumption|(apply Holds.drew; assumption)))
      · rw [ht, wentB_app, wentB_cons, wentB_nil, if_pos hb, hz]; omega
    · simp only [beq_eq_false_iff_ne] at hb
      rw [hw]
      refine ⟨⟨?_, by simp only; omega, by simp only; omega, ?_⟩, by simp only; omega⟩
      · (first|assumption|exact Holds.re (by first|assumption|(apply Holds.drew; assumption)))
      · simp only
        rw [ht, wentB_app, wentB_cons, wentB_nil, if_neg hb, hz]; omega
  · simp at h
    have ht : B.l.take y.toNat = B.l := List.take_of_length_le (by omega)
    rw [ht] at hz
    simp only [hz]
    exact k _ (H.shut2 i hi)
theorem Ids_c {w0 w : World} {hs : List Hp} {K : KV} {B : Book} (i : Nat) (H : Holds w0 hs w) (hi : hs[i]? = some B.hp) (ok : B.Ok) (hl : B.l.length < 1000000)
    (k : ∀ (r : Row) w', r.Ok 1 (B.l.map fun p => I p.id) → r.n = B.l.length → Holds w0 (r.hp 3 :: hs) w' → K r.v w') : gocall Tryz.prog 36 [B.v] K w := by
  have hn := Book.n ok
  apply F36_go; unfold F36
  refine br_f rfl ?_
  replace H := H.open2 i hi
  (repeat first|(with_reducible first|refine ldA (by assumption) ?_|refine Stp.imp ?_|refine stA (by assumption) rfl fun _ _=>?_|refine nw_h (by assumption) fun _ _ _=>?_|refine ldSA ?_|refine asT_e [] rfl rfl ?_|refine ldD (by assumption) ?_|refine nwD (by assumption) fun _ _ _=>?_|refine kpA (by first|assumption|(apply Holds.drew; assumption)) ?_)|((with_reducible first|apply asI_e|apply asStr_e|apply asSl_e|apply asBoo_e|apply asPtr_e); rfl))
  refine ⟨fun y w => ∃ r : Row, Holds w0 (r.hp 3 :: [(B.b, .cells #[B.r.v] 172 (0, 0))] :: B.r.hp 174 :: hs.eraseIdx i) w ∧ 0 ≤ y.1 ∧ y.1 ≤ B.l.length ∧ y.2.1 = (r.p, r.n, r.c) ∧ r.n = y.1.toNat ∧ r.Ok 1 ((B.l.take y.1.toNat).map fun p => I p.id), fun y _ => (B.l.length - y.1).toNat, ⟨Row.nil, H.nil, by simp, by simp, rfl, rfl, by simpa using Row.nil_ok 1⟩, ?_⟩
  rintro ⟨y, ⟨z1, z2, z3⟩, u⟩ w ⟨r, H, h0, h1, hz, hrn, hr⟩
  cases hz
  simp only at h0 h1 hr hrn
  refine br_s (fun h => ?_) (fun h => ?_)
  · simp only [decide_eq_true_eq] at h
    refine slAt_h ok.row h0 h (fun g hg => ?_)
    have hy : y.toNat < B.l.length := by omega
    have hp := List.getElem?_eq_getElem hy
    have hc := fun {q : Nat} (hq : q < 3) => flat_at (f := Pk.cells) Pk.len hp hq
    refine ldR_h 2 H rfl ok.row hg (v := I B.l[y.toNat].id) (hc (q := 0) (by omega)) ?_
    refine asI_h ?_
    refine ldR_h 2 H rfl ok.row hg (v := I B.l[y.toNat].item) (hc (q := 1) (by omega)) ?_
    refine asI_h ?_
    refine ldR_h 2 H rfl ok.row hg (v := I B.l[y.toNat].qty) (hc (q := 2) (by omega)) ?_
    (repeat first|(with_reducible first|refine ldA (by assumption) ?_|refine Stp.imp ?_|refine stA (by assumption) rfl fun _ _=>?_|refine nw_h (by assumption) fun _ _ _=>?_|refine ldSA ?_|refine asT_e [] rfl rfl ?_|refine ldD (by assumption) ?_|refine nwD (by assumption) fun _ _ _=>?_|refine kpA (by first|assumption|(apply Holds.drew; assumption)) ?_)|((with_reducible first|apply asI_e|apply asStr_e|apply asSl_e|apply asBoo_e|apply asPtr_e); rfl))
    have ht : B.l.take (y + 1).toNat = B.l.take y.toNat ++ [B.l[y.toNat]] := by
      rw [show (y + 1).toNat = y.toNat + 1 by omega, List.take_add_one, hp]; rfl
    have hw : IntKind.wrap .i64 (y + 1) = y + 1 := wrap64 (by omega) (by omega)
    refine bapp1_h (news := [I B.l[y.toNat].id]) el32 0 (H := Holds.bring 2 (by assumption) rfl) rfl hr rfl (by simp [Value.oneCell']) (by omega) (by unfold maxLen; omega) (fun r' w1 hr1 hr2 H1 => ?_)
    (repeat first|(with_reducible first|refine ldA (by assumption) ?_|refine Stp.imp ?_|refine stA (by assumption) rfl fun _ _=>?_|refine nw_h (by assumption) fun _ _ _=>?_|refine ldSA ?_|refine asT_e [] rfl rfl ?_|refine ldD (by assumption) ?_|refine nwD (by assumption) fun _ _ _=>?_|refine kpA (by first|assumption|(apply Holds.drew; assumption)) ?_)|((with_reducible first|apply asI_e|apply asStr_e|apply asSl_e|apply asBoo_e|apply asPtr_e); rfl))
    rw [hw]
    refine ⟨⟨r', ?_, by simp only; omega, by simp only; omega, rfl, by simp only; omega, ?_⟩, by simp only; omega⟩
    · (first | assumption | (apply Holds.drew; assumption) | (refine Sub.holds ?_ (by assumption); (repeat first | exact Sub.refl _ | (refine Sub.cons 0 rfl ?_) | (refine Sub.cons 1 rfl ?_) | (refine Sub.cons 2 rfl ?_) | (refine Sub.cons 3 rfl ?_) | (refine Sub.cons 4 rfl ?_) | (refine Sub.cons 5 rfl ?_) | (refine Sub.cons 6 rfl ?_) | (refine Sub.cons 7 rfl ?_) | refine Sub.skip ?_ | exact Sub.nil _)) | (refine Sub.holds ?_ (Holds.drew (by assumption)); (repeat first | exact Sub.refl _ | (refine Sub.cons 0 rfl ?_) | (refine Sub.cons 1 rfl ?_) | (refine Sub.cons 2 rfl ?_) | (refine Sub.cons 3 rfl ?_) | (refine Sub.cons 4 rfl ?_) | (refine Sub.cons 5 rfl ?_) | (refine Sub.cons 6 rfl ?_) | (refine Sub.cons 7 rfl ?_) | refine Sub.skip ?_ | exact Sub.nil _)))
    · simp only
      rw [ht, List.map_append]
      exact hr2
  · simp at h
    have ht : B.l.take y.toNat = B.l := List.take_of_length_le (by omega)
    rw [ht] at hr
    refine k r w hr (by omega) ?_
    exact Holds.shut2 (i + 1) (hs := r.hp 3 :: hs) ((H.bring 2 rfl).bring 2 rfl) hi
end Go.Proofs.YtcfmnoimehcfnaaGreatDoor
