/- Contracts of order: in, some, At, May. Conditions: none. -/
import Derived.Test.YtcfmnoimehcfnaaGreatDoorC2
import Derived.Test.YtcfmnoimehcfnaaGreatDoorN5
import Derived.Test.YtcfmnoimehcfnaaGreatDoorC1
set_option linter.unusedVariables false
set_option maxRecDepth 100000
namespace Go.Proofs.YtcfmnoimehcfnaaGreatDoor
open Go Go.Sh

def Sp.cells (p : Sp) : List Value := [I p.svc, I p.n]
theorem Sp.len (p : Sp) : p.cells.length = 2 := rfl
def sps (l : List Sp) : List Value := l.flatMap Sp.cells
def inB (n a b : Int) : Bool := decide (n ≥ a) && decide (n ≤ b)
def someB (n : Int) : Bool := decide (n > 0) && mayB n
theorem in_c {w0 w : World} {hs : List Hp} {K : KV} {n a b : Int} (H : Holds w0 hs w) (k : ∀ w', Holds w0 hs w' → K (.bool (inB n a b)) w') : gocall Tryz.prog 199 [I n, I a, I b] K w := by
  apply F199_go; unfold F199
  have := k w H
  unfold inB at this
  refine br_s (fun h => ?_) (fun h => ?_)
  · rwa [h, Bool.true_and] at this
  · rwa [h, Bool.false_and] at this
theorem some_c {w0 w : World} {hs : List Hp} {K : KV} {n : Int} (H : Holds w0 hs w) (k : ∀ w', Holds w0 hs w' → K (.bool (someB n)) w') : gocall Tryz.prog 200 [I n] K w := by
  apply F200_go; unfold F200
  refine br_s (fun h => ?_) (fun h => ?_)
  · refine May_c H (fun w H => ?_)
    refine asBoo_h ?_
    have := k w H
    unfold someB at this
    rwa [h, Bool.true_and] at this
  · have := k w H
    unfold someB at this
    rwa [h, Bool.false_and] at this
def isSvc (x : Int) : Sp → Bool := fun s => s.svc == x
theorem at1_c {w0 w : World} {hs : List Hp} {K : KV} {s : Sp} {q : Nat} {x : Int} (i : Nat) (H : Holds w0 hs w) (hi : hs[i]? = some [(q, .cells #[I x] 3 (0, 0))]) (k : ∀ w', Holds w0 hs w' → K (.bool (isSvc x s)) w') :
    gocall Tryz.prog 267 [.agg s.cells.toArray, .pointer (some ⟨q, 0, none⟩)] K w := by
  apply F267_go; unfold F267
  (repeat first|(with_reducible first|refine ldA (by assumption) ?_|refine Stp.imp ?_|refine stA (by assumption) rfl fun _ _=>?_|refine nw_h (by assumption) fun _ _ _=>?_|refine ldSA ?_|refine asT_e [] rfl rfl ?_|refine ldD (by assumption) ?_|refine nwD (by assumption) fun _ _ _=>?_|refine kpA (by first|assumption|(apply Holds.drew; assumption)) ?_)|((with_reducible first|apply asI_e|apply asStr_e|apply asSl_e|apply asBoo_e|apply asPtr_e); rfl))
  apply ld_h (i + 1); assumption; exact hi; rfl
  (repeat first|(with_reducible first|refine ldA (by assumption) ?_|refine Stp.imp ?_|refine stA (by assumption) rfl fun _ _=>?_|refine nw_h (by assumption) fun _ _ _=>?_|refine ldSA ?_|refine asT_e [] rfl rfl ?_|refine ldD (by assumption) ?_|refine nwD (by assumption) fun _ _ _=>?_|refine kpA (by first|assumption|(apply Holds.drew; assumption)) ?_)|((with_reducible first|apply asI_e|apply asStr_e|apply asSl_e|apply asBoo_e|apply asPtr_e); rfl))
  exact k _ (by (first|assumption|exact Holds.re (by first|assumption|(apply Holds.drew; assumption))))
theorem IndexSp_c {w0 w : World} {hs : List Hp} {K : KV} {l : List Sp} {f : Sp → Bool} {g : FuncId} {cap : Array Value} {p : Option Addr} {n c : Nat} (H : Holds w0 hs w) (hsl : Sl (Holds w0 hs) p n 2 (sps l)) (hl : l.length < 1000000)
    (hg : ∀ x ∈ l, ∀ {K : KV} {w}, Holds w0 hs w → (∀ w', Holds w0 hs w' → K (.bool (f x)) w') → gocall Tryz.prog g (.agg x.cells.toArray :: cap.toList) K w) (k : ∀ w', Holds w0 hs w' → K (I (idx f l)) w') :
    gocall Tryz.prog 266 [.slice p n c, .func (.func g) #[] cap] K w := by
  have hn : n = l.length := by have := hsl.len; rw [sps, flat_len Sp.len] at this; omega
  apply F266_go; unfold F266
  refine ⟨fun x w => Holds w0 hs w ∧ 0 ≤ x.1 ∧ x.1 ≤ l.length ∧ ∀ j : Nat, (j : Int) < x.1 → ∀ p, l[j]? = some p → f p = false, fun x _ => (l.length - x.1).toNat, ⟨H, by simp, by simp, ?_⟩, ?_⟩
  · intro j hj; simp at hj; omega
  · rintro ⟨x, y, u⟩ w ⟨H, h0, h1, hf⟩
    simp only at h0 h1 hf
    refine br_s (fun h => ?_) (fun h => ?_)
    · simp only [decide_eq_true_eq] at h
      refine slAt_s hsl h0 h (fun b o hp => ?_)
      have hx : x.toNat < l.length := by omega
      have hp' := List.getElem?_eq_getElem hx
      have hc := fun {j : Nat} (hj : j < 2) => flat_at (f := Sp.cells) Sp.len hp' hj
      refine ldS_s hsl hp H (v := I l[x.toNat].svc) (hc (j := 0) (by omega)) ?_
      refine asI_h ?_
      refine ldS_s (j := x.toNat * 2 + 1) hsl hp H (v := I l[x.toNat].n) (hc (j := 1) (by omega)) ?_
      refine asI_h ?_
      refine hg l[x.toNat] (List.getElem_mem hx) H (fun w1 H1 => ?_)
      refine asBoo_h ?_
      refine br_s (fun hb => ?_) (fun hb => ?_)
      · have e : idx f l = x := by
          have : l.findIdx? f = some x.toNat := by
            rw [List.findIdx?_eq_some_iff_getElem]
            refine ⟨hx, hb, fun j hj => ?_⟩
            have := hf j (by omega) l[j] (List.getElem?_eq_getElem (by omega))
            simp [this]
          simp [idx, this]; omega
        rw [← e]; exact k _ H1
      · have hw : IntKind.wrap .i64 (x + 1) = x + 1 := wrap64 (by omega) (by omega)
        simp only [hw]
        refine ⟨⟨H1, by omega, by omega, fun j hj p hp => ?_⟩, by omega⟩
        by_cases hj' : (j : Int) < x
        · exact hf j hj' p hp
        · have : j = x.toNat := by omega
          subst this
          rw [hp'] at hp; cases hp; exact hb
    · have e : idx f l = -1 := by
        have : l.findIdx? f = none := by
          rw [List.findIdx?_eq_none_iff]
          intro p hp
          obtain ⟨j, hj, rfl⟩ := List.getElem_of_mem hp
          simp at h
          exact hf j (by omega) _ (List.getElem?_eq_getElem hj)
        simp [idx, this]
      rw [← e]; exact k _ H
theorem at_c {w0 w : World} {hs : List Hp} {K : KV} {x0 x1 x2 x3 x4 x : Int} {l : List Sp} {p : Option Addr} {n c : Nat} (H : Holds w0 hs w) (hsl : Sl (Holds w0 hs) p n 2 (sps l)) (hl : l.length < 1000000)
    (k : ∀ w', Holds w0 hs w' → K (I (idx (isSvc x) l)) w') : gocall Tryz.prog 201 [.agg #[I x0, I x1, I x2, I x3, I x4, .slice p n c], I x] K w := by
  apply F201_go; unfold F201
  (repeat first|(with_reducible first|refine ldA (by assumption) ?_|refine Stp.imp ?_|refine stA (by assumption) rfl fun _ _=>?_|refine nw_h (by assumption) fun _ _ _=>?_|refine ldSA ?_|refine asT_e [] rfl rfl ?_|refine ldD (by assumption) ?_|refine nwD (by assumption) fun _ _ _=>?_|refine kpA (by first|assumption|(apply Holds.drew; assumption)) ?_)|((with_reducible first|apply asI_e|apply asStr_e|apply asSl_e|apply asBoo_e|apply asPtr_e); rfl))
  apply IndexSp_c (f := isSvc x)
  · assumption
  · exact hsl.mono fun w H => H.tail.tail
  · exact hl
  · intro s hs K w H k
    exact at1_c 0 H rfl k
  · intro w H
    (repeat first|(with_reducible first|refine ldA (by assumption) ?_|refine Stp.imp ?_|refine stA (by assumption) rfl fun _ _=>?_|refine nw_h (by assumption) fun _ _ _=>?_|refine ldSA ?_|refine asT_e [] rfl rfl ?_|refine ldD (by assumption) ?_|refine nwD (by assumption) fun _ _ _=>?_|refine kpA (by first|assumption|(apply Holds.drew; assumption)) ?_)|((with_reducible first|apply asI_e|apply asStr_e|apply asSl_e|apply asBoo_e|apply asPtr_e); rfl))
    exact k _ (by (first|assumption|exact Holds.re (by first|assumption|(apply Holds.drew; assumption))))
def stepB (l : List Sp) (i : Nat) : Bool := match l[i]? with | some s => inB s.svc 4 6 && (someB s.n && decide (idx (isSvc s.svc) l = i)) | none => true
def stepsB (l : List Sp) : Bool := (List.range l.length).all (stepB l)
def mayO (x0 x1 x2 x3 x4 : Int) (l : List Sp) : Bool := stepsB l && (decide (l.length ≤ 3) && (inB x0 1 999 && (inB x1 0 7 && (inB x3 0 7 && (someB x2 && someB x4)))))
theorem mayO_c {w0 w : World} {hs : List Hp} {K : KV} {x0 x1 x2 x3 x4 : Int} {l : List Sp} {p : Option Addr} {n c : Nat} (H : Holds w0 hs w) (hsl : Sl (Holds w0 hs) p n 2 (sps l)) (hl : l.length < 1000000)
    (k : ∀ w', Holds w0 hs w' → K (.bool (mayO x0 x1 x2 x3 x4 l)) w') : gocall Tryz.prog 100 [.agg #[I x0, I x1, I x2, I x3, I x4, .slice p n c]] K w := by
  have hn : n = l.length := by have := hsl.len; rw [sps, flat_len Sp.len] at this; omega
  have bad : mayO x0 x1 x2 x3 x4 l = false → ∀ w, Holds w0 hs w → K (.bool false) w := fun h w H => by have := k w H; rwa [h] at this
  apply F100_go; unfold F100
  (repeat first|(with_reducible first|refine ldA (by assumption) ?_|refine Stp.imp ?_|refine stA (by assumption) rfl fun _ _=>?_|refine nw_h (by assumption) fun _ _ _=>?_|refine ldSA ?_|refine asT_e [] rfl rfl ?_|refine ldD (by assumption) ?_|refine nwD (by assumption) fun _ _ _=>?_|refine kpA (by first|assumption|(apply Holds.drew; assumption)) ?_)|((with_reducible first|apply asI_e|apply asStr_e|apply asSl_e|apply asBoo_e|apply asPtr_e); rfl))
  rename_i k0 w1 H1
  refine ⟨fun y w => Holds w0 ([(k0, .cells #[I x0, I x1, I x2, I x3, I x4, .slice p n c] 24 (0, 0))] :: hs) w ∧ 0 ≤ y.1 ∧ y.1 ≤ l.length ∧ ∀ j : Nat, (j : Int) < y.1 → stepB l j = true, fun y _ => (l.length - y.1).toNat, ⟨H1, by simp, by simp, fun j hj => by simp at hj; omega⟩, ?_⟩
  rintro ⟨y, z, u⟩ w ⟨H, h0, h1, hf⟩
  simp only at h0 h1 hf
  have hsl' := hsl.mono fun w (H : Holds w0 ([(k0, .cells #[I x0, I x1, I x2, I x3, I x4, .slice p n c] 24 (0, 0))] :: hs) w) => H.tail
  refine br_s (fun h => ?_) (fun h => ?_)
  · simp only [decide_eq_true_eq] at h
    have hy : y.toNat < l.length := by omega
    have hp' := List.getElem?_eq_getElem hy
    have hc := fun {j : Nat} (hj : j < 2) => flat_at (f := Sp.cells) Sp.len hp' hj
    have badI : stepB l y.toNat = false → mayO x0 x1 x2 x3 x4 l = false := fun hb => by
      have : stepsB l = false := by
        unfold stepsB
        rw [List.all_eq_false]
        exact ⟨y.toNat, by simp [hy], by simp [hb]⟩
      simp only [mayO, this, Bool.false_and]
    refine slAt_s hsl h0 h (fun b o hp => ?_)
    refine ldS_s hsl' hp H (v := I l[y.toNat].svc) (hc (j := 0) (by omega)) ?_
    refine asI_h ?_
    refine ldS_s (j := y.toNat * 2 + 1) hsl' hp H (v := I l[y.toNat].n) (hc (j := 1) (by omega)) ?_
    (repeat first|(with_reducible first|refine ldA (by assumption) ?_|refine Stp.imp ?_|refine stA (by assumption) rfl fun _ _=>?_|refine nw_h (by assumption) fun _ _ _=>?_|refine ldSA ?_|refine asT_e [] rfl rfl ?_|refine ldD (by assumption) ?_|refine nwD (by assumption) fun _ _ _=>?_|refine kpA (by first|assumption|(apply Holds.drew; assumption)) ?_)|((with_reducible first|apply asI_e|apply asStr_e|apply asSl_e|apply asBoo_e|apply asPtr_e); rfl))
    refine in_c (by assumption) (fun w H => ?_)
    (repeat first|(with_reducible first|refine ldA (by assumption) ?_|refine Stp.imp ?_|refine stA (by assumption) rfl fun _ _=>?_|refine nw_h (by assumption) fun _ _ _=>?_|refine ldSA ?_|refine asT_e [] rfl rfl ?_|refine ldD (by assumption) ?_|refine nwD (by assumption) fun _ _ _=>?_|refine kpA (by first|assumption|(apply Holds.drew; assumption)) ?_)|((with_reducible first|apply asI_e|apply asStr_e|apply asSl_e|apply asBoo_e|apply asPtr_e); rfl))
    refine br_s (fun h2 => bad (badI (by simp at h2; simp [stepB, hp', h2])) _ (by (first|assumption|exact Holds.re (by first|assumption|(apply Holds.drew; assumption))))) (fun h2 => ?_)
    (repeat first|(with_reducible first|refine ldA (by assumption) ?_|refine Stp.imp ?_|refine stA (by assumption) rfl fun _ _=>?_|refine nw_h (by assumption) fun _ _ _=>?_|refine ldSA ?_|refine asT_e [] rfl rfl ?_|refine ldD (by assumption) ?_|refine nwD (by assumption) fun _ _ _=>?_|refine kpA (by first|assumption|(apply Holds.drew; assumption)) ?_)|((with_reducible first|apply asI_e|apply asStr_e|apply asSl_e|apply asBoo_e|apply asPtr_e); rfl))
    refine some_c H (fun w H => ?_)
    (repeat first|(with_reducible first|refine ldA (by assumption) ?_|refine Stp.imp ?_|refine stA (by assumption) rfl fun _ _=>?_|refine nw_h (by assumption) fun _ _ _=>?_|refine ldSA ?_|refine asT_e [] rfl rfl ?_|refine ldD (by assumption) ?_|refine nwD (by assumption) fun _ _ _=>?_|refine kpA (by first|assumption|(apply Holds.drew; assumption)) ?_)|((with_reducible first|apply asI_e|apply asStr_e|apply asSl_e|apply asBoo_e|apply asPtr_e); rfl))
    refine br_s (fun h3 => bad (badI (by simp at h3; simp [stepB, hp', h3])) _ (by (first|assumption|exact Holds.re (by first|assumption|(apply Holds.drew; assumption))))) (fun h3 => ?_)
    (repeat first|(with_reducible first|refine ldA (by assumption) ?_|refine Stp.imp ?_|refine stA (by assumption) rfl fun _ _=>?_|refine nw_h (by assumption) fun _ _ _=>?_|refine ldSA ?_|refine asT_e [] rfl rfl ?_|refine ldD (by assumption) ?_|refine nwD (by assumption) fun _ _ _=>?_|refine kpA (by first|assumption|(apply Holds.drew; assumption)) ?_)|((with_reducible first|apply asI_e|apply asStr_e|apply asSl_e|apply asBoo_e|apply asPtr_e); rfl))
    refine at_c (l := l) H (hsl.mono fun w H => H.tail.tail) hl (fun w H => ?_)
    (repeat first|(with_reducible first|refine ldA (by assumption) ?_|refine Stp.imp ?_|refine stA (by assumption) rfl fun _ _=>?_|refine nw_h (by assumption) fun _ _ _=>?_|refine ldSA ?_|refine asT_e [] rfl rfl ?_|refine ldD (by assumption) ?_|refine nwD (by assumption) fun _ _ _=>?_|refine kpA (by first|assumption|(apply Holds.drew; assumption)) ?_)|((with_reducible first|apply asI_e|apply asStr_e|apply asSl_e|apply asBoo_e|apply asPtr_e); rfl))
    refine br_s (fun h4 => bad (badI (by simp at h4; simp [stepB, hp']; intro _ _; omega)) _ (by (first|assumption|exact Holds.re (by first|assumption|(apply Holds.drew; assumption))))) (fun h4 => ?_)
    have hw : IntKind.wrap .i64 (y + 1) = y + 1 := wrap64 (by omega) (by omega)
    simp only [hw]
    refine ⟨⟨H.tail, by omega, by omega, fun j hj => ?_⟩, by omega⟩
    by_cases hj' : (j : Int) < y
    · exact hf j hj'
    · have : j = y.toNat := by omega
      subst this
      simp at h2 h3 h4
      simp only [stepB, hp', h2, h3, Bool.true_and]
      rw [h4]
      simp; omega
  · simp only [decide_eq_false_iff_not] at h
    have hst : stepsB l = true := by
      unfold stepsB
      rw [List.all_eq_true]
      intro j hj
      simp at hj
      exact hf j (by omega)
    have out : ∀ {b : Bool} {w : World}, mayO x0 x1 x2 x3 x4 l = b → Holds w0 hs w → K (.bool b) w := fun e H => by have := k _ H; rwa [e] at this
    (repeat first|(with_reducible first|refine ldA (by assumption) ?_|refine Stp.imp ?_|refine stA (by assumption) rfl fun _ _=>?_|refine nw_h (by assumption) fun _ _ _=>?_|refine ldSA ?_|refine asT_e [] rfl rfl ?_|refine ldD (by assumption) ?_|refine nwD (by assumption) fun _ _ _=>?_|refine kpA (by first|assumption|(apply Holds.drew; assumption)) ?_)|((with_reducible first|apply asI_e|apply asStr_e|apply asSl_e|apply asBoo_e|apply asPtr_e); rfl))
    refine br_s (fun h2 => ?_) (fun h2 => bad (by simp only [mayO, show decide (l.length ≤ 3) = false by simp at h2; simp; omega, Bool.false_and, Bool.and_false]) _ (by (first|assumption|exact Holds.re (by first|assumption|(apply Holds.drew; assumption)))))
    have e2 : decide (l.length ≤ 3) = true := by simp at h2; simp; omega
    (repeat first|(with_reducible first|refine ldA (by assumption) ?_|refine Stp.imp ?_|refine stA (by assumption) rfl fun _ _=>?_|refine nw_h (by assumption) fun _ _ _=>?_|refine ldSA ?_|refine asT_e [] rfl rfl ?_|refine ldD (by assumption) ?_|refine nwD (by assumption) fun _ _ _=>?_|refine kpA (by first|assumption|(apply Holds.drew; assumption)) ?_)|((with_reducible first|apply asI_e|apply asStr_e|apply asSl_e|apply asBoo_e|apply asPtr_e); rfl))
    refine in_c (by assumption) (fun w H => ?_)
    (repeat first|(with_reducible first|refine ldA (by assumption) ?_|refine Stp.imp ?_|refine stA (by assumption) rfl fun _ _=>?_|refine nw_h (by assumption) fun _ _ _=>?_|refine ldSA ?_|refine asT_e [] rfl rfl ?_|refine ldD (by assumption) ?_|refine nwD (by assumption) fun _ _ _=>?_|refine kpA (by first|assumption|(apply Holds.drew; assumption)) ?_)|((with_reducible first|apply asI_e|apply asStr_e|apply asSl_e|apply asBoo_e|apply asPtr_e); rfl))
    refine br_s (fun h3 => ?_) (fun h3 => bad (by simp only [mayO, h3, Bool.false_and, Bool.and_false]) _ (by (first|assumption|exact Holds.re (by first|assumption|(apply Holds.drew; assumption)))))
    (repeat first|(with_reducible first|refine ldA (by assumption) ?_|refine Stp.imp ?_|refine stA (by assumption) rfl fun _ _=>?_|refine nw_h (by assumption) fun _ _ _=>?_|refine ldSA ?_|refine asT_e [] rfl rfl ?_|refine ldD (by assumption) ?_|refine nwD (by assumption) fun _ _ _=>?_|refine kpA (by first|assumption|(apply Holds.drew; assumption)) ?_)|((with_reducible first|apply asI_e|apply asStr_e|apply asSl_e|apply asBoo_e|apply asPtr_e); rfl))
    refine in_c (by assumption) (fun w H => ?_)
    (repeat first|(with_reducible first|refine ldA (by assumption) ?_|refine Stp.imp ?_|refine stA (by assumption) rfl fun _ _=>?_|refine nw_h (by assumption) fun _ _ _=>?_|refine ldSA ?_|refine asT_e [] rfl rfl ?_|refine ldD (by assumption) ?_|refine nwD (by assumption) fun _ _ _=>?_|refine kpA (by first|assumption|(apply Holds.drew; assumption)) ?_)|((with_reducible first|apply asI_e|apply asStr_e|apply asSl_e|apply asBoo_e|apply asPtr_e); rfl))
    refine br_s (fun h4 => ?_) (fun h4 => bad (by simp only [mayO, h4, Bool.false_and, Bool.and_false]) _ (by (first|assumption|exact Holds.re (by first|assumption|(apply Holds.drew; assumption)))))
    (repeat first|(with_reducible first|refine ldA (by assumption) ?_|refine Stp.imp ?_|refine stA (by assumption) rfl fun _ _=>?_|refine nw_h (by assumption) fun _ _ _=>?_|refine ldSA ?_|refine asT_e [] rfl rfl ?_|refine ldD (by assumption) ?_|refine nwD (by assumption) fun _ _ _=>?_|refine kpA (by first|assumption|(apply Holds.drew; assumption)) ?_)|((with_reducible first|apply asI_e|apply asStr_e|apply asSl_e|apply asBoo_e|apply asPtr_e); rfl))
    refine in_c (by assumption) (fun w H => ?_)
    (repeat first|(with_reducible first|refine ldA (by assumption) ?_|refine Stp.imp ?_|refine stA (by assumption) rfl fun _ _=>?_|refine nw_h (by assumption) fun _ _ _=>?_|refine ldSA ?_|refine asT_e [] rfl rfl ?_|refine ldD (by assumption) ?_|refine nwD (by assumption) fun _ _ _=>?_|refine kpA (by first|assumption|(apply Holds.drew; assumption)) ?_)|((with_reducible first|apply asI_e|apply asStr_e|apply asSl_e|apply asBoo_e|apply asPtr_e); rfl))
    refine br_s (fun h5 => ?_) (fun h5 => bad (by simp only [mayO, h5, Bool.false_and, Bool.and_false]) _ (by (first|assumption|exact Holds.re (by first|assumption|(apply Holds.drew; assumption)))))
    (repeat first|(with_reducible first|refine ldA (by assumption) ?_|refine Stp.imp ?_|refine stA (by assumption) rfl fun _ _=>?_|refine nw_h (by assumption) fun _ _ _=>?_|refine ldSA ?_|refine asT_e [] rfl rfl ?_|refine ldD (by assumption) ?_|refine nwD (by assumption) fun _ _ _=>?_|refine kpA (by first|assumption|(apply Holds.drew; assumption)) ?_)|((with_reducible first|apply asI_e|apply asStr_e|apply asSl_e|apply asBoo_e|apply asPtr_e); rfl))
    refine some_c (by assumption) (fun w H => ?_)
    (repeat first|(with_reducible first|refine ldA (by assumption) ?_|refine Stp.imp ?_|refine stA (by assumption) rfl fun _ _=>?_|refine nw_h (by assumption) fun _ _ _=>?_|refine ldSA ?_|refine asT_e [] rfl rfl ?_|refine ldD (by assumption) ?_|refine nwD (by assumption) fun _ _ _=>?_|refine kpA (by first|assumption|(apply Holds.drew; assumption)) ?_)|((with_reducible first|apply asI_e|apply asStr_e|apply asSl_e|apply asBoo_e|apply asPtr_e); rfl))
    refine br_s (fun h6 => ?_) (fun h6 => bad (by simp only [mayO, h6, Bool.false_and, Bool.and_false]) _ (by (first|assumption|exact Holds.re (by first|assumption|(apply Holds.drew; assumption)))))
    (repeat first|(with_reducible first|refine ldA (by assumption) ?_|refine Stp.imp ?_|refine stA (by assumption) rfl fun _ _=>?_|refine nw_h (by assumption) fun _ _ _=>?_|refine ldSA ?_|refine asT_e [] rfl rfl ?_|refine ldD (by assumption) ?_|refine nwD (by assumption) fun _ _ _=>?_|refine kpA (by first|assumption|(apply Holds.drew; assumption)) ?_)|((with_reducible first|apply asI_e|apply asStr_e|apply asSl_e|apply asBoo_e|apply asPtr_e); rfl))
    refine some_c (by assumption) (fun w H => ?_)
    (repeat first|(with_reducible first|refine ldA (by assumption) ?_|refine Stp.imp ?_|refine stA (by assumption) rfl fun _ _=>?_|refine nw_h (by assumption) fun _ _ _=>?_|refine ldSA ?_|refine asT_e [] rfl rfl ?_|refine ldD (by assumption) ?_|refine nwD (by assumption) fun _ _ _=>?_|refine kpA (by first|assumption|(apply Holds.drew; assumption)) ?_)|((with_reducible first|apply asI_e|apply asStr_e|apply asSl_e|apply asBoo_e|apply asPtr_e); rfl))
    exact out (by simp only [mayO, hst, e2, h3, h4, h5, h6, Bool.true_and]) (by (first|assumption|exact Holds.re (by first|assumption|(apply Holds.drew; assumption))))
end Go.Proofs.YtcfmnoimehcfnaaGreatDoor
