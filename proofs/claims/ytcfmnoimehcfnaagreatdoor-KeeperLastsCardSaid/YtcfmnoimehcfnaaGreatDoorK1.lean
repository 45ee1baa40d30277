/- Contracts of package stock, as far as its first item goes. Conditions: none. -/
import Derived.Test.YtcfmnoimehcfnaaGreatDoorFK
import Derived.Test.YtcfmnoimehcfnaaGreatDoorRg
import Derived.Test.YtcfmnoimehcfnaaGreatDoorGa
import Derived.Test.YtcfmnoimehcfnaaGreatDoorC6
set_option linter.unusedVariables false
set_option maxRecDepth 100000
namespace Go.Proofs.YtcfmnoimehcfnaaGreatDoor
open Go Go.Sh

/-- a book of one item: what is free, who has reserved how much -/
structure GB where
  f : Int
  R : List (Int × Int)
def qOf : List (Int × Int) → Int → Option Int
  | [], _ => none
  | p :: r, x => if x = p.1 then some p.2 else qOf r x
def tot (R : List (Int × Int)) : Int := (R.map (·.2)).sum
def outR (R : List (Int × Int)) (x : Int) : List (Int × Int) := R.filter fun p => decide (p.1 ≠ x)
structure GB.Ok (B : GB) : Prop where
  f0 : 0 ≤ B.f
  all : B.f + tot B.R ≤ 1000000000
  keys : (B.R.map (·.1)).Nodup
  q1 : ∀ p ∈ B.R, 1 ≤ p.2
def GB.hand (B : GB) : Int := B.f + tot B.R
def GB.resv (B : GB) (id q : Int) : Int := if id < 1 ∨ 999 < id ∨ q < 1 ∨ 1000000000 < q then 1 else if (qOf B.R id).isSome = true then 8 else if q > B.f then 9 else 0
def GB.take (B : GB) (id q : Int) : GB := if B.resv id q = 0 then ⟨B.f - q, (id, q) :: B.R⟩ else B
def GB.gives (B : GB) (id : Int) : GB := ⟨B.f, outR B.R id⟩
def GB.lets (B : GB) (id : Int) : GB := ⟨B.f + (qOf B.R id).getD 0, outR B.R id⟩
theorem tot_nonneg : ∀ {R : List (Int × Int)}, (∀ p ∈ R, 1 ≤ p.2) → 0 ≤ tot R
  | [], _ => by simp [tot]
  | p :: r, h => by
    have h1 := tot_nonneg (R := r) (fun q hq => h q (List.mem_cons_of_mem _ hq))
    have h2 := h p (List.mem_cons_self ..)
    simp only [tot, List.map_cons, List.sum_cons] at h1 ⊢; omega
theorem out_none : ∀ {R : List (Int × Int)} {x : Int}, (∀ p ∈ R, p.1 ≠ x) → outR R x = R := fun h => List.filter_eq_self.2 (fun p hp => by simpa using h p hp)
theorem qOf_none : ∀ {R : List (Int × Int)} {x : Int}, qOf R x = none → ∀ p ∈ R, p.1 ≠ x
  | [], _, _ => by simp
  | p :: r, x, h => by
    simp only [qOf] at h
    split at h
    · cases h
    · rename_i hx
      intro q hq
      rcases List.mem_cons.1 hq with rfl | hq
      · exact fun e => hx e.symm
      · exact qOf_none h q hq
theorem tot_out : ∀ {R : List (Int × Int)} {x : Int}, (R.map (·.1)).Nodup → tot (outR R x) = tot R - (qOf R x).getD 0
  | [], _, _ => by simp [tot, outR, qOf]
  | p :: r, x, h => by
    simp only [List.map_cons, List.nodup_cons] at h
    by_cases hx : x = p.1
    · have h1 : ∀ q ∈ r, q.1 ≠ x := fun q hq e => h.1 (by rw [← hx, ← e]; exact List.mem_map_of_mem hq)
      have h2 : outR (p :: r) x = r := by
        have : outR (p :: r) x = outR r x := by simp [outR, hx]
        rw [this, out_none h1]
      rw [h2]
      simp only [qOf, if_pos hx, Option.getD_some, tot, List.map_cons, List.sum_cons]; omega
    · have h2 : outR (p :: r) x = p :: outR r x := by simp [outR, Ne.symm hx]
      have h3 := tot_out (x := x) h.2
      rw [h2]
      simp only [qOf, if_neg hx, tot, List.map_cons, List.sum_cons] at h3 ⊢; omega
theorem qOf_out : ∀ {R : List (Int × Int)} {x y : Int}, qOf (outR R x) y = if y = x then none else qOf R y
  | [], x, y => by simp [outR, qOf]
  | p :: r, x, y => by
    have ih := qOf_out (R := r) (x := x) (y := y)
    by_cases hx : p.1 = x
    · have h2 : outR (p :: r) x = outR r x := by simp [outR, hx]
      rw [h2, ih]
      by_cases hy : y = x
      · rw [if_pos hy, if_pos hy]
      · rw [if_neg hy, if_neg hy, qOf, if_neg (by omega)]
    · have h2 : outR (p :: r) x = p :: outR r x := by simp [outR, hx]
      rw [h2, qOf, ih]
      by_cases hy : y = x
      · rw [if_pos hy, if_neg (by omega), if_pos hy]
      · rw [if_neg hy, qOf]
        simp only [if_neg hy]
theorem q_pos {R : List (Int × Int)} {x q : Int} (h : ∀ p ∈ R, 1 ≤ p.2) (e : qOf R x = some q) : 1 ≤ q ∧ q ≤ tot R := by
  induction R with
  | nil => simp [qOf] at e
  | cons p r ih =>
    have h1 := tot_nonneg (R := r) (fun q hq => h q (List.mem_cons_of_mem _ hq))
    have h2 := h p (List.mem_cons_self ..)
    simp only [qOf] at e
    simp only [tot, List.map_cons, List.sum_cons] at h1 ⊢
    split at e
    · cases e; omega
    · have := ih (fun q hq => h q (List.mem_cons_of_mem _ hq)) e
      simp only [tot] at this; omega
theorem GB.Ok.out {B : GB} (h : B.Ok) (x : Int) : ((outR B.R x).map (·.1)).Nodup ∧ ∀ p ∈ outR B.R x, 1 ≤ p.2 :=
  ⟨h.keys.sublist (List.Sublist.map _ List.filter_sublist), fun p hp => h.q1 p (List.mem_filter.1 hp).1⟩
theorem GB.Ok.gives {B : GB} (h : B.Ok) (x : Int) : (B.gives x).Ok := by
  obtain ⟨a, b⟩ := h.out x
  refine ⟨h.f0, ?_, a, b⟩
  simp only [GB.gives, tot_out h.keys]
  have := h.all
  cases e : qOf B.R x with
  | none => simp; omega
  | some q => have := q_pos h.q1 e; simp; omega
theorem GB.Ok.lets {B : GB} (h : B.Ok) (x : Int) : (B.lets x).Ok := by
  obtain ⟨a, b⟩ := h.out x
  have h0 := h.f0
  have h1 := h.all
  refine ⟨?_, ?_, a, b⟩
  · simp only [GB.lets]
    cases e : qOf B.R x with
    | none => simp; omega
    | some q => have := q_pos h.q1 e; simp; omega
  · simp only [GB.lets, tot_out h.keys]; omega
theorem GB.Ok.take {B : GB} (h : B.Ok) (x q : Int) : (B.take x q).Ok := by
  unfold GB.take
  split
  · rename_i e
    unfold GB.resv at e
    split at e
    · simp at e
    · split at e
      · simp at e
      · rename_i hn
        split at e
        · simp at e
        · have h0 := h.f0
          have h1 := h.all
          refine ⟨by simp only; omega, ?_, ?_, ?_⟩
          · simp only [tot, List.map_cons, List.sum_cons] at h1 ⊢; omega
          · simp only [List.map_cons, List.nodup_cons]
            refine ⟨fun hm => ?_, h.keys⟩
            obtain ⟨p, hp, e2⟩ := List.mem_map.1 hm
            have : qOf B.R x = none := by
              cases hq : qOf B.R x with
              | none => rfl
              | some v => rw [hq] at hn; simp at hn
            exact qOf_none this p hp e2
          · intro p hp
            rcases List.mem_cons.1 hp with rfl | hp
            · simp only; omega
            · exact h.q1 p hp
  · exact h
theorem TSR : MapTyG Tryz.prog 199 (.agg #[I 0, I 0]) := ⟨⟨_, _, rfl, rfl, fun _ => rfl⟩⟩
/-- the book in the store -/
structure Gd where
  b : Nat
  m : Nat
  l : List TriG
  c : Nat
  B : GB
def Gd.cells (G : Gd) : List Value := [I G.B.hand, I 0, I 0, I 0, I 0, I 0, I 0, I 0, I G.B.f, I 0, I 0, I 0, I 0, I 0, I 0, I 0, .map (some G.m)]
def bkH (b m : Nat) (h f : Int) : Hp := [(b, .cells #[I h, I 0, I 0, I 0, I 0, I 0, I 0, I 0, I f, I 0, I 0, I 0, I 0, I 0, I 0, I 0, .map (some m)] 201 (0, 0))]
def Gd.hp (G : Gd) : Hp := bkH G.b G.m G.B.hand G.B.f ++ [(G.m, mapG G.l G.c)]
structure Gd.Ok (G : Gd) : Prop where
  g : GOk G.l G.c
  at_ : ∀ x, getG G.l x = (qOf G.B.R x).map fun q => .agg #[I 0, I q]
  ok : G.B.Ok
abbrev Gd.v (G : Gd) : Value := .pointer (some ⟨G.b, 0, none⟩)
theorem openG {w0 w : World} {R : List Hp} {G : Gd} (H : Sh.Holds w0 (G.hp :: R) w) : Sh.Holds w0 ([(G.b, .cells #[I G.B.hand, I 0, I 0, I 0, I 0, I 0, I 0, I 0, I G.B.f, I 0, I 0, I 0, I 0, I 0, I 0, I 0, .map (some G.m)] 201 (0, 0))] :: [(G.m, mapG G.l G.c)] :: R) w := H.perm (by simp [Gd.hp, bkH])
theorem shutG {w0 w : World} {R : List Hp} {G : Gd} (H : Sh.Holds w0 ([(G.b, .cells #[I G.B.hand, I 0, I 0, I 0, I 0, I 0, I 0, I 0, I G.B.f, I 0, I 0, I 0, I 0, I 0, I 0, I 0, .map (some G.m)] 201 (0, 0))] :: [(G.m, mapG G.l G.c)] :: R) w) : Sh.Holds w0 (G.hp :: R) w := H.perm (by simp [Gd.hp, bkH])
theorem item_c {w0 w : World} {hs : List Hp} {K : KV} {x : Int} (H : Sh.Holds w0 hs w) (k : ∀ w', Sh.Holds w0 hs w' → K (.bool (decide (0 ≤ x ∧ x < 8))) w') : gocall Tryz.prog 152 [I x] K w := by
  apply F152_go; unfold F152
  refine br_s (fun h => ?_) (fun h => ?_)
  · have := k w H; simp only [ge_iff_le, decide_eq_true_eq] at h; simpa [h] using this
  · have := k w H; simp only [ge_iff_le, decide_eq_false_iff_not] at h; simpa [h] using this
theorem arAt_0 {w : World} {k o n : Nat} {K : Addr → World → Prop} (h1 : 0 < n) (hk : K ⟨k, o, none⟩ w) : arAt ⟨k, o, none⟩ n 0 1 K w := by
  refine ⟨by omega, by omega, ?_⟩
  rw [Addr.add_lit]
  exact hk
theorem free_c {w0 w : World} {hs R : List Hp} {K : KV} {G : Gd} (H : Sh.Holds w0 hs w) [D : Del hs G.hp R] (k : ∀ w', Sh.Holds w0 (G.hp :: R) w' → K (I G.B.f) w') : gocall Tryz.prog 65 [G.v, I 0] K w := by
  replace H := openG (H.get G.hp)
  apply F65_go; unfold F65
  refine br_f rfl ?_
  refine item_c H (fun w H => ?_)
  refine asBoo_h ?_
  refine br_f rfl ?_
  refine nn_h ?_
  refine arAt_0 (by omega) ?_
  refine ldA H ?_; refine asI_h ?_
  exact k _ (shutG H)
theorem onhand_c {w0 w : World} {hs R : List Hp} {K : KV} {G : Gd} (H : Sh.Holds w0 hs w) [D : Del hs G.hp R] (k : ∀ w', Sh.Holds w0 (G.hp :: R) w' → K (I G.B.hand) w') : gocall Tryz.prog 64 [G.v, I 0] K w := by
  replace H := openG (H.get G.hp)
  apply F64_go; unfold F64
  refine br_f rfl ?_
  refine item_c H (fun w H => ?_)
  refine asBoo_h ?_
  refine br_f rfl ?_
  refine nn_h ?_
  refine arAt_0 (by omega) ?_
  refine ldA H ?_; refine asI_h ?_
  exact k _ (shutG H)
set_option maxHeartbeats 1000000 in
theorem Reserve_c {w0 w : World} {hs R : List Hp} {K : KV} {G : Gd} {id q : Int} (H : Sh.Holds w0 hs w) [D : Del hs G.hp R] (ok : G.Ok)
    (k : ∀ (G' : Gd) w', G'.Ok → G'.b = G.b → G'.B = G.B.take id q → Sh.Holds w0 (G'.hp :: R) w' → K (I (G.B.resv id q)) w') : gocall Tryz.prog 391 [G.v, I id, I 0, I q] K w := by
  replace H := H.get G.hp
  have same : G.B.resv id q ≠ 0 → ∀ w, Sh.Holds w0 (G.hp :: R) w → K (I (G.B.resv id q)) w := fun h w H => k G w ok rfl (by unfold GB.take; rw [if_neg h]) H
  apply F391_go; unfold F391
  refine br_f rfl ?_
  refine br_s (fun h => ?_) (fun h1 => ?_)
  · simp only [decide_eq_true_eq] at h
    have e : G.B.resv id q = 1 := by unfold GB.resv; rw [if_pos (.inl h)]
    rw [e] at same; exact same (by omega) _ H
  refine br_s (fun h => ?_) (fun h2 => ?_)
  · simp only [gt_iff_lt, decide_eq_true_eq] at h
    have e : G.B.resv id q = 1 := by unfold GB.resv; rw [if_pos (.inr (.inl h))]
    rw [e] at same; exact same (by omega) _ H
  refine item_c H (fun w H => ?_)
  refine asBoo_h ?_
  refine br_f rfl ?_
  refine br_s (fun h => ?_) (fun h3 => ?_)
  · have h : q = 0 := by simpa using h
    have e : G.B.resv id q = 1 := by unfold GB.resv; rw [if_pos (.inr (.inr (.inl (by omega))))]
    rw [e] at same; exact same (by omega) _ H
  refine May_c H (fun w H => ?_)
  refine asBoo_h ?_
  refine br_s (fun h => ?_) (fun h4 => ?_)
  · have h : q < 0 ∨ 1000000000 < q := by simpa [mayB] using h
    have e : G.B.resv id q = 1 := by unfold GB.resv; rw [if_pos (by omega)]
    rw [e] at same; exact same (by omega) _ H
  have h4 : 0 ≤ q ∧ q ≤ 1000000000 := by simpa [mayB] using h4
  simp only [gt_iff_lt, decide_eq_false_iff_not] at h1 h2
  have h3 : q ≠ 0 := by simpa using h3
  have hgood : ¬ (id < 1 ∨ 999 < id ∨ q < 1 ∨ 1000000000 < q) := by omega
  refine nn_h ?_
  replace H := openG H
  refine ldA H ?_; refine asMap_h ?_
  refine mget2G_h TSR 1 H rfl ?_
  rw [ok.at_]
  cases hq : qOf G.B.R id with
  | some v =>
    refine asT_e [.agg #[I 0, I v], .bool true] rfl rfl ?_
    refine asN_e [I 0, I v] rfl rfl ?_
    refine asI_h ?_
    refine asI_h ?_
    refine asBoo_h ?_
    refine nw_h H (fun k4 w H => ?_)
    refine stA H rfl (fun w H => ?_)
    refine stA H rfl (fun w H => ?_)
    refine br_t rfl ?_
    have e : G.B.resv id q = 8 := by unfold GB.resv; rw [if_neg hgood, hq, if_pos (by simp)]
    rw [e] at same
    exact same (by omega) _ (shutG H.tail)
  | none =>
    refine asT_e [.agg #[I 0, I 0], .bool false] rfl rfl ?_
    refine asN_e [I 0, I 0] rfl rfl ?_
    refine asI_h ?_
    refine asI_h ?_
    refine asBoo_h ?_
    refine nw_h H (fun k4 w H => ?_)
    refine stA H rfl (fun w H => ?_)
    refine stA H rfl (fun w H => ?_)
    refine br_f rfl ?_
    refine nn_h ?_
    refine arAt_0 (by omega) ?_
    refine ldA H ?_; refine asI_h ?_
    have t0 := tot_nonneg ok.ok.q1
    have fa := ok.ok.all
    have f0 := ok.ok.f0
    refine sub_c H (by omega) h4 (fun w H => ?_)
    by_cases hf : q > G.B.f
    · rw [if_pos hf]
      refine asT_e [I 0, I 9] rfl rfl ?_
      refine asI_h ?_
      refine asI_h ?_
      refine br_f rfl ?_
      have e : G.B.resv id q = 9 := by unfold GB.resv; rw [if_neg hgood, hq, if_neg (by simp), if_pos hf]
      rw [e] at same
      exact same (by omega) _ (shutG H.tail)
    · rw [if_neg hf]
      refine asT_e [I (G.B.f - q), I 0] rfl rfl ?_
      refine asI_h ?_
      refine asI_h ?_
      refine br_t rfl ?_
      replace H := H.drew
      refine ⟨fun w => w.cell? ⟨G.b, 16, none⟩ = some (.map (some G.m)), CellAt.at_ (off := 16) H, ?_⟩
      refine nn_h ?_
      refine ⟨.map (some G.m), fun w' h => h, ?_⟩
      refine asMap_h ?_
      refine nn_h ?_
      refine arAt_0 (by omega) ?_
      refine stA H rfl (fun w H => ?_)
      refine ⟨CellAt.at_ (off := 16) H, ?_⟩
      refine mentG_h TSR 2 H rfl ok.g (fun l' c' u w o1 o2 o3 o4 H => ?_)
      rw [ok.at_, hq]
      refine asT_e [.agg #[I 0, I 0], I (u.2.2 : Nat)] rfl rfl ?_
      refine asN_e [I 0, I 0] rfl rfl ?_
      refine asI_h ?_
      refine asI_h ?_
      refine asI_h ?_
      replace H : Sh.Holds w0 ([(k4, .cells #[I 0, I 0] 407 (0, 0))] :: [(G.b, .cells #[I G.B.hand, I 0, I 0, I 0, I 0, I 0, I 0, I 0, I (G.B.f - q), I 0, I 0, I 0, I 0, I 0, I 0, I 0, .map (some G.m)] 201 (0, 0))] :: [(G.m, mapG l' c')] :: R) w := H
      refine ⟨CellAt.at_ (off := 16) H, ?_⟩
      refine mestG_h 2 H rfl o1 o2 (fun l2 w p1 p2 H => ?_)
      replace H : Sh.Holds w0 ([(k4, .cells #[I 0, I 0] 407 (0, 0))] :: [(G.b, .cells #[I G.B.hand, I 0, I 0, I 0, I 0, I 0, I 0, I 0, I (G.B.f - q), I 0, I 0, I 0, I 0, I 0, I 0, I 0, .map (some G.m)] 201 (0, 0))] :: [(G.m, mapG l2 c')] :: R) w := H
      have e : G.B.resv id q = 0 := by unfold GB.resv; rw [if_neg hgood, hq, if_neg (by simp), if_neg hf]
      have et : G.B.take id q = ⟨G.B.f - q, (id, q) :: G.B.R⟩ := by unfold GB.take; rw [if_pos e]
      rw [e] at k
      refine k ⟨G.b, G.m, l2, c', ⟨G.B.f - q, (id, q) :: G.B.R⟩⟩ w ⟨p1, fun x => ?_, by rw [← et]; exact ok.ok.take id q⟩ rfl et.symm (shutG (G := ⟨G.b, G.m, l2, c', ⟨G.B.f - q, (id, q) :: G.B.R⟩⟩) ?_)
      · rw [p2, o3, o4, ok.at_]
        simp only [qOf]
        by_cases hx : x = id
        · rw [if_pos hx, if_pos hx]; rfl
        · rw [if_neg hx, if_neg hx, if_neg hx, ok.at_]
      · have eh : GB.hand ⟨G.B.f - q, (id, q) :: G.B.R⟩ = G.B.hand := by simp only [GB.hand, tot, List.map_cons, List.sum_cons]; omega
        simp only [eh]
        exact H.tail
theorem takeG_c {w0 w : World} {hs R : List Hp} {K : KV} {G : Gd} {id : Int} (H : Sh.Holds w0 hs w) [D : Del hs G.hp R] (ok : G.Ok)
    (k : ∀ l' w', GOk l' G.c → (∀ x, getG l' x = (qOf (outR G.B.R id) x).map fun q => .agg #[I 0, I q]) → Sh.Holds w0 ([(G.b, .cells #[I G.B.hand, I 0, I 0, I 0, I 0, I 0, I 0, I 0, I G.B.f, I 0, I 0, I 0, I 0, I 0, I 0, I 0, .map (some G.m)] 201 (0, 0))] :: [(G.m, mapG l' G.c)] :: R) w' → K (match qOf G.B.R id with | none => .tuple #[.agg #[I 0, I 0], I 6] | some q => .tuple #[.agg #[I 0, I q], I 0]) w') : gocall Tryz.prog 392 [G.v, I id] K w := by
  replace H := openG (H.get G.hp)
  apply F392_go; unfold F392
  refine nw_h H (fun k2 w H => ?_)
  refine br_f rfl ?_
  refine nn_h ?_
  refine ldA H ?_; refine asMap_h ?_
  refine mget2G_h TSR 2 H rfl ?_
  rw [ok.at_]
  cases hq : qOf G.B.R id with
  | none =>
    rw [hq] at k
    refine asT_e [.agg #[I 0, I 0], .bool false] rfl rfl ?_
    refine asN_e [I 0, I 0] rfl rfl ?_
    refine asI_h ?_
    refine asI_h ?_
    refine asBoo_h ?_
    refine nw_h H (fun k4 w H => ?_)
    refine stA H rfl (fun w H => ?_)
    refine stA H rfl (fun w H => ?_)
    refine br_t rfl ?_
    refine stA H rfl (fun w H => ?_)
    refine stA H rfl (fun w H => ?_)
    refine ldA H ?_; refine asI_h ?_
    refine ldA H ?_; refine asI_h ?_
    exact k G.l _ ok.g (fun x => by rw [ok.at_, out_none (qOf_none hq)]) H.tail.tail
  | some v =>
    rw [hq] at k
    refine asT_e [.agg #[I 0, I v], .bool true] rfl rfl ?_
    refine asN_e [I 0, I v] rfl rfl ?_
    refine asI_h ?_
    refine asI_h ?_
    refine asBoo_h ?_
    refine nw_h H (fun k4 w H => ?_)
    refine stA H rfl (fun w H => ?_)
    refine stA H rfl (fun w H => ?_)
    refine br_f rfl ?_
    refine nn_h ?_
    refine ldA H ?_; refine asMap_h ?_
    refine bdelG_h TSR 3 H rfl ok.g (fun l' w o1 o2 H => ?_)
    replace H : Sh.Holds w0 ([(k4, .cells #[I 0, I v] 407 (0, 0))] :: [(k2, .cells #[I 0, I 0] 407 (0, 0))] :: [(G.b, .cells #[I G.B.hand, I 0, I 0, I 0, I 0, I 0, I 0, I 0, I G.B.f, I 0, I 0, I 0, I 0, I 0, I 0, I 0, .map (some G.m)] 201 (0, 0))] :: [(G.m, mapG l' G.c)] :: R) w := H
    refine ldA H ?_; refine asI_h ?_
    refine ldA H ?_; refine asI_h ?_
    refine stA H rfl (fun w H => ?_)
    refine stA H rfl (fun w H => ?_)
    refine ldA H ?_; refine asI_h ?_
    refine ldA H ?_; refine asI_h ?_
    refine k l' _ o1 (fun x => ?_) H.tail.tail
    rw [o2, ok.at_, qOf_out]
    by_cases hx : x = id
    · rw [if_pos hx, if_pos hx]; rfl
    · rw [if_neg hx, if_neg hx]
theorem Commit_c {w0 w : World} {hs R : List Hp} {K : KV} {G : Gd} {id : Int} (H : Sh.Holds w0 hs w) [D : Del hs G.hp R] (ok : G.Ok)
    (k : ∀ (e : Int) (G' : Gd) w', G'.Ok → G'.b = G.b → G'.B = G.B.gives id → Sh.Holds w0 (G'.hp :: R) w' → K (I e) w') : gocall Tryz.prog 389 [G.v, I id] K w := by
  apply F389_go; unfold F389
  have t0 := tot_nonneg ok.ok.q1
  have fa := ok.ok.all
  have f0 := ok.ok.f0
  have og := ok.ok.gives id
  refine takeG_c H ok (fun l' w o1 o2 H => ?_)
  cases hq : qOf G.B.R id with
  | none =>
    refine asT_e [.agg #[I 0, I 0], I 6] rfl rfl ?_
    refine asN_e [I 0, I 0] rfl rfl ?_
    refine asI_h ?_
    refine asI_h ?_
    refine asI_h ?_
    refine nw_h H (fun k4 w H => ?_)
    refine stA H rfl (fun w H => ?_)
    refine stA H rfl (fun w H => ?_)
    refine br_f rfl ?_
    refine k 6 ⟨G.b, G.m, l', G.c, G.B.gives id⟩ _ ⟨o1, o2, og⟩ rfl rfl (shutG (G := ⟨G.b, G.m, l', G.c, G.B.gives id⟩) ?_)
    have eh : GB.hand (G.B.gives id) = G.B.hand := by simp only [GB.hand, GB.gives, tot_out ok.ok.keys, hq]; simp
    simp only [eh]
    exact H.tail
  | some v =>
    have hv := q_pos ok.ok.q1 hq
    refine asT_e [.agg #[I 0, I v], I 0] rfl rfl ?_
    refine asN_e [I 0, I v] rfl rfl ?_
    refine asI_h ?_
    refine asI_h ?_
    refine asI_h ?_
    refine nw_h H (fun k4 w H => ?_)
    refine stA H rfl (fun w H => ?_)
    refine stA H rfl (fun w H => ?_)
    refine br_t rfl ?_
    replace H := H.drew
    refine ldA H ?_; refine asI_h ?_
    refine nn_h ?_
    refine arAt_0 (by omega) ?_
    refine ldA H ?_; refine asI_h ?_
    refine ldA H ?_; refine asI_h ?_
    refine nn_h ?_
    refine arAt_0 (by omega) ?_
    have hw : IntKind.wrap .i64 (G.B.hand - v) = G.B.hand - v := wrap64 (by unfold GB.hand; omega) (by unfold GB.hand; omega)
    simp only [hw]
    refine stA H rfl (fun w H => ?_)
    refine k 0 ⟨G.b, G.m, l', G.c, G.B.gives id⟩ _ ⟨o1, o2, og⟩ rfl rfl (shutG (G := ⟨G.b, G.m, l', G.c, G.B.gives id⟩) ?_)
    have eh : GB.hand (G.B.gives id) = G.B.hand - v := by simp only [GB.hand, GB.gives, tot_out ok.ok.keys, hq, Option.getD_some]; omega
    simp only [eh]
    exact H.tail
theorem Release_c {w0 w : World} {hs R : List Hp} {K : KV} {G : Gd} {id : Int} (H : Sh.Holds w0 hs w) [D : Del hs G.hp R] (ok : G.Ok)
    (k : ∀ (e : Int) (G' : Gd) w', G'.Ok → G'.b = G.b → G'.B = G.B.lets id → Sh.Holds w0 (G'.hp :: R) w' → K (I e) w') : gocall Tryz.prog 390 [G.v, I id] K w := by
  apply F390_go; unfold F390
  have t0 := tot_nonneg ok.ok.q1
  have fa := ok.ok.all
  have f0 := ok.ok.f0
  have og := ok.ok.lets id
  refine takeG_c H ok (fun l' w o1 o2 H => ?_)
  cases hq : qOf G.B.R id with
  | none =>
    refine asT_e [.agg #[I 0, I 0], I 6] rfl rfl ?_
    refine asN_e [I 0, I 0] rfl rfl ?_
    refine asI_h ?_
    refine asI_h ?_
    refine asI_h ?_
    refine nw_h H (fun k4 w H => ?_)
    refine stA H rfl (fun w H => ?_)
    refine stA H rfl (fun w H => ?_)
    refine br_f rfl ?_
    refine k 6 ⟨G.b, G.m, l', G.c, G.B.lets id⟩ _ ⟨o1, o2, og⟩ rfl rfl (shutG (G := ⟨G.b, G.m, l', G.c, G.B.lets id⟩) ?_)
    have ef : (G.B.lets id).f = G.B.f := by simp [GB.lets, hq]
    have eh : GB.hand (G.B.lets id) = G.B.hand := by simp only [GB.hand, GB.lets, tot_out ok.ok.keys, hq]; simp
    simp only [eh, ef]
    exact H.tail
  | some v =>
    have hv := q_pos ok.ok.q1 hq
    refine asT_e [.agg #[I 0, I v], I 0] rfl rfl ?_
    refine asN_e [I 0, I v] rfl rfl ?_
    refine asI_h ?_
    refine asI_h ?_
    refine asI_h ?_
    refine nw_h H (fun k4 w H => ?_)
    refine stA H rfl (fun w H => ?_)
    refine stA H rfl (fun w H => ?_)
    refine br_t rfl ?_
    replace H := H.drew
    refine ldA H ?_; refine asI_h ?_
    refine nn_h ?_
    refine arAt_0 (by omega) ?_
    refine ldA H ?_; refine asI_h ?_
    refine ldA H ?_; refine asI_h ?_
    refine nn_h ?_
    refine arAt_0 (by omega) ?_
    have hw : IntKind.wrap .i64 (G.B.f + v) = G.B.f + v := wrap64 (by omega) (by omega)
    simp only [hw]
    refine stA H rfl (fun w H => ?_)
    refine k 0 ⟨G.b, G.m, l', G.c, G.B.lets id⟩ _ ⟨o1, o2, og⟩ rfl rfl (shutG (G := ⟨G.b, G.m, l', G.c, G.B.lets id⟩) ?_)
    have ef : (G.B.lets id).f = G.B.f + v := by simp [GB.lets, hq]
    have eh : GB.hand (G.B.lets id) = G.B.hand := by simp only [GB.hand, GB.lets, tot_out ok.ok.keys, hq, Option.getD_some]; omega
    simp only [eh, ef]
    exact H.tail
end Go.Proofs.YtcfmnoimehcfnaaGreatDoor
