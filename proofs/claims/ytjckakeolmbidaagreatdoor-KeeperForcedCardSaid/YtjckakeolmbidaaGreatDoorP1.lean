/- Contracts of package purse, as far as its first client goes. Conditions: none. -/
import Derived.Test.YtjckakeolmbidaaGreatDoorFP
import Derived.Test.YtjckakeolmbidaaGreatDoorK1
set_option linter.unusedVariables false
set_option maxRecDepth 100000
namespace Go.Proofs.YtjckakeolmbidaaGreatDoor
open Go Go.Sh

/-- a purse of one client: the money, what was taken, who is allowed how much, who has paid -/
structure PB where
  m : Int
  t : Int
  R : List (Int × Int)
  P : Int → Option Int
structure PB.Ok (B : PB) : Prop where
  t0 : 0 ≤ B.t
  all : tot B.R ≤ B.m
  most : B.m + B.t ≤ 1000000000
  keys : (B.R.map (·.1)).Nodup
  q1 : ∀ p ∈ B.R, 1 ≤ p.2
def PB.gives (B : PB) (id : Int) : PB := match qOf B.R id with | none => B | some q => ⟨B.m - q, B.t + q, outR B.R id, fun x => if x = id then some q else B.P x⟩
def PB.lets (B : PB) (id : Int) : PB := ⟨B.m, B.t, outR B.R id, B.P⟩
theorem PB.Ok.out {B : PB} (h : B.Ok) (x : Int) : ((outR B.R x).map (·.1)).Nodup ∧ ∀ p ∈ outR B.R x, 1 ≤ p.2 :=
  ⟨h.keys.sublist (List.Sublist.map _ List.filter_sublist), fun p hp => h.q1 p (List.mem_filter.1 hp).1⟩
theorem PB.Ok.lets {B : PB} (h : B.Ok) (x : Int) : (B.lets x).Ok := by
  obtain ⟨a, b⟩ := h.out x
  refine ⟨h.t0, ?_, h.most, a, b⟩
  simp only [PB.lets, tot_out h.keys]
  have := h.all
  cases e : qOf B.R x with
  | none => simp; omega
  | some q => have := q_pos h.q1 e; simp; omega
theorem PB.Ok.gives {B : PB} (h : B.Ok) (x : Int) : (B.gives x).Ok := by
  obtain ⟨a, b⟩ := h.out x
  unfold PB.gives
  cases e : qOf B.R x with
  | none => exact h
  | some q =>
    have h1 := q_pos h.q1 e
    have h2 := h.all
    have h3 := h.most
    have h4 := h.t0
    refine ⟨by show 0 ≤ B.t + q; omega, ?_, by show B.m - q + (B.t + q) ≤ _; omega, a, b⟩
    show tot (outR B.R x) ≤ B.m - q
    rw [tot_out h.keys, e]
    simp; omega
theorem TPA : MapTyG Tryz.prog 151 (.agg #[I 0, I 0]) := ⟨⟨_, _, rfl, rfl, fun _ => rfl⟩⟩
theorem TPI : MapTyG Tryz.prog 124 (I 0) := ⟨⟨_, _, rfl, rfl, fun _ => rfl⟩⟩
/-- the purse in the store -/
structure Pd where
  b : Nat
  m : Nat
  l : List TriG
  c : Nat
  pm : Nat
  pl : List TriG
  pc : Nat
  B : PB
def Pd.hp (G : Pd) : Hp := [(G.b, .cells #[I G.B.m, I 0, I 0, I 0, I 0, I 0, I 0, I 0, I G.B.t, .map (some G.m), .map (some G.pm)] 153 (0, 0))] ++ ([(G.m, mapG G.l G.c)] ++ [(G.pm, mapG G.pl G.pc)])
structure Pd.Ok (G : Pd) : Prop where
  g : GOk G.l G.c
  pg : GOk G.pl G.pc
  at_ : ∀ x, getG G.l x = (qOf G.B.R x).map fun q => .agg #[I 0, I q]
  pat : ∀ x, getG G.pl x = (G.B.P x).map fun q => I q
  ok : G.B.Ok
abbrev Pd.v (G : Pd) : Value := .pointer (some ⟨G.b, 0, none⟩)
theorem openP {w0 w : World} {R : List Hp} {G : Pd} (H : Sh.Holds w0 (G.hp :: R) w) : Sh.Holds w0 ([(G.b, .cells #[I G.B.m, I 0, I 0, I 0, I 0, I 0, I 0, I 0, I G.B.t, .map (some G.m), .map (some G.pm)] 153 (0, 0))] :: [(G.m, mapG G.l G.c)] :: [(G.pm, mapG G.pl G.pc)] :: R) w := H.perm (by simp [Pd.hp])
theorem shutP {w0 w : World} {R : List Hp} {G : Pd} (H : Sh.Holds w0 ([(G.b, .cells #[I G.B.m, I 0, I 0, I 0, I 0, I 0, I 0, I 0, I G.B.t, .map (some G.m), .map (some G.pm)] 153 (0, 0))] :: [(G.m, mapG G.l G.c)] :: [(G.pm, mapG G.pl G.pc)] :: R) w) : Sh.Holds w0 (G.hp :: R) w := H.perm (by simp [Pd.hp])
theorem till_c {w0 w : World} {hs R : List Hp} {K : KV} {G : Pd} (H : Sh.Holds w0 hs w) [D : Del hs G.hp R] (k : ∀ w', Sh.Holds w0 (G.hp :: R) w' → K (I G.B.t) w') : gocall Tryz.prog 53 [G.v] K w := by
  replace H := openP (H.get G.hp)
  apply F53_go; unfold F53
  refine br_f rfl ?_
  refine nn_h ?_
  refine ldA H ?_; refine asI_h ?_
  exact k _ (shutP H)
theorem takeP_c {w0 w : World} {hs R : List Hp} {K : KV} {G : Pd} {id : Int} (H : Sh.Holds w0 hs w) [D : Del hs G.hp R] (ok : G.Ok)
    (k : ∀ l' w', GOk l' G.c → (∀ x, getG l' x = (qOf (outR G.B.R id) x).map fun q => .agg #[I 0, I q]) → Sh.Holds w0 ([(G.b, .cells #[I G.B.m, I 0, I 0, I 0, I 0, I 0, I 0, I 0, I G.B.t, .map (some G.m), .map (some G.pm)] 153 (0, 0))] :: [(G.m, mapG l' G.c)] :: [(G.pm, mapG G.pl G.pc)] :: R) w' → K (match qOf G.B.R id with | none => .tuple #[.agg #[I 0, I 0], I 6] | some q => .tuple #[.agg #[I 0, I q], I 0]) w') : gocall Tryz.prog 269 [G.v, I id] K w := by
  replace H := openP (H.get G.hp)
  apply F269_go; unfold F269
  refine nw_h H (fun k2 w H => ?_)
  refine br_f rfl ?_
  refine nn_h ?_
  refine ldA H ?_; refine asMap_h ?_
  refine mget2G_h TPA 2 H rfl ?_
  rw [ok.at_]
  cases hq : qOf G.B.R id with
  | none =>
    rw [hq] at k
    refine asT_e [.agg #[I 0, I 0], .bool false] rfl rfl ?_
    refine asN_e [I 0, I 0] rfl rfl ?_
    refine asI_h ?_
    refine asI_h ?_
    refine asBoo_h ?_
    refine nw_h H (fun k4 w H => ?_)
    refine stA H rfl (fun w H => ?_)
    refine stA H rfl (fun w H => ?_)
    refine br_t rfl ?_
    refine stA H rfl (fun w H => ?_)
    refine stA H rfl (fun w H => ?_)
    refine ldA H ?_; refine asI_h ?_
    refine ldA H ?_; refine asI_h ?_
    exact k G.l _ ok.g (fun x => by rw [ok.at_, out_none (qOf_none hq)]) H.tail.tail
  | some v =>
    rw [hq] at k
    refine asT_e [.agg #[I 0, I v], .bool true] rfl rfl ?_
    refine asN_e [I 0, I v] rfl rfl ?_
    refine asI_h ?_
    refine asI_h ?_
    refine asBoo_h ?_
    refine nw_h H (fun k4 w H => ?_)
    refine stA H rfl (fun w H => ?_)
    refine stA H rfl (fun w H => ?_)
    refine br_f rfl ?_
    refine nn_h ?_
    refine ldA H ?_; refine asMap_h ?_
    refine bdelG_h TPA 3 H rfl ok.g (fun l' w o1 o2 H => ?_)
    replace H : Sh.Holds w0 ([(k4, .cells #[I 0, I v] 195 (0, 0))] :: [(k2, .cells #[I 0, I 0] 195 (0, 0))] :: [(G.b, .cells #[I G.B.m, I 0, I 0, I 0, I 0, I 0, I 0, I 0, I G.B.t, .map (some G.m), .map (some G.pm)] 153 (0, 0))] :: [(G.m, mapG l' G.c)] :: [(G.pm, mapG G.pl G.pc)] :: R) w := H
    refine ldA H ?_; refine asI_h ?_
    refine ldA H ?_; refine asI_h ?_
    refine stA H rfl (fun w H => ?_)
    refine stA H rfl (fun w H => ?_)
    refine ldA H ?_; refine asI_h ?_
    refine ldA H ?_; refine asI_h ?_
    refine k l' _ o1 (fun x => ?_) H.tail.tail
    rw [o2, ok.at_, qOf_out]
    by_cases hx : x = id
    · rw [if_pos hx, if_pos hx]; rfl
    · rw [if_neg hx, if_neg hx]
theorem Void_c {w0 w : World} {hs R : List Hp} {K : KV} {G : Pd} {id : Int} (H : Sh.Holds w0 hs w) [D : Del hs G.hp R] (ok : G.Ok)
    (k : ∀ (e : Int) (G' : Pd) w', G'.Ok → G'.b = G.b → G'.B = G.B.lets id → Sh.Holds w0 (G'.hp :: R) w' → K (I e) w') : gocall Tryz.prog 267 [G.v, I id] K w := by
  apply F267_go; unfold F267
  have og := ok.ok.lets id
  refine takeP_c H ok (fun l' w o1 o2 H => ?_)
  cases hq : qOf G.B.R id with
  | none =>
    refine asT_e [.agg #[I 0, I 0], I 6] rfl rfl ?_
    refine asN_e [I 0, I 0] rfl rfl ?_
    refine asI_h ?_
    refine asI_h ?_
    refine asI_h ?_
    refine nw_h H (fun k4 w H => ?_)
    refine stA H rfl (fun w H => ?_)
    refine stA H rfl (fun w H => ?_)
    exact k 6 ⟨G.b, G.m, l', G.c, G.pm, G.pl, G.pc, G.B.lets id⟩ _ ⟨o1, ok.pg, o2, ok.pat, og⟩ rfl rfl (shutP (G := ⟨G.b, G.m, l', G.c, G.pm, G.pl, G.pc, G.B.lets id⟩) H.tail)
  | some v =>
    refine asT_e [.agg #[I 0, I v], I 0] rfl rfl ?_
    refine asN_e [I 0, I v] rfl rfl ?_
    refine asI_h ?_
    refine asI_h ?_
    refine asI_h ?_
    refine nw_h H (fun k4 w H => ?_)
    refine stA H rfl (fun w H => ?_)
    refine stA H rfl (fun w H => ?_)
    exact k 0 ⟨G.b, G.m, l', G.c, G.pm, G.pl, G.pc, G.B.lets id⟩ _ ⟨o1, ok.pg, o2, ok.pat, og⟩ rfl rfl (shutP (G := ⟨G.b, G.m, l', G.c, G.pm, G.pl, G.pc, G.B.lets id⟩) H.tail)
theorem Capture_c {w0 w : World} {hs R : List Hp} {K : KV} {G : Pd} {id : Int} (H : Sh.Holds w0 hs w) [D : Del hs G.hp R] (ok : G.Ok)
    (k : ∀ (e : Int) (G' : Pd) w', G'.Ok → G'.b = G.b → G'.B = G.B.gives id → Sh.Holds w0 (G'.hp :: R) w' → K (I e) w') : gocall Tryz.prog 266 [G.v, I id] K w := by
  apply F266_go; unfold F266
  have og := ok.ok.gives id
  have h0 := ok.ok.t0
  have h1 := ok.ok.most
  have h2 := ok.ok.all
  have h3 := tot_nonneg ok.ok.q1
  refine takeP_c H ok (fun l' w o1 o2 H => ?_)
  cases hq : qOf G.B.R id with
  | none =>
    have eg : G.B.gives id = G.B := by unfold PB.gives; rw [hq]
    refine asT_e [.agg #[I 0, I 0], I 6] rfl rfl ?_
    refine asN_e [I 0, I 0] rfl rfl ?_
    refine asI_h ?_
    refine asI_h ?_
    refine asI_h ?_
    refine nw_h H (fun k4 w H => ?_)
    refine stA H rfl (fun w H => ?_)
    refine stA H rfl (fun w H => ?_)
    refine br_f rfl ?_
    rw [out_none (qOf_none hq)] at o2
    exact k 6 ⟨G.b, G.m, l', G.c, G.pm, G.pl, G.pc, G.B⟩ _ ⟨o1, ok.pg, o2, ok.pat, ok.ok⟩ rfl eg.symm (shutP (G := ⟨G.b, G.m, l', G.c, G.pm, G.pl, G.pc, G.B⟩) H.tail)
  | some v =>
    have hv := q_pos ok.ok.q1 hq
    have eg : G.B.gives id = ⟨G.B.m - v, G.B.t + v, outR G.B.R id, fun x => if x = id then some v else G.B.P x⟩ := by unfold PB.gives; rw [hq]
    rw [eg] at og
    refine asT_e [.agg #[I 0, I v], I 0] rfl rfl ?_
    refine asN_e [I 0, I v] rfl rfl ?_
    refine asI_h ?_
    refine asI_h ?_
    refine asI_h ?_
    refine nw_h H (fun k4 w H => ?_)
    refine stA H rfl (fun w H => ?_)
    refine stA H rfl (fun w H => ?_)
    refine br_t rfl ?_
    replace H := H.drew
    refine ldA H ?_; refine asI_h ?_
    refine nn_h ?_
    refine arAt_0 (by omega) ?_
    refine ldA H ?_; refine asI_h ?_
    refine ldA H ?_; refine asI_h ?_
    refine nn_h ?_
    refine arAt_0 (by omega) ?_
    have w1 : IntKind.wrap .i64 (G.B.m - v) = G.B.m - v := wrap64 (by omega) (by omega)
    have w2 : IntKind.wrap .i64 (G.B.t + v) = G.B.t + v := wrap64 (by omega) (by omega)
    simp only [w1]
    refine stA H rfl (fun w H => ?_)
    replace H := H.drew
    refine nn_h ?_
    refine ldA H ?_; refine asI_h ?_
    refine ldA H ?_; refine asI_h ?_
    refine nn_h ?_
    simp only [w2]
    refine stA H rfl (fun w H => ?_)
    replace H := H.drew
    refine nn_h ?_
    refine ldA H ?_; refine asMap_h ?_
    refine ldA H ?_; refine asI_h ?_
    refine msetG_h TPI 3 H rfl ok.pg (fun pl' pc' w p1 p2 H => ?_)
    refine k 0 ⟨G.b, G.m, l', G.c, G.pm, pl', pc', ⟨G.B.m - v, G.B.t + v, outR G.B.R id, fun x => if x = id then some v else G.B.P x⟩⟩ _ ⟨o1, p1, o2, fun x => ?_, og⟩ rfl eg.symm (shutP (G := ⟨G.b, G.m, l', G.c, G.pm, pl', pc', ⟨G.B.m - v, G.B.t + v, outR G.B.R id, fun x => if x = id then some v else G.B.P x⟩⟩) (Holds.tail H))
    rw [p2, ok.pat]
    simp only
    by_cases hx : x = id
    · rw [if_pos hx, if_pos hx]; rfl
    · rw [if_neg hx, if_neg hx]
end Go.Proofs.YtjckakeolmbidaaGreatDoor
