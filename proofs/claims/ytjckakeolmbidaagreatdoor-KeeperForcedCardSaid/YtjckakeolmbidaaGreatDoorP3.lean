/- Contracts of package purse: Allow, New. Conditions: none. -/
import Derived.Test.YtjckakeolmbidaaGreatDoorP2
import Derived.Test.YtjckakeolmbidaaGreatDoorK5
set_option linter.unusedVariables false
set_option maxRecDepth 100000
namespace Go.Proofs.YtjckakeolmbidaaGreatDoor
open Go Go.Sh

def PB.resv (B : PB) (id q : Int) : Int := if id < 1 ∨ 999 < id ∨ q < 1 ∨ 1000000000 < q then 1 else if (qOf B.R id).isSome = true ∨ (B.P id).isSome = true then 8 else if q > B.m - tot B.R then 9 else if q > 1000000000 - B.t - tot B.R then 4 else 0
def PB.take (B : PB) (id q : Int) : PB := if B.resv id q = 0 then ⟨B.m, B.t, (id, q) :: B.R, B.P⟩ else B
theorem PB.Ok.take {B : PB} (h : B.Ok) (x q : Int) : (B.take x q).Ok := by
  unfold PB.take
  split
  · rename_i e
    unfold PB.resv at e
    split at e
    · simp at e
    · split at e
      · simp at e
      · rename_i hn
        split at e
        · simp at e
        · split at e
          · simp at e
          · refine ⟨h.t0, ?_, h.most, ?_, ?_⟩
            · simp only [tot, List.map_cons, List.sum_cons] at *; omega
            · simp only [List.map_cons, List.nodup_cons]
              refine ⟨fun hm => ?_, h.keys⟩
              obtain ⟨p, hp, e2⟩ := List.mem_map.1 hm
              have : qOf B.R x = none := by
                cases hq : qOf B.R x with
                | none => rfl
                | some v => rw [hq] at hn; simp at hn
              exact qOf_none this p hp e2
            · intro p hp
              rcases List.mem_cons.1 hp with rfl | hp
              · simp only; omega
              · exact h.q1 p hp
  · exact h
theorem client_c {w0 w : World} {hs : List Hp} {K : KV} {x : Int} (H : Sh.Holds w0 hs w) (k : ∀ w', Sh.Holds w0 hs w' → K (.bool (decide (0 ≤ x ∧ x < 8))) w') : gocall Tryz.prog 150 [I x] K w := by
  apply F150_go; unfold F150
  refine br_s (fun h => ?_) (fun h => ?_)
  · have := k w H; simp only [ge_iff_le, decide_eq_true_eq] at h; simpa [h] using this
  · have := k w H; simp only [ge_iff_le, decide_eq_false_iff_not] at h; simpa [h] using this
set_option maxHeartbeats 1000000 in
theorem Allow_c {w0 w : World} {hs R : List Hp} {K : KV} {G : Pd} {id q : Int} (H : Sh.Holds w0 hs w) [D : Del hs G.hp R] (ok : G.Ok)
    (k : ∀ (G' : Pd) w', G'.Ok → G'.b = G.b → G'.B = G.B.take id q → Sh.Holds w0 (G'.hp :: R) w' → K (I (G.B.resv id q)) w') : gocall Tryz.prog 268 [G.v, I id, I 0, I q] K w := by
  replace H := H.get G.hp
  have same : G.B.resv id q ≠ 0 → ∀ w, Sh.Holds w0 (G.hp :: R) w → K (I (G.B.resv id q)) w := fun h w H => k G w ok rfl (by unfold PB.take; rw [if_neg h]) H
  have t0 := tot_nonneg ok.ok.q1
  have fa := ok.ok.all
  have fm := ok.ok.most
  have f0 := ok.ok.t0
  apply F268_go; unfold F268
  refine br_f rfl ?_
  refine br_s (fun h => ?_) (fun h1 => ?_)
  · simp only [decide_eq_true_eq] at h
    have e : G.B.resv id q = 1 := by unfold PB.resv; rw [if_pos (.inl h)]
    rw [e] at same; exact same (by omega) _ H
  refine br_s (fun h => ?_) (fun h2 => ?_)
  · simp only [gt_iff_lt, decide_eq_true_eq] at h
    have e : G.B.resv id q = 1 := by unfold PB.resv; rw [if_pos (.inr (.inl h))]
    rw [e] at same; exact same (by omega) _ H
  refine client_c H (fun w H => ?_)
  refine asBoo_h ?_
  refine br_f rfl ?_
  refine br_s (fun h => ?_) (fun h3 => ?_)
  · have h : q = 0 := by simpa using h
    have e : G.B.resv id q = 1 := by unfold PB.resv; rw [if_pos (.inr (.inr (.inl (by omega))))]
    rw [e] at same; exact same (by omega) _ H
  refine May_c H (fun w H => ?_)
  refine asBoo_h ?_
  refine br_s (fun h => ?_) (fun h4 => ?_)
  · have h : q < 0 ∨ 1000000000 < q := by simpa [mayB] using h
    have e : G.B.resv id q = 1 := by unfold PB.resv; rw [if_pos (by omega)]
    rw [e] at same; exact same (by omega) _ H
  have h4 : 0 ≤ q ∧ q ≤ 1000000000 := by simpa [mayB] using h4
  simp only [gt_iff_lt, decide_eq_false_iff_not] at h1 h2
  have h3 : q ≠ 0 := by simpa using h3
  have hgood : ¬ (id < 1 ∨ 999 < id ∨ q < 1 ∨ 1000000000 < q) := by omega
  refine nn_h ?_
  replace H := openP H
  refine ldA H ?_; refine asMap_h ?_
  refine mget2G_h TPA 1 H rfl ?_
  have eg : ∃ c, (getG G.l id).getD (.agg #[I 0, I 0]) = .agg #[I 0, I c] := by
    rw [ok.at_]
    cases qOf G.B.R id with
    | none => exact ⟨0, rfl⟩
    | some v => exact ⟨v, rfl⟩
  obtain ⟨cc, ecc⟩ := eg
  have eb : (getG G.l id).isSome = (qOf G.B.R id).isSome := by rw [ok.at_]; cases qOf G.B.R id <;> rfl
  rw [ecc, eb]
  refine asT_e [.agg #[I 0, I cc], .bool (qOf G.B.R id).isSome] rfl rfl ?_
  refine asN_e [I 0, I cc] rfl rfl ?_
  refine asI_h ?_
  refine asI_h ?_
  refine asBoo_h ?_
  refine nw_h H (fun k4 w H => ?_)
  refine stA H rfl (fun w H => ?_)
  refine stA H rfl (fun w H => ?_)
  refine nn_h ?_
  refine ldA H ?_; refine asMap_h ?_
  refine mget2G_h TPI 3 H rfl ?_
  have eg2 : ∃ c, (getG G.pl id).getD (I 0) = I c := by
    rw [ok.pat]
    cases G.B.P id with
    | none => exact ⟨0, rfl⟩
    | some v => exact ⟨v, rfl⟩
  obtain ⟨c2, ec2⟩ := eg2
  have eb2 : (getG G.pl id).isSome = (G.B.P id).isSome := by rw [ok.pat]; cases G.B.P id <;> rfl
  rw [ec2, eb2]
  refine asT_e [I c2, .bool (G.B.P id).isSome] rfl rfl ?_
  refine asI_h ?_
  refine asBoo_h ?_
  refine br_s (fun h => ?_) (fun h5 => ?_)
  · have e : G.B.resv id q = 8 := by unfold PB.resv; rw [if_neg hgood, if_pos (.inl h)]
    rw [e] at same; exact same (by omega) _ (shutP H.tail)
  refine br_s (fun h => ?_) (fun h6 => ?_)
  · have e : G.B.resv id q = 8 := by unfold PB.resv; rw [if_neg hgood, if_pos (.inr h)]
    rw [e] at same; exact same (by omega) _ (shutP H.tail)
  have hno : ¬ ((qOf G.B.R id).isSome = true ∨ (G.B.P id).isSome = true) := by rw [h5, h6]; simp
  replace H : Sh.Holds w0 (([(G.b, .cells #[I G.B.m, I 0, I 0, I 0, I 0, I 0, I 0, I 0, I G.B.t, .map (some G.m), .map (some G.pm)] 153 (0, 0))] : Hp) :: [(G.m, mapG G.l G.c)] :: [(G.pm, mapG G.pl G.pc)] :: R) w.drew := H.tail.drew
  refine keepsA [[(G.b, .cells #[I G.B.m, I 0, I 0, I 0, I 0, I 0, I 0, I 0, I G.B.t, .map (some G.m), .map (some G.pm)] 153 (0, 0))]] H ?_
  refine nn_h ?_
  refine arAt_0 (by omega) ?_
  refine ldSA ?_; refine asI_h ?_
  refine allowed_c (G := G) (i := 0) (shutP H) ok (fun w H => ?_)
  refine asI_h ?_
  refine kpA (openP H) ?_
  rw [if_pos rfl]
  have w1 : IntKind.wrap .i64 (G.B.m - tot G.B.R) = G.B.m - tot G.B.R := wrap64 (by omega) (by omega)
  rw [w1]
  refine br_s (fun h => ?_) (fun h7 => ?_)
  · simp only [decide_eq_true_eq] at h
    have e : G.B.resv id q = 9 := by unfold PB.resv; rw [if_neg hgood, if_neg hno, if_pos h]
    rw [e] at same; exact same (by omega) _ H
  simp only [decide_eq_false_iff_not] at h7
  replace H := openP H.drew
  refine keepsA [[(G.b, .cells #[I G.B.m, I 0, I 0, I 0, I 0, I 0, I 0, I 0, I G.B.t, .map (some G.m), .map (some G.pm)] 153 (0, 0))]] H ?_
  refine nn_h ?_
  refine ldSA ?_; refine asI_h ?_
  refine allP_c (G := G) (shutP H) ok (fun w H => ?_)
  refine asI_h ?_
  refine kpA (openP H) ?_
  have w2 : IntKind.wrap .i64 (1000000000 - G.B.t) = 1000000000 - G.B.t := wrap64 (by omega) (by omega)
  have w3 : IntKind.wrap .i64 (1000000000 - G.B.t - tot G.B.R) = 1000000000 - G.B.t - tot G.B.R := wrap64 (by omega) (by omega)
  rw [w2, w3]
  refine br_s (fun h => ?_) (fun h8 => ?_)
  · simp only [decide_eq_true_eq] at h
    have e : G.B.resv id q = 4 := by unfold PB.resv; rw [if_neg hgood, if_neg hno, if_neg h7, if_pos h]
    rw [e] at same; exact same (by omega) _ H
  simp only [decide_eq_false_iff_not] at h8
  replace H := openP H
  refine nn_h ?_
  refine ldA H ?_; refine asMap_h ?_
  have e : G.B.resv id q = 0 := by unfold PB.resv; rw [if_neg hgood, if_neg hno, if_neg h7, if_neg h8]
  have et : G.B.take id q = ⟨G.B.m, G.B.t, (id, q) :: G.B.R, G.B.P⟩ := by unfold PB.take; rw [if_pos e]
  rw [e] at k
  refine msetG_h TPA 1 H rfl ok.g (fun l' c' w o1 o2 H => ?_)
  refine k ⟨G.b, G.m, l', c', G.pm, G.pl, G.pc, ⟨G.B.m, G.B.t, (id, q) :: G.B.R, G.B.P⟩⟩ w ⟨o1, ok.pg, fun x => ?_, ok.pat, by rw [← et]; exact ok.ok.take id q⟩ rfl et.symm (shutP (G := ⟨G.b, G.m, l', c', G.pm, G.pl, G.pc, ⟨G.B.m, G.B.t, (id, q) :: G.B.R, G.B.P⟩⟩) H)
  rw [o2, ok.at_]
  simp only [qOf]
  by_cases hx : x = id
  · rw [if_pos hx, if_pos hx]; rfl
  · rw [if_neg hx, if_neg hx]
theorem newP_c {w0 w : World} {hs : List Hp} {K : KV} {r : Row} {g : Int} (H : Sh.Holds w0 (r.hp 3 :: hs) w) (ok : r.Ok 1 [I g]) (hn : r.n = 1)
    (k : ∀ (G : Pd) w', G.Ok → G.B = ⟨clampB g, 0, [], fun _ => none⟩ → Sh.Holds w0 (G.hp :: r.hp 3 :: hs) w' → K G.v w') : gocall Tryz.prog 130 [r.v] K w := by
  have hsl : Sl (Sh.Holds w0 (r.hp 3 :: hs)) r.p r.n 1 [I g] := Sl.row 0 rfl ok
  apply F130_go; unfold F130
  rw [hn] at hsl ⊢
  refine nw_h H (fun k3 w H => ?_)
  refine nw_h H (fun k4 w H => ?_)
  refine nw_h H (fun k5 w H => ?_)
  refine ⟨fun x w => (x.1 = 0 ∨ x.1 = 1) ∧ Sh.Holds w0 ([(k5, .cells #[I (if x.1 = 0 then 0 else clampB g), I 0, I 0, I 0, I 0, I 0, I 0, I 0, I 0, .map (some k3), .map (some k4)] 153 (0, 0))] :: [(k4, mapG [] 0)] :: [(k3, mapG [] 0)] :: r.hp 3 :: hs) w, fun x _ => (1 - x.1).toNat, ⟨.inl rfl, H⟩, ?_⟩
  clear H
  rintro ⟨x, u⟩ w ⟨hx, H⟩
  simp only at hx H
  rcases hx with rfl | rfl
  · refine br_t rfl ?_
    replace H := H.drew
    refine slAt_s hsl (by omega) (by omega) (fun bb o hp => ?_)
    refine ldS_s hsl hp H.tail.tail.tail (v := I g) rfl ?_
    refine asI_h ?_
    refine nn_h ?_
    refine arAt_0 (by omega) ?_
    refine stA H rfl (fun w H => ?_)
    exact ⟨⟨.inr rfl, H⟩, by show (1 - IntKind.i64.wrap (0 + 1)).toNat < ((1 : Int) - 0).toNat; decide⟩
  · refine br_f rfl ?_
    have hc : 0 ≤ clampB g ∧ clampB g ≤ 1000000000 := by simp only [clampB]; (repeat' split) <;> omega
    refine k ⟨k5, k3, [], 0, k4, [], 0, ⟨clampB g, 0, [], fun _ => none⟩⟩ w ⟨.nil 0, .nil 0, fun x => rfl, fun x => rfl, ⟨by simp, by simp [tot]; omega, by simp; omega, by simp, by simp⟩⟩ rfl (shutP (G := ⟨k5, k3, [], 0, k4, [], 0, ⟨clampB g, 0, [], fun _ => none⟩⟩) ?_)
    have H2 : Sh.Holds w0 ([(k5, .cells #[I (clampB g), I 0, I 0, I 0, I 0, I 0, I 0, I 0, I 0, .map (some k3), .map (some k4)] 153 (0, 0))] :: [(k4, mapG [] 0)] :: [(k3, mapG [] 0)] :: r.hp 3 :: hs) w := H
    exact H2.re
end Go.Proofs.YtjckakeolmbidaaGreatDoor
