/- Contracts of package purse: Allowed, all, Allow, New. Conditions: none. -/
import Derived.Test.YtjckakeolmbidaaGreatDoorP1
import Derived.Test.YtjckakeolmbidaaGreatDoorK2
set_option linter.unusedVariables false
set_option maxRecDepth 100000
namespace Go.Proofs.YtjckakeolmbidaaGreatDoor
open Go Go.Sh

def priceG (t : TriG) : Int := match t.2.1 with | .agg cs => (match (cs.toList[1]? : Option Value) with | some (.int _ q) => q | _ => 0) | _ => 0
def sumG (l : List TriG) : Int := (l.map priceG).sum
theorem sumG_del {k : Int} {v : Value} : ∀ {l : List TriG}, getG l k = some v → sumG l = priceG (k, v, 0) + sumG (delG k l)
  | [], h => by simp [getG] at h
  | t :: l, h => by
    simp only [getG] at h
    split at h
    · rename_i e
      cases h
      have : delG k (t :: l) = l := by simp only [delG]; rw [if_pos e]
      rw [this]
      simp only [sumG, List.map_cons, List.sum_cons]; rfl
    · rename_i e
      have : delG k (t :: l) = t :: delG k l := by simp only [delG]; rw [if_neg e]
      rw [this]
      have ih := sumG_del h
      simp only [sumG, List.map_cons, List.sum_cons] at ih ⊢
      omega
theorem sum_eq : ∀ {R : List (Int × Int)} {l : List TriG}, (l.map (·.1)).Nodup → (R.map (·.1)).Nodup → (∀ x, getG l x = (qOf R x).map fun q => .agg #[I 0, I q]) → sumG l = tot R
  | [], l, h1, _, h => by
    cases l with
    | nil => rfl
    | cons t l =>
      have := h t.1
      simp [getG, qOf] at this
  | p :: r, l, h1, h2, h => by
    simp only [List.map_cons, List.nodup_cons] at h2
    have hp := h p.1
    simp only [qOf, if_pos, Option.map_some] at hp
    rw [sumG_del hp, sum_eq (R := r) (l := delG p.1 l) (h1.sublist ((delG_sub p.1 l).map _)) h2.2 (fun x => ?_)]
    · simp only [tot, List.map_cons, List.sum_cons]; rfl
    · rw [getG_del h1, h]
      by_cases hx : x = p.1
      · rw [if_pos hx]
        have : qOf r x = none := by
          cases hq : qOf r x with
          | none => rfl
          | some v =>
            exfalso
            apply h2.1
            rw [← hx]
            clear h h1 hp
            have : ∀ {r : List (Int × Int)}, qOf r x = some v → x ∈ r.map (·.1) := by
              intro r
              induction r with
              | nil => intro h; simp [qOf] at h
              | cons a r ih =>
                intro h
                simp only [qOf] at h
                split at h
                · rename_i e; simp [e]
                · exact List.mem_cons_of_mem _ (ih h)
            exact this hq
        rw [this]; rfl
      · rw [if_neg hx]; simp only [qOf, if_neg hx]
def seenS (l : List TriG) (seen : Array Nat) : Int := (l.map fun t => if seen.contains t.2.2 = true then priceG t else 0).sum
theorem seen_nil (l : List TriG) : seenS l #[] = 0 := by
  unfold seenS
  induction l with
  | nil => rfl
  | cons t l ih => simp only [List.map_cons, List.sum_cons, ih]; simp
theorem seen_all : ∀ {l : List TriG} {seen : Array Nat}, (∀ t ∈ l, seen.contains t.2.2 = true) → seenS l seen = sumG l
  | [], _, _ => rfl
  | t :: l, seen, h => by
    have ih := seen_all (l := l) (fun u hu => h u (List.mem_cons_of_mem _ hu))
    simp only [seenS, sumG, List.map_cons, List.sum_cons] at ih ⊢
    rw [if_pos (h t (List.mem_cons_self ..)), ih]
theorem seen_off : ∀ {l : List TriG} {seen : Array Nat} {b : Nat}, (∀ t ∈ l, t.2.2 ≠ b) → seenS l (seen.push b) = seenS l seen
  | [], _, _, _ => rfl
  | t :: l, seen, b, h => by
    have ih := seen_off (l := l) (seen := seen) (b := b) (fun u hu => h u (List.mem_cons_of_mem _ hu))
    have ht := h t (List.mem_cons_self ..)
    simp only [seenS, List.map_cons, List.sum_cons] at ih ⊢
    rw [ih]
    have : (seen.push b).contains t.2.2 = seen.contains t.2.2 := by rw [Array.contains_push]; simp [ht]
    rw [this]
theorem seen_push : ∀ {l : List TriG} {seen : Array Nat} {t : TriG}, (l.map (·.2.2)).Nodup → t ∈ l → seen.contains t.2.2 = false → seenS l (seen.push t.2.2) = seenS l seen + priceG t
  | [], _, _, _, ht, _ => by simp at ht
  | u :: l, seen, t, hn, ht, hs => by
    simp only [List.map_cons, List.nodup_cons] at hn
    rcases List.mem_cons.1 ht with e | ht'
    · subst e
      have := seen_off (l := l) (seen := seen) (b := t.2.2) (fun u hu e => hn.1 (e ▸ List.mem_map_of_mem (f := fun t : TriG => t.2.2) hu))
      simp only [seenS, List.map_cons, List.sum_cons] at this ⊢
      rw [this, hs]
      have : (seen.push t.2.2).contains t.2.2 = true := by rw [Array.contains_push]; simp
      rw [this]; simp; omega
    · have ih := seen_push hn.2 ht' hs
      have hne : u.2.2 ≠ t.2.2 := fun e => hn.1 (e ▸ List.mem_map_of_mem (f := fun t : TriG => t.2.2) ht')
      have : (seen.push t.2.2).contains u.2.2 = seen.contains u.2.2 := by rw [Array.contains_push]; simp [hne]
      simp only [seenS, List.map_cons, List.sum_cons] at ih ⊢
      rw [ih, this]; omega
theorem seen_b : ∀ {l : List TriG} {seen : Array Nat}, (∀ t ∈ l, 0 ≤ priceG t) → 0 ≤ seenS l seen ∧ seenS l seen ≤ sumG l
  | [], _, _ => by simp [seenS, sumG]
  | t :: l, seen, h => by
    have ih := seen_b (l := l) (seen := seen) (fun u hu => h u (List.mem_cons_of_mem _ hu))
    have ht := h t (List.mem_cons_self ..)
    simp only [seenS, sumG, List.map_cons, List.sum_cons] at ih ⊢
    split <;> omega
set_option maxHeartbeats 1000000 in
theorem allowed_c {w0 w : World} {hs R : List Hp} {K : KV} {G : Pd} {i : Int} (H : Sh.Holds w0 hs w) [D : Del hs G.hp R] (ok : G.Ok) (k : ∀ w', Sh.Holds w0 (G.hp :: R) w' → K (I (if i = 0 then tot G.B.R else 0)) w') : gocall Tryz.prog 109 [G.v, I i] K w := by
  replace H := openP (H.get G.hp)
  have hval : ∀ t ∈ G.l, ∃ q, t.2.1 = .agg #[I 0, I q] ∧ qOf G.B.R t.1 = some q := fun t ht => by
    have h1 := ok.at_ t.1
    rw [getG_of ok.g.keys ht] at h1
    cases hq : qOf G.B.R t.1 with
    | none => rw [hq] at h1; simp at h1
    | some q => rw [hq] at h1; exact ⟨q, by simpa using h1, rfl⟩
  have hpr : ∀ t ∈ G.l, 0 ≤ priceG t := fun t ht => by
    obtain ⟨q, e, hq⟩ := hval t ht
    have := q_pos ok.ok.q1 hq
    have ep : priceG t = q := by unfold priceG; rw [e]; rfl
    omega
  have hsum : sumG G.l = tot G.B.R := sum_eq ok.g.keys ok.ok.keys ok.at_
  have hb1 := ok.ok.all
  have hb2 := ok.ok.most
  have hb3 := ok.ok.t0
  apply F109_go; unfold F109
  refine br_f rfl ?_
  refine nn_h ?_
  refine ldA H ?_; refine asMap_h ?_
  refine mrngG_h (t := 151) rfl 1 H rfl (fun r w H => ?_)
  obtain ⟨base, hbase⟩ : ∃ base : List Hp, base = [(G.b, .cells #[I G.B.m, I 0, I 0, I 0, I 0, I 0, I 0, I 0, I G.B.t, .map (some G.m), .map (some G.pm)] 153 (0, 0))] :: [(G.m, mapG G.l G.c)] :: [(G.pm, mapG G.pl G.pc)] :: R := ⟨_, rfl⟩
  rw [← hbase] at H
  refine ⟨fun x w => ∃ seen, Sh.Holds w0 ([(r, itO G.m G.c seen G.c)] :: base) w ∧ x.1 = (if i = 0 then seenS G.l seen else 0), fun _ w => itM G.l r w, ⟨#[], H, by rw [seen_nil]; simp⟩, ?_⟩
  clear H
  rintro ⟨x, u⟩ w ⟨seen, H, hx⟩
  simp only at hx
  have hmw : itM G.l r w = (leftOf (G.l.map entG).toArray seen).size := itM_h H
  refine mnxtG_h 1 H (by rw [hbase]; rfl) ok.g.born (Nat.le_refl _) (fun hall => ?_) (fun t ht hns hlt w H => ?_)
  · refine ⟨false, [], rfl, ?_⟩
    refine br_f rfl ?_
    rw [hx, seen_all hall, hsum]
    rw [hbase] at H
    exact k _ (shutP H.tail)
  · refine ⟨true, [I t.1, t.2.1], rfl, ?_⟩
    refine br_t rfl ?_
    refine mtryG_h 2 0 H rfl (by rw [hbase]; rfl) ht ok.g ?_
    obtain ⟨q, e, hq⟩ := hval t ht
    have ep : priceG t = q := by unfold priceG; rw [e]; rfl
    refine asT_e [I t.1, t.2.1] rfl rfl ?_
    refine asN_e [I 0, I q] e rfl ?_
    refine asI_h ?_
    refine asI_h ?_
    have hps := seen_push ok.g.stamps ht hns
    have b1 := seen_b (l := G.l) (seen := seen) hpr
    have b2 := seen_b (l := G.l) (seen := seen.push t.2.2) hpr
    refine nw_h H (fun k9 w H => ?_)
    refine stA H rfl (fun w H => ?_)
    refine stA H rfl (fun w H => ?_)
    refine ldA H ?_; refine asI_h ?_
    refine br_s (fun h => ?_) (fun h => ?_)
    · have hi : i = 0 := by have : 0 = i := by simpa using h
                            exact this.symm
      subst hi
      rw [if_pos rfl] at hx
      refine ldA H ?_; refine asI_h ?_
      have w1 : IntKind.wrap .i64 (x + q) = x + q := wrap64 (by omega) (by omega)
      simp only [w1]
      refine ⟨⟨seen.push t.2.2, H.tail, by simp only [if_true]; omega⟩, ?_⟩
      show itM G.l r _ < itM G.l r _
      rw [hmw, itM_h H.tail]; exact hlt
    · have hi : i ≠ 0 := by have : ¬ 0 = i := by simpa using h
                            exact fun e => this e.symm
      rw [if_neg hi] at hx
      refine ⟨⟨seen.push t.2.2, H.tail, by rw [if_neg hi]; exact hx⟩, ?_⟩
      show itM G.l r _ < itM G.l r _
      rw [hmw, itM_h H.tail]; exact hlt
theorem allP_c {w0 w : World} {hs R : List Hp} {K : KV} {G : Pd} (H : Sh.Holds w0 hs w) [D : Del hs G.hp R] (ok : G.Ok) (k : ∀ w', Sh.Holds w0 (G.hp :: R) w' → K (I (tot G.B.R)) w') : gocall Tryz.prog 270 [G.v] K w := by
  replace H := H.get G.hp
  have hb0 := tot_nonneg ok.ok.q1
  have hb1 := ok.ok.all
  have hb2 := ok.ok.most
  have hb3 := ok.ok.t0
  apply F270_go; unfold F270
  refine ⟨fun x w => Sh.Holds w0 (G.hp :: R) w ∧ 0 ≤ x.1 ∧ x.1 ≤ 8 ∧ x.2.1 = (if x.1 = 0 then 0 else tot G.B.R), fun x _ => (8 - x.1).toNat, ⟨H, by simp, by simp, by simp⟩, ?_⟩
  clear H
  rintro ⟨i, n, u⟩ w ⟨H, h0, h1, hn⟩
  simp only at h0 h1 hn
  refine br_s (fun h2 => ?_) (fun h2 => ?_)
  · simp only [decide_eq_true_eq] at h2
    refine allowed_c (G := G) (i := i) H ok (fun w H => ?_)
    refine asI_h ?_
    have w1 : IntKind.wrap .i64 (i + 1) = i + 1 := wrap64 (by omega) (by omega)
    have w2 : IntKind.wrap .i64 (n + (if i = 0 then tot G.B.R else 0)) = tot G.B.R := by
      by_cases hi : i = 0
      · rw [if_pos hi] at hn ⊢; rw [hn, wrap64 (by omega) (by omega)]; omega
      · rw [if_neg hi] at hn ⊢; rw [hn, wrap64 (by omega) (by omega)]; omega
    simp only [w1, w2]
    exact ⟨⟨H, by omega, by omega, by rw [if_neg (by omega)]⟩, by omega⟩
  · simp only [decide_eq_false_iff_not] at h2
    rw [hn, if_neg (by omega)]
    exact k _ H
end Go.Proofs.YtjckakeolmbidaaGreatDoor
