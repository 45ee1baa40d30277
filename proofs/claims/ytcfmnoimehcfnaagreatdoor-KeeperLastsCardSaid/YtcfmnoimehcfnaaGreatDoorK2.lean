/- Contracts of package keeper (goods): votes, kinds, an entry played. Conditions: none. -/
import Derived.Test.YtcfmnoimehcfnaaGreatDoorK1
import Derived.Test.YtcfmnoimehcfnaaGreatDoorC16
import Derived.Test.YtcfmnoimehcfnaaGreatDoorC3
set_option linter.unusedVariables false
set_option maxRecDepth 100000
namespace Go.Proofs.YtcfmnoimehcfnaaGreatDoor
open Go Go.Sh

def vAsk (s : Int) (can : Bool) : Int × Int := if s = 0 then (if can = true then (1, 7) else (3, 8)) else if s = 1 ∨ s = 4 then (s, 7) else if s = 3 ∨ s = 5 then (s, 8) else (s, 0)
def vCom (s : Int) : Int × Int := if s = 1 ∨ s = 2 then (2, 11) else if s = 4 then (s, 11) else if s = 5 then (s, 17) else (s, 0)
def vAbo (s : Int) : Int × Int := if s = 0 ∨ s = 1 ∨ s = 3 then (3, 11) else if s = 5 then (s, 11) else if s = 4 then (s, 17) else (s, 0)
def vTel (s : Int) : Int × Int := if s = 0 ∨ s = 3 then (3, 14) else if s = 2 then (s, 13) else (s, 0)
def vNext (s kind : Int) (can : Bool) : Int × Int := if ¬ (0 ≤ s ∧ s ≤ 5) then (s, 0) else if kind = 6 then vAsk s can else if kind = 9 ∨ kind = 13 then vCom s else if kind = 10 ∨ kind = 14 then vAbo s else if kind = 12 then vTel s else (s, 0)
section
variable {w0 w : World} {hs : List Hp} {K : KV}
theorem vmay_c {s : Int} (H : Sh.Holds w0 hs w) (k : ∀ w', Sh.Holds w0 hs w' → K (.bool (decide (0 ≤ s ∧ s ≤ 5))) w') : gocall Tryz.prog 238 [I s] K w := by
  apply F238_go; unfold F238
  refine br_s (fun h => ?_) (fun h => ?_)
  · have := k w H; simp only [ge_iff_le, decide_eq_true_eq] at h; simpa [h] using this
  · have := k w H; simp only [ge_iff_le, decide_eq_false_iff_not] at h; simpa [h] using this
theorem ask_c {s : Int} {b : Bool} (H : Sh.Holds w0 hs w) (k : ∀ w', Sh.Holds w0 hs w' → K (.tuple #[I (vAsk s b).1, I (vAsk s b).2]) w') : gocall Tryz.prog 239 [I s, .bool b] K w := by
  apply F239_go; unfold F239
  have := k w H
  unfold vAsk at this
  repeat' (refine br_s (fun h => ?_) (fun h => ?_))
  all_goals simp_all
theorem com_c {s : Int} (H : Sh.Holds w0 hs w) (k : ∀ w', Sh.Holds w0 hs w' → K (.tuple #[I (vCom s).1, I (vCom s).2]) w') : gocall Tryz.prog 240 [I s] K w := by
  apply F240_go; unfold F240
  have := k w H
  unfold vCom at this
  repeat' (refine br_s (fun h => ?_) (fun h => ?_))
  all_goals simp_all
theorem abo_c {s : Int} (H : Sh.Holds w0 hs w) (k : ∀ w', Sh.Holds w0 hs w' → K (.tuple #[I (vAbo s).1, I (vAbo s).2]) w') : gocall Tryz.prog 241 [I s] K w := by
  apply F241_go; unfold F241
  have := k w H
  unfold vAbo at this
  repeat' (refine br_s (fun h => ?_) (fun h => ?_))
  all_goals simp_all
theorem tel_c {s : Int} (H : Sh.Holds w0 hs w) (k : ∀ w', Sh.Holds w0 hs w' → K (.tuple #[I (vTel s).1, I (vTel s).2]) w') : gocall Tryz.prog 242 [I s] K w := by
  apply F242_go; unfold F242
  have := k w H
  unfold vTel at this
  repeat' (refine br_s (fun h => ?_) (fun h => ?_))
  all_goals simp_all
theorem next_c {s kind : Int} {b : Bool} (H : Sh.Holds w0 hs w) (k : ∀ w', Sh.Holds w0 hs w' → K (.tuple #[I (vNext s kind b).1, I (vNext s kind b).2]) w') : gocall Tryz.prog 150 [I s, I kind, .bool b] K w := by
  apply F150_go; unfold F150
  unfold vNext at k
  refine vmay_c H (fun w H => ?_)
  refine asBoo_h ?_
  refine br_s (fun h => ?_) (fun h => ?_)
  · have h : ¬ (0 ≤ s ∧ s ≤ 5) := by simp at h; omega
    rw [if_pos h] at k; exact k w H
  have h : ¬ ¬ (0 ≤ s ∧ s ≤ 5) := by simp at h; omega
  rw [if_neg h] at k
  refine br_s (fun h => ?_) (fun h1 => ?_)
  · have h : kind = 6 := by simpa using h
    rw [if_pos h] at k
    refine ask_c H (fun w H => ?_)
    refine asT_e [_, _] rfl rfl ?_
    refine asI_h ?_
    refine asI_h ?_
    exact k w H
  have h1 : kind ≠ 6 := by simpa using h1
  rw [if_neg h1] at k
  refine br_s (fun h => ?_) (fun h2 => ?_)
  · have h : kind = 9 := by simpa using h
    rw [if_pos (.inl h)] at k
    refine com_c H (fun w H => ?_)
    refine asT_e [_, _] rfl rfl ?_
    refine asI_h ?_
    refine asI_h ?_
    exact k w H
  have h2 : kind ≠ 9 := by simpa using h2
  refine br_s (fun h => ?_) (fun h3 => ?_)
  · have h : kind = 13 := by simpa using h
    rw [if_pos (.inr h)] at k
    refine com_c H (fun w H => ?_)
    refine asT_e [_, _] rfl rfl ?_
    refine asI_h ?_
    refine asI_h ?_
    exact k w H
  have h3 : kind ≠ 13 := by simpa using h3
  rw [if_neg (by omega)] at k
  refine br_s (fun h => ?_) (fun h4 => ?_)
  · have h : kind = 10 := by simpa using h
    rw [if_pos (.inl h)] at k
    refine abo_c H (fun w H => ?_)
    refine asT_e [_, _] rfl rfl ?_
    refine asI_h ?_
    refine asI_h ?_
    exact k w H
  have h4 : kind ≠ 10 := by simpa using h4
  refine br_s (fun h => ?_) (fun h5 => ?_)
  · have h : kind = 14 := by simpa using h
    rw [if_pos (.inr h)] at k
    refine abo_c H (fun w H => ?_)
    refine asT_e [_, _] rfl rfl ?_
    refine asI_h ?_
    refine asI_h ?_
    exact k w H
  have h5 : kind ≠ 14 := by simpa using h5
  rw [if_neg (by omega)] at k
  refine br_s (fun h => ?_) (fun h6 => ?_)
  · have h : kind = 12 := by simpa using h
    rw [if_pos h] at k
    refine tel_c H (fun w H => ?_)
    refine asT_e [_, _] rfl rfl ?_
    refine asI_h ?_
    refine asI_h ?_
    exact k w H
  have h6 : kind ≠ 12 := by simpa using h6
  rw [if_neg h6] at k
  exact k w H
def decY (s : Int) : Bool := decide (s = 2 ∨ s = 4)
def decK (s : Int) : Bool := decide (s = 2 ∨ s = 4 ∨ s = 3 ∨ s = 5)
theorem dec_c {s : Int} (H : Sh.Holds w0 hs w) (k : ∀ w', Sh.Holds w0 hs w' → K (.tuple #[.bool (decY s), .bool (decK s)]) w') : gocall Tryz.prog 237 [I s] K w := by
  apply F237_go; unfold F237
  have := k w H
  unfold decY decK at this
  repeat' (refine br_s (fun h => ?_) (fun h => ?_))
  all_goals simp_all
theorem idK_c {x : Int} (H : Sh.Holds w0 hs w) (k : ∀ w', Sh.Holds w0 hs w' → K (.bool (decide (1 ≤ x ∧ x ≤ 999))) w') : gocall Tryz.prog 147 [I x] K w := by
  apply F147_go; unfold F147
  refine br_s (fun h => ?_) (fun h => ?_)
  · have := k w H; simp only [ge_iff_le, decide_eq_true_eq] at h; simpa [h] using this
  · have := k w H; simp only [ge_iff_le, decide_eq_false_iff_not] at h; simpa [h] using this
end
theorem TKS : MapTyG Tryz.prog 265 (.string (B [])) := ⟨⟨_, _, rfl, rfl, fun _ => rfl⟩⟩
theorem TSI : MapTyG Tryz.prog 176 (I 0) := ⟨⟨_, _, rfl, rfl, fun _ => rfl⟩⟩
def kL (x : Int) : List UInt8 := if x = 5 then [102, 110, 111] else if x = 4 then [102, 121, 101, 115] else if x = 3 then [110, 111] else if x = 2 then [121, 101, 115] else if x = 1 then [114, 101, 97, 100, 121] else []
theorem kL_inj {a b : Int} (ha : 1 ≤ a ∧ a ≤ 5) (hb : 1 ≤ b ∧ b ≤ 5) (h : kL a = kL b) : a = b := by
  have ha : a = 1 ∨ a = 2 ∨ a = 3 ∨ a = 4 ∨ a = 5 := by omega
  have hb : b = 1 ∨ b = 2 ∨ b = 3 ∨ b = 4 ∨ b = 5 := by omega
  rcases ha with rfl | rfl | rfl | rfl | rfl <;> rcases hb with rfl | rfl | rfl | rfl | rfl <;> first | rfl | (exact absurd h (by decide))
/-- the map of kinds -/
def KM (l : List TriG) : Prop := ∀ x, getG l x = if 1 ≤ x ∧ x ≤ 5 then some (.string (B (kL x))) else none
theorem kinds_c {w0 w : World} {hs : List Hp} {K : KV} (H : Sh.Holds w0 hs w) (k : ∀ q l c w', GOk l c → KM l → Sh.Holds w0 ([(q, mapG l c)] :: hs) w' → K (.map (some q)) w') : gocall Tryz.prog 236 [] K w := by
  apply F236_go; unfold F236
  refine nw_h H (fun q w H => ?_)
  replace H : Sh.Holds w0 ([(q, mapG [] 0)] :: hs) w := H
  refine msetG_h TKS 0 H rfl (.nil 0) (fun l1 c1 w o1 g1 H => ?_)
  refine msetG_h TKS 0 H rfl o1 (fun l2 c2 w o2 g2 H => ?_)
  refine msetG_h TKS 0 H rfl o2 (fun l3 c3 w o3 g3 H => ?_)
  refine msetG_h TKS 0 H rfl o3 (fun l4 c4 w o4 g4 H => ?_)
  refine msetG_h TKS 0 H rfl o4 (fun l5 c5 w o5 g5 H => ?_)
  refine k q l5 c5 w o5 (fun x => ?_) H
  rw [g5, g4, g3, g2, g1]
  have e0 : getG [] x = none := rfl
  rw [e0]
  unfold kL
  by_cases h5 : x = 5
  · subst h5; rfl
  by_cases h4 : x = 4
  · subst h4; rfl
  by_cases h3 : x = 3
  · subst h3; rfl
  by_cases h2 : x = 2
  · subst h2; rfl
  by_cases h1 : x = 1
  · subst h1; rfl
  rw [if_neg h5, if_neg h4, if_neg h3, if_neg h2, if_neg h1, if_neg (by omega)]
/-- a keeper of goods -/
structure Kp where
  n : Nat
  L : Row
  J : Jr
  G : Gd
  m : Nat
  l : List TriG
  c : Nat
  g : Int
  s : Int → Int
def Kp.hp (S : Kp) : Hp := [(S.n, .cells #[I 1, S.L.v, S.J.v, .iface 196 (.agg #[S.G.v]), .map (some S.m)] 189 (0, 0))] ++ (S.L.hp 3 ++ (S.J.hp ++ (S.G.hp ++ [(S.m, mapG S.l S.c)])))
structure Kp.Ok (S : Kp) : Prop where
  L : S.L.Ok 1 [I S.g]
  j : S.J.Ok
  g : S.G.Ok
  m : GOk S.l S.c
  s : ∀ x, (getG S.l x).getD (I 0) = I (S.s x)
abbrev Kp.v (S : Kp) : Value := .pointer (some ⟨S.n, 0, none⟩)
theorem openK {w0 w : World} {R : List Hp} {S : Kp} (H : Sh.Holds w0 (S.hp :: R) w) : Sh.Holds w0 ([(S.n, .cells #[I 1, S.L.v, S.J.v, .iface 196 (.agg #[S.G.v]), .map (some S.m)] 189 (0, 0))] :: S.L.hp 3 :: S.J.hp :: S.G.hp :: [(S.m, mapG S.l S.c)] :: R) w := H.perm (by simp [Kp.hp])
theorem shutK {w0 w : World} {R : List Hp} {S : Kp} (H : Sh.Holds w0 ([(S.n, .cells #[I 1, S.L.v, S.J.v, .iface 196 (.agg #[S.G.v]), .map (some S.m)] 189 (0, 0))] :: S.L.hp 3 :: S.J.hp :: S.G.hp :: [(S.m, mapG S.l S.c)] :: R) w) : Sh.Holds w0 (S.hp :: R) w := H.perm (by simp [Kp.hp])
section
variable {w0 w : World} {hs R : List Hp} {K : KV}
theorem gtake_c {G : Gd} {id q : Int} (H : Sh.Holds w0 hs w) [D : Del hs G.hp R] (ok : G.Ok)
    (k : ∀ (G' : Gd) w', G'.Ok → G'.b = G.b → G'.B = G.B.take id q → Sh.Holds w0 (G'.hp :: R) w' → K (.bool (G.B.resv id q == 0)) w') : ivk Tryz.prog (.iface 196 (.agg #[G.v])) "wharfinger/keeper.take" [I id, I 0, I q] K w := by
  replace H := H.get G.hp
  refine ivk_h (f := 388) (rcv := .agg #[G.v]) (by kernel_rfl) ?_
  apply F388_go; unfold F388
  refine nw_h H (fun k1 w H => ?_)
  refine ldA H ?_; refine asPtr_h ?_
  refine Reserve_c H ok (fun G' w h1 h2 h3 H => ?_)
  refine asI_h ?_
  exact k G' w h1 h2 h3 H.re
theorem ggives_c {G : Gd} {id : Int} (H : Sh.Holds w0 hs w) [D : Del hs G.hp R] (ok : G.Ok)
    (k : ∀ (G' : Gd) w', G'.Ok → G'.b = G.b → G'.B = G.B.gives id → Sh.Holds w0 (G'.hp :: R) w' → K (.tuple #[]) w') : ivk Tryz.prog (.iface 196 (.agg #[G.v])) "wharfinger/keeper.gives" [I id] K w := by
  replace H := H.get G.hp
  refine ivk_h (f := 386) (rcv := .agg #[G.v]) (by kernel_rfl) ?_
  apply F386_go; unfold F386
  refine nw_h H (fun k1 w H => ?_)
  refine ldA H ?_; refine asPtr_h ?_
  refine Commit_c H ok (fun e G' w h1 h2 h3 H => ?_)
  refine asI_h ?_
  exact k G' w h1 h2 h3 H.re
theorem glets_c {G : Gd} {id : Int} (H : Sh.Holds w0 hs w) [D : Del hs G.hp R] (ok : G.Ok)
    (k : ∀ (G' : Gd) w', G'.Ok → G'.b = G.b → G'.B = G.B.lets id → Sh.Holds w0 (G'.hp :: R) w' → K (.tuple #[]) w') : ivk Tryz.prog (.iface 196 (.agg #[G.v])) "wharfinger/keeper.lets" [I id] K w := by
  replace H := H.get G.hp
  refine ivk_h (f := 387) (rcv := .agg #[G.v]) (by kernel_rfl) ?_
  apply F387_go; unfold F387
  refine nw_h H (fun k1 w H => ?_)
  refine ldA H ?_; refine asPtr_h ?_
  refine Release_c H ok (fun e G' w h1 h2 h3 H => ?_)
  refine asI_h ?_
  exact k G' w h1 h2 h3 H.re
end
def GB.play (B : GB) (st id : Int) (ns : List Int) : GB := if st = 1 then B.take id (ns.getD 1 0) else if decY st = true then B.gives id else B.lets id
theorem nodup_inj {α β : Type} {f : α → β} : ∀ {l : List α}, (l.map f).Nodup → ∀ {a b : α}, a ∈ l → b ∈ l → f a = f b → a = b
  | [], _, a, b, ha, _, _ => by simp at ha
  | x :: l, h, a, b, ha, hb, e => by
    simp only [List.map_cons, List.nodup_cons] at h
    rcases List.mem_cons.1 ha with e1 | ha'
    · rcases List.mem_cons.1 hb with e2 | hb'
      · rw [e1, e2]
      · exact absurd (by rw [← e1, e]; exact List.mem_map_of_mem hb') h.1
    · rcases List.mem_cons.1 hb with e2 | hb'
      · exact absurd (by rw [← e2, ← e]; exact List.mem_map_of_mem ha') h.1
      · exact nodup_inj h.2 ha' hb' e
def itM (l : List TriG) (r : Nat) (w : World) : Nat := match w.heap[r]? with | some (.mapIter _ _ seen _) => (leftOf (l.map entG).toArray seen).size | _ => 0
theorem itM_h {w0 w : World} {hs : List Hp} {l : List TriG} {r m since c : Nat} {seen : Array Nat} (H : Sh.Holds w0 ([(r, itO m since seen c)] :: hs) w) : itM l r w = (leftOf (l.map entG).toArray seen).size := by
  unfold itM; rw [H.mem 0 rfl]; rfl
set_option maxHeartbeats 2000000 in
theorem playsK_c {w0 w : World} {hs R : List Hp} {K : KV} {S : Kp} {st id : Int} {ns : List Int} {p : Option Addr} {n c : Nat} (H : Sh.Holds w0 hs w) [D : Del hs S.hp R] (ok : S.Ok) (hst : 1 ≤ st ∧ st ≤ 5) (hsl : Sl (Sh.Holds w0 R) p n 1 (ns.map I))
    (hns : (st = 1 ∧ ∃ q, ns = [0, q]) ∨ (st ≠ 1 ∧ ns = []))
    (k : ∀ (S' : Kp) w', S'.Ok → S'.n = S.n → S'.J = S.J → S'.L = S.L → S'.g = S.g → S'.G.B = S.G.B.play st id ns → (∀ x, S'.s x = if x = id then st else S.s x) → Sh.Holds w0 (S'.hp :: R) w' → K (.tuple #[]) w') :
    gocall Tryz.prog 145 [S.v, .agg #[.string (B (kL st)), I id, .slice p n c]] K w := by
  replace H := openK (H.get S.hp)
  apply F145_go; unfold F145
  refine nw_h H (fun k6 w H => ?_)
  refine kinds_c H (fun q lk ck w okk hkm H => ?_)
  refine asMap_h ?_
  refine mrngG_h (t := 265) rfl 0 H rfl (fun r w H => ?_)
  obtain ⟨base, hbase⟩ : ∃ base : List Hp, base = [(q, mapG lk ck)] :: [(k6, .cells #[.string (B (kL st)), I id, .slice p n c] 139 (0, 0))] :: [(S.n, .cells #[I 1, S.L.v, S.J.v, .iface 196 (.agg #[S.G.v]), .map (some S.m)] 189 (0, 0))] :: S.L.hp 3 :: S.J.hp :: S.G.hp :: [(S.m, mapG S.l S.c)] :: R := ⟨_, rfl⟩
  rw [← hbase] at H
  refine ⟨fun _ w => ∃ seen, Sh.Holds w0 ([(r, itO q ck seen ck)] :: base) w ∧ ∀ t ∈ lk, seen.contains t.2.2 = true → t.2.1 ≠ .string (B (kL st)), fun _ w => itM lk r w, ⟨#[], H, fun t _ h => by simp at h⟩, ?_⟩
  clear H
  rintro u w ⟨seen, H, hseen⟩
  have hmw : itM lk r w = (leftOf (lk.map entG).toArray seen).size := itM_h H
  refine mnxtG_h 0 H (by rw [hbase]; rfl) okk.born (Nat.le_refl _) (fun hall => ?_) (fun t ht hns2 hlt w H => ?_)
  · exfalso
    have h1 := hkm st
    rw [if_pos hst] at h1
    obtain ⟨t, ht, e1, e2⟩ := getG_mem h1
    exact hseen t ht (hall t ht) e2
  · refine ⟨true, [I t.1, t.2.1], rfl, ?_⟩
    refine br_t rfl ?_
    refine mtryG_h 1 0 H rfl (by rw [hbase]; rfl) ht okk ?_
    refine asT_e [I t.1, t.2.1] rfl rfl ?_
    refine asI_h ?_
    have h1 := hkm t.1
    rw [getG_of okk.keys ht] at h1
    have ht1 : 1 ≤ t.1 ∧ t.1 ≤ 5 := by
      by_cases h : 1 ≤ t.1 ∧ t.1 ≤ 5
      · exact h
      · rw [if_neg h] at h1; cases h1
    rw [if_pos ht1] at h1
    have htv : t.2.1 = .string (B (kL t.1)) := Option.some.inj h1
    refine asStr_e (b := B (kL t.1)) htv ?_
    have H9 := H
    rw [hbase] at H
    refine ldA H ?_; refine asStr_h ?_
    rw [strEq_B]
    refine br_s (fun h => ?_) (fun h => ?_)
    · have hne : kL t.1 ≠ kL st := by simpa using h
      refine ⟨⟨seen.push t.2.2, H9, fun t' ht' hc => ?_⟩, by show itM lk r _ < itM lk r _; rw [hmw, itM_h H9]; exact hlt⟩
      rw [Array.contains_push] at hc
      rw [Bool.or_eq_true] at hc
      rcases hc.symm with hc | hc
      · have e : t'.2.2 = t.2.2 := by simpa using hc
        have := nodup_inj okk.stamps ht' ht e
        subst this
        rw [htv]
        intro e
        simp only [Value.string.injEq, ByteArray.mk.injEq] at e
        exact hne (by simpa using e)
      · exact hseen t' ht' hc
    · have heq : kL t.1 = kL st := by simpa using h
      have e := kL_inj ht1 hst heq
      rw [e]
      replace H := H.tail.tail
      -- what comes last
      have fin : ∀ (G' : Gd) w, G'.Ok → G'.b = S.G.b → G'.B = S.G.B.play st id ns → Sh.Holds w0 (G'.hp :: [(k6, .cells #[.string (B (kL st)), I id, .slice p n c] 139 (0, 0))] :: [(S.n, .cells #[I 1, S.L.v, S.J.v, .iface 196 (.agg #[S.G.v]), .map (some S.m)] 189 (0, 0))] :: S.L.hp 3 :: S.J.hp :: [(S.m, mapG S.l S.c)] :: R) w →
          nn (some ⟨S.n, 0, none⟩) (fun a w => ld ⟨a.block, a.off + 4, none⟩ (fun v w => asMap v (fun m w => ld ⟨k6, 1, none⟩ (fun v w => asI .i64 v (fun x w => mset .full Tryz.prog 176 (.map m) (I x) (I st) (fun w => K (.tuple #[]) w) w) w) w) w) w) w := by
        intro G' w g1 g2 g3 H
        refine nn_h ?_
        refine ldA H ?_; refine asMap_h ?_
        refine ldA H ?_; refine asI_h ?_
        refine msetG_h TSI 5 H rfl ok.m (fun l' c' w o1 o2 H => ?_)
        refine k ⟨S.n, S.L, S.J, G', S.m, l', c', S.g, fun x => if x = id then st else S.s x⟩ w ⟨ok.L, ok.j, g1, o1, fun x => ?_⟩ rfl rfl rfl rfl g3 (fun x => rfl) (shutK (S := ⟨S.n, S.L, S.J, G', S.m, l', c', S.g, fun x => if x = id then st else S.s x⟩) ?_)
        · rw [o2]
          by_cases hx : x = id
          · simp only [if_pos hx]; rfl
          · simp only [if_neg hx]; exact ok.s x
        · have ev : S.G.v = G'.v := by rw [Gd.v, Gd.v, g2]
          rw [ev] at H
          have H' : Sh.Holds w0 (G'.hp :: [(k6, .cells #[.string (B (kL st)), I id, .slice p n c] 139 (0, 0))] :: [(S.n, .cells #[I 1, S.L.v, S.J.v, .iface 196 (.agg #[G'.v]), .map (some S.m)] 189 (0, 0))] :: S.L.hp 3 :: S.J.hp :: [(S.m, mapG l' c')] :: R) w := H
          exact H'.re
      have hcase : st = 1 ∨ (st = 2 ∨ st = 4) ∨ (st = 3 ∨ st = 5) := by omega
      rcases hcase with h1 | h1 | h1
      · rcases hns with ⟨-, q2, hq⟩ | ⟨h, -⟩
        · subst h1
          subst hq
          have hn : n = 2 := by have := hsl.len; simpa using this.symm
          subst hn
          refine br_t rfl ?_
          refine ldA H ?_; refine asSl_h ?_
          refine br_t rfl ?_
          replace H := H.drew
          refine nn_h ?_
          refine ldA H ?_
          refine ldA H ?_; refine asI_h ?_
          refine ldA H ?_; refine asSl_h ?_
          have hR : ∀ {w : World}, Sh.Holds w0 ([(k6, .cells #[.string (B (kL 1)), I id, .slice p 2 c] 139 (0, 0))] :: [(S.n, .cells #[I 1, S.L.v, S.J.v, .iface 196 (.agg #[S.G.v]), .map (some S.m)] 189 (0, 0))] :: S.L.hp 3 :: S.J.hp :: S.G.hp :: [(S.m, mapG S.l S.c)] :: R) w → Sh.Holds w0 R w := fun H => H.tail.tail.tail.tail.tail.tail
          refine slAt_s hsl (by omega) (by omega) (fun bb o hp => ?_)
          refine ldS_s hsl hp (hR H) (v := I 0) rfl ?_
          refine asI_h ?_
          refine ldA H ?_; refine asSl_h ?_
          refine slAt_s hsl (by omega) (by omega) (fun bb o hp => ?_)
          refine ldS_s hsl hp (hR H) (v := I q2) rfl ?_
          refine asI_h ?_
          refine ⟨⟨_, _, rfl⟩, ?_⟩
          refine gtake_c H ok.g (fun G' w g1 g2 g3 H => ?_)
          refine asBoo_h ?_
          refine dec_c H (fun w H => ?_)
          refine asT_e [.bool (decY 1), .bool (decK 1)] rfl rfl ?_
          refine asBoo_h ?_
          refine asBoo_h ?_
          refine br_f rfl ?_
          refine br_f rfl ?_
          exact fin G' _ g1 g2 g3 H.drew
        · exact absurd h1 h
      · refine br_f (by simp; omega) ?_
        refine dec_c H (fun w H => ?_)
        refine asT_e [.bool (decY st), .bool (decK st)] rfl rfl ?_
        refine asBoo_h ?_
        refine asBoo_h ?_
        have hy : decY st = true := by simp only [decY, decide_eq_true_eq]; omega
        refine br_t (by simp only [decK, decide_eq_true_eq]; omega) ?_
        refine br_t hy ?_
        replace H := H.drew
        refine nn_h ?_
        refine ldA H ?_
        refine ldA H ?_; refine asI_h ?_
        refine ggives_c H ok.g (fun G' w g1 g2 g3 H => ?_)
        refine asT_e [] rfl rfl ?_
        exact fin G' _ g1 g2 (by rw [g3]; unfold GB.play; rw [if_neg (by omega), if_pos hy]) H.drew
      · refine br_f (by simp; omega) ?_
        refine dec_c H (fun w H => ?_)
        refine asT_e [.bool (decY st), .bool (decK st)] rfl rfl ?_
        refine asBoo_h ?_
        refine asBoo_h ?_
        have hy : ¬ decY st = true := by simp only [decY, decide_eq_true_eq]; omega
        have hk : decK st = true := by simp only [decK, decide_eq_true_eq]; omega
        refine br_t hk ?_
        refine br_f (by simpa using hy) ?_
        refine br_t hk ?_
        replace H := H.drew
        refine nn_h ?_
        refine ldA H ?_
        refine ldA H ?_; refine asI_h ?_
        refine glets_c H ok.g (fun G' w g1 g2 g3 H => ?_)
        refine asT_e [] rfl rfl ?_
        exact fin G' _ g1 g2 (by rw [g3]; unfold GB.play; rw [if_neg (by omega), if_neg hy]) H.drew
end Go.Proofs.YtcfmnoimehcfnaaGreatDoor
