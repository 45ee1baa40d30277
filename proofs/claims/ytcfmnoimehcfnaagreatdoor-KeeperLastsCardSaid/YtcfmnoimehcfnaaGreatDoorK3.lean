/- Contracts of package keeper (goods): notes, can, Handle. Conditions: none. -/
import Derived.Test.YtcfmnoimehcfnaaGreatDoorK2
import Derived.Test.YtcfmnoimehcfnaaGreatDoorJ7
import Derived.Test.YtcfmnoimehcfnaaGreatDoorC9
import Derived.Test.YtcfmnoimehcfnaaGreatDoorAu
set_option linter.unusedVariables false
set_option maxRecDepth 100000
namespace Go.Proofs.YtcfmnoimehcfnaaGreatDoor
open Go Go.Sh

structure KE where
  st : Int
  id : Int
  ns : List Int
def KE.en (e : KE) : En := ⟨kL e.st, e.id, e.ns⟩
def KE.wf (e : KE) : Prop := (1 ≤ e.st ∧ e.st ≤ 5) ∧ (1 ≤ e.id ∧ e.id ≤ 999) ∧ ((e.st = 1 ∧ ∃ q, e.ns = [0, q] ∧ 0 ≤ q ∧ q ≤ 1000000000) ∨ (e.st ≠ 1 ∧ e.ns = []))
theorem named_kL {st : Int} (h : 1 ≤ st ∧ st ≤ 5) : namedB (B (kL st)) = true := by
  have h1 : namedB (B (kL 1)) = true := by kernel_rfl
  have h2 : namedB (B (kL 2)) = true := by kernel_rfl
  have h3 : namedB (B (kL 3)) = true := by kernel_rfl
  have h4 : namedB (B (kL 4)) = true := by kernel_rfl
  have h5 : namedB (B (kL 5)) = true := by kernel_rfl
  have h : st = 1 ∨ st = 2 ∨ st = 3 ∨ st = 4 ∨ st = 5 := by omega
  rcases h with rfl | rfl | rfl | rfl | rfl <;> assumption
theorem KE.wf.may {e : KE} (h : e.wf) : mayN e.en = true := by
  obtain ⟨h1, h2, h3⟩ := h
  show mayE (B (kL e.st)) e.id e.ns = true
  refine may_k (named_kL h1) (by omega) h2.2 ?_ (fun x hx => ?_)
  · rcases h3 with ⟨-, q, hq, -⟩ | ⟨-, hq⟩ <;> rw [hq] <;> simp
  · rcases h3 with ⟨-, q, hq, hb⟩ | ⟨-, hq⟩
    · rw [hq] at hx; simp at hx; omega
    · rw [hq] at hx; simp at hx
structure KA where
  B : GB
  s : Int → Int
def KA.step (A : KA) (e : KE) : KA := ⟨A.B.play e.st e.id e.ns, fun x => if x = e.id then e.st else A.s x⟩
def KA.zero (g : Int) : KA := ⟨⟨clampB g, []⟩, fun _ => 0⟩
def KA.run (g : Int) (es : List KE) : KA := es.foldl KA.step (KA.zero g)
theorem KA.run_add (g : Int) (es : List KE) (e : KE) : KA.run g (es ++ [e]) = (KA.run g es).step e := by simp [KA.run]
structure Kp.Is (S : Kp) (A : KA) : Prop where
  B : S.G.B = A.B
  s : ∀ x, S.s x = A.s x
structure KpIs (S : Kp) (es : List KE) (down : Bool) : Prop where
  ok : S.Ok
  lines : S.J.lines = (es.map KE.en).map LB
  wf : ∀ e ∈ es, e.wf
  sure : S.J.sure = es.length
  dn : S.J.down = down
  len : es.length ≤ 4096
  is : S.Is (if down = true then KA.zero S.g else KA.run S.g es)
theorem KpIs.n {S : Kp} {es : List KE} {d : Bool} (h : KpIs S es d) : S.J.lines.length = es.length := by rw [h.lines]; simp
theorem KpIs.up {S : Kp} {es : List KE} (h : KpIs S es false) : S.Is (KA.run S.g es) := by have := h.is; simpa using this
theorem KpIs.may {S : Kp} {es : List KE} {d : Bool} (h : KpIs S es d) : ∀ e ∈ es.map KE.en, mayN e = true := fun e he => by
  obtain ⟨x, hx, rfl⟩ := List.mem_map.1 he
  exact (h.wf x hx).may
structure KpC (S S' : Kp) : Prop where
  n : S'.n = S.n
  room : S'.J.room = S.J.room
  g : S'.g = S.g
theorem KpC.rfl' (S : Kp) : KpC S S := ⟨rfl, rfl, rfl⟩
section
variable {w0 w : World} {hs R : List Hp} {K : KV}
theorem downK_c {S : Kp} (H : Sh.Holds w0 hs w) [D : Del hs S.hp R] (k : ∀ w', Sh.Holds w0 (S.hp :: R) w' → K (.bool S.J.down) w') : gocall Tryz.prog 76 [S.v] K w := by
  replace H := openK (H.get S.hp)
  apply F76_go; unfold F76
  refine br_t rfl ?_
  refine nn_h ?_
  refine ldA H ?_; refine asPtr_h ?_
  refine downJ_c (J := S.J) 2 H rfl (fun w H => ?_)
  refine asBoo_h ?_
  exact k _ (shutK H)
theorem stateK_c {S : Kp} {x : Int} (H : Sh.Holds w0 hs w) [D : Del hs S.hp R] (ok : S.Ok) (k : ∀ w', Sh.Holds w0 (S.hp :: R) w' → K (I (S.s x)) w') : gocall Tryz.prog 57 [S.v, I x] K w := by
  replace H := openK (H.get S.hp)
  apply F57_go; unfold F57
  refine br_f rfl ?_
  refine nn_h ?_
  refine ldA H ?_; refine asMap_h ?_
  refine mgetG_h TSI 4 H rfl ?_
  rw [ok.s]
  refine asI_h ?_
  exact k _ (shutK H)
theorem otherK_c {S : Kp} (H : Sh.Holds w0 hs w) [D : Del hs S.hp R] (k : ∀ w', Sh.Holds w0 (S.hp :: R) w' → K (I 2) w') : gocall Tryz.prog 146 [S.v] K w := by
  replace H := openK (H.get S.hp)
  apply F146_go; unfold F146
  refine nn_h ?_
  refine ldA H ?_; refine asI_h ?_
  have e : IntKind.i64.wrap (3 - 1) = 2 := by decide
  rw [e]
  exact k _ (shutK H)
theorem goodsK_c {S : Kp} (H : Sh.Holds w0 hs w) [D : Del hs S.hp R] (k : ∀ w', Sh.Holds w0 (S.hp :: R) w' → K S.G.v w') : gocall Tryz.prog 63 [S.v] K w := by
  replace H := openK (H.get S.hp)
  apply F63_go; unfold F63
  refine br_f rfl ?_
  refine nn_h ?_
  refine ldA H ?_
  refine ⟨.tuple #[.agg #[S.G.v], .bool true], w, rfl, fun _ => rfl, ?_⟩
  refine asT_e [.agg #[S.G.v], .bool true] rfl rfl ?_
  refine asN_e [S.G.v] rfl rfl ?_
  refine asPtr_h ?_
  refine asBoo_h ?_
  refine nw_h H (fun k1 w H => ?_)
  refine stA H rfl (fun w H => ?_)
  refine ldA H ?_; refine asPtr_h ?_
  exact k _ (shutK H.tail)
end
theorem note_addB {S : Kp} {es : List KE} (I0 : KpIs S es false) {e : KE} (h : e.wf) : addB S.J (B (kL e.st)) e.id e.ns = if (es.length : Int) < S.J.room then 0 else 5 := by
  unfold addB
  have hm : mayE (B (kL e.st)) e.id e.ns = true := h.may
  rw [if_neg (by simp [I0.dn]), if_pos hm, I0.n]
  by_cases hr : (es.length : Int) < S.J.room
  · rw [if_pos hr, if_neg (by omega)]
  · rw [if_neg hr, if_pos (by omega)]
set_option maxHeartbeats 1000000 in
theorem notesK_c {w0 w : World} {hs R : List Hp} {K : KV} {S : Kp} {es : List KE} {e : KE} {p : Option Addr} {n c : Nat} (T : Tab w0) (H : Sh.Holds w0 hs w) [D : Del hs S.hp R] (I0 : KpIs S es false) (hwf : e.wf) (hsl : Sl (Sh.Holds w0 R) p n 1 (e.ns.map I))
    (k0 : ¬ (es.length : Int) < S.J.room → ∀ w', Sh.Holds w0 (S.hp :: R) w' → K (.bool false) w')
    (k1 : (es.length : Int) < S.J.room → ∀ (S' : Kp) w', KpIs S' (es ++ [e]) false → KpC S S' → Sh.Holds w0 (S'.hp :: R) w' → K (.bool true) w') :
    gocall Tryz.prog 149 [S.v, I e.id, I e.st, .slice p n c] K w := by
  replace H := openK (H.get S.hp)
  apply F149_go; unfold F149
  refine kinds_c H (fun q lk ck w okk hkm H => ?_)
  refine asMap_h ?_
  refine mgetG_h TKS 0 H rfl ?_
  rw [hkm e.st, if_pos hwf.1]
  refine asStr_e (b := B (kL e.st)) rfl ?_
  replace H := H.tail
  refine nw_h H (fun k1' w H => ?_)
  refine stA H rfl (fun w H => ?_)
  refine stA H rfl (fun w H => ?_)
  refine stA H rfl (fun w H => ?_)
  replace H := H.drew
  refine nn_h ?_
  refine ldA H ?_; refine asPtr_h ?_
  refine ldA H ?_; refine asStr_h ?_
  refine ldA H ?_; refine asI_h ?_
  refine ldA H ?_; refine asSl_h ?_
  have hadd := note_addB I0 hwf
  have hroom := I0.ok.j.room
  refine add_c (J := S.J) (s := B (kL e.st)) (id := e.id) (l := e.ns) T 3 H rfl I0.ok.j (by
    have h : e.st = 1 ∨ e.st = 2 ∨ e.st = 3 ∨ e.st = 4 ∨ e.st = 5 := by have := hwf.1; omega
    rcases h with h | h | h | h | h <;> rw [h] <;> decide) hsl.re (fun J w hJ hJ0 okJ H => ?_)
  rw [hadd] at hJ hJ0
  refine asI_h ?_
  rw [hadd]
  by_cases hr : (es.length : Int) < S.J.room
  · rw [if_pos hr, if_pos rfl] at hJ
    rw [if_pos hr]
    refine br_f rfl ?_
    have ej : S.J.v = J.v := by rw [hJ]
    have H : Sh.Holds w0 ([(k1', .cells #[.string (B (kL e.st)), I e.id, .slice p n c] 139 (0, 0))] :: [(S.n, .cells #[I 1, S.L.v, S.J.v, .iface 196 (.agg #[S.G.v]), .map (some S.m)] 189 (0, 0))] :: S.L.hp 3 :: J.hp :: S.G.hp :: [(S.m, mapG S.l S.c)] :: R) w := H
    rw [ej] at H
    refine nn_h ?_
    refine ldA H ?_; refine asPtr_h ?_
    refine sync_c (J := J) 3 H rfl okJ (by rw [hJ]; exact I0.dn) (fun J2 w hJ2 okJ2 H => ?_)
    have ej2 : J.v = J2.v := by rw [hJ2]
    have H : Sh.Holds w0 ([(k1', .cells #[.string (B (kL e.st)), I e.id, .slice p n c] 139 (0, 0))] :: [(S.n, .cells #[I 1, S.L.v, J.v, .iface 196 (.agg #[S.G.v]), .map (some S.m)] 189 (0, 0))] :: S.L.hp 3 :: J2.hp :: S.G.hp :: [(S.m, mapG S.l S.c)] :: R) w := H
    rw [ej2] at H
    refine asI_h ?_
    refine ldA H ?_; refine asStr_h ?_
    refine ldA H ?_; refine asI_h ?_
    refine ldA H ?_; refine asSl_h ?_
    replace H := shutK (S := ⟨S.n, S.L, J2, S.G, S.m, S.l, S.c, S.g, S.s⟩) H.tail
    have hw3 := hwf.2.2
    have hw1 := hwf.1
    refine playsK_c (S := ⟨S.n, S.L, J2, S.G, S.m, S.l, S.c, S.g, S.s⟩) H ⟨I0.ok.L, okJ2, I0.ok.g, I0.ok.m, I0.ok.s⟩ hw1 hsl (by
      rcases hw3 with ⟨h, q, hq, -⟩ | h
      · exact .inl ⟨h, q, hq⟩
      · exact .inr h) (fun S' w o e1 e2 e3 e4 e5 e6 H => ?_)
    refine asT_e [] rfl rfl ?_
    have u := I0.up
    have eJ : S'.J = J2 := e2
    have l1 : J.lines = S.J.lines ++ [lineE (B (kL e.st)) e.id e.ns] := by rw [hJ]
    refine k1 hr S' w ⟨o, ?_, fun x hx => ?_, ?_, ?_, ?_, ?_⟩ ⟨e1, by rw [eJ, hJ2, hJ], e4⟩ H
    · rw [eJ, hJ2]
      show J.lines = _
      rw [l1, I0.lines, List.map_append, List.map_append, show lineE (B (kL e.st)) e.id e.ns = LB e.en from lineE_B e.en]; rfl
    · rcases List.mem_append.1 hx with hx | hx
      · exact I0.wf x hx
      · simp only [List.mem_singleton] at hx; subst hx; exact hwf
    · rw [eJ, hJ2]
      show (J.lines.length : Int) = _
      rw [l1, List.length_append, I0.n]; simp
    · rw [eJ, hJ2, hJ]; exact I0.dn
    · simp; omega
    · simp only [Bool.false_eq_true, if_false]
      rw [e4, KA.run_add]
      refine ⟨?_, fun x => ?_⟩
      · rw [e5]
        show S.G.B.play e.st e.id e.ns = _
        rw [u.B]; rfl
      · rw [e6]
        show (if x = e.id then e.st else S.s x) = _
        rw [u.s]; rfl
  · rw [if_neg hr]
    have hJ1 : J = S.J := hJ0 (by rw [if_neg hr]; omega)
    refine br_t rfl ?_
    refine k0 hr w (shutK ?_)
    rw [hJ1] at H
    exact Holds.tail H
def canB (A : KA) (kind id q : Int) : Bool := decide (kind = 6) && (decide (A.s id = 0) && decide (A.B.resv id q = 0))
theorem take_lets {B : GB} {id q : Int} (h : B.resv id q = 0) : (B.take id q).lets id = B := by
  unfold GB.take
  rw [if_pos h]
  unfold GB.resv at h
  split at h
  · simp at h
  · split at h
    · simp at h
    · rename_i hn
      have hq : qOf B.R id = none := by
        cases hq : qOf B.R id with
        | none => rfl
        | some v => rw [hq] at hn; simp at hn
      unfold GB.lets
      simp only [qOf, if_pos, Option.getD_some]
      have e1 : outR ((id, q) :: B.R) id = B.R := by
        have : outR ((id, q) :: B.R) id = outR B.R id := by simp [outR]
        rw [this, out_none (qOf_none hq)]
      rw [e1, show B.f - q + q = B.f by omega]
theorem canK_c {w0 w : World} {hs R : List Hp} {K : KV} {S : Kp} {es : List KE} {kind frm to id step a b : Int} (H : Sh.Holds w0 hs w) [D : Del hs S.hp R] (I0 : KpIs S es false) (ha : kind = 6 → a = 0)
    (k : ∀ (S' : Kp) w', KpIs S' es false → KpC S S' → S'.J = S.J → Sh.Holds w0 (S'.hp :: R) w' → K (.bool (canB (KA.run S.g es) kind id b)) w') :
    gocall Tryz.prog 151 [S.v, msgV kind frm to id step a b] K w := by
  replace H := openK (H.get S.hp)
  have u := I0.up
  apply F151_go; unfold F151
  refine nw_h H (fun k8 w H => ?_)
  replace H := H.drew
  refine ldA H ?_; refine asI_h ?_
  refine br_s (fun h1 => ?_) (fun h1 => ?_)
  · have h1 : kind = 6 := by simpa using h1
    have ha := ha h1
    subst ha
    refine nn_h ?_
    refine ldA H ?_; refine asMap_h ?_
    refine ldA H ?_; refine asI_h ?_
    refine mgetG_h TSI 5 H rfl ?_
    rw [I0.ok.s, u.s]
    refine asI_h ?_
    refine br_s (fun h2 => ?_) (fun h2 => ?_)
    · have h2 : (KA.run S.g es).s id = 0 := by simpa using h2
      refine nn_h ?_
      refine ldA H ?_
      refine ldA H ?_; refine asI_h ?_
      refine ldA H ?_; refine asI_h ?_
      refine ldA H ?_; refine asI_h ?_
      refine gtake_c H I0.ok.g (fun G' w g1 g2 g3 H => ?_)
      refine asBoo_h ?_
      refine br_s (fun h3 => ?_) (fun h3 => ?_)
      · have h3' : S.G.B.resv id b = 0 := by simpa using h3
        replace H := H.drew
        have ev : S.G.v = G'.v := by rw [Gd.v, Gd.v, g2]
        rw [ev] at H
        refine nn_h ?_
        refine ldA H ?_
        refine ldA H ?_; refine asI_h ?_
        refine glets_c H g1 (fun G2 w j1 j2 j3 H => ?_)
        refine asT_e [] rfl rfl ?_
        have ev2 : G'.v = G2.v := by rw [Gd.v, Gd.v, j2]
        rw [ev2] at H
        have eB : G2.B = S.G.B := by rw [j3, g3, take_lets h3']
        have := k ⟨S.n, S.L, S.J, G2, S.m, S.l, S.c, S.g, S.s⟩ w ⟨⟨I0.ok.L, I0.ok.j, j1, I0.ok.m, I0.ok.s⟩, I0.lines, I0.wf, I0.sure, I0.dn, I0.len, by simp only [Bool.false_eq_true, if_false]; exact ⟨by show G2.B = _; rw [eB]; exact u.B, u.s⟩⟩ ⟨rfl, rfl, rfl⟩ rfl (shutK (S := ⟨S.n, S.L, S.J, G2, S.m, S.l, S.c, S.g, S.s⟩) H.re)
        have ec : canB (KA.run S.g es) kind id b = true := by unfold canB; rw [← u.B]; simp [h1, h2, h3']
        rw [ec] at this
        rw [h3]; exact this
      · have h3' : S.G.B.resv id b ≠ 0 := by simpa using h3
        have ev : S.G.v = G'.v := by rw [Gd.v, Gd.v, g2]
        rw [ev] at H
        have eB : G'.B = S.G.B := by rw [g3]; unfold GB.take; rw [if_neg h3']
        have := k ⟨S.n, S.L, S.J, G', S.m, S.l, S.c, S.g, S.s⟩ w ⟨⟨I0.ok.L, I0.ok.j, g1, I0.ok.m, I0.ok.s⟩, I0.lines, I0.wf, I0.sure, I0.dn, I0.len, by simp only [Bool.false_eq_true, if_false]; exact ⟨by show G'.B = _; rw [eB]; exact u.B, u.s⟩⟩ ⟨rfl, rfl, rfl⟩ rfl (shutK (S := ⟨S.n, S.L, S.J, G', S.m, S.l, S.c, S.g, S.s⟩) H.re)
        have ec : canB (KA.run S.g es) kind id b = false := by unfold canB; rw [← u.B]; simp [h3']
        rw [ec] at this
        rw [h3]; exact this
    · have h2 : (KA.run S.g es).s id ≠ 0 := by simpa using h2
      have := k S _ I0 (.rfl' S) rfl (shutK H.tail)
      have ec : canB (KA.run S.g es) kind id b = false := by unfold canB; simp [h2]
      rwa [ec] at this
  · have h1 : kind ≠ 6 := by simpa using h1
    have := k S _ I0 (.rfl' S) rfl (shutK H.tail)
    have ec : canB (KA.run S.g es) kind id b = false := by unfold canB; simp [h1]
    rwa [ec] at this
end Go.Proofs.YtcfmnoimehcfnaaGreatDoor
