/- Contracts of the reference's service. Conditions: none. -/
import Derived.Test.YtcfmnoimehcfnaaGreatDoorR6
set_option linter.unusedVariables false
set_option linter.unusedSimpArgs false
set_option maxRecDepth 100000
namespace Go.Sh
open Go Go.RowKit
theorem stNp_h {w0 w : World} {hs : List Hp} {k n : Nat} {pre old vs : List Value} {e : TypeId} {K : World → Prop} (H : Holds w0 ([(k, .cells (pre ++ old).toArray e (0, 0))] :: hs) w) (h1 : old.length = n) (h2 : vs.length = n) (h3 : vs.all (·.oneCell') = true)
    (hk : ∀ w', Holds w0 ([(k, .cells (pre ++ vs).toArray e (0, 0))] :: hs) w' → K w') : stN ⟨k, pre.length, none⟩ n vs.toArray K w := by
  refine ⟨by simpa using h2, rfl, fun j hj => ?_, by simpa using h3, hk _ ?_⟩
  · have hm := H.mem 0 rfl
    refine ⟨?_, by simp [World.frozen?, hm]⟩
    have : pre.length + j < (pre ++ old).length := by rw [List.length_append]; omega
    simp [World.cell?, hm, h1, hj]
  · exact setCells_holds vs pre old (by omega) h3 H
end Go.Sh
namespace Go.Proofs.YtcfmnoimehcfnaaGreatDoor
open Go Go.Sh

structure Rv where
  n : Nat
  node : Int
  hold : Int
  J : Rj
  B : Rh
  ss : List Int
def Rv.cs (M : Rv) : Hp := [(M.n, .cells (I M.node :: I M.hold :: M.J.v :: M.B.v :: M.ss.map I).toArray 78 (0, 0))]
def Rv.hp (M : Rv) : Hp := M.cs ++ (M.J.hp ++ M.B.hp)
abbrev Rv.v (M : Rv) : Value := .pointer (some ⟨M.n, 0, none⟩)
def SA.at_ (room : Int) (es : List SE) (d : Bool) : SA := if d = true then SA.zero room else SA.run room es
structure RvIs (M : Rv) (es : List SE) (d : Bool) : Prop where
  j : M.J.Ok
  b : M.B.Ok (SA.at_ M.hold es d).h
  left : M.B.left = (SA.at_ M.hold es d).left
  fn : Fn1 M.ss (SA.at_ M.hold es d).s
  lines : M.J.lines = (es.map SE.en).map LB
  may : ∀ e ∈ es.map SE.en, mayN e = true
  sure : M.J.sure = es.length
  dn : M.J.down = d
  len : es.length ≤ 4096
theorem RvIs.n {M : Rv} {es : List SE} {d : Bool} (h : RvIs M es d) : M.J.lines.length = es.length := by rw [h.lines]; simp
structure RvC (M M' : Rv) : Prop where
  n : M'.n = M.n
  node : M'.node = M.node
  hold : M'.hold = M.hold
  room : M'.J.room = M.J.room
theorem RvC.rfl' (M : Rv) : RvC M M := ⟨rfl, rfl, rfl, rfl⟩
theorem run_out (room : Int) (es : List SE) {x : Int} (hx : x < 1 ∨ 999 < x) : (SA.run room es).h x = 0 := by
  unfold SA.run
  have key : ∀ (es : List SE) (A : SA), A.h x = 0 → (es.foldl SA.step A).h x = 0 := by
    intro es
    induction es with
    | nil => exact fun A h => h
    | cons e r ih =>
      intro A h
      refine ih _ ?_
      cases e with
      | did id a =>
        show (if takeA A.left A.h id a = 0 ∧ x = id then a else A.h x) = 0
        split
        · rename_i g
          obtain ⟨g1, rfl⟩ := g
          unfold takeA at g1
          rw [if_pos (by omega)] at g1
          cases g1
        · exact h
      | cant id => exact h
      | undid id =>
        show (if x = id then 0 else A.h x) = 0
        split
        · rfl
        · exact h
  exact key es _ rfl
/-- what is noted, and answered -/
def ansV (node room jroom : Int) (es : List SE) (d : Bool) (kind frm to id a : Int) : Option SE × Int :=
  if d = true ∨ ¬ (to = node ∧ frm = 0 ∧ 1 ≤ id ∧ id ≤ 999 ∧ (kind = 1 ∨ kind = 4)) then (none, 0) else if kind = 1 then SA.doE (SA.run room es) jroom es.length id a else SA.undoE (SA.run room es) jroom es.length id
section
variable {w0 w : World} {hs R : List Hp} {K : KV}
theorem openV {M : Rv} (H : Sh.Holds w0 (M.hp :: R) w) : Sh.Holds w0 (M.cs :: M.J.hp :: M.B.hp :: R) w := H.perm (by simp [Rv.hp])
theorem shutV {M : Rv} (H : Sh.Holds w0 (M.cs :: M.J.hp :: M.B.hp :: R) w) : Sh.Holds w0 (M.hp :: R) w := H.perm (by simp [Rv.hp])
theorem newRv_c {node hold room : Int} (H : Sh.Holds w0 hs w) (hn : 4 ≤ node ∧ node ≤ 6) (k : ∀ (M : Rv) w', RvIs M [] false → M.node = node → M.hold = hold → M.J.room = roomB room → Sh.Holds w0 (M.hp :: hs) w' → K M.v w') :
    gocall Tryz.prog 43 [I node, I hold, I room] K w := by
  apply F43_go; unfold F43
  refine br_f (by simp; omega) ?_
  refine br_f (by simp; omega) ?_
  refine newR_c H (fun J w okJ j1 j2 j3 j4 H => ?_)
  refine asPtr_h ?_
  refine newH7_c H (fun B w okB b1 H => ?_)
  refine asPtr_h ?_
  refine nw_h H (fun k15 w H => ?_)
  refine k ⟨k15, node, hold, J, B, List.replicate 1000 0⟩ w ⟨okJ, okB, b1, Fn1.zero, by rw [j1]; rfl, by simp, by rw [j2]; rfl, j3, by simp⟩ rfl rfl j4 (shutV ?_)
  have e : Rv.cs ⟨k15, node, hold, J, B, List.replicate 1000 0⟩ = [(k15, .cells ([I node, I hold, J.v, B.v] ++ List.replicate 1000 (I 0)).toArray 78 (0, 0))] := by
    rw [rep_I]; rfl
  rw [e]
  exact H.re
theorem newRvN_c {node hold room : Int} (H : Sh.Holds w0 hs w) (hn : ¬ (4 ≤ node ∧ node ≤ 6)) (k : ∀ w', Sh.Holds w0 hs w' → K (.pointer none) w') :
    gocall Tryz.prog 43 [I node, I hold, I room] K w := by
  apply F43_go; unfold F43
  refine br_s (fun h => k _ H) (fun h => ?_)
  refine br_t (by simp at h ⊢; omega) (k _ H)
theorem cs_ld {M : Rv} {i : Nat} {v : Value} {K : KV} (H : Sh.Holds w0 (M.cs :: R) w) (hv : (I M.node :: I M.hold :: M.J.v :: M.B.v :: M.ss.map I)[i]? = some v) (hk : K v w) : ld ⟨M.n, i, none⟩ K w :=
  ld_h 0 H rfl (by simpa using hv) hk
theorem stateRv_c {M : Rv} {es : List SE} {d : Bool} {x : Int} (H : Sh.Holds w0 hs w) [D : Del hs M.hp R] (I0 : RvIs M es d)
    (k : ∀ w', Sh.Holds w0 (M.hp :: R) w' → K (I (if x < 1 ∨ 999 < x then 0 else (SA.at_ M.hold es d).s x)) w') : gocall Tryz.prog 52 [M.v, I x] K w := by
  replace H := H.get M.hp
  apply F52_go; unfold F52
  refine id1_c H (fun w H => ?_)
  refine asBoo_h ?_
  refine br_s (fun g => ?_) (fun g => ?_)
  · have := k _ H
    rwa [if_pos (by simp at g; omega)] at this
  simp at g
  have hv := I0.fn.2 x (by omega) (by omega)
  replace H := openV H
  refine nn_h ?_
  refine arAt1_h (q := 4) (by omega) (by omega) ?_
  refine cs_ld H (v := I ((SA.at_ M.hold es d).s x)) (by rw [Nat.add_comm]; simp [hv]) ?_
  refine asI_h ?_
  have := k _ (shutV H)
  rwa [if_neg (by omega)] at this
theorem crashRv_c {M : Rv} {es : List SE} {d : Bool} {x1 x2 : Int} (H : Sh.Holds w0 hs w) [D : Del hs M.hp R] (I0 : RvIs M es d)
    (k : ∀ (M' : Rv) w', RvIs M' es true → RvC M M' → Sh.Holds w0 (M'.hp :: R) w' → K (.tuple #[]) w') : gocall Tryz.prog 46 [M.v, I x1, I x2] K w := by
  replace H := H.get M.hp
  have H0 := H
  replace H := openV H
  have hn := I0.n
  have hlen := I0.len
  have hsu := I0.sure
  apply F46_go; unfold F46
  refine nn_h ?_
  refine cs_ld (i := 2) H (v := M.J.v) rfl ?_; refine asPtr_h ?_
  refine nn_h ?_
  have H2 : Sh.Holds w0 ([(M.J.j, .cells #[I M.J.room, M.J.r.v, I M.J.sure, .bool M.J.down] 64 (0, 0))] :: M.J.r.hp 9 :: M.cs :: M.B.hp :: R) w := openJ (H.get M.J.hp)
  refine ldA H2 ?_; refine asBoo_h ?_
  rw [I0.dn]
  cases d with
  | true => exact br_f rfl (k M w I0 (.rfl' M) H0)
  | false =>
  clear H2 H0
  refine br_t rfl ?_
  refine nn_h ?_
  refine cs_ld (i := 2) H (v := M.J.v) rfl ?_; refine asPtr_h ?_
  refine crashR_c (J := M.J) 1 H rfl I0.j (fun _ => by rw [I0.lines]; exact LB_pos I0.may) (by omega) (by omega) (by omega) (fun J w hJ okJ H => ?_)
  rw [I0.dn, if_neg (by simp), crashR_sure (by omega)] at hJ
  refine asT_e [] rfl rfl ?_
  replace H : Sh.Holds w0 (M.cs :: J.hp :: M.B.hp :: R) w := H
  refine nn_h ?_
  refine cs_ld (i := 1) H (v := I M.hold) rfl ?_; refine asI_h ?_
  refine newH7_c H (fun B w okB b1 H => ?_)
  refine asPtr_h ?_
  refine nn_h ?_
  replace H : Sh.Holds w0 ([(M.n, .cells (I M.node :: I M.hold :: M.J.v :: M.B.v :: M.ss.map I).toArray 78 (0, 0))] :: B.hp :: J.hp :: M.B.hp :: R) w := H.bring 1 rfl
  refine st_h 0 H rfl rfl (u := M.B.v) rfl (fun w H => ?_)
  refine nn_h ?_
  have ev : M.J.v = J.v := by rw [hJ]
  replace H : Sh.Holds w0 ([(M.n, .cells ([I M.node, I M.hold, M.J.v, B.v] ++ M.ss.map I).toArray 78 (0, 0))] :: B.hp :: J.hp :: M.B.hp :: R) w := H
  refine stNp_h (pre := [I M.node, I M.hold, M.J.v, B.v]) (vs := List.replicate 1000 (I 0)) H (by rw [List.length_map]; exact I0.fn.1) (by rw [List.length_replicate]) (by rw [List.all_eq_true]; intro v hv; rw [List.eq_of_mem_replicate hv]; rfl) (fun w H => ?_)
  rw [ev, rep_I] at H
  refine k ⟨M.n, M.node, M.hold, J, B, List.replicate 1000 0⟩ w ⟨okJ, okB, b1, Fn1.zero, by rw [hJ]; exact I0.lines, I0.may, by rw [hJ]; exact hsu, by rw [hJ], hlen⟩ ⟨rfl, rfl, rfl, by rw [hJ]⟩ (shutV ?_)
  have H9 : Sh.Holds w0 (Rv.cs ⟨M.n, M.node, M.hold, J, B, List.replicate 1000 0⟩ :: B.hp :: J.hp :: M.B.hp :: R) w := H
  exact Holds.re H9
end
end Go.Proofs.YtcfmnoimehcfnaaGreatDoor
