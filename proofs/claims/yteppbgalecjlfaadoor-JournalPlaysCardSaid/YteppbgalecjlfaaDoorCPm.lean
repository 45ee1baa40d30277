/- What law4's JournalPlays computes: true, of any calls. Conditions: none. -/
import Derived.Test.YteppbgalecjlfaaDoorFQ
set_option linter.unusedVariables false
set_option maxRecDepth 100000
namespace Go.Proofs.YteppbgalecjlfaaDoor
open Go Go.Sh

def tailP (p17 p21 p113 : Option Addr) (k114 k115 : Nat) (x2 : Int) (S117 : World → Prop) (x26 : Int × Bool × Unit) (rec27 : Int × Bool × Unit → World → Prop) (K : KV) (w120 : World) : Prop :=
  nn (p21) (fun a121 w122 =>
  ldS (S117) (⟨a121.block, a121.off + 1, none⟩) (fun v123 w124 =>
  asSl (v123) (fun p125 k126 k127 w128 =>
  gocall Tryd.prog (11) [(Value.pointer p17)] (fun v129 w130 =>
  asSl (v129) (fun p131 k132 k133 w134 =>
  kp (S117) (fun w135 =>
  gocall Tryd.prog (26) [(Value.slice p131 (k132) (k133)), (Value.slice p125 (k126) (k127))] (fun v136 w137 =>
  asBoo (v136) (fun b138 w139 =>
  kp (S117) (fun w140 =>
  br (!b138) (fun w141 =>
  K (Value.bool (false)) (w141)) (fun w142 =>
  nn (p21) (fun a143 w144 =>
  ldS (S117) (⟨a143.block, a143.off + 2, none⟩) (fun v145 w146 =>
  asI (IntKind.i64) (v145) (fun n147 w148 =>
  gocall Tryd.prog (16) [(Value.pointer p17)] (fun v149 w150 =>
  asI (IntKind.i64) (v149) (fun n151 w152 =>
  kp (S117) (fun w153 =>
  br (n151 != n147) (fun w154 =>
  K (Value.bool (false)) (w154)) (fun w155 =>
  nn (p21) (fun a156 w157 =>
  ldS (S117) (⟨a156.block, a156.off + 3, none⟩) (fun v158 w159 =>
  asBoo (v158) (fun b160 w161 =>
  gocall Tryd.prog (27) [(Value.pointer p17)] (fun v162 w163 =>
  asBoo (v162) (fun b164 w165 =>
  kp (S117) (fun w166 =>
  br (!b164 == b160) (fun w167 =>
  K (Value.bool (false)) (w167)) (fun w168 =>
  gocall Tryd.prog (17) [(Value.pointer p17), (Value.int IntKind.i64 (5000))] (fun v169 w170 =>
  asSl (v169) (fun p171 k172 k173 w174 =>
  kp (S117) (fun w175 =>
  gocall Tryd.prog (18) [(Value.slice p171 (k172) (k173)), (Value.slice p113 (k114) (k115))] (fun v176 w177 =>
  asBoo (v176) (fun b178 w179 =>
  kp (S117) (fun w180 =>
  br (!b178) (fun w181 =>
  K (Value.bool (false)) (w181)) (fun w182 =>
  gocall Tryd.prog (17) [(Value.pointer p17), (Value.int IntKind.i64 (IntKind.i64.wrap ((IntKind.u64.wrap x2).tmod 5)))] (fun v183 w184 =>
  asSl (v183) (fun p185 k186 k187 w188 =>
  kp (S117) (fun w189 =>
  br ((↑k186 : Int) != if (↑k114 : Int) < IntKind.i64.wrap ((IntKind.u64.wrap x2).tmod 5) then (↑k114 : Int) else IntKind.i64.wrap ((IntKind.u64.wrap x2).tmod 5)) (fun w190 =>
  K (Value.bool (false)) (w190)) (fun w191 =>
  rec27 (IntKind.i64.wrap (x26.fst + 1), (x26.snd.fst, ())) (w191)) (w189)) (w188)) (w184)) (w182)) (w180)) (w179)) (w177)) (w175)) (w174)) (w170)) (w168)) (w166)) (w165)) (w163)) (w161)) (w159)) (w157)) (w155)) (w153)) (w152)) (w150)) (w148)) (w146)) (w144)) (w142)) (w140)) (w139)) (w137)) (w135)) (w134)) (w130)) (w128)) (w124)) (w122)) (w120)

theorem ent_good {ls : List ByteArray} {es : List En} (h : ∀ e ∈ es, mayN e = true) (hg : goodL ls = es.map LB) : entL ls = es := by
  have := ent_ents h
  unfold entL at this ⊢
  rw [good_ents h] at this
  rw [hg]; exact this
/-- the two journals stand alike -/
structure Sm (J : Jr) (M : Rj) : Prop where
  ok : J.Ok
  okM : M.Ok
  lines : M.lines = J.lines
  sure : M.sure = J.sure
  down : M.down = J.down
  room : M.room = J.room
  good : ∃ es : List En, (∀ e ∈ es, mayN e = true) ∧ goodL J.lines = es.map LB ∧ (J.down = false → J.lines = es.map LB)
  size : ∀ s ∈ J.lines, s.size ≤ 100000
  len : J.lines.length ≤ 4097
  lenU : ((goodL J.lines).length : Int) ≤ J.room
  s0 : 0 ≤ J.sure
  s1 : J.sure ≤ J.lines.length
theorem xe_of {w0 : World} {hs : List Hp} {row : Row} {es : List (En × Row)} (i : Nat) (hi : hs[i]? = some (row.hp 29)) (hj : ∀ (j : Nat) y, es[j]? = some y → ∃ q : Nat, hs[q]? = some (y.2.hp 3)) (okr : row.Ok 3 (es.flatMap enC)) (oks : ∀ y ∈ es, y.2.Ok 1 (y.1.l.map I)) :
    EntSl (Sh.Holds w0 hs) row.p row.n (es.map fun q => ⟨q.1, q.2.p, q.2.n, q.2.c⟩) := by
  refine ⟨?_, fun x hx => ?_⟩
  · rw [List.flatMap_map]
    exact Sl.row i hi okr
  · obtain ⟨q, hq, rfl⟩ := List.mem_map.1 hx
    obtain ⟨j, hj1, rfl⟩ := List.getElem_of_mem hq
    obtain ⟨q, hq⟩ := hj j _ (List.getElem?_eq_getElem hj1)
    exact Sl.row (e := 3) q hq (oks _ (List.getElem_mem hj1))
theorem row_n {row : Row} {es : List (En × Row)} (okr : row.Ok 3 (es.flatMap enC)) : row.n = es.length := by
  have h3 := okr.len
  have : (es.flatMap enC).length = es.length * 3 := Sh.flat_len (f := enC) (z := 3) (fun _ => rfl) es
  omega
def cM (M : Rj) : Hp := [(M.j, .cells #[I M.room, M.r.v, I M.sure, .bool M.down] 50 (0, 0))]
set_option maxHeartbeats 1000000 in
theorem tail_c {w0 w : World} {C : List Hp} {K : KV} {J : Jr} {M : Rj} {row : Row} {ys : List Xe} {x2 : Int} {x26 : Int × Bool × Unit} {rec27 : Int × Bool × Unit → World → Prop} (E : Errs w0) (T : Tab w0) (S : Sm J M)
    (hy : EntSl (Sh.Holds w0 C) row.p row.n ys) (hys : ys.map Xe.e = entL J.lines)
    (H : Sh.Holds w0 (cM M :: M.r.hp 9 :: J.hp :: C) w) (hk : ∀ w', Sh.Holds w0 (cM M :: M.r.hp 9 :: J.hp :: C) w' → rec27 (IntKind.i64.wrap (x26.fst + 1), (x26.snd.fst, ())) w') :
    tailP (some ⟨J.j, 0, none⟩) (some ⟨M.j, 0, none⟩) row.p row.n row.c x2 (Sh.Holds w0 [cM M]) x26 rec27 K w := by
  obtain ⟨es, hmay, hg, -⟩ := S.good
  have hent : entL J.lines = es := ent_good hmay hg
  have hel : es.length ≤ 4097 := by
    have h1 := congrArg List.length hg
    have h2 := good_le J.lines
    have h3 := S.len
    simp only [List.length_map] at h1
    omega
  have hlen5 : J.lines.length ≤ 5000 := by have := S.len; omega
  unfold tailP
  refine nn_h ?_
  apply ldS_h (hs := [cM M]) 0 rfl rfl; refine asSl_h ?_
  refine Lines_c (J := J) 2 H rfl S.ok hlen5 (fun rl w okl H => ?_)
  refine asSl_h ?_
  refine kp_s H (by exact Sub.cons 1 rfl (Sub.nil _)) ?_
  refine texts_c (xs := J.lines) (ys := M.lines) H (Sl.row 0 rfl okl) (Sl.row (r := M.r) 2 rfl S.okM.row) (by omega) (fun b w hb H => ?_)
  have hb : b = true := hb.2 S.lines.symm
  subst hb
  refine asBoo_h ?_
  refine kp_s H (by exact Sub.cons 1 rfl (Sub.nil _)) ?_
  refine br_f rfl ?_
  refine nn_h ?_
  apply ldS_h (hs := [cM M]) 0 rfl rfl; refine asI_h ?_
  refine Sure_c (J := J) 3 H rfl (fun w H => ?_)
  refine asI_h ?_
  refine kp_s H (by exact Sub.cons 1 rfl (Sub.nil _)) ?_
  refine br_f (by rw [S.sure]; simp) ?_
  refine nn_h ?_
  apply ldS_h (hs := [cM M]) 0 rfl rfl; refine asBoo_h ?_
  refine downJ_c (J := J) 3 H rfl (fun w H => ?_)
  refine asBoo_h ?_
  refine kp_s H (by exact Sub.cons 1 rfl (Sub.nil _)) ?_
  refine br_f (by rw [S.down]; simp) ?_
  refine allJ_c (J := J) 3 E T H rfl S.ok S.size hlen5 (fun row3 es3 w hes3 okr3 oks3 H => ?_)
  refine asSl_h ?_
  have hes3' : es3.map Prod.fst = es := by rw [hes3, hent, List.take_of_length_le (by show es.length ≤ 5000; omega)]
  have he3 : es3.length = es.length := by have := congrArg List.length hes3'; rwa [List.length_map] at this
  refine kp_s H (by exact Sub.cons (es3.length + 2) (by simp) (Sub.nil _)) ?_
  have hx := xe_of (w0 := w0) (hs := row3.hp 29 :: ((es3.map fun y => y.2.hp 3) ++ (rl.hp 9 :: cM M :: M.r.hp 9 :: J.hp :: C))) 0 rfl (fun j y hj => ⟨j + 1, by
    have hjl := (List.getElem?_eq_some_iff.1 hj).1
    rw [List.getElem?_cons_succ, List.getElem?_append_left (by simpa using hjl), List.getElem?_map, hj]; rfl⟩) okr3 oks3
  have hxm : (es3.map fun q => (⟨q.1, q.2.p, q.2.n, q.2.c⟩ : Xe)).map Xe.e = es := by rw [List.map_map]; exact hes3'
  have hl3 : ∀ x ∈ (es3.map fun q => (⟨q.1, q.2.p, q.2.n, q.2.c⟩ : Xe)), x.e.l.length < 1000000 := fun x hx => by
    have : x.e ∈ es := by rw [← hxm]; exact List.mem_map.2 ⟨x, hx, rfl⟩
    have := (mayN_out (hmay _ this)).2.2.2.2.2.2.1
    omega
  refine same_c H hx (hy.mono fun w H => (Holds.dropL (a := es3.map fun y => y.2.hp 3) H.tail).tail.tail.tail.tail) (by rw [List.length_map]; omega) hl3 (fun b w hb H => ?_)
  have hb : b = true := hb.2 (by rw [hxm, hys, hent])
  subst hb
  refine asBoo_h ?_
  refine kp_s H (by exact Sub.cons (es3.length + 2) (by simp) (Sub.nil _)) ?_
  refine br_f rfl ?_
  replace H := Holds.dropL (a := es3.map fun y => y.2.hp 3) H.tail
  obtain ⟨m, hm5, hm⟩ := idx_mod x2 (n := 5) (by omega) (by omega)
  have hm : IntKind.i64.wrap ((IntKind.u64.wrap x2).tmod 5) = (m : Int) := hm
  rw [hm]
  refine allJ_c (J := J) 3 E T H rfl S.ok S.size hlen5 (fun row4 es4 w hes4 okr4 oks4 H => ?_)
  refine asSl_h ?_
  have hn4 := row_n okr4
  have hn1 := hy.len
  have hny : ys.length = es.length := by have := congrArg List.length hys; rwa [List.length_map, hent] at this
  have he4 : es4.length = min m es.length := by have := congrArg List.length hes4; rwa [List.length_map, hent, List.length_take, Int.toNat_natCast] at this
  refine kp_s H (by exact Sub.cons (es4.length + 2) (by simp) (Sub.nil _)) ?_
  refine br_f ?_ ?_
  · rw [hn4, he4, hn1, hny]
    simp only [bne_eq_false_iff_eq]
    split <;> omega
  · exact hk _ (Holds.dropL (a := es4.map fun y => y.2.hp 3) H.tail).tail
theorem Sm.add {J J' : Jr} {M M' : Rj} {e : En} (S : Sm J M) (hJ : J' = { J with r := J'.r, lines := if addB J (B e.k) e.id e.l = 0 then J.lines ++ [lineE (B e.k) e.id e.l] else J.lines }) (hM : M' = { M with r := M'.r, lines := if addR M e = 0 then M.lines ++ [LB e] else M.lines })
    (ok : J'.Ok) (okM : M'.Ok) (ee : addR M e = addB J (B e.k) e.id e.l) : Sm J' M' := by
  have el : lineE (B e.k) e.id e.l = LB e := lineE_B e
  rw [ee] at hM
  rw [el] at hJ
  have l1 : J'.lines = if addB J (B e.k) e.id e.l = 0 then J.lines ++ [LB e] else J.lines := by rw [hJ]
  have l2 : M'.lines = if addB J (B e.k) e.id e.l = 0 then M.lines ++ [LB e] else M.lines := by rw [hM]
  have d1 : J'.down = J.down := by rw [hJ]
  have r1 : J'.room = J.room := by rw [hJ]
  have u1 : J'.sure = J.sure := by rw [hJ]
  have d2 : M'.down = M.down := by rw [hM]
  have r2 : M'.room = M.room := by rw [hM]
  have u2 : M'.sure = M.sure := by rw [hM]
  by_cases h0 : addB J (B e.k) e.id e.l = 0
  · rw [if_pos h0] at l1 l2
    have hd : J.down = false := by
      unfold addB at h0
      cases hd : J.down
      · rfl
      · rw [if_pos hd] at h0; simp at h0
    have hm : mayN e = true := by
      unfold addB at h0
      rw [if_neg (by simp [hd])] at h0
      cases hm : mayN e
      · rw [if_neg (by rw [show mayE (B e.k) e.id e.l = false from hm]; simp)] at h0; simp at h0
      · rfl
    have hr : (J.lines.length : Int) < J.room := by
      unfold addB at h0
      rw [if_neg (by simp [hd]), if_pos (show mayE (B e.k) e.id e.l = true from hm)] at h0
      split at h0
      · simp at h0
      · omega
    obtain ⟨es, g1, g2, g3⟩ := S.good
    have hmay : ∀ x ∈ es ++ [e], mayN x = true := fun x hx => by
      rcases List.mem_append.1 hx with hx | hx
      · exact g1 x hx
      · simp only [List.mem_singleton] at hx; subst hx; exact hm
    have hle : J'.lines = (es ++ [e]).map LB := by rw [l1, g3 hd]; simp
    have hrm := S.ok.room
    have hll : J'.lines.length = J.lines.length + 1 := by rw [l1]; simp
    refine ⟨ok, okM, by rw [l1, l2, S.lines], by rw [u1, u2, S.sure], by rw [d1, d2, S.down], by rw [r1, r2, S.room], ⟨es ++ [e], hmay, by rw [hle]; exact good_ents hmay, fun _ => hle⟩, by rw [hle]; exact LB_size hmay, by omega, by rw [hle, good_ents hmay, ← hle, r1]; omega, by rw [u1]; exact S.s0, by rw [u1]; have := S.s1; omega⟩
  · rw [if_neg h0] at l1 l2
    exact ⟨ok, okM, by rw [l1, l2, S.lines], by rw [u1, u2, S.sure], by rw [d1, d2, S.down], by rw [r1, r2, S.room], by rw [l1, d1]; exact S.good, by rw [l1]; exact S.size, by rw [l1]; exact S.len, by rw [l1, r1]; exact S.lenU, by rw [u1]; exact S.s0, by rw [u1, l1]; exact S.s1⟩
theorem crash_eq {ls : List ByteArray} {sure stay torn : Int} (h : ∀ s ∈ ls, 3 ≤ s.size) : crashR ls sure stay torn = crashL ls sure stay torn := by
  unfold crashR crashL
  simp only
  cases hg : ls[(sure + cutI ((ls.length : Int) - sure) stay).toNat]? with
  | none =>
    simp only
    rw [List.take_of_length_le]
    exact List.getElem?_eq_none_iff.1 hg
  | some s =>
    have hs := h s (List.mem_of_getElem? hg)
    simp only
    by_cases ht : torn > 0
    · rw [if_pos ht]
      have hc : cutI ((s.size : Int) - 1) torn = if (s.size : Int) - 1 < torn then (s.size : Int) - 1 else torn := by
        unfold cutI
        rw [if_pos]
        split <;> omega
      have hp : pieceB s torn = B (s.data.toList.take (if (s.size : Int) - 1 < torn then (s.size : Int) - 1 else torn).toNat) := by unfold pieceB; rw [hc]
      have hne : pieceB s torn ≠ B [] := by
        intro e
        have h0 : (pieceB s torn).size = 0 := by rw [e]; rfl
        rw [hp, B_size, List.length_take, show s.data.toList.length = s.size from rfl] at h0
        split at h0 <;> omega
      rw [if_neg hne, hp]
    · rw [if_neg ht, if_pos]
      unfold pieceB cutI
      rw [if_neg (by split <;> omega)]
      rfl
theorem LB_long {es : List En} : ∀ s ∈ es.map LB, 3 ≤ s.size := by
  intro s hs
  obtain ⟨e, -, rfl⟩ := List.mem_map.1 hs
  show 3 ≤ (B (lineL e)).size
  rw [B_size, lineL, signL_len]; omega
theorem Sm.crash {J J' : Jr} {M M' : Rj} {x1 x2 : Int} (S : Sm J M) (hJ : J' = (if J.down = true then J else { J with r := J'.r, lines := crashL J.lines J.sure x1 x2, down := true })) (hM : M' = (if M.down = true then M else { M with r := M'.r, lines := crashR M.lines M.sure x1 x2, down := true }))
    (ok : J'.Ok) (okM : M'.Ok) : Sm J' M' := by
  rw [S.down] at hM
  by_cases hd : J.down = true
  · rw [if_pos hd] at hJ hM
    rw [hJ, hM]; exact S
  · rw [if_neg hd] at hJ hM
    simp only [Bool.not_eq_true] at hd
    obtain ⟨es, g1, g2, g3⟩ := S.good
    have hl := g3 hd
    have s0 := S.s0
    have s1 := S.s1
    have hlen : J.lines.length = es.length := by rw [hl]; simp
    have hc := cutI_range x1 (a := (es.length : Int) - J.sure) (by omega)
    obtain ⟨m, hm, hml⟩ : ∃ m : Nat, J.sure + cutI ((es.length : Int) - J.sure) x1 = m ∧ m ≤ es.length := ⟨(J.sure + cutI ((es.length : Int) - J.sure) x1).toNat, by omega, by omega⟩
    obtain ⟨cz, cl⟩ := crash_size g1 (torn := x2) hm
    have hg := good_crash g1 (torn := x2) hm hml
    have l1 : J'.lines = crashL (es.map LB) J.sure x1 x2 := by rw [hJ, ← hl]
    have l2 : M'.lines = crashL (es.map LB) J.sure x1 x2 := by
      have : M'.lines = crashR M.lines M.sure x1 x2 := by rw [hM]
      rw [this, S.lines, S.sure, hl]
      exact crash_eq LB_long
    have d1 : J'.down = true := by rw [hJ]
    have d2 : M'.down = true := by rw [hM]
    have u1 : J'.sure = J.sure := by rw [hJ]
    have u2 : M'.sure = M.sure := by rw [hM]
    have r1 : J'.room = J.room := by rw [hJ]
    have r2 : M'.room = M.room := by rw [hM]
    have hroom := S.ok.room
    have hlu := S.lenU
    rw [g2, List.length_map] at hlu
    have hge : m ≤ (crashL (es.map LB) J.sure x1 x2).length := by
      have h1 := good_le (crashL (es.map LB) J.sure x1 x2)
      rw [hg, List.length_map, List.length_take] at h1
      omega
    exact ⟨ok, okM, by rw [l1, l2], by rw [u1, u2, S.sure], by rw [d1, d2], by rw [r1, r2, S.room], ⟨es.take m, fun e he => g1 e (List.mem_of_mem_take he), by rw [l1]; exact hg, fun h => by rw [d1] at h; cases h⟩, by rw [l1]; exact cz, by rw [l1]; omega, by rw [l1, hg, r1, List.length_map, List.length_take]; omega, by rw [u1]; exact s0, by rw [u1, l1]; omega⟩
theorem Sm.recover {J J' : Jr} {M M' : Rj} (S : Sm J M) (hJ : J' = (if J.down = true then { J with r := J'.r, lines := goodL J.lines, sure := (goodL J.lines).length, down := false } else J)) (hM : M' = (if M.down = true then { M with r := M'.r, lines := goodL M.lines, sure := (goodL M.lines).length, down := false } else M))
    (ok : J'.Ok) (okM : M'.Ok) : Sm J' M' := by
  have hr := S.lenU
  rw [S.down] at hM
  by_cases hd : J.down = true
  · rw [if_pos hd] at hJ hM
    obtain ⟨es, g1, g2, g3⟩ := S.good
    have l1 : J'.lines = es.map LB := by rw [hJ]; exact g2
    have l2 : M'.lines = es.map LB := by rw [hM]; show goodL M.lines = _; rw [S.lines]; exact g2
    have d1 : J'.down = false := by rw [hJ]
    have d2 : M'.down = false := by rw [hM]
    have u1 : J'.sure = (goodL J.lines).length := by rw [hJ]
    have u2 : M'.sure = (goodL J.lines).length := by rw [hM, ← S.lines]
    have r1 : J'.room = J.room := by rw [hJ]
    have r2 : M'.room = M.room := by rw [hM]
    have hl := good_le J.lines
    have := S.len
    rw [g2] at hl u1 u2 hr
    rw [List.length_map] at hl
    exact ⟨ok, okM, by rw [l1, l2], by rw [u1, u2], by rw [d1, d2], by rw [r1, r2, S.room], ⟨es, g1, by rw [l1]; exact good_ents g1, fun _ => l1⟩, by rw [l1]; exact LB_size g1, by rw [l1, List.length_map]; omega, by rw [l1, good_ents g1, r1]; exact hr, by rw [u1]; omega, by rw [u1, l1]; omega⟩
  · rw [if_neg hd] at hJ hM
    rw [hJ, hM]; exact S
theorem syncA_c {w0 w : World} {hs : List Hp} {K : KV} {J : Jr} (i : Nat) (H : Sh.Holds w0 hs w) (hi : hs[i]? = some J.hp) (ok : J.Ok)
    (k : ∀ (J' : Jr) w', J' = (if J.down = true then J else { J with sure := J.lines.length }) → J'.Ok → Sh.Holds w0 (hs.set i J'.hp) w' → K (I (if J.down = true then 10 else 0)) w') : gocall Tryd.prog 15 [J.v] K w := by
  cases hd : J.down with
  | true =>
    refine syncD_c i H hi hd (fun w' H' => ?_)
    have := k J w' (by rw [if_pos hd]) ok (by rw [set_same i hi]; exact H')
    rwa [if_pos hd] at this
  | false =>
    refine sync_c i H hi ok hd (fun J' w' hJ' ok' H' => ?_)
    have := k J' w' (by rw [hJ', if_neg (by simp [hd])]) ok' H'
    rwa [if_neg (by simp [hd])] at this
theorem Sm.sync {J J' : Jr} {M M' : Rj} (S : Sm J M) (hJ : J' = (if J.down = true then J else { J with sure := J.lines.length })) (hM : M' = (if M.down = true then M else { M with sure := M.lines.length })) (ok : J'.Ok) (okM : M'.Ok) : Sm J' M' := by
  rw [S.down] at hM
  by_cases hd : J.down = true
  · rw [if_pos hd] at hJ hM
    rw [hJ, hM]; exact S
  · rw [if_neg hd] at hJ hM
    have l1 : J'.lines = J.lines := by rw [hJ]
    have l2 : M'.lines = M.lines := by rw [hM]
    have d1 : J'.down = J.down := by rw [hJ]
    have d2 : M'.down = M.down := by simp [hM, S.down]
    have u1 : J'.sure = J.lines.length := by rw [hJ]
    have u2 : M'.sure = M.lines.length := by rw [hM]
    have r1 : J'.room = J.room := by rw [hJ]
    have r2 : M'.room = M.room := by rw [hM]
    exact ⟨ok, okM, by rw [l1, l2, S.lines], by rw [u1, u2, S.lines], by rw [d1, d2, S.down], by rw [r1, r2, S.room], by rw [l1, d1]; exact S.good, by rw [l1]; exact S.size, by rw [l1]; exact S.len, by rw [l1, r1]; exact S.lenU, by rw [u1]; omega, by rw [u1, l1]; omega⟩
end Go.Proofs.YteppbgalecjlfaaDoor
