/- Contracts of the reference's journal. Conditions: none. -/
import Derived.Test.YtcfmnoimehcfnaaGreatDoorC19
import Derived.Test.YtcfmnoimehcfnaaGreatDoorJ4
import Derived.Laws.OwnMore
set_option linter.unusedVariables false
set_option maxRecDepth 100000
namespace Go.Proofs.YtcfmnoimehcfnaaGreatDoor
open Go Go.Sh

def enC (x : En × Row) : List Value := [.string (B x.1.k), I x.1.id, x.2.v]
theorem el37 : ElTy Tryz.prog 141 139 3 48 := ⟨⟨_, _, rfl, rfl, rfl, rfl, rfl, rfl⟩, by decide⟩
/-- the reference's journal in the store -/
structure Rj where
  j : Nat
  room : Int
  r : Row
  lines : List ByteArray
  sure : Int
  down : Bool
def Rj.hp (J : Rj) : Hp := [(J.j, .cells #[I J.room, J.r.v, I J.sure, .bool J.down] 64 (0, 0))] ++ J.r.hp 9
structure Rj.Ok (J : Rj) : Prop where
  row : J.r.Ok 1 (J.lines.map St)
  room : J.room ≤ 4096
abbrev Rj.v (J : Rj) : Value := .pointer (some ⟨J.j, 0, none⟩)
theorem newR_c {w0 w : World} {hs : List Hp} {K : KV} {x : Int} (H : Sh.Holds w0 hs w) (k : ∀ (J : Rj) w', J.Ok → J.lines = [] → J.sure = 0 → J.down = false → J.room = roomB x → Sh.Holds w0 (J.hp :: hs) w' → K J.v w') : gocall Tryz.prog 120 [I x] K w := by
  apply F120_go; unfold F120
  refine nw_h H (fun k1 w H => ?_)
  refine k ⟨k1, roomB x, Row.nil, [], 0, false⟩ _ ⟨Row.nil_ok 1, ?_⟩ rfl rfl rfl rfl ?_
  · simp only [roomB]; split <;> (try split) <;> omega
  · exact Holds.join (c := [_]) (Holds.bring 1 (Holds.nil H) rfl)
theorem syncR_c {w0 w : World} {hs : List Hp} {K : KV} {J : Rj} (i : Nat) (H : Sh.Holds w0 hs w) (hi : hs[i]? = some J.hp) (ok : J.Ok)
    (k : ∀ (J' : Rj) w', J' = (if J.down = true then J else { J with sure := J.lines.length }) → J'.Ok → Sh.Holds w0 (hs.set i J'.hp) w' → K (I (if J.down = true then 10 else 0)) w') : gocall Tryz.prog 225 [J.v] K w := by
  have hn : J.r.n = J.lines.length := by have := ok.row.len; simp at this; omega
  apply F225_go; unfold F225
  refine nn_h ?_
  replace H := H.open2 i hi
  apply ld_h 0 H rfl rfl; refine asBoo_h ?_
  cases hd : J.down with
  | true =>
    have := k J w (by rw [if_pos hd]) ok (by rw [set_same i hi]; exact H.shut2 i hi)
    rw [if_pos hd] at this
    exact br_t rfl this
  | false =>
    refine br_f rfl ?_
    refine nn_h ?_
    apply ld_h 0 H rfl rfl; refine asSl_h ?_
    refine nn_h ?_
    apply st_h 0 H rfl rfl rfl; intro w H
    have := k { J with sure := J.lines.length } w (by rw [if_neg (by simp [hd])]) ⟨ok.row, ok.room⟩ (Holds.close2 i (by rw [← hn]; exact H) hi)
    rw [if_neg (by simp [hd])] at this
    exact this

theorem Rj.n {J : Rj} (h : J.Ok) : J.r.n = J.lines.length := by
  have := h.row.len
  rw [List.length_map] at this
  omega
def addR (J : Rj) (e : En) : Int := if J.down = true then 10 else if mayN e = true then (if (J.lines.length : Int) ≥ J.room then 5 else 0) else 1
theorem addR_c {w0 w : World} {hs : List Hp} {K : KV} {J : Rj} {e : En} {p : Option Addr} {n c : Nat} (T : Tab w0) (i : Nat) (H : Sh.Holds w0 hs w) (hi : hs[i]? = some J.hp) (ok : J.Ok) (hsl : Sl (Sh.Holds w0 hs) p n 1 (e.l.map I))
    (k : ∀ (J' : Rj) w', J' = { J with r := J'.r, lines := if addR J e = 0 then J.lines ++ [LB e] else J.lines } → J'.Ok → Sh.Holds w0 (hs.set i J'.hp) w' → K (I (addR J e)) w') : gocall Tryz.prog 224 [J.v, enV e (.slice p n c)] K w := by
  have hn := Rj.n ok
  have stay : ∀ w', (n : Int) → addR J e = n → n ≠ 0 → Sh.Holds w0 hs w' → K (I n) w' := fun w' n hn h0 H' => by
    have := k J w' (by rw [if_neg (by omega)]) ok (by rwa [set_same i hi])
    rwa [hn] at this
  apply F224_go; unfold F224
  refine nwE_h H (fun k6 w H => ?_)
  refine nn_h ?_
  have hi' : (eHp k6 e.k e.id (.slice p n c) :: hs)[i + 1]? = some J.hp := by simpa using hi
  have back : ∀ {w}, Sh.Holds w0 ([(J.j, .cells #[I J.room, J.r.v, I J.sure, .bool J.down] 64 (0, 0))] :: J.r.hp 9 :: eHp k6 e.k e.id (.slice p n c) :: hs.eraseIdx i) w → Sh.Holds w0 hs w := fun H => (Holds.shut2 (i + 1) (hs := eHp k6 e.k e.id (.slice p n c) :: hs) (by simpa using H) hi').tail
  replace H : Sh.Holds w0 ([(J.j, .cells #[I J.room, J.r.v, I J.sure, .bool J.down] 64 (0, 0))] :: J.r.hp 9 :: eHp k6 e.k e.id (.slice p n c) :: hs.eraseIdx i) w := H.open2 (i + 1) hi'
  apply ld_h 0 H rfl rfl; refine asBoo_h ?_
  refine br_s (fun hd => stay _ 10 (by unfold addR; rw [if_pos hd]) (by decide) (back H)) (fun hd => ?_)
  apply ld3_h 2 H rfl
  refine Line2_c (e := e) T (hsl.mono fun w H => back H) H (fun w H => ?_)
  by_cases hm : mayN e = true
  · have e1 : lineR e = (lineL e, 0) := by unfold lineR; rw [if_pos hm]
    rw [e1]
    refine asT_e [_, _] rfl rfl ?_
    refine asStr_e (b := LB e) rfl ?_
    refine asI_e rfl ?_
    refine br_f rfl ?_
    replace H := H.drew
    refine nn_h ?_
    apply ld_h 0 H rfl rfl; refine asSl_h ?_
    refine nn_h ?_
    apply ld_h 0 H rfl rfl; refine asI_h ?_
    refine br_s (fun hf => stay _ 5 ?_ (by decide) (back H)) (fun hf => ?_)
    · simp at hf
      unfold addR; rw [if_neg (by simp [hd]), if_pos hm, if_pos (by omega)]
    simp at hf
    refine nn_h ?_
    apply ld_h 0 H rfl rfl; refine asSl_h ?_
    refine nw_h H (fun k64 w H => ?_)
    have e0 : addR J e = 0 := by unfold addR; rw [if_neg (by simp [hd]), if_pos hm, if_neg (by omega)]
    have hroom := ok.room
    refine bapp1_h (news := [St (LB e)]) el80 0 (H := Holds.bring 2 H rfl) rfl ok.row rfl (by simp [Value.oneCell']) (by omega) (by unfold maxLen; omega) (fun r' w hr1 hr2 H => ?_)
    refine asSl_h ?_
    refine nn_h ?_
    replace H : Sh.Holds w0 (r'.hp 9 :: [(k64, .cells #[St (LB e)] 9 (0, 0))] :: [(J.j, .cells #[I J.room, J.r.v, I J.sure, .bool J.down] 64 (0, 0))] :: eHp k6 e.k e.id (.slice p n c) :: hs.eraseIdx i) w := H
    apply st_h 2 H rfl rfl rfl; intro w H
    replace H : Sh.Holds w0 (r'.hp 9 :: [(k64, .cells #[St (LB e)] 9 (0, 0))] :: [(J.j, .cells #[I J.room, r'.v, I J.sure, .bool J.down] 64 (0, 0))] :: eHp k6 e.k e.id (.slice p n c) :: hs.eraseIdx i) w := H
    replace H : Sh.Holds w0 ([(J.j, .cells #[I J.room, r'.v, I J.sure, .bool J.down] 64 (0, 0))] :: r'.hp 9 :: hs.eraseIdx i) w := Sub.holds (Sub.cons 2 rfl (Sub.cons 0 rfl (Sub.skip (Sub.skip (Sub.refl _))))) H
    have := k ⟨J.j, J.room, r', J.lines ++ [LB e], J.sure, J.down⟩ w (by simp [e0]) ⟨by show r'.Ok 1 ((J.lines ++ [LB e]).map St); rw [List.map_append]; exact hr2, ok.room⟩ (Holds.close2 i H hi)
    rwa [e0] at this
  · have e1 : lineR e = ([], 1) := by unfold lineR; rw [if_neg hm]
    rw [e1]
    refine asT_e [_, _] rfl rfl ?_
    refine asStr_e rfl ?_
    refine asI_e rfl ?_
    refine br_t rfl ?_
    exact stay _ 1 (by unfold addR; rw [if_neg (by simp [hd]), if_neg hm]) (by decide) (back H)
/-- append of a row's beginning -/
theorem bappR_h {w0 w : World} {hs : List Hp} {K : KV} {P : Program} {t ty e : TypeId} {size bytes : Nat} (T : ElTy P t e size bytes) {r rs : Row} {xs ys news : List Value} {m : Nat}
    (H : Sh.Holds w0 (r.hp e :: hs) w) (h : r.Ok size xs) (oks : rs.Ok size ys) (hm : m ≤ rs.n) (hsl : Sl (Sh.Holds w0 (r.hp e :: hs)) rs.p m size news) (h1 : ∀ u ∈ news, u.oneCell' = true)
    (hb : (r.n + m) * bytes ≤ 140737488355328) (h63 : r.n + m ≤ maxLen)
    (hk : ∀ (r' : Row) w', r'.n = r.n + m → r'.Ok size (xs ++ news) → Sh.Holds w0 (r'.hp e :: hs) w' → K r'.v w') :
    bapp .full P #[t, t] ty r.v (.slice rs.p m rs.c) K w := by
  cases hg : rs.g with
  | none =>
    obtain ⟨n0, c0⟩ := oks.no hg
    have hm0 : m = 0 := by omega
    subst hm0
    have hn : news = [] := List.eq_nil_of_length_eq_zero (by simpa using hsl.len)
    subst hn
    obtain ⟨⟨i, z, ht, hi, hz, hs1, hb1, hzs⟩, hpos⟩ := T
    have hp : rs.p = none := by simp [Row.p, hg]
    rw [hp, c0]
    exact ⟨r.v, w, run_append_owned_none (P := P) w w0.heap.size t ty e i size ht hi r.v r.n xs (Row.owns h H), fun _ => rfl, hk r w rfl (by simpa using h) H⟩
  | some g =>
    have hp : rs.p = some ⟨g, 0, none⟩ := by simp [Row.p, hg]
    rw [hp]
    refine bapp_h T H h hsl.len (fun j u hu => ?_) h1 hb h63 hk
    rw [Addr.add_lit]
    exact (hsl.yes _ hp).2 j u hu w H
theorem slSlR_h {r : Row} {xs : List Value} {m : Nat} {w : World} {K : Option Addr → Nat → Nat → World → Prop} (h : r.Ok 1 xs) (hm : m ≤ r.n) (hk : K r.p m r.c w) : slSl r.p r.c 0 (m : Int) 1 K w := slSl0_h h hm hk
/-- what the reference keeps of its lines at a crash -/
def crashR (ls : List ByteArray) (sure stay torn : Int) : List ByteArray :=
  let m := (sure + cutI ((ls.length : Int) - sure) stay).toNat
  match ls[m]? with
  | none => ls.take m
  | some s => if torn > 0 then ls.take m ++ [B (s.data.toList.take (if (s.size : Int) - 1 < torn then (s.size : Int) - 1 else torn).toNat)] else ls.take m
theorem crashR_c {w0 w : World} {hs : List Hp} {K : KV} {J : Rj} {x1 x2 : Int} (i : Nat) (H : Sh.Holds w0 hs w) (hi : hs[i]? = some J.hp) (ok : J.Ok) (hl : J.down = false → ∀ s ∈ J.lines, 0 < s.size ∧ s.size ≤ 100000) (hn : J.lines.length ≤ 5000) (hs0 : 0 ≤ J.sure) (hs1 : J.sure ≤ J.lines.length)
    (k : ∀ (J' : Rj) w', J' = (if J.down = true then J else { J with r := J'.r, lines := crashR J.lines J.sure x1 x2, down := true }) → J'.Ok → Sh.Holds w0 (hs.set i J'.hp) w' → K (.tuple #[]) w') :
    gocall Tryz.prog 122 [J.v, I x1, I x2] K w := by
  have hrn := Rj.n ok
  apply F122_go; unfold F122
  refine nn_h ?_
  have H0 := H
  replace H := H.open2 i hi
  apply ld_h 0 H rfl rfl; refine asBoo_h ?_
  refine br_s (fun hd => k J w (by rw [if_pos hd]) ok (by rwa [set_same i hi])) (fun hd => ?_)
  rw [hd] at k
  simp only [Bool.false_eq_true, if_false] at k
  have hc := cutI_range x1 (a := (J.lines.length : Int) - J.sure) (by omega)
  obtain ⟨m, hm⟩ : ∃ m : Nat, J.sure + cutI ((J.lines.length : Int) - J.sure) x1 = m := ⟨(J.sure + cutI ((J.lines.length : Int) - J.sure) x1).toNat, by omega⟩
  have ew : IntKind.i64.wrap ((J.r.n : Int) - J.sure) = (J.lines.length : Int) - J.sure := by rw [hrn]; exact wrap64 (by omega) (by omega)
  have em : IntKind.i64.wrap (J.sure + if (if (J.lines.length : Int) - J.sure < x1 then (J.lines.length : Int) - J.sure else x1) > 0 then if (J.lines.length : Int) - J.sure < x1 then (J.lines.length : Int) - J.sure else x1 else 0) = m := by
    show IntKind.i64.wrap (J.sure + cutI ((J.lines.length : Int) - J.sure) x1) = m
    rw [hm]; exact wrap64 (by omega) (by omega)
  have eL : crashR J.lines J.sure x1 x2 = match J.lines[m]? with
      | none => J.lines.take m
      | some s => if x2 > 0 then J.lines.take m ++ [B (s.data.toList.take (if (s.size : Int) - 1 < x2 then (s.size : Int) - 1 else x2).toNat)] else J.lines.take m := by
    unfold crashR; rw [hm, Int.toNat_natCast]
  have hml : m ≤ J.lines.length := by omega
  refine nn_h ?_
  apply st_h 0 H rfl rfl rfl; intro w H
  replace H := H.drew
  refine nn_h ?_
  apply ld_h 0 H rfl rfl; refine asI_h ?_
  refine nn_h ?_
  apply ld_h 0 H rfl rfl; refine asSl_h ?_
  refine nn_h ?_
  apply ld_h 0 H rfl rfl; refine asI_h ?_
  refine nn_h ?_
  apply ld_h 0 H rfl rfl; refine asSl_h ?_
  rw [ew, em]
  refine slSlR_h ok.row (by omega) ?_
  replace H : Sh.Holds w0 ([(J.j, .cells #[I J.room, J.r.v, I J.sure, .bool true] 64 (0, 0))] :: J.r.hp 9 :: hs.eraseIdx i) w.drew := H
  have okc := Row.cut ok.row (m := m) (by omega)
  rw [← List.map_take] at okc
  refine bappR_h (r := Row.nil) (rs := J.r) (news := (J.lines.take m).map St) el80 H.nil (Row.nil_ok 1) ok.row (by omega) (Sl.mono (S := Sh.Holds w0 ([(J.j, .cells #[I J.room, J.r.v, I J.sure, .bool true] 64 (0, 0))] :: J.r.hp 9 :: hs.eraseIdx i)) (Sl.row (r := Row.mk J.r.g m J.r.c J.r.cur) 1 rfl okc) fun w H => H.tail) (fun u hu => by obtain ⟨s, -, rfl⟩ := List.mem_map.1 hu; rfl) (by simp [Row.nil]; omega) (by simp [Row.nil]; unfold maxLen; omega) (fun r1 w hr1 hr2 H => ?_)
  replace hr2 : r1.Ok 1 ((J.lines.take m).map St) := by simpa using hr2
  have hn1 : r1.n = m := by simpa [Row.nil] using hr1
  refine asSl_h ?_
  refine nn_h ?_
  apply ld_h 1 H rfl rfl; refine asSl_h ?_
  have notorn : ∀ {w}, crashR J.lines J.sure x1 x2 = J.lines.take m → Sh.Holds w0 (r1.hp 9 :: [(J.j, .cells #[I J.room, J.r.v, I J.sure, .bool true] 64 (0, 0))] :: J.r.hp 9 :: hs.eraseIdx i) w → 
      nn (some ⟨J.j, 0, none⟩) (fun a w => st ⟨a.block, a.off + 1, none⟩ (Value.slice r1.p r1.n r1.c) (fun w => K (Value.tuple #[]) w) w) w := by
    intro w hcr H
    refine nn_h ?_
    apply st_h 1 H rfl rfl rfl; intro w H
    replace H : Sh.Holds w0 (r1.hp 9 :: [(J.j, .cells #[I J.room, r1.v, I J.sure, .bool true] 64 (0, 0))] :: J.r.hp 9 :: hs.eraseIdx i) w := H
    replace H : Sh.Holds w0 ([(J.j, .cells #[I J.room, r1.v, I J.sure, .bool true] 64 (0, 0))] :: r1.hp 9 :: hs.eraseIdx i) w := Sub.holds (Sub.cons 1 rfl (Sub.cons 0 rfl (Sub.skip (Sub.refl _)))) H
    exact k ⟨J.j, J.room, r1, J.lines.take m, J.sure, true⟩ w (by rw [hcr]) ⟨hr2, ok.room⟩ (Holds.close2 i H hi)
  refine br_s (fun hb => ?_) (fun hb => ?_)
  · have hb : m < J.lines.length := by have : (m : Int) < J.r.n := by simpa using hb
                                       omega
    have hg := List.getElem?_eq_getElem hb
    rw [hg] at eL
    simp only at eL
    refine br_s (fun ht => ?_) (fun ht => ?_)
    · simp only [decide_eq_true_eq] at ht
      rw [if_pos ht] at eL
      have hsz := hl hd _ (List.getElem_mem hb)
      refine nn_h ?_
      apply ld_h 1 H rfl rfl; refine asSl_h ?_
      refine slAt_h ok.row (by omega) (by omega) (fun g hgg => ?_)
      refine ldR_h 2 (e := 9) H rfl ok.row hgg (v := St J.lines[m]) (by simp [hg]) ?_
      refine asStr_h ?_
      have e1 : IntKind.i64.wrap ((J.lines[m].size : Int) - 1) = (J.lines[m].size : Int) - 1 := wrap64 (by omega) (by omega)
      rw [e1]
      obtain ⟨q, hq⟩ : ∃ q : Nat, (if (J.lines[m].size : Int) - 1 < x2 then (J.lines[m].size : Int) - 1 else x2) = q := ⟨(if (J.lines[m].size : Int) - 1 < x2 then (J.lines[m].size : Int) - 1 else x2).toNat, by split <;> omega⟩
      rw [hq] at eL ⊢
      have hq2 : (q : Int) ≤ J.lines[m].size := by rw [← hq]; split <;> omega
      refine ⟨by omega, by omega, hq2, ?_⟩
      have hx : J.lines[m].extract (Int.toNat 0) (Int.toNat (q : Int)) = B (J.lines[m].data.toList.take q) := by
        have := B_take J.lines[m].data.toList q
        rw [B_data] at this
        exact this
      rw [hx]
      rw [Int.toNat_natCast] at eL
      refine nw_h H (fun k78 w H => ?_)
      refine bapp1_h (news := [St (B (J.lines[m].data.toList.take q))]) el80 0 (H := Holds.bring 1 H rfl) rfl hr2 rfl (by simp [Value.oneCell']) (by omega) (by unfold maxLen; omega) (fun r2 w hr3 hr4 H => ?_)
      refine asSl_h ?_
      refine nn_h ?_
      replace H : Sh.Holds w0 (r2.hp 9 :: [(k78, .cells #[St (B (J.lines[m].data.toList.take q))] 9 (0, 0))] :: [(J.j, .cells #[I J.room, J.r.v, I J.sure, .bool true] 64 (0, 0))] :: J.r.hp 9 :: hs.eraseIdx i) w := H
      apply st_h 2 H rfl rfl rfl; intro w H
      replace H : Sh.Holds w0 (r2.hp 9 :: [(k78, .cells #[St (B (J.lines[m].data.toList.take q))] 9 (0, 0))] :: [(J.j, .cells #[I J.room, r2.v, I J.sure, .bool true] 64 (0, 0))] :: J.r.hp 9 :: hs.eraseIdx i) w := H
      replace H : Sh.Holds w0 ([(J.j, .cells #[I J.room, r2.v, I J.sure, .bool true] 64 (0, 0))] :: r2.hp 9 :: hs.eraseIdx i) w := Sub.holds (Sub.cons 2 rfl (Sub.cons 0 rfl (Sub.skip (Sub.skip (Sub.refl _))))) H
      refine k ⟨J.j, J.room, r2, J.lines.take m ++ [B (J.lines[m].data.toList.take q)], J.sure, true⟩ w (by rw [eL]) ⟨?_, ok.room⟩ (Holds.close2 i H hi)
      show r2.Ok 1 ((J.lines.take m ++ [B (J.lines[m].data.toList.take q)]).map St)
      rw [List.map_append]
      exact hr4
    · simp only [decide_eq_false_iff_not] at ht
      rw [if_neg ht] at eL
      exact notorn eL H
  · have hb : ¬ m < J.lines.length := by have : ¬ (m : Int) < J.r.n := by simpa using hb
                                         omega
    rw [List.getElem?_eq_none (by omega)] at eL
    exact notorn eL H
theorem good_stop : ∀ {ls : List ByteArray} {n : Nat} {s : ByteArray}, (∀ s ∈ ls.take n, okS s = true) → ls[n]? = some s → okS s = false → goodL ls = ls.take n
  | [], n, s, _, h, _ => by simp at h
  | a :: r, 0, s, _, h, hb => by
    simp at h; subst h
    simp [goodL, hb]
  | a :: r, n + 1, s, hk, h, hb => by
    have ha : okS a = true := hk a (by simp)
    have := good_stop (ls := r) (n := n) (s := s) (fun x hx => hk x (by simp [hx])) (by simpa using h) hb
    unfold goodL at this ⊢
    rw [List.takeWhile_cons, if_pos ha, this, List.take_succ_cons]
theorem good_whole : ∀ {ls : List ByteArray}, (∀ s ∈ ls, okS s = true) → goodL ls = ls
  | [], _ => rfl
  | a :: r, hk => by
    have ha : okS a = true := hk a (by simp)
    have := good_whole (ls := r) (fun x hx => hk x (by simp [hx]))
    unfold goodL at this ⊢
    rw [List.takeWhile_cons, if_pos ha, this]
theorem Holds.dropL {w0 w : World} : ∀ {a b : List Hp}, Sh.Holds w0 (a ++ b) w → Sh.Holds w0 b w
  | [], b, H => H
  | c :: a, b, H => Holds.dropL (a := a) H.tail
theorem allR_c {w0 w : World} {hs : List Hp} {K : KV} {J : Rj} (i : Nat) (T : Tab w0) (H : Sh.Holds w0 hs w) (hi : hs[i]? = some J.hp) (ok : J.Ok) (hl : ∀ s ∈ J.lines, s.size ≤ 100000) (hn : J.lines.length ≤ 5000)
    (k : ∀ (row : Row) (es : List (En × Row)) w', es.map Prod.fst = entL J.lines → row.Ok 3 (es.flatMap enC) → (∀ y ∈ es, y.2.Ok 1 (y.1.l.map I)) → Sh.Holds w0 (row.hp 139 :: ((es.map fun y => y.2.hp 3) ++ hs)) w' → K row.v w') :
    gocall Tryz.prog 127 [J.v] K w := by
  have hrn := Rj.n ok
  apply F127_go; unfold F127
  refine nn_h ?_
  have H0 := H
  replace H := H.open2 i hi
  apply ld_h 0 H rfl rfl; refine asSl_h ?_
  refine ⟨fun y w => ∃ (row : Row) (es : List (En × Row)), y.2.1 = (row.p, row.n, row.c) ∧ 0 ≤ y.1 ∧ y.1 ≤ J.lines.length ∧ (∀ s ∈ J.lines.take y.1.toNat, okS s = true) ∧ es.map Prod.fst = (J.lines.take y.1.toNat).map (fun s => (parseE s.data.toList).2) ∧ row.Ok 3 (es.flatMap enC) ∧ (∀ y ∈ es, y.2.Ok 1 (y.1.l.map I)) ∧ Sh.Holds w0 (row.hp 139 :: ((es.map fun y => y.2.hp 3) ++ hs)) w, fun y _ => (J.lines.length - y.1).toNat, ⟨Row.nil, [], rfl, by simp, by simp, by simp, by simp, Row.nil_ok 3, by simp, H0.nil⟩, ?_⟩
  clear H H0
  rintro ⟨y, a, b, u⟩ w ⟨row, es, ha, g0, g1, hok, hes, okr, oks, H⟩
  simp only at ha g0 g1 hok hes
  subst ha
  have hlen : es.length = y.toNat := by have := congrArg List.length hes; simpa [Nat.min_eq_left (show y.toNat ≤ J.lines.length by omega)] using this
  have hrow : row.n = es.length := by
    have h3 := okr.len
    have : (es.flatMap enC).length = es.length * 3 := Sh.flat_len (f := enC) (z := 3) (fun _ => rfl) es
    omega
  refine br_s (fun h3 => ?_) (fun h3 => ?_)
  · have h3 : y < J.lines.length := by have : y < (J.r.n : Int) := by simpa using h3
                                       omega
    have hy : y.toNat < J.lines.length := by omega
    have hg := List.getElem?_eq_getElem hy
    have hi' : (row.hp 139 :: ((es.map fun y => y.2.hp 3) ++ hs))[es.length + i + 1]? = some J.hp := by
      rw [List.getElem?_cons_succ, List.getElem?_append_right (by simp), List.length_map, Nat.add_sub_cancel_left]; exact hi
    refine slAt_h ok.row g0 (by omega) (fun g hgg => ?_)
    have H2 := H.open2 _ hi'
    refine ldR_h 1 (e := 9) H2 rfl ok.row hgg (v := St J.lines[y.toNat]) (by simp [hg]) ?_
    refine asStr_h ?_
    rw [show Value.string J.lines[y.toNat] = .string (B J.lines[y.toNat].data.toList) by rw [B_data]]
    refine Parse2_c (s := J.lines[y.toNat].data.toList) T H (by have := hl _ (List.getElem_mem hy); simpa using this) (fun r2 w ok2 H => ?_)
    refine asT_e [_, _] rfl rfl ?_
    refine asN_e [_, _, _] rfl rfl ?_
    refine asStr_e (b := B (parseE J.lines[y.toNat].data.toList).2.k) rfl ?_
    refine asI_e (n := (parseE J.lines[y.toNat].data.toList).2.id) rfl ?_
    refine asSl_e (a := r2.p) (n := r2.n) (c := r2.c) rfl ?_
    refine asI_e (n := (parseE J.lines[y.toNat].data.toList).1) rfl ?_
    refine nw3_h (k := (parseE J.lines[y.toNat].data.toList).2.k) H (fun k58 w H => ?_)
    refine br_s (fun h4 => ?_) (fun h4 => ?_)
    · have hbad : okS J.lines[y.toNat] = false := by
        unfold okS
        simpa using h4
      refine k row es w ?_ okr oks (Sub.holds (by exact Sub.skip (Sub.skip (Sub.refl _))) H)
      rw [hes, entL]
      congr 1
      exact (good_stop hok hg hbad).symm
    · have hgd : okS J.lines[y.toNat] = true := by
        unfold okS
        simpa using h4
      apply ld3_h 0 H rfl
      refine nw_h H (fun k98 w H => ?_)
      refine bapp1_h (news := enC ((parseE J.lines[y.toNat].data.toList).2, r2)) el37 0 (H := Holds.bring 3 H rfl) rfl okr rfl (by simp [enC, Value.oneCell']) (by omega) (by unfold maxLen; omega) (fun r' w hr1 hr2 H => ?_)
      refine asSl_h ?_
      replace H : Sh.Holds w0 (r'.hp 139 :: [(k98, .cells (enC ((parseE J.lines[y.toNat].data.toList).2, r2)).toArray 139 (0, 0))] :: eHp k58 (parseE J.lines[y.toNat].data.toList).2.k (parseE J.lines[y.toNat].data.toList).2.id r2.v :: r2.hp 3 :: ((es.map fun y => y.2.hp 3) ++ hs)) w := H
      have hw : IntKind.wrap .i64 (y + 1) = y + 1 := wrap64 (by omega) (by omega)
      simp only [hw]
      have et : (y + 1).toNat = y.toNat + 1 := by omega
      refine ⟨⟨r', es ++ [((parseE J.lines[y.toNat].data.toList).2, r2)], rfl, by omega, by omega, ?_, ?_, by rw [List.flatMap_append]; simpa using hr2, ?_, ?_⟩, by omega⟩
      · rw [et, List.take_add_one, hg]
        intro s hs
        rcases List.mem_append.1 hs with hs | hs
        · exact hok s hs
        · simp only [Option.toList_some, List.mem_singleton] at hs
          subst hs; exact hgd
      · rw [et, List.take_add_one, hg, List.map_append, List.map_append, hes]; rfl
      · intro z hz
        rcases List.mem_append.1 hz with hz | hz
        · exact oks z hz
        · simp only [List.mem_singleton] at hz
          subst hz; exact ok2
      · have H3 : Sh.Holds w0 (r'.hp 139 :: r2.hp 3 :: ((es.map fun y => y.2.hp 3) ++ hs)) w := Sub.holds (Sub.cons 0 rfl (Sub.skip (Sub.skip (Sub.refl _)))) H
        have := Holds.mid2 (A := [r'.hp 139]) (a := [r2.hp 3]) (x := es.map fun y => y.2.hp 3) (b := hs) (by simpa using H3)
        simpa using this
  · have h3 : ¬ y < J.lines.length := by have : ¬ y < (J.r.n : Int) := by simpa using h3
                                         omega
    refine k row es w ?_ okr oks H
    rw [hes, entL]
    congr 1
    rw [List.take_of_length_le (by omega)] at hok ⊢
    exact (good_whole hok).symm
theorem recoverR_c {w0 w : World} {hs : List Hp} {K : KV} {J : Rj} (i : Nat) (T : Tab w0) (H : Sh.Holds w0 hs w) (hi : hs[i]? = some J.hp) (ok : J.Ok) (hl : ∀ s ∈ J.lines, s.size ≤ 100000) (hn : J.lines.length ≤ 5000)
    (k : ∀ (J' : Rj) w', J' = (if J.down = true then { J with r := J'.r, lines := goodL J.lines, sure := (goodL J.lines).length, down := false } else J) → J'.Ok → Sh.Holds w0 (hs.set i J'.hp) w' → K (I (if J.down = true then (J.lines.length : Int) - (goodL J.lines).length else 0)) w') :
    gocall Tryz.prog 126 [J.v] K w := by
  have hrn := Rj.n ok
  have hgl := good_le J.lines
  apply F126_go; unfold F126
  refine nn_h ?_
  have H0 := H
  replace H := H.open2 i hi
  apply ld_h 0 H rfl rfl; refine asBoo_h ?_
  cases hd : J.down with
  | false =>
    have := k J w (by rw [if_neg (by simp [hd])]) ok (by rwa [set_same i hi])
    rw [if_neg (by simp [hd])] at this
    exact br_t rfl this
  | true =>
  rw [hd] at k
  refine br_f rfl ?_
  refine allR_c i T H0 hi ok hl hn (fun row es w hes okr oks H => ?_)
  have hlen : row.n = (goodL J.lines).length := by
    have h3 := okr.len
    have h4 : (es.flatMap enC).length = es.length * 3 := Sh.flat_len (f := enC) (z := 3) (fun _ => rfl) es
    have h5 := congrArg List.length hes
    simp only [List.length_map, entL] at h5
    omega
  replace H : Sh.Holds w0 hs w := Holds.dropL (a := es.map fun y => y.2.hp 3) H.tail
  replace H := H.open2 i hi
  refine asSl_h ?_
  refine nn_h ?_
  apply ld_h 0 H rfl rfl; refine asSl_h ?_
  refine nn_h ?_
  apply ld_h 0 H rfl rfl; refine asSl_h ?_
  rw [hlen]
  refine slSlR_h ok.row (by omega) ?_
  refine nn_h ?_
  apply st_h 0 H rfl rfl rfl; intro w H
  refine nn_h ?_
  apply st_h 0 H rfl rfl rfl; intro w H
  refine nn_h ?_
  apply st_h 0 H rfl rfl rfl; intro w H
  have ew : IntKind.i64.wrap ((J.r.n : Int) - ((goodL J.lines).length : Int)) = (J.lines.length : Int) - (goodL J.lines).length := by rw [hrn]; exact wrap64 (by omega) (by omega)
  rw [ew]
  rw [if_pos rfl] at k
  refine k ⟨J.j, J.room, Row.mk J.r.g (goodL J.lines).length J.r.c J.r.cur, goodL J.lines, (goodL J.lines).length, false⟩ w (by rw [if_pos rfl]) ⟨?_, ok.room⟩ (Holds.close2 i H hi)
  have := Row.cut ok.row (m := (goodL J.lines).length) (by omega)
  rwa [← List.map_take, ← good_eq] at this
theorem crashR_sure {ls : List ByteArray} {sure stay torn : Int} (h : sure = ls.length) : crashR ls sure stay torn = ls := by
  have hm : sure + cutI ((ls.length : Int) - sure) stay = ls.length := by
    have := cutI_range stay (a := (ls.length : Int) - sure) (by omega)
    omega
  unfold crashR
  rw [hm, Int.toNat_natCast]
  simp
theorem LB_pos {es : List En} (h : ∀ e ∈ es, mayN e = true) : ∀ s ∈ es.map LB, 0 < s.size ∧ s.size ≤ 100000 := by
  intro s hs
  obtain ⟨e, he, rfl⟩ := List.mem_map.1 hs
  have := line_size (h e he)
  have h2 : 3 ≤ (LB e).size := by show 3 ≤ (B (lineL e)).size; rw [B_size, lineL, signL_len]; omega
  exact ⟨by omega, by show (B (lineL e)).size ≤ _; omega⟩
end Go.Proofs.YtcfmnoimehcfnaaGreatDoor
