/- Contracts of strings.Index at one byte, strings.SplitSeq, check.Read, entry.Parse. Conditions: none. -/
import Derived.Test.YtcfmnoimehcfnaaGreatDoorAt
import Derived.Test.YtcfmnoimehcfnaaGreatDoorN3
import Derived.Test.YtcfmnoimehcfnaaGreatDoorRf
import Derived.Test.YtcfmnoimehcfnaaGreatDoorShelfX
set_option linter.unusedVariables false
set_option maxRecDepth 100000
namespace Go.Proofs.YtcfmnoimehcfnaaGreatDoor
open Go Go.Sh

abbrev B (l : List UInt8) : ByteArray := ⟨l.toArray⟩
theorem B_data (s : ByteArray) : B s.data.toList = s := by obtain ⟨⟨l⟩⟩ := s; rfl
theorem B_app (a b : List UInt8) : B a ++ B b = B (a ++ b) := ByteArray.ext (by simp [B])
theorem B_size (l : List UInt8) : (B l).size = l.length := rfl
theorem B_inj {a b : List UInt8} (h : B a = B b) : a = b := by
  have := congrArg (fun s => s.data.toList) h
  simpa [B] using this
theorem B_take (l : List UInt8) (m : Nat) : (B l).extract 0 m = B (l.take m) := ByteArray.ext (by simp [B])
theorem B_drop (l : List UInt8) (m : Nat) : (B l).extract m l.length = B (l.drop m) := ByteArray.ext (by simp [B, List.take_of_length_le])
theorem toList_data (s : ByteArray) : s.toList = s.data.toList := by
  have key : ∀ (n i : Nat) (r : List UInt8), s.size - i = n → ByteArray.toList.loop s i r = r.reverse ++ s.data.toList.drop i := by
    intro n
    induction n with
    | zero =>
      intro i r h
      rw [ByteArray.toList.loop]
      have hs : s.size = s.data.toList.length := rfl
      rw [if_neg (by omega), List.drop_eq_nil_of_le (by omega), List.append_nil]
    | succ n ih =>
      intro i r h
      rw [ByteArray.toList.loop]
      have hs : s.size = s.data.toList.length := rfl
      rw [if_pos (by omega), ih (i + 1) _ (by omega)]
      rw [List.drop_eq_getElem_cons (by omega : i < s.data.toList.length)]
      have hi : i < s.data.size := by have : s.size = s.data.size := rfl
                                      omega
      simp [ByteArray.get!, getElem!_pos s.data i hi]
  have := key _ 0 [] rfl
  simpa [ByteArray.toList] using this
theorem strEq_B (a b : List UInt8) : strEq (B a) (B b) = decide (a = b) := by
  rw [strEq, toList_data, toList_data]
  by_cases h : a = b <;> simp [h]
theorem sl_take {t : List UInt8} {m : Nat} {K : ByteArray → World → Prop} {w : World} (h : m ≤ t.length) (k : K (B (t.take m)) w) : strSl (B t) 0 (m : Int) K w :=
  ⟨by omega, by omega, by rw [B_size]; omega, by rw [show (B t).extract (Int.toNat 0) (m : Int).toNat = B (t.take m) from B_take t m]; exact k⟩
theorem sl_drop {t : List UInt8} {m : Nat} {K : ByteArray → World → Prop} {w : World} (h : m ≤ t.length) (k : K (B (t.drop m)) w) : strSl (B t) (m : Int) ((B t).size : Int) K w :=
  ⟨by omega, by rw [B_size]; omega, by omega, by rw [show (B t).extract (m : Int).toNat (Int.toNat ((B t).size : Int)) = B (t.drop m) by rw [Int.toNat_natCast, Int.toNat_natCast, B_size]; exact B_drop t m]; exact k⟩
theorem cat_B {a b : List UInt8} {K : ByteArray → World → Prop} {w : World} (h : a.length + b.length ≤ 100000) (hk : K (B (a ++ b)) w) : strCat (B a) (B b) K w := ⟨by rw [B_size, B_size]; omega, by rw [B_app]; exact hk⟩
theorem index_c {w0 w : World} {hs : List Hp} {K : KV} {s : List UInt8} (hl : s.length ≤ 1000000) (H : Holds w0 hs w) (k : ∀ w', Holds w0 hs w' → K (I (Lib.indexByte s 32)) w') : gocall Tryz.prog 317 [.string (B s), .string (B [32])] K w := by
  apply F317_go; unfold F317
  apply F339_go; unfold F339
  refine br_f rfl ?_
  refine br_s (fun h => ?_) (fun h => ?_)
  · rw [strEq_B] at h
    have h2 : [32] = s := by simpa using h
    have := k _ H
    rw [← h2, show Lib.indexByte [32] 32 = 0 by decide] at this
    exact asI_h this
  refine br_t rfl ?_
  refine ⟨32, by omega, rfl, ?_⟩
  refine ⟨by kernel_rfl, (Tryz.indexByte (B s) 32 w).mono ?_⟩
  rintro e w' ⟨rfl, rfl⟩
  exact ⟨_, rfl, asI_h (asI_h (k _ H))⟩

/-! ### SplitSeq -/
theorem Holds.swap {w0 w : World} {a b : List Hp} (H : Sh.Holds w0 (a ++ b) w) : Sh.Holds w0 (b ++ a) w := H.perm (by simp only [List.flatten_append]; exact List.perm_append_comm)
def szAt (k : Nat) (w : World) : Nat := match w.heap[k]? with
  | some (.cells cs _ _) => (match (cs[0]? : Option Value) with
    | some (Value.string s) => s.size
    | _ => 0)
  | _ => 0
def sepHp (kb ka kc : Nat) (s : List UInt8) : List Hp := [[(kb, .cells #[.string (B [32])] 9 (0, 0))], [(ka, .cells #[.string (B s)] 9 (0, 0))], [(kc, .cells #[I 0] 3 (0, 0))]]
theorem split_c {w0 w : World} {cs0 : List Hp} {K : KV} {s : List UInt8} {y ka kb kc : Nat} (C : Nat → List Hp → Prop) (Cx : List Hp → Prop) (hl : s.length ≤ 1000000) (H : Sh.Holds w0 (sepHp kb ka kc s ++ cs0) w) (h0 : C 0 cs0)
    (hy : ∀ (i : Nat) (v : List UInt8) (cs fr : List Hp) (K' : KV) (w : World), (wordsL s)[i]? = some v → C i cs → Sh.Holds w0 (cs ++ fr) w →
      (∀ cs' w', C (i + 1) cs' → Sh.Holds w0 (cs' ++ fr) w' → K' (.bool true) w') → (∀ cs' w', Cx cs' → Sh.Holds w0 (cs' ++ fr) w' → K' (.bool false) w') → goyield Tryz.prog y [.string (B v)] K' w)
    (k1 : ∀ cs' w', C (wordsL s).length cs' → Sh.Holds w0 cs' w' → K (.tuple #[]) w') (k2 : ∀ cs' w', Cx cs' → Sh.Holds w0 cs' w' → K (.tuple #[]) w') :
    gocall Tryz.prog 315 [yv y, .pointer (some ⟨kb, 0, none⟩), .pointer (some ⟨ka, 0, none⟩), .pointer (some ⟨kc, 0, none⟩)] K w := by
  have drop3 : ∀ {t cs w}, Sh.Holds w0 (sepHp kb ka kc t ++ cs) w → Sh.Holds w0 cs w := fun H => H.tail.tail.tail
  apply F315_go; unfold F315
  have H' := H
  unfold sepHp at H'
  apply ld_h 0 H' rfl rfl; refine asStr_h ?_
  refine br_f rfl ?_
  refine ⟨fun _ w => ∃ (pre : List (List UInt8)) (t : List UInt8) (cs : List Hp), Sh.Holds w0 (sepHp kb ka kc t ++ cs) w ∧ C pre.length cs ∧ wordsL s = pre ++ wordsL t ∧ t.length ≤ 1000000, fun _ w => szAt ka w, ⟨[], s, cs0, H, h0, rfl, hl⟩, ?_⟩
  clear H H' h0
  rintro ⟨⟩ w ⟨pre, t, cs, H, hC, hw, ht⟩
  have hm : szAt ka w = t.length := by
    have := H.mem 1 (k := ka) rfl
    simp only [szAt, this]
    exact B_size t
  have H' := H
  unfold sepHp at H'
  apply ld_h 1 H' rfl rfl; refine asStr_h ?_
  apply ld_h 0 H' rfl rfl; refine asStr_h ?_
  refine index_c ht H (fun w H => ?_)
  refine asI_h ?_
  have H' := H
  unfold sepHp at H'
  refine br_s (fun h => ?_) (fun h => ?_)
  · have hneg : Lib.indexByte t 32 = -1 := by have := idx_ge t; simp at h; omega
    have e := words_idx0 hneg
    rw [e] at hw
    apply ld_h 1 H' rfl rfl; refine asStr_h ?_
    refine hy pre.length t cs (sepHp kb ka kc t) _ w (by rw [hw, List.getElem?_append_right (Nat.le_refl _)]; simp) hC (Holds.swap H) (fun cs' w' hc H => ?_) (fun cs' w' hc H => ?_)
    · refine asBoo_h ?_
      refine k1 cs' w' (by rw [hw]; simpa using hc) (drop3 (Holds.swap H))
    · refine asBoo_h ?_
      exact k2 cs' w' hc (drop3 (Holds.swap H))
  · obtain ⟨i, hi⟩ : ∃ i : Nat, Lib.indexByte t 32 = (i : Int) := ⟨(Lib.indexByte t 32).toNat, by simp at h; omega⟩
    obtain ⟨hlt, e⟩ := words_idx hi
    rw [hi]
    apply ld_h 1 H' rfl rfl; refine asStr_h ?_
    apply ld_h 2 H' rfl rfl; refine asI_h ?_
    have e1 : IntKind.i64.wrap ((i : Int) + 0) = (i : Int) := by rw [Int.add_zero]; exact wrap64 (by omega) (by omega)
    rw [e1]
    refine sl_take (by omega) ?_
    rw [e] at hw
    refine hy pre.length (t.take i) cs (sepHp kb ka kc t) _ w (by rw [hw, List.getElem?_append_right (Nat.le_refl _)]; simp) hC (Holds.swap H) (fun cs' w' hc H => ?_) (fun cs' w' hc H => ?_)
    · refine asBoo_h ?_
      refine br_f rfl ?_
      replace H := Holds.swap H
      have H' := H
      unfold sepHp at H'
      apply ld_h 1 H' rfl rfl; refine asStr_h ?_
      apply ld_h 0 H' rfl rfl; refine asStr_h ?_
      have e2 : IntKind.i64.wrap ((i : Int) + ((B [32]).size : Int)) = ((i + 1 : Nat) : Int) := by
        rw [B_size]
        exact wrap64 (by simp; omega) (by simp; omega)
      rw [e2]
      refine sl_drop (by omega) ?_
      apply st_h 1 H' rfl rfl rfl
      intro w2 H2
      replace H2 : Sh.Holds w0 (sepHp kb ka kc (t.drop (i + 1)) ++ cs') w2 := H2
      refine ⟨⟨pre ++ [t.take i], t.drop (i + 1), cs', H2, by simpa using hc, by rw [hw]; simp, by rw [List.length_drop]; omega⟩, ?_⟩
      have hm2 : szAt ka w2 = (t.drop (i + 1)).length := by
        have := H2.mem 1 (k := ka) rfl
        simp only [szAt, this]
        exact B_size _
      show szAt ka w2 < szAt ka _
      rw [hm2, hm, List.length_drop]
      omega
    · refine asBoo_h ?_
      refine br_t rfl ?_
      exact k2 cs' w' hc (drop3 (Holds.swap H))

/-! ### Read -/
def signL (s : List UInt8) : List UInt8 := (signB (B s)).data.toList
theorem signL_B (s : List UInt8) : signB (B s) = B (signL s) := (B_data _).symm
def readS (s : List UInt8) : Option (List UInt8) := if 3 ≤ s.length ∧ signL (s.take (s.length - 3)) = s then some (s.take (s.length - 3)) else none
theorem Read_c {w0 w : World} {hs : List Hp} {K : KV} {s : List UInt8} (hl : s.length ≤ 1000000) (H : Sh.Holds w0 hs w) (k : ∀ w', Sh.Holds w0 hs w' → K (.tuple #[.string (B ((readS s).getD [])), .bool (readS s).isSome]) w') : gocall Tryz.prog 276 [.string (B s)] K w := by
  have bad : readS s = none → ∀ w, Sh.Holds w0 hs w → K (.tuple #[.string ⟨#[]⟩, .bool false]) w := fun e w H => by have := k w H; rwa [e] at this
  apply F276_go; unfold F276
  have e1 : IntKind.i64.wrap (((B s).size : Int) - 3) = (s.length : Int) - 3 := by rw [B_size]; exact wrap64 (by omega) (by omega)
  rw [e1]
  refine br_s (fun h => ?_) (fun h => ?_)
  · refine bad ?_ _ H
    rw [readS, if_neg]
    rintro ⟨h2, -⟩
    simp at h; omega
  have h3 : 3 ≤ s.length := by simp at h; omega
  obtain ⟨n, hn⟩ : ∃ n : Nat, (s.length : Int) - 3 = n ∧ n = s.length - 3 := ⟨s.length - 3, by omega, rfl⟩
  rw [hn.1]
  refine sl_take (by omega) ?_
  refine Sign_c (by rw [B_size, List.length_take]; omega) H (fun w H => ?_)
  refine asStr_h ?_
  rw [signL_B, strEq_B]
  refine br_s (fun h4 => ?_) (fun h4 => ?_)
  · refine bad ?_ _ H
    rw [readS, if_neg]
    rintro ⟨-, h5⟩
    rw [← hn.2] at h5
    simp [h5] at h4
  · refine sl_take (by omega) ?_
    have h5 : signL (s.take n) = s := by simpa using h4
    have e : readS s = some (s.take n) := by rw [readS, hn.2, if_pos ⟨h3, by rw [← hn.2]; exact h5⟩]
    have := k w H
    rwa [e] at this
def zeroEnd (k1 k59 : Nat) (K : KV) (w72 : World) : Prop :=
  st (⟨k1, 0, none⟩) (Value.string ({ data := #[] })) (fun w73 =>
    st (⟨k1, 1, none⟩) (Value.int IntKind.i64 (0)) (fun w74 =>
      st (⟨k1, 2, none⟩) (Value.slice none (0) (0)) (fun w75 =>
        dfr (k59) (fun w76 =>
          ld (⟨k1, 0, none⟩) (fun v77 w78 =>
            asStr (v77) (fun s79 w80 =>
              ld (⟨k1, 1, none⟩) (fun v81 w82 =>
                asI (IntKind.i64) (v81) (fun n83 w84 =>
                  ld (⟨k1, 2, none⟩) (fun v85 w86 =>
                    asSl (v85) (fun p87 k88 k89 w90 =>
                      K (Value.tuple #[(Value.agg #[(Value.string (s79)), (Value.int IntKind.i64 (n83)), (Value.slice p87 (k88) (k89))]), (Value.int IntKind.i64 (2))]) (w90)) (w86)) (w84)) (w82)) (w80)) (w78)) (w76)) (w75)) (w74)) (w73)) (w72)
def parseEnd (k1 k49 k51 k59 : Nat) (K : KV) (w67 : World) : Prop :=
  ld (⟨k51, 0, none⟩) (fun v68 w69 =>
    asI (IntKind.i64) (v68) (fun n70 w71 =>
      br (decide (n70 < 2)) (fun w72 =>
        st (⟨k1, 0, none⟩) (Value.string ({ data := #[] })) (fun w73 =>
          st (⟨k1, 1, none⟩) (Value.int IntKind.i64 (0)) (fun w74 =>
            st (⟨k1, 2, none⟩) (Value.slice none (0) (0)) (fun w75 =>
              dfr (k59) (fun w76 =>
                ld (⟨k1, 0, none⟩) (fun v77 w78 =>
                  asStr (v77) (fun s79 w80 =>
                    ld (⟨k1, 1, none⟩) (fun v81 w82 =>
                      asI (IntKind.i64) (v81) (fun n83 w84 =>
                        ld (⟨k1, 2, none⟩) (fun v85 w86 =>
                          asSl (v85) (fun p87 k88 k89 w90 =>
                            K (Value.tuple #[(Value.agg #[(Value.string (s79)), (Value.int IntKind.i64 (n83)), (Value.slice p87 (k88) (k89))]), (Value.int IntKind.i64 (2))]) (w90)) (w86)) (w84)) (w82)) (w80)) (w78)) (w76)) (w75)) (w74)) (w73)) (w72)) (fun w91 =>
        ld (⟨k49, 0, none⟩) (fun v92 w93 =>
          asStr (v92) (fun s94 w95 =>
            ld (⟨k49, 1, none⟩) (fun v96 w97 =>
              asI (IntKind.i64) (v96) (fun n98 w99 =>
                ld (⟨k49, 2, none⟩) (fun v100 w101 =>
                  asSl (v100) (fun p102 k103 k104 w105 =>
                    gocall Tryz.prog (280) [(Value.agg #[(Value.string (s94)), (Value.int IntKind.i64 (n98)), (Value.slice p102 (k103) (k104))])] (fun v106 w107 =>
                      asBoo (v106) (fun b108 w109 =>
                        br (!b108) (fun w110 =>
                          st (⟨k1, 0, none⟩) (Value.string ({ data := #[] })) (fun w111 =>
                            st (⟨k1, 1, none⟩) (Value.int IntKind.i64 (0)) (fun w112 =>
                              st (⟨k1, 2, none⟩) (Value.slice none (0) (0)) (fun w113 =>
                                dfr (k59) (fun w114 =>
                                  ld (⟨k1, 0, none⟩) (fun v115 w116 =>
                                    asStr (v115) (fun s117 w118 =>
                                      ld (⟨k1, 1, none⟩) (fun v119 w120 =>
                                        asI (IntKind.i64) (v119) (fun n121 w122 =>
                                          ld (⟨k1, 2, none⟩) (fun v123 w124 =>
                                            asSl (v123) (fun p125 k126 k127 w128 =>
                                              K (Value.tuple #[(Value.agg #[(Value.string (s117)), (Value.int IntKind.i64 (n121)), (Value.slice p125 (k126) (k127))]), (Value.int IntKind.i64 (2))]) (w128)) (w124)) (w122)) (w120)) (w118)) (w116)) (w114)) (w113)) (w112)) (w111)) (w110)) (fun w129 =>
                          ld (⟨k49, 0, none⟩) (fun v130 w131 =>
                            asStr (v130) (fun s132 w133 =>
                              ld (⟨k49, 1, none⟩) (fun v134 w135 =>
                                asI (IntKind.i64) (v134) (fun n136 w137 =>
                                  ld (⟨k49, 2, none⟩) (fun v138 w139 =>
                                    asSl (v138) (fun p140 k141 k142 w143 =>
                                      st (⟨k1, 0, none⟩) (Value.string (s132)) (fun w144 =>
                                        st (⟨k1, 1, none⟩) (Value.int IntKind.i64 (n136)) (fun w145 =>
                                          st (⟨k1, 2, none⟩) (Value.slice p140 (k141) (k142)) (fun w146 =>
                                            dfr (k59) (fun w147 =>
                                              ld (⟨k1, 0, none⟩) (fun v148 w149 =>
                                                asStr (v148) (fun s150 w151 =>
                                                  ld (⟨k1, 1, none⟩) (fun v152 w153 =>
                                                    asI (IntKind.i64) (v152) (fun n154 w155 =>
                                                      ld (⟨k1, 2, none⟩) (fun v156 w157 =>
                                                        asSl (v156) (fun p158 k159 k160 w161 =>
                                                          K (Value.tuple #[(Value.agg #[(Value.string (s150)), (Value.int IntKind.i64 (n154)), (Value.slice p158 (k159) (k160))]), (Value.int IntKind.i64 (0))]) (w161)) (w157)) (w155)) (w153)) (w151)) (w149)) (w147)) (w146)) (w145)) (w144)) (w143)) (w139)) (w137)) (w135)) (w133)) (w131)) (w129)) (w109)) (w107)) (w105)) (w101)) (w99)) (w97)) (w95)) (w93)) (w91)) (w71)) (w69)) (w67)
/-! ### Parse -/
structure En where
  k : List UInt8
  id : Int
  l : List Int
def En.zero : En := ⟨[], 0, []⟩
def eHp (b : Nat) (k : List UInt8) (id : Int) (v : Value) : Hp := [(b, .cells #[.string (B k), I id, v] 139 (0, 0))]
def enV (e : En) (v : Value) : Value := .agg #[.string (B e.k), I e.id, v]
def mayN (e : En) : Bool := mayE (B e.k) e.id e.l
def okW (t : List UInt8) : Option En := match readW (wordsL t) with
  | some (k, id, l) => if mayN ⟨k, id, l⟩ = true then some ⟨k, id, l⟩ else none
  | none => none
/-- what entry.Parse answers -/
def parseE (s : List UInt8) : Int × En :=
  if s.length > 80 then (2, En.zero) else match readS s with
    | none => (3, En.zero)
    | some t => match okW t with
      | some e => (0, e)
      | none => (2, En.zero)
theorem el22 : ElTy Tryz.prog 56 3 1 8 := ⟨⟨_, _, rfl, rfl, rfl, rfl, rfl, rfl⟩, by decide⟩
theorem zeroEnd_c {w0 w : World} {hs : List Hp} {K : KV} {k1 D : Nat} (H : Sh.Holds w0 ([(D, .deferred (some []))] :: eHp k1 [] 0 (.slice none 0 0) :: hs) w) (k : ∀ w', Sh.Holds w0 hs w' → K (.tuple #[enV En.zero Row.nil.v, I 2]) w') : zeroEnd k1 D K w := by
  unfold zeroEnd
  unfold eHp at H
  apply st_h 1 H rfl rfl rfl; intro w H
  apply st_h 1 H rfl rfl rfl; intro w H
  apply st_h 1 H rfl rfl rfl; intro w H
  apply dfr_h 0 H rfl; intro w H
  apply ld_h 1 H rfl rfl; refine asStr_h ?_
  apply ld_h 1 H rfl rfl; refine asI_h ?_
  apply ld_h 1 H rfl rfl; refine asSl_h ?_
  exact k _ H.tail.tail
theorem parseEnd_c {w0 w : World} {hs : List Hp} {K : KV} {k1 k49 k51 D : Nat} {e : En} {r : Row} {n : Int} (H : Sh.Holds w0 (eHp k49 e.k e.id r.v :: r.hp 3 :: [(k51, .cells #[I n] 3 (0, 0))] :: [(D, .deferred (some []))] :: eHp k1 [] 0 (.slice none 0 0) :: hs) w)
    (ok : r.Ok 1 (e.l.map I)) (hk : e.k.length < 1000000) (kb : (n < 2 ∨ mayN e = false) → ∀ w', Sh.Holds w0 hs w' → K (.tuple #[enV En.zero Row.nil.v, I 2]) w') (kg : 2 ≤ n → mayN e = true → ∀ w', Sh.Holds w0 (r.hp 3 :: hs) w' → K (.tuple #[enV e r.v, I 0]) w') :
    parseEnd k1 k49 k51 D K w := by
  unfold parseEnd
  apply ld_h 2 H rfl rfl; refine asI_h ?_
  refine br_s (fun h => ?_) (fun h => ?_)
  · exact zeroEnd_c H.tail.tail.tail (kb (.inl (by simpa using h)))
  have hn : 2 ≤ n := by simp at h; omega
  have H' := H
  unfold eHp at H'
  apply ld_h 0 H' rfl rfl; refine asStr_h ?_
  apply ld_h 0 H' rfl rfl; refine asI_h ?_
  apply ld_h 0 H' rfl rfl; refine asSl_h ?_
  refine MayE_c (l := e.l) (by rw [B_size]; omega) (Sl.row 1 rfl ok) H (fun w H => ?_)
  refine asBoo_h ?_
  refine br_s (fun h2 => ?_) (fun h2 => ?_)
  · exact zeroEnd_c H.tail.tail.tail (kb (.inr (by simpa [mayN] using h2)))
  have hm : mayN e = true := by simpa [mayN] using h2
  have H' := H
  unfold eHp at H'
  apply ld_h 0 H' rfl rfl; refine asStr_h ?_
  apply ld_h 0 H' rfl rfl; refine asI_h ?_
  apply ld_h 0 H' rfl rfl; refine asSl_h ?_
  replace H' := Sub.holds (Sub.cons 3 rfl (Sub.cons 3 rfl (Sub.cons 1 rfl (Sub.skip (Sub.skip (Sub.refl _)))))) H'
  apply st_h 1 H' rfl rfl rfl; intro w H'
  apply st_h 1 H' rfl rfl rfl; intro w H'
  apply st_h 1 H' rfl rfl rfl; intro w H'
  apply dfr_h 0 H' rfl; intro w H'
  apply ld_h 1 H' rfl rfl; refine asStr_h ?_
  apply ld_h 1 H' rfl rfl; refine asI_h ?_
  apply ld_h 1 H' rfl rfl; refine asSl_h ?_
  exact kg hn hm _ H'.tail.tail
/-- what the words so far have made of the entry -/
def stOk : List (List UInt8) → En → Prop
  | [], e => e = En.zero
  | k :: rest, e => rest.all isNum = true ∧ e.k = k ∧ e.id = (rest.head?.map atoiL).getD 0 ∧ e.l = (rest.drop 1).map atoiL
theorem words_len : ∀ (l : List UInt8), (wordsL l).length ≤ l.length + 1
  | [] => by simp [wordsL]
  | c :: l => by
    have ih := words_len l
    simp only [wordsL]
    split
    · simp; omega
    · split
      · rename_i h; rw [h] at ih; simp at ih ⊢; omega
      · simp
theorem readW_bad {ws : List (List UInt8)} {i : Nat} {v : List UInt8} (h : ws[i + 1]? = some v) (hv : isNum v = false) : readW ws = none := by
  match ws with
  | [] => rfl
  | [_] => rfl
  | k :: a :: r =>
    simp only [readW]
    rw [if_neg]
    intro hall
    rw [List.all_eq_true] at hall
    have : v ∈ a :: r := List.mem_of_getElem? (by simpa using h)
    rw [hall v this] at hv
    cases hv
theorem stOk_len {ws : List (List UInt8)} {e : En} (h : stOk ws e) : e.l.length ≤ ws.length := by
  cases ws with
  | nil => rw [h]; simp [En.zero]
  | cons k rest => rw [h.2.2.2]; simp; omega
theorem stOk_end {ws : List (List UInt8)} {e : En} (h : stOk ws e) (hn : 2 ≤ ws.length) : readW ws = some (e.k, e.id, e.l) := by
  match ws, hn with
  | k :: a :: r, _ =>
    obtain ⟨h1, h2, h3, h4⟩ := h
    simp only [readW]
    rw [if_pos h1, h2, h3, h4]
    simp
theorem readW_short {ws : List (List UInt8)} (hn : ws.length < 2) : readW ws = none := by
  match ws with
  | [] => rfl
  | [_] => rfl
  | _ :: _ :: _ => exact absurd hn (by simp)
theorem flat_len32 {v : List UInt8} : ∀ {ws : List (List UInt8)}, v ∈ ws → v.length ≤ (ws.flatMap fun v => 32 :: v).length
  | [], hv => by cases hv
  | u :: ws, hv => by
    simp only [List.flatMap_cons, List.length_append, List.length_cons]
    rcases List.mem_cons.1 hv with rfl | hv
    · omega
    · have := flat_len32 hv; omega
theorem word_len {l v : List UInt8} (h : v ∈ wordsL l) : v.length ≤ l.length := by
  have key : ∀ (ws : List (List UInt8)), v ∈ ws → v.length ≤ (joinL ws).length := by
    intro ws hv
    cases ws with
    | nil => cases hv
    | cons w ws =>
      simp only [joinL, List.length_append]
      rcases List.mem_cons.1 hv with rfl | hv
      · omega
      · have := flat_len32 hv
        omega
  have := key _ h
  rwa [join_words] at this
theorem Parse_c {w0 w : World} {hs : List Hp} {K : KV} {s : List UInt8} (E : Errs w0) (T : Tab w0) (H : Sh.Holds w0 hs w) (hl : s.length ≤ 100000)
    (k : ∀ (r : Row) w', r.Ok 1 ((parseE s).2.l.map I) → Sh.Holds w0 (r.hp 3 :: hs) w' → K (.tuple #[enV (parseE s).2 r.v, I (parseE s).1]) w') : gocall Tryz.prog 218 [.string (B s)] K w := by
  have bad : ∀ n, parseE s = (n, En.zero) → ∀ w', Sh.Holds w0 hs w' → K (.tuple #[enV En.zero Row.nil.v, I n]) w' := fun n e w' H => by
    have := k Row.nil w' (by rw [e]; exact Row.nil_ok 1) (Holds.nil H)
    rwa [e] at this
  apply F218_go; unfold F218
  refine nw_h H (fun k1 w H => ?_)
  refine br_s (fun h => ?_) (fun h => ?_)
  · apply st_h 0 H rfl rfl rfl; intro w H
    apply st_h 0 H rfl rfl rfl; intro w H
    apply st_h 0 H rfl rfl rfl; intro w H
    apply ld_h 0 H rfl rfl; refine asStr_h ?_
    apply ld_h 0 H rfl rfl; refine asI_h ?_
    apply ld_h 0 H rfl rfl; refine asSl_h ?_
    refine bad 2 ?_ _ H.tail
    rw [B_size] at h
    rw [parseE, if_pos (by simp at h; omega)]
  have hs80 : ¬ s.length > 80 := by rw [B_size] at h; simp at h; omega
  refine Read_c (by omega) H (fun w H => ?_)
  refine asT_e [_, _] rfl rfl ?_
  refine asStr_e rfl ?_
  refine asBoo_e rfl ?_
  cases hr : readS s with
  | none =>
    refine br_t rfl ?_
    apply st_h 0 H rfl rfl rfl; intro w H
    apply st_h 0 H rfl rfl rfl; intro w H
    apply st_h 0 H rfl rfl rfl; intro w H
    apply ld_h 0 H rfl rfl; refine asStr_h ?_
    apply ld_h 0 H rfl rfl; refine asI_h ?_
    apply ld_h 0 H rfl rfl; refine asSl_h ?_
    exact bad 3 (by rw [parseE, if_neg hs80, hr]) _ H.tail
  | some t =>
    have htl : t.length ≤ 80 := by
      unfold readS at hr
      split at hr
      · cases hr; rw [List.length_take]; omega
      · cases hr
    have hpe : parseE s = match okW t with | some e => (0, e) | none => (2, En.zero) := by rw [parseE, if_neg hs80, hr]
    simp only [Option.getD_some, Option.isSome_some]
    refine br_f rfl ?_
    refine nw_h H (fun k49 w H => ?_)
    refine nw_h H (fun k51 w H => ?_)
    apply st_h 0 H rfl rfl rfl; intro w H
    apply F277_go; unfold F277
    apply F300_go; unfold F300
    refine nw_h H (fun ka w H => ?_)
    refine nw_h H (fun kb w H => ?_)
    refine nw_h H (fun kc w H => ?_)
    refine asFn_h ?_
    refine rfn_h H (fun D l R w hround H => ?_)
    have wl := words_len t
    obtain ⟨C, hC⟩ : ∃ C : Nat → List Hp → Prop, C = fun (i : Nat) (cs : List Hp) => ∃ (e : En) (r : Row), cs = (eHp k49 e.k e.id r.v :: r.hp 3 :: [(k51, .cells #[I i] 3 (0, 0))] :: [(l, R .ready none)] :: [(D, .deferred (some []))] :: eHp k1 [] 0 (.slice none 0 0) :: hs) ∧ r.Ok 1 (e.l.map I) ∧ stOk ((wordsL t).take i) e := ⟨_, rfl⟩
    obtain ⟨Cx, hCx⟩ : ∃ Cx : List Hp → Prop, Cx = fun (cs : List Hp) => ∃ (e : En) (r : Row), cs = (eHp k49 e.k e.id r.v :: r.hp 3 :: [(k51, .cells #[I 0] 3 (0, 0))] :: [(l, R .done (some (.exit 0)))] :: [(D, .deferred (some []))] :: eHp k1 [] 0 (.slice none 0 0) :: hs) ∧ r.Ok 1 (e.l.map I) ∧ e.k.length ≤ 80 ∧ readW (wordsL t) = none := ⟨_, rfl⟩
    have H2 : Sh.Holds w0 (sepHp kb ka kc t ++ (eHp k49 [] 0 Row.nil.v :: Row.nil.hp 3 :: [(k51, .cells #[I 0] 3 (0, 0))] :: [(l, R .ready none)] :: [(D, .deferred (some []))] :: eHp k1 [] 0 (.slice none 0 0) :: hs)) w :=
      Sub.holds (Sub.cons 4 rfl (Sub.cons 4 rfl (Sub.cons 3 rfl (Sub.cons 4 rfl (Sub.cons 0 rfl (Sub.cons 2 rfl (Sub.cons 0 rfl (Sub.cons 0 rfl (Sub.refl _))))))))) (Holds.nil H)
    have fin : ∀ {e : En} {r : Row} {n : Int} {w'}, Sh.Holds w0 (eHp k49 e.k e.id r.v :: r.hp 3 :: [(k51, .cells #[I n] 3 (0, 0))] :: [(D, .deferred (some []))] :: eHp k1 [] 0 (.slice none 0 0) :: hs) w' → r.Ok 1 (e.l.map I) → e.k.length ≤ 80 → (2 ≤ n → readW (wordsL t) = some (e.k, e.id, e.l)) → (n < 2 → readW (wordsL t) = none) → parseEnd k1 k49 k51 D K w' := by
      intro e r n w' H ok hk80 h1 h2
      refine parseEnd_c H ok (by omega) (fun hc => bad 2 ?_) (fun hn hm w' H => ?_)
      · rw [hpe, okW]
        by_cases hn : n < 2
        · rw [h2 hn]
        · rw [h1 (by omega)]
          simp only
          rcases hc with hc | hc
          · omega
          · have : mayN ⟨e.k, e.id, e.l⟩ = false := hc
            rw [if_neg (by rw [this]; decide)]
      · have e2 : parseE s = (0, e) := by
          rw [hpe, okW, h1 hn]
          simp only
          rw [if_pos (show mayN ⟨e.k, e.id, e.l⟩ = true from hm)]
        have := k r w' (by rw [e2]; exact ok) H
        rwa [e2] at this
    refine split_c (s := t) (y := l) C Cx (by omega) H2 (by rw [hC]; exact ⟨En.zero, Row.nil, rfl, Row.nil_ok 1, rfl⟩) ?_ ?_ ?_
    · intro i v cs fr K' w hv hc H kt kf
      rw [hC] at hc
      obtain ⟨e, r, rfl, ok, hst⟩ := hc
      have hvl : v.length ≤ 80 := by have := word_len (List.mem_of_getElem? hv); omega
      have hil : i < (wordsL t).length := (List.getElem?_eq_some_iff.1 hv).1
      have htk : (wordsL t).take (i + 1) = (wordsL t).take i ++ [v] := by rw [List.take_add_one, hv]; rfl
      have hkl : e.k.length ≤ 80 := by
        cases hw : (wordsL t).take i with
        | nil => rw [hw] at hst; rw [hst]; simp [En.zero]
        | cons a b =>
          rw [hw] at hst
          rw [hst.2.1]
          have : a ∈ wordsL t := List.mem_of_mem_take (by rw [hw]; simp)
          have := word_len this; omega
      have hll := stOk_len hst
      rw [List.length_take] at hll
      have hrn : r.n = e.l.length := by have := ok.len; simp at this; omega
      refine hround _ _ _ (H.mem 3 rfl) ?_
      refine asT_e [_] rfl rfl ?_
      refine asStr_e rfl ?_
      refine rfb_h 3 H rfl (fun w H => ?_)
      apply ld_h 2 H rfl rfl; refine asI_h ?_
      have ew : IntKind.i64.wrap ((i : Int) + 1) = ((i + 1 : Nat) : Int) := by rw [wrap64 (by omega) (by omega)]; rfl
      unfold eHp at H
      refine br_s (fun h0 => ?_) (fun h0 => ?_)
      · have hi0 : i = 0 := by simp at h0; omega
        subst hi0
        have he : e = En.zero := hst
        subst he
        apply st_h 0 H rfl rfl rfl; intro w H
        apply ld_h 2 H rfl rfl; refine asI_h ?_
        rw [ew]
        apply st_h 2 H rfl rfl rfl; intro w H
        refine rfy_h 3 H rfl (fun w H => ?_)
        refine kt (eHp k49 v 0 r.v :: r.hp 3 :: [(k51, .cells #[I ((0 + 1 : Nat) : Int)] 3 (0, 0))] :: [(l, R .ready none)] :: [(D, .deferred (some []))] :: eHp k1 [] 0 (.slice none 0 0) :: hs) w ?_ H
        rw [hC]
        exact ⟨⟨v, 0, []⟩, r, rfl, ok, by rw [htk]; exact ⟨rfl, rfl, rfl, rfl⟩⟩
      · obtain ⟨j, rfl⟩ : ∃ j, i = j + 1 := ⟨i - 1, by simp at h0; omega⟩
        obtain ⟨k0, rest, hw⟩ : ∃ k0 rest, (wordsL t).take (j + 1) = k0 :: rest := by
          cases hw : (wordsL t).take (j + 1) with
          | nil => have := congrArg List.length hw; rw [List.length_take, List.length_nil] at this; omega
          | cons a b => exact ⟨a, b, rfl⟩
        have hrl : rest.length = j := by have := congrArg List.length hw; rw [List.length_take, List.length_cons] at this; omega
        rw [hw] at hst htk
        obtain ⟨s1, s2, s3, s4⟩ := hst
        have stop : ∀ {w}, isNum v = false → Sh.Holds w0 (eHp k49 e.k e.id r.v :: r.hp 3 :: [(k51, .cells #[I 0] 3 (0, 0))] :: [(l, R .busy none)] :: [(D, .deferred (some []))] :: eHp k1 [] 0 (.slice none 0 0) :: (hs ++ fr)) w → rfx l R (.exit 0) (fun v w => K' v w) w := by
          intro w hb H
          refine rfx_h 3 H rfl (fun w H => ?_)
          refine kf (eHp k49 e.k e.id r.v :: r.hp 3 :: [(k51, .cells #[I 0] 3 (0, 0))] :: [(l, R .done (some (.exit 0)))] :: [(D, .deferred (some []))] :: eHp k1 [] 0 (.slice none 0 0) :: hs) w ?_ H
          rw [hCx]
          exact ⟨e, r, rfl, ok, hkl, readW_bad hv hb⟩
        refine atoi_c E (by rw [B_size]; omega) H (fun er w he H => ?_)
        refine asT_e [_, _] rfl rfl ?_
        refine asI_e rfl ?_
        have ea : atoiL (B v).data.toList = atoiL v := rfl
        have eg : atoiG (B v).data.toList = atoiG v := rfl
        rw [ea]
        rw [eg] at he
        by_cases hg : atoiG v = true
        · rw [if_pos hg] at he
          subst he
          refine ⟨true, .inl ⟨rfl, rfl⟩, ?_⟩
          refine br_f rfl ?_
          have hbd := atoiL_bd v
          refine Itoa_c T hbd.1 hbd.2 H (fun w H => ?_)
          refine asStr_h ?_
          have es : strEq (itoaB (atoiL v)) (B v) = decide (Lib.itoa (atoiL v) = v) := strEq_B _ _
          rw [es]
          refine br_s (fun h1 => ?_) (fun h1 => ?_)
          · apply st_h 2 H rfl rfl rfl; intro w H
            exact stop (by simp at h1; simp [isNum, h1]) H
          · have hnum : isNum v = true := by simp at h1; simp [isNum, h1, hg]
            apply ld_h 2 H rfl rfl; refine asI_h ?_
            refine br_s (fun h2 => ?_) (fun h2 => ?_)
            · have hj : j = 0 := by simp at h2; omega
              subst hj
              have hre : rest = [] := List.eq_nil_of_length_eq_zero hrl
              subst hre
              apply st_h 0 H rfl rfl rfl; intro w H
              apply ld_h 2 H rfl rfl; refine asI_h ?_
              rw [ew]
              apply st_h 2 H rfl rfl rfl; intro w H
              refine rfy_h 3 H rfl (fun w H => ?_)
              refine kt (eHp k49 e.k (atoiL v) r.v :: r.hp 3 :: [(k51, .cells #[I ((0 + 1 + 1 : Nat) : Int)] 3 (0, 0))] :: [(l, R .ready none)] :: [(D, .deferred (some []))] :: eHp k1 [] 0 (.slice none 0 0) :: hs) w ?_ H
              rw [hC]
              exact ⟨⟨e.k, atoiL v, e.l⟩, r, rfl, ok, by rw [htk]; exact ⟨by simp [hnum], s2, rfl, s4⟩⟩
            · have hj : 1 ≤ j := by simp at h2; omega
              apply ld_h 0 H rfl rfl; refine asSl_h ?_
              refine nw_h H (fun kk w H => ?_)
              refine bapp1_h (news := [I (atoiL v)]) el22 0 (H := Holds.bring 2 H rfl) rfl ok rfl (by simp [Value.oneCell']) (by omega) (by unfold maxLen; omega) (fun r' w hr1 hr2 H => ?_)
              refine asSl_h ?_
              replace H := Sub.holds (Sub.cons 2 rfl (Sub.cons 0 rfl (Sub.skip (Sub.refl _)))) H
              apply st_h 0 H rfl rfl rfl; intro w H
              apply ld_h 2 H rfl rfl; refine asI_h ?_
              rw [ew]
              apply st_h 2 H rfl rfl rfl; intro w H
              refine rfy_h 3 H rfl (fun w H => ?_)
              refine kt (eHp k49 e.k e.id r'.v :: r'.hp 3 :: [(k51, .cells #[I ((j + 1 + 1 : Nat) : Int)] 3 (0, 0))] :: [(l, R .ready none)] :: [(D, .deferred (some []))] :: eHp k1 [] 0 (.slice none 0 0) :: hs) w ?_ H
              rw [hC]
              refine ⟨⟨e.k, e.id, e.l ++ [atoiL v]⟩, r', rfl, by simpa using hr2, ?_⟩
              rw [htk]
              cases rest with
              | nil => simp at hrl; omega
              | cons a rest => exact ⟨by show ((a :: rest) ++ [v]).all isNum = true; rw [List.all_append, s1]; simp [hnum], s2, s3, by rw [s4]; simp⟩
        · rw [if_neg hg] at he
          obtain ⟨t1, y1, rfl⟩ := he
          refine ⟨false, .inr ⟨rfl, _, _, rfl⟩, ?_⟩
          refine br_t rfl ?_
          apply st_h 2 H rfl rfl rfl; intro w H
          exact stop (by simp at hg; simp [isNum, hg]) H
    · intro cs' w' hc H
      rw [hC] at hc
      obtain ⟨e, r, rfl, ok, hst⟩ := hc
      rw [List.take_of_length_le (Nat.le_refl _)] at hst
      have hkl : e.k.length ≤ 80 := by
        cases hw : wordsL t with
        | nil => exact absurd hw (words_ne t)
        | cons a b =>
          rw [hw] at hst
          rw [hst.2.1]
          have : a ∈ wordsL t := by rw [hw]; simp
          have := word_len this; omega
      refine rfe_h 3 (st := .ready) (pe := none) (by simp) H rfl (fun w H => ?_)
      replace H := Sub.holds (Sub.cons 0 rfl (Sub.cons 0 rfl (Sub.cons 0 rfl (Sub.skip (Sub.refl _))))) H
      exact fin H ok hkl (fun hn => stOk_end hst (by omega)) (fun hn => readW_short (by omega))
    · intro cs' w' hc H
      rw [hCx] at hc
      obtain ⟨e, r, rfl, ok, hkl, hno⟩ := hc
      refine rfe_h 3 (st := .done) (pe := some (.exit 0)) (by simp) H rfl (fun w H => ?_)
      replace H := Sub.holds (Sub.cons 0 rfl (Sub.cons 0 rfl (Sub.cons 0 rfl (Sub.skip (Sub.refl _))))) H
      exact fin H ok hkl (fun hn => by omega) (fun _ => hno)
end Go.Proofs.YtcfmnoimehcfnaaGreatDoor
