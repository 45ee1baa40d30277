/- Contracts of order's scanner, Parse, Text, Same, and of the reference's SameOrder. Conditions: none. -/
import Derived.Test.YtiihiaicggmhjaaDoorC11
set_option linter.unusedVariables false
set_option maxRecDepth 100000
namespace Go.Proofs.YtiihiaicggmhjaaDoor
open Go Go.Sh

abbrev B (l : List UInt8) : ByteArray := ⟨l.toArray⟩
theorem B_data (s : ByteArray) : B s.data.toList = s := by obtain ⟨⟨l⟩⟩ := s; rfl
theorem B_app (a b : List UInt8) : B a ++ B b = B (a ++ b) := ByteArray.ext (by simp [B])
theorem B_size (l : List UInt8) : (B l).size = l.length := rfl
theorem B_inj {a b : List UInt8} (h : B a = B b) : a = b := by
  have := congrArg (fun s => s.data.toList) h
  simpa [B] using this
theorem B_take (l : List UInt8) (m : Nat) : (B l).extract 0 m = B (l.take m) := ByteArray.ext (by simp [B])
theorem B_drop (l : List UInt8) (m : Nat) : (B l).extract m l.length = B (l.drop m) := ByteArray.ext (by simp [B, List.take_of_length_le])
theorem toList_data (s : ByteArray) : s.toList = s.data.toList := by
  have key : ∀ (n i : Nat) (r : List UInt8), s.size - i = n → ByteArray.toList.loop s i r = r.reverse ++ s.data.toList.drop i := by
    intro n
    induction n with
    | zero =>
      intro i r h
      rw [ByteArray.toList.loop]
      have hs : s.size = s.data.toList.length := rfl
      rw [if_neg (by omega), List.drop_eq_nil_of_le (by omega), List.append_nil]
    | succ n ih =>
      intro i r h
      rw [ByteArray.toList.loop]
      have hs : s.size = s.data.toList.length := rfl
      rw [if_pos (by omega), ih (i + 1) _ (by omega)]
      rw [List.drop_eq_getElem_cons (by omega : i < s.data.toList.length)]
      have hi : i < s.data.size := by have : s.size = s.data.size := rfl
                                      omega
      simp [ByteArray.get!, getElem!_pos s.data i hi]
  have := key _ 0 [] rfl
  simpa [ByteArray.toList] using this
theorem strEq_B (a b : List UInt8) : strEq (B a) (B b) = decide (a = b) := by
  rw [strEq, toList_data, toList_data]
  by_cases h : a = b <;> simp [h]
theorem hasP_len {s g : List UInt8} : (numR g s).length ≤ s.length := by
  unfold numR Lib.trimPrefix
  split <;> simp
theorem numS_len {s g : List UInt8} : (numS g s).length ≤ s.length := by
  have h1 := hasP_len (s := s) (g := g)
  have h2 : (numS g s).length ≤ (numR g s).length := (List.dropWhile_sublist _).length_le
  omega
theorem take_while {l : List UInt8} {x : Nat} (hx : x ≤ l.length) (h : ∀ j, j < x → ∀ c, l[j]? = some c → isD c = true) (he : x = l.length ∨ ∃ c, l[x]? = some c ∧ isD c = false) : l.take x = l.takeWhile isD ∧ l.drop x = l.dropWhile isD := by
  induction l generalizing x with
  | nil => simp at hx; subst hx; exact ⟨rfl, rfl⟩
  | cons c l ih =>
    cases x with
    | zero =>
      rcases he with he | ⟨d, hd, hdd⟩
      · simp at he
      · simp at hd; subst hd
        simp [hdd]
    | succ x =>
      have hc := h 0 (by omega) c rfl
      have := ih (x := x) (by simpa using hx) (fun j hj d hd => h (j + 1) (by omega) d (by simpa using hd)) (by
        rcases he with he | ⟨d, hd, hdd⟩
        · exact .inl (by simpa using he)
        · exact .inr ⟨d, by simpa using hd, hdd⟩)
      simp [hc, this.1, this.2]

def scHp (q : Nat) (s : List UInt8) (b : Bool) : Hp := [(q, .cells #[.string (B s), .bool b] 74 (0, 0))]
theorem numB_or {b : Bool} {g s : List UInt8} : (b || numB g s) = if b = true then true else if Lib.hasPrefix s g = false then true else if atoiG (numD g s) = false then true else !decide (Lib.itoa (numN g s) = numD g s) := by
  unfold numB
  cases b <;> cases Lib.hasPrefix s g <;> cases atoiG (numD g s) <;> simp
/-- the end of a number -/
def numTail (p0 : Option Addr) (s12 : ByteArray) (b14 : Bool) (x : Int) (K : KV) (w : World) : Prop :=
  strSl (s12) (0) x (fun s25 w26 =>
    gocall Tryd.prog (58) [(Value.string (s25))] (fun v27 w28 =>
      asT (2) (v27) (fun f29 w30 =>
        asI (IntKind.i64) (f29 0) (fun n31 w32 =>
          keeps (fun S33 w34 =>
            nn (p0) (fun a35 w36 =>
              ldS (S33) (⟨a35.block, a35.off + 1, none⟩) (fun v37 w38 =>
                asBoo (v37) (fun b39 w40 =>
                  br (b39) (fun w41 =>
                    nn (p0) (fun a42 w43 =>
                      st (⟨a42.block, a42.off + 1, none⟩) (Value.bool (true)) (fun w44 =>
                        strSl (s12) x ((↑s12.size : Int)) (fun s45 w46 =>
                          nn (p0) (fun a47 w48 =>
                            st (a47) (Value.string (s45)) (fun w49 =>
                              K (Value.int IntKind.i64 (n31)) (w49)) (w48)) (w46)) (w44)) (w43)) (w41)) (fun w50 =>
                    br (!b14) (fun w51 =>
                      nn (p0) (fun a52 w53 =>
                        st (⟨a52.block, a52.off + 1, none⟩) (Value.bool (true)) (fun w54 =>
                          strSl (s12) x ((↑s12.size : Int)) (fun s55 w56 =>
                            nn (p0) (fun a57 w58 =>
                              st (a57) (Value.string (s55)) (fun w59 =>
                                K (Value.int IntKind.i64 (n31)) (w59)) (w58)) (w56)) (w54)) (w53)) (w51)) (fun w60 =>
                      isnil (f29 1) (fun b61 w62 =>
                        br (!b61) (fun w63 =>
                          nn (p0) (fun a64 w65 =>
                            st (⟨a64.block, a64.off + 1, none⟩) (Value.bool (true)) (fun w66 =>
                              strSl (s12) x ((↑s12.size : Int)) (fun s67 w68 =>
                                nn (p0) (fun a69 w70 =>
                                  st (a69) (Value.string (s67)) (fun w71 =>
                                    K (Value.int IntKind.i64 (n31)) (w71)) (w70)) (w68)) (w66)) (w65)) (w63)) (fun w72 =>
                          strSl (s12) (0) x (fun s73 w74 =>
                            gocall Tryd.prog (39) [(Value.int IntKind.i64 (n31))] (fun v75 w76 =>
                              asStr (v75) (fun s77 w78 =>
                                kp (S33) (fun w79 =>
                                  nn (p0) (fun a80 w81 =>
                                    st (⟨a80.block, a80.off + 1, none⟩) (Value.bool (!strEq s77 s73)) (fun w82 =>
                                      strSl (s12) x ((↑s12.size : Int)) (fun s83 w84 =>
                                        nn (p0) (fun a85 w86 =>
                                          st (a85) (Value.string (s83)) (fun w87 =>
                                            K (Value.int IntKind.i64 (n31)) (w87)) (w86)) (w84)) (w82)) (w81)) (w79)) (w78)) (w76)) (w74)) (w72)) (w62)) (w60)) (w50)) (w40)) (w38)) (w36)) (w34)) (w32.drew)) (w30)) (w28)) (w26)) w

theorem numTail_c {w0 w : World} {hs : List Hp} {K : KV} {s g : List UInt8} {bad : Bool} {q x : Nat} (E : Errs w0) (T : Tab w0) (H : Holds w0 (scHp q s bad :: hs) w) (hl : s.length ≤ 100000)
    (hx : x ≤ (numR g s).length) (ht : (numR g s).take x = numD g s) (hd : (numR g s).drop x = numS g s)
    (k : ∀ w', Holds w0 (scHp q (numS g s) (bad || numB g s) :: hs) w' → K (I (numN g s)) w') : numTail (some ⟨q, 0, none⟩) (B (numR g s)) (Lib.hasPrefix s g) x K w := by
  have hrl := hasP_len (s := s) (g := g)
  have hsz := B_size (numR g s)
  have eD : (B (numR g s)).extract (Int.toNat 0) (x : Int).toNat = B (numD g s) := by rw [← ht]; exact B_take _ _
  have eS : (B (numR g s)).extract (x : Int).toNat (Int.toNat ((B (numR g s)).size : Int)) = B (numS g s) := by
    rw [← hd, Int.toNat_natCast, Int.toNat_natCast, hsz]; exact B_drop _ _
  have hDl : (numD g s).length ≤ 100000 := by rw [← ht, List.length_take]; omega
  unfold numTail
  refine ⟨by omega, by omega, by rw [hsz]; omega, ?_⟩
  rw [eD]
  refine atoi_c E (by rw [B_size]; omega) H (fun e w1 he H1 => ?_)
  refine asT_e [_, _] rfl rfl ?_
  refine asI_e rfl ?_
  have ea : atoiL (B (numD g s)).data.toList = numN g s := rfl
  have eg : atoiG (B (numD g s)).data.toList = atoiG (numD g s) := rfl
  rw [ea]
  rw [eg] at he
  have fin : ∀ (b : Bool) (w2 : World), (bad || numB g s) = b → Holds w0 (scHp q s bad :: hs) w2 → st (⟨q, 0 + 1, none⟩) (Value.bool b) (fun w82 =>
      strSl (B (numR g s)) x ((↑(B (numR g s)).size : Int)) (fun s83 w84 =>
        nn (some ⟨q, 0, none⟩) (fun a85 w86 => st (a85) (Value.string (s83)) (fun w87 => K (Value.int IntKind.i64 (numN g s)) (w87)) (w86)) (w84)) (w82)) w2 := by
    intro b w2 hb H2
    unfold scHp at H2
    apply st_h 0 H2 rfl rfl rfl
    intro w3 H3
    refine ⟨by omega, by rw [hsz]; omega, Int.le_refl _, ?_⟩
    rw [eS]
    refine nn_h ?_
    apply st_h 0 H3 rfl rfl rfl
    intro w4 H4
    refine k w4 ?_
    rw [hb]
    exact H4
  rw [numB_or] at fin
  replace H1 := H1.drew
  refine keeps_h H1 ?_
  refine nn_h ?_
  unfold scHp
  refine ldS_h 0 rfl rfl ?_
  refine asBoo_h ?_
  refine br_s (fun hb => ?_) (fun hb => ?_)
  · exact nn_h (fin _ _ (by simp [hb]) H1)
  refine br_s (fun hp => ?_) (fun hp => ?_)
  · exact nn_h (fin _ _ (by simp at hp; simp [hp]) H1)
  simp only [Bool.not_eq_false'] at hp
  by_cases hg : atoiG (numD g s) = true
  · rw [if_pos hg] at he
    subst he
    refine ⟨true, .inl ⟨rfl, rfl⟩, ?_⟩
    refine br_f rfl ?_
    refine ⟨by omega, by omega, by rw [hsz]; omega, ?_⟩
    rw [eD]
    have hbd := atoiL_bd (numD g s)
    refine Itoa_c T hbd.1 hbd.2 H1 (fun w2 H2 => ?_)
    refine asStr_h ?_
    refine kp_h H2 ?_
    have e : strEq (itoaB (numN g s)) (B (numD g s)) = decide (Lib.itoa (numN g s) = numD g s) := strEq_B _ _
    rw [e]
    exact nn_h (fin _ _ (by simp [hb, hp, hg]) H2)
  · rw [if_neg hg] at he
    obtain ⟨t, y, rfl⟩ := he
    refine ⟨false, .inr ⟨rfl, _, _, rfl⟩, ?_⟩
    refine br_t rfl ?_
    exact nn_h (fin _ _ (by simp at hg; simp [hb, hp, hg]) H1)

theorem number_c {w0 w : World} {hs : List Hp} {K : KV} {s g : List UInt8} {bad : Bool} {q : Nat} (E : Errs w0) (T : Tab w0) (H : Holds w0 (scHp q s bad :: hs) w) (hl : s.length ≤ 100000)
    (k : ∀ w', Holds w0 (scHp q (numS g s) (bad || numB g s) :: hs) w' → K (I (numN g s)) w') : gocall Tryd.prog 40 [.pointer (some ⟨q, 0, none⟩), .string (B g)] K w := by
  apply F40_go; unfold F40
  refine nn_h ?_
  apply ld_h 0 H rfl rfl
  refine asStr_h ?_
  refine cut_c H (fun w1 H1 => ?_)
  refine asT_e [_, _] rfl rfl ?_
  refine asStr_e rfl ?_
  refine asBoo_e rfl ?_
  have e1 : (⟨(Lib.trimPrefix (B s).data.toList (B g).data.toList).toArray⟩ : ByteArray) = B (numR g s) := rfl
  have e2 : Lib.hasPrefix (B s).data.toList (B g).data.toList = Lib.hasPrefix s g := rfl
  rw [e1, e2]
  have hrl := hasP_len (s := s) (g := g)
  have hsz := B_size (numR g s)
  refine ⟨fun y w => Holds w0 (scHp q s bad :: hs) w ∧ 0 ≤ y.1 ∧ y.1 ≤ (numR g s).length ∧ ∀ j, j < y.1.toNat → ∀ c, (numR g s)[j]? = some c → isD c = true, fun y _ => ((numR g s).length - y.1).toNat, ⟨H1, by simp, by simp, fun j hj => by simp at hj⟩, ?_⟩
  rintro ⟨y, u⟩ w ⟨H, h0, h1, hf⟩
  simp only at h0 h1 hf
  obtain ⟨x, rfl⟩ : ∃ x : Nat, y = x := ⟨y.toNat, by omega⟩
  simp only [Int.toNat_natCast] at hf
  have hx : x ≤ (numR g s).length := by omega
  have out : (x = (numR g s).length ∨ ∃ c, (numR g s)[x]? = some c ∧ isD c = false) → numTail (some ⟨q, 0, none⟩) (B (numR g s)) (Lib.hasPrefix s g) x K w := by
    intro he
    obtain ⟨t1, t2⟩ := take_while hx hf he
    exact numTail_c E T H hl hx t1 t2 k
  refine br_s (fun h => ?_) (fun h => ?_)
  · simp only [decide_eq_true_eq] at h
    rw [hsz] at h
    have hx' : x < (numR g s).length := by omega
    have hc := List.getElem?_eq_getElem hx'
    have hcb : (B (numR g s))[(x : Int).toNat]? = some (numR g s)[x] := by
      have hx2 : x < (B (numR g s)).size := by rw [hsz]; exact hx'
      rw [Int.toNat_natCast, getElem?_pos (B (numR g s)) x hx2, ByteArray.getElem_eq_getElem_data]
      simp [B]
    refine ⟨_, by simp only; omega, hcb, ?_⟩
    refine br_s (fun h2 => ?_) (fun h2 => ?_)
    · refine br_s (fun h3 => ?_) (fun h3 => ?_)
      · have hw : IntKind.wrap .i64 ((x : Int) + 1) = ((x + 1 : Nat) : Int) := by rw [wrap64 (by omega) (by omega)]; rfl
        simp only [hw]
        refine ⟨⟨H, by omega, by omega, ?_⟩, by omega⟩
        intro j hj c hc'
        simp only [Int.toNat_natCast] at hj
        by_cases hj' : j < x
        · exact hf j hj' c hc'
        · have : j = x := by omega
          subst this
          rw [hc] at hc'; cases hc'
          simp at h2 h3
          simp [isD]; omega
      · exact out (.inr ⟨_, hc, by simp at h3; simp [isD]; omega⟩)
    · exact out (.inr ⟨_, hc, by simp at h2; simp [isD]; omega⟩)
  · simp only [decide_eq_false_iff_not] at h
    exact out (.inl (by rw [hsz] at h; omega))

/-! ### orders in cells -/
def odHp (k : Nat) (o : Od) (v : Value) : Hp := [(k, .cells #[I o.id, I o.item, I o.qty, I o.client, I o.price, v] 43 (0, 0))]
def zeroHp (k : Nat) : Hp := [(k, .cells #[I 0, I 0, I 0, I 0, I 0, .slice none 0 0] 43 (0, 0))]
def odV (o : Od) (v : Value) : Value := .agg #[I o.id, I o.item, I o.qty, I o.client, I o.price, v]
section
variable {w0 w : World} {hs : List Hp}
theorem ld6_h (i : Nat) {k n c : Nat} {o : Od} {p : Option Addr} {X : Int → Int → Int → Int → Int → Option Addr → Nat → Nat → World → Prop} (H : Holds w0 hs w) (hi : hs[i]? = some (odHp k o (.slice p n c))) (hk : X o.id o.item o.qty o.client o.price p n c w) :
    ld ⟨k, 0, none⟩ (fun v1 w1 => asI .i64 v1 (fun n1 w2 => ld ⟨k, 1, none⟩ (fun v3 w3 => asI .i64 v3 (fun n2 w4 => ld ⟨k, 2, none⟩ (fun v5 w5 => asI .i64 v5 (fun n3 w6 => ld ⟨k, 3, none⟩ (fun v7 w7 => asI .i64 v7 (fun n4 w8 =>
      ld ⟨k, 4, none⟩ (fun v9 w9 => asI .i64 v9 (fun n5 w10 => ld ⟨k, 5, none⟩ (fun v11 w11 => asSl v11 (fun p n c w12 => X n1 n2 n3 n4 n5 p n c w12) w11) w10) w9) w8) w7) w6) w5) w4) w3) w2) w1) w := by
  unfold odHp at hi
  apply ld_h i H hi rfl; refine asI_h ?_
  apply ld_h i H hi rfl; refine asI_h ?_
  apply ld_h i H hi rfl; refine asI_h ?_
  apply ld_h i H hi rfl; refine asI_h ?_
  apply ld_h i H hi rfl; refine asI_h ?_
  apply ld_h i H hi rfl; refine asSl_h ?_
  exact hk
theorem st6_h {k : Nat} {o : Od} {v : Value} {a0 a1 a2 a3 a4 : Int} {p : Option Addr} {n c : Nat} {X : World → Prop} (H : Holds w0 (odHp k o v :: hs) w) (hk : ∀ w', Holds w0 (odHp k ⟨a0, a1, a2, a3, a4, []⟩ (.slice p n c) :: hs) w' → X w') :
    st ⟨k, 0, none⟩ (I a0) (fun w => st ⟨k, 1, none⟩ (I a1) (fun w => st ⟨k, 2, none⟩ (I a2) (fun w => st ⟨k, 3, none⟩ (I a3) (fun w => st ⟨k, 4, none⟩ (I a4) (fun w => st ⟨k, 5, none⟩ (.slice p n c) (fun w => X w) w) w) w) w) w) w := by
  unfold odHp at H
  apply st_h 0 H rfl rfl rfl; intro w H
  apply st_h 0 H rfl rfl rfl; intro w H
  apply st_h 0 H rfl rfl rfl; intro w H
  apply st_h 0 H rfl rfl rfl; intro w H
  apply st_h 0 H rfl rfl rfl; intro w H
  apply st_h 0 H rfl rfl rfl; intro w H
  exact hk _ H
theorem nw6_h {a0 a1 a2 a3 a4 : Int} {p : Option Addr} {n c : Nat} {X : Nat → World → Prop} (H : Holds w0 hs w) (hk : ∀ k w', Holds w0 (odHp k ⟨a0, a1, a2, a3, a4, []⟩ (.slice p n c) :: hs) w' → X k w') :
    nw (Obj.cells #[I 0, I 0, I 0, I 0, I 0, .slice none 0 0] 43 (0, 0)) (fun k w => st ⟨k, 0, none⟩ (I a0) (fun w => st ⟨k, 1, none⟩ (I a1) (fun w => st ⟨k, 2, none⟩ (I a2) (fun w => st ⟨k, 3, none⟩ (I a3) (fun w => st ⟨k, 4, none⟩ (I a4) (fun w => st ⟨k, 5, none⟩ (.slice p n c) (fun w => X k w) w) w) w) w) w) w) w :=
  nw_h H fun k w H => st6_h (o := ⟨0, 0, 0, 0, 0, []⟩) H (hk k)
theorem nwO_h {a0 a1 a2 a3 a4 : Int} {v : Value} {X : Nat → World → Prop} (H : Holds w0 hs w) (hk : ∀ k w', Holds w0 (odHp k ⟨a0, a1, a2, a3, a4, []⟩ v :: hs) w' → X k w') : nw (Obj.cells #[I a0, I a1, I a2, I a3, I a4, v] 43 (0, 0)) X w := nw_h H hk
theorem res_h {o : Od} {p : Option Addr} {n c : Nat} {e : Int} {X : Int → Int → Int → Int → Int → Option Addr → Nat → Nat → Int → World → Prop} (hk : X o.id o.item o.qty o.client o.price p n c e w) :
    asT 2 (.tuple #[odV o (.slice p n c), I e]) (fun f w1 => asN 6 (f 0) (fun g w2 => asI .i64 (g 0) (fun n1 w3 => asI .i64 (g 1) (fun n2 w4 => asI .i64 (g 2) (fun n3 w5 => asI .i64 (g 3) (fun n4 w6 => asI .i64 (g 4) (fun n5 w7 => asSl (g 5) (fun p n c w8 =>
      asI .i64 (f 1) (fun e w9 => X n1 n2 n3 n4 n5 p n c e w9) w8) w7) w6) w5) w4) w3) w2) w1) w := by
  refine asT_e [_, _] rfl rfl ?_
  refine asN_e [_, _, _, _, _, _] rfl rfl ?_
  refine asI_e rfl ?_
  refine asI_e rfl ?_
  refine asI_e rfl ?_
  refine asI_e rfl ?_
  refine asI_e rfl ?_
  refine asSl_e rfl ?_
  refine asI_e rfl ?_
  exact hk
end
end Go.Proofs.YtiihiaicggmhjaaDoor
