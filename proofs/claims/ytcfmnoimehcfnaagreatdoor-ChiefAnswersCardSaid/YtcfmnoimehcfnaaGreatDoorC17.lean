/- Entries: their cells, their lines; what is written is read. Conditions: none. -/
import Derived.Test.YtcfmnoimehcfnaaGreatDoorC16
import Derived.Test.YtcfmnoimehcfnaaGreatDoorC3
set_option linter.unusedVariables false
set_option maxRecDepth 100000
namespace Go.Proofs.YtcfmnoimehcfnaaGreatDoor
open Go Go.Sh

def eqB (l m : List Int) : Bool := decide (l = m)
def sameE (a b : En) : Bool := decide (a.k = b.k) && ((a.id == b.id) && eqB a.l b.l)
theorem sameE_iff {a b : En} : sameE a b = true ↔ a = b := by
  cases a; cases b
  simp only [sameE, eqB, Bool.and_eq_true, decide_eq_true_eq, beq_iff_eq, En.mk.injEq]
theorem sameE_false {a b : En} (h : a ≠ b) : sameE a b = false := by
  cases e : sameE a b with
  | false => rfl
  | true => exact absurd (sameE_iff.1 e) h
theorem nwE_h {w0 w : World} {hs : List Hp} {e : En} {v : Value} {X : Nat → World → Prop} (H : Sh.Holds w0 hs w) (hk : ∀ k w', Sh.Holds w0 (eHp k e.k e.id v :: hs) w' → X k w') : nw (Obj.cells #[.string (B e.k), I e.id, v] 139 (0, 0)) X w := nw_h H hk
theorem ld3_h {w0 w : World} {hs : List Hp} (i : Nat) {b n c : Nat} {k : List UInt8} {id : Int} {p : Option Addr} {X : ByteArray → Int → Option Addr → Nat → Nat → World → Prop} (H : Sh.Holds w0 hs w) (hi : hs[i]? = some (eHp b k id (.slice p n c))) (hk : X (B k) id p n c w) :
    ld ⟨b, 0, none⟩ (fun v1 w1 => asStr v1 (fun s w2 => ld ⟨b, 1, none⟩ (fun v3 w3 => asI .i64 v3 (fun n2 w4 => ld ⟨b, 2, none⟩ (fun v5 w5 => asSl v5 (fun p n c w6 => X s n2 p n c w6) w5) w4) w3) w2) w1) w := by
  unfold eHp at hi
  apply ld_h i H hi rfl; refine asStr_h ?_
  apply ld_h i H hi rfl; refine asI_h ?_
  apply ld_h i H hi rfl; refine asSl_h ?_
  exact hk
theorem nw3_h {w0 w : World} {hs : List Hp} {k : List UInt8} {id : Int} {p : Option Addr} {n c : Nat} {X : Nat → World → Prop} (H : Sh.Holds w0 hs w) (hk : ∀ b w', Sh.Holds w0 (eHp b k id (.slice p n c) :: hs) w' → X b w') :
    nw (Obj.cells #[.string (B []), I 0, .slice none 0 0] 139 (0, 0)) (fun b w => st ⟨b, 0, none⟩ (.string (B k)) (fun w => st ⟨b, 1, none⟩ (I id) (fun w => st ⟨b, 2, none⟩ (.slice p n c) (fun w => X b w) w) w) w) w := by
  refine nw_h H (fun b w H => ?_)
  apply st_h 0 H rfl rfl rfl; intro w H
  apply st_h 0 H rfl rfl rfl; intro w H
  apply st_h 0 H rfl rfl rfl; intro w H
  exact hk _ _ H
theorem resE_h {w : World} {e : En} {p : Option Addr} {n c : Nat} {x : Int} {X : ByteArray → Int → Option Addr → Nat → Nat → Int → World → Prop} (hk : X (B e.k) e.id p n c x w) :
    asT 2 (.tuple #[enV e (.slice p n c), I x]) (fun f w1 => asN 3 (f 0) (fun g w2 => asStr (g 0) (fun s w3 => asI .i64 (g 1) (fun n2 w4 => asSl (g 2) (fun p n c w5 => asI .i64 (f 1) (fun x w6 => X s n2 p n c x w6) w5) w4) w3) w2) w1) w := by
  refine asT_e [_, _] rfl rfl ?_
  refine asN_e [_, _, _] rfl rfl ?_
  refine asStr_e rfl ?_
  refine asI_e rfl ?_
  refine asSl_e rfl ?_
  refine asI_e rfl ?_
  exact hk
/-- Line, at a list of bytes -/
def lineL (e : En) : List UInt8 := signL (entT e.k (e.id :: e.l))
theorem textE_B : ∀ (l : List Int) (s : List UInt8), textE (B s) l = B (s ++ l.flatMap fun n => 32 :: Lib.itoa n)
  | [], s => by simp [textE]
  | n :: l, s => by
    have e1 : addN (B s) n = B (s ++ 32 :: Lib.itoa n) := by
      show B s ++ (B [32] ++ B (Lib.itoa n)) = _
      rw [B_app, B_app]; rfl
    show textE (addN (B s) n) l = _
    rw [e1, textE_B l]
    simp
theorem lineE_B (e : En) : lineE (B e.k) e.id e.l = B (lineL e) := by
  rw [lineE, textE_B, signL_B, lineL]
  congr 2
  simp [entT, joinL, List.flatMap_map]
def lineR (e : En) : List UInt8 × Int := if mayN e = true then (lineL e, 0) else ([], 1)
theorem Line3_c {w0 w : World} {hs : List Hp} {K : KV} {e : En} {p : Option Addr} {n c : Nat} (T : Tab w0) (hl : e.k.length < 1000000) (hsl : Sl (Sh.Holds w0 hs) p n 1 (e.l.map I)) (H : Sh.Holds w0 hs w)
    (k : ∀ w', Sh.Holds w0 hs w' → K (.tuple #[.string (B (lineR e).1), I (lineR e).2]) w') : gocall Tryz.prog 269 [enV e (.slice p n c)] K w := by
  refine Line_c T (by rw [B_size]; omega) hsl H (fun w H => ?_)
  have := k w H
  unfold lineR at this
  have em : mayE (B e.k) e.id e.l = mayN e := rfl
  rw [em]
  cases hm : mayN e with
  | true => rw [hm] at this; rw [if_pos rfl, lineE_B]; exact this
  | false => rw [hm] at this; rw [if_neg (by decide)]; exact this

/-! ### what is written is read -/
theorem mayN_out {e : En} (h : mayN e = true) : 32 ∉ e.k ∧ 124 ∉ e.k ∧ 1 ≤ e.k.length ∧ e.k.length ≤ 8 ∧ 0 ≤ e.id ∧ e.id ≤ 999 ∧ e.l.length ≤ 4 ∧ (∀ n ∈ e.l, smallN n) := by
  obtain ⟨h1, h2, h3, h4, h5, h6⟩ := mayE_out h
  simp only [namedB, Bool.and_eq_true, decide_eq_true_eq, List.all_eq_true, B_size] at h1
  obtain ⟨⟨a1, a2⟩, a3⟩ := h1
  have a1' : ∀ c ∈ e.k, okc c = true := a1
  refine ⟨fun hm => ?_, fun hm => ?_, by omega, by omega, h2, h3, h4, h5⟩
  · have := a1' _ hm; simp [okc] at this
  · have := a1' _ hm; simp [okc] at this
theorem entT_len {e : En} (h : mayN e = true) : (entT e.k (e.id :: e.l)).length ≤ 70 := by
  obtain ⟨-, -, -, h1, h2, h3, h4, h5⟩ := mayN_out h
  have hid := itoa_len11 (n := e.id) (by unfold smallN; omega)
  have hd : (Lib.itoa e.id).length ≤ 3 := by
    rcases itoa_parts (n := e.id) with ⟨_, e1⟩ | ⟨h6, _⟩
    · rw [e1, Lib.decDigits_length]
      have : e.id.toNat < 1000 := by omega
      have hn : Lib.nDigits e.id.toNat ≤ 3 := by
        by_cases c1 : e.id.toNat < 10
        · rw [Lib.nDigits_small c1]; omega
        · rw [Lib.nDigits_big c1]
          by_cases c2 : e.id.toNat / 10 < 10
          · rw [Lib.nDigits_small c2]; omega
          · rw [Lib.nDigits_big c2, Lib.nDigits_small (by omega)]; omega
      exact hn
    · omega
  have key : ∀ l : List Int, (∀ n ∈ l, smallN n) → (l.flatMap fun n => 32 :: Lib.itoa n).length ≤ 12 * l.length := by
    intro l
    induction l with
    | nil => intro _; simp
    | cons n l ih =>
      intro hl
      have := ih (fun m hm => hl m (by simp [hm]))
      have := itoa_len11 (hl n (by simp))
      simp only [List.flatMap_cons, List.length_append, List.length_cons]
      omega
  have := key e.l h5
  simp only [entT, joinL, List.map_cons, List.flatMap_cons, List.length_append, List.length_cons, List.flatMap_map] at this ⊢
  omega
theorem signL_eq (s : List UInt8) : signL s = s ++ 124 :: (lettersB (B s)).data.toList := by
  have : signB (B s) = B (s ++ 124 :: (lettersB (B s)).data.toList) := by
    show (B s ++ B [124]) ++ lettersB (B s) = _
    rw [show lettersB (B s) = B (lettersB (B s)).data.toList from (B_data _).symm, B_app, B_app]
    simp
  rw [signL, this]
theorem letters_len (s : List UInt8) : (lettersB (B s)).data.toList.length = 2 := rfl
theorem signL_len (s : List UInt8) : (signL s).length = s.length + 3 := by rw [signL_eq, List.length_append, List.length_cons, letters_len]
theorem readS_sign (s : List UInt8) : readS (signL s) = some s := by
  have hl := signL_len s
  have e : (signL s).take ((signL s).length - 3) = s := by rw [hl, signL_eq]; simp
  rw [readS, e, if_pos ⟨by omega, rfl⟩]
theorem readS_some {s t : List UInt8} (h : readS s = some t) : signL t = s := by
  unfold readS at h
  split at h
  · rename_i hc; cases h; exact hc.2
  · cases h
theorem okW_back {e : En} (h : mayN e = true) : okW (entT e.k (e.id :: e.l)) = some e := by
  obtain ⟨h1, -, -, -, h2, h3, h4, h5⟩ := mayN_out h
  rw [okW, readW_back h1 (by unfold smallN; omega) h5]
  simp only
  rw [if_pos (show mayN ⟨e.k, e.id, e.l⟩ = true from h)]
theorem parse_line {e : En} (h : mayN e = true) : parseE (lineL e) = (0, e) := by
  have hl := entT_len h
  rw [parseE, if_neg (by rw [lineL, signL_len]; omega), lineL, readS_sign]
  simp only
  rw [okW_back h]
theorem okW_some {t : List UInt8} {e : En} (h : okW t = some e) : mayN e = true ∧ t = entT e.k (e.id :: e.l) := by
  unfold okW at h
  split at h
  · rename_i k id l hr
    split at h
    · rename_i hm
      cases h
      exact ⟨hm, readW_good hr⟩
    · cases h
  · cases h
theorem parse_ok {s : List UInt8} (h : (parseE s).1 = 0) : mayN (parseE s).2 = true ∧ lineL (parseE s).2 = s := by
  unfold parseE at h ⊢
  split
  · rename_i hc; rw [if_pos hc] at h; cases h
  · rename_i hc
    rw [if_neg hc] at h
    cases hr : readS s with
    | none => rw [hr] at h; cases h
    | some t =>
      rw [hr] at h
      simp only at h ⊢
      cases ho : okW t with
      | none => rw [ho] at h; cases h
      | some e =>
        obtain ⟨h1, h2⟩ := okW_some ho
        refine ⟨h1, ?_⟩
        show lineL e = s
        rw [lineL, ← h2]
        exact readS_some hr
theorem parse_no {s : List UInt8} (h : (parseE s).1 ≠ 0) : (parseE s).2 = En.zero := by
  unfold parseE at h ⊢
  split
  · rfl
  · rename_i hc
    rw [if_neg hc] at h
    cases hr : readS s with
    | none => rfl
    | some t =>
      rw [hr] at h
      simp only at h ⊢
      cases ho : okW t with
      | none => rfl
      | some e => rw [ho] at h; exact absurd rfl h
end Go.Proofs.YtcfmnoimehcfnaaGreatDoor
