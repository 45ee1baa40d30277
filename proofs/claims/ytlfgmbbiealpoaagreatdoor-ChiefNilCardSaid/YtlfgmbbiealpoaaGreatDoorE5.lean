/- An executor for the shallow reading: the pure operations, as the reading asks for them. Conditions: none. -/
import Derived.Test.YtlfgmbbiealpoaaGreatDoorE4
set_option linter.unusedVariables false
namespace Go.Sh
open Go Go.RowKit
section
variable {P : Program} {v : Vl} {w : World} {K : KV}
/-- a bound of a slice, and what it stands for -/
def Bnd (v : Vl) (lo : Option EV) (l : Option Value) : Prop := match lo with
  | none => l = none
  | some a => ∃ y, sh v a = some y ∧ l = some y
theorem bnd_out {lo : Option EV} {l : Option Value} {d n : Int} (h : bndE d lo = some n) (hl : Bnd v lo l) : (l = none ∧ n = d) ∨ ∃ k, l = some (.int k n) := by
  unfold bndE at h
  split at h
  · cases h; exact .inl ⟨hl, rfl⟩
  · cases h
    obtain ⟨y, hy, rfl⟩ := hl
    cases hy
    exact .inr ⟨_, rfl⟩
  · cases h
theorem extract_mk (l : List UInt8) (a b : Nat) : (ByteArray.mk l.toArray).extract a b = ByteArray.mk ((l.take b).drop a).toArray := by
  apply ByteArray.ext
  simp [List.drop_take]
def slWord (P : Program) (t : TypeId) (x : Value) (lo hi : Option Value) (K : KV) (w : World) : Prop := match x, lo, hi with
    | .string s, none, none => (match isStr P t with | true => strSl s 0 s.size (fun r w => K (.string r) w) w | false => fls "slice" w)
    | .string s, some (.int _ l), none => (match isStr P t with | true => strSl s l s.size (fun r w => K (.string r) w) w | false => fls "slice" w)
    | .string s, none, some (.int _ h) => (match isStr P t with | true => strSl s 0 h (fun r w => K (.string r) w) w | false => fls "slice" w)
    | .string s, some (.int _ l), some (.int _ h) => (match isStr P t with | true => strSl s l h (fun r w => K (.string r) w) w | false => fls "slice" w)
    | .slice a n c, none, none => (match slElem P t with | some z => slSl a c 0 n z (fun a n c w => K (.slice a n c) w) w | none => fls "slice" w)
    | .slice a n c, some (.int _ l), none => (match slElem P t with | some z => slSl a c l n z (fun a n c w => K (.slice a n c) w) w | none => fls "slice" w)
    | .slice a _ c, none, some (.int _ h) => (match slElem P t with | some z => slSl a c 0 h z (fun a n c w => K (.slice a n c) w) w | none => fls "slice" w)
    | .slice a _ c, some (.int _ l), some (.int _ h) => (match slElem P t with | some z => slSl a c l h z (fun a n c w => K (.slice a n c) w) w | none => fls "slice" w)
    | _, _, _ => fls "slice" w
theorem slWord_str {t : TypeId} {s : ByteArray} {lo hi : Option EV} {l h : Option Value} {a b : Int} (ht : isStr P t = true) (h1 : bndE 0 lo = some a) (h2 : bndE s.size hi = some b) (hl : Bnd v lo l) (hh : Bnd v hi h) (hk : strSl s a b (fun r w => K (.string r) w) w) : slWord P t (.string s) l h K w := by
  rcases bnd_out h1 hl with ⟨rfl, rfl⟩ | ⟨k, rfl⟩ <;> rcases bnd_out h2 hh with ⟨rfl, rfl⟩ | ⟨k2, rfl⟩ <;> simp only [slWord, ht] <;> exact hk
theorem slWord_sl {t : TypeId} {p : Option Addr} {n c z : Nat} {lo hi : Option EV} {l h : Option Value} {a b : Int} (ht : slElem P t = some z) (h1 : bndE 0 lo = some a) (h2 : bndE n hi = some b) (hl : Bnd v lo l) (hh : Bnd v hi h) (hk : slSl p c a b z (fun a n c w => K (.slice a n c) w) w) : slWord P t (.slice p n c) l h K w := by
  rcases bnd_out h1 hl with ⟨rfl, rfl⟩ | ⟨k, rfl⟩ <;> rcases bnd_out h2 hh with ⟨rfl, rfl⟩ | ⟨k2, rfl⟩ <;> simp only [slWord, ht] <;> exact hk
theorem xslice_ok {t : TypeId} {a e : EV} {lo hi : Option EV} {x z : Value} {l h : Option Value} (hx : xslice P t a lo hi = some e) (ha : sh v a = some x) (hl : Bnd v lo l) (hh : Bnd v hi h) (he : sh v e = some z) (hk : K z w) : slWord P t x l h K w := by
  unfold xslice at hx
  split at hx
  · rename_i s
    split at hx
    · rename_i l0 h0 ht h1 h2
      split at hx <;> cases hx
      rename_i g1 g2 g3
      cases ha; cases he
      rw [lenX_eq] at h2 g3
      refine slWord_str (a := l0) (b := h0) ht h1 (by simpa [ByteArray.size] using h2) hl hh ⟨of_decide_eq_true g1, of_decide_eq_true g2, by simpa [ByteArray.size] using of_decide_eq_true g3, ?_⟩
      rw [extract_mk]
      rw [dropX_eq, takeX_eq] at hk
      exact hk
    · cases hx
  · split at hx
    · rename_i z' l0 h0 ht h1 h2
      split at hx <;> cases hx
      rename_i g1 g2
      have g1' := of_decide_eq_true g1
      have g2' := of_decide_eq_true g2
      subst g1' g2'
      cases ha; cases he
      refine slWord_sl (z := z') ht h1 h2 hl hh ⟨by omega, by omega, by omega, ?_⟩
      exact hk
    · cases hx
  · rename_i k off n c
    split at hx
    · rename_i z' l0 h0 ht h1 h2
      split at hx <;> cases hx
      rename_i g1 g2 g3
      obtain ⟨b, hb, rfl⟩ := sl_out ha
      obtain ⟨b', hb', rfl⟩ := sl_out he
      rw [hb] at hb'; cases hb'
      refine slWord_sl (z := z') ht h1 h2 hl hh ⟨of_decide_eq_true g1, of_decide_eq_true g2, of_decide_eq_true g3, ?_⟩
      by_cases hc : c = l0.toNat
      · rw [if_pos hc]
        have : c.beq l0.toNat = true := by rw [← hc]; exact Nat.beq_refl c
        rw [this] at hk
        exact hk
      · rw [if_neg hc]
        have : c.beq l0.toNat = false := by
          cases hq : c.beq l0.toNat
          · rfl
          · exact absurd (Nat.eq_of_beq_eq_true hq) hc
        rw [this] at hk
        show K (.slice (some (Addr.add ⟨b.1, off, none⟩ (l0.toNat * z'))) _ _) w
        rw [Addr.add_lit]
        exact hk
    · cases hx
  · rename_i k off n lb d
    split at hx
    · rename_i z' l0 h0 ht h1 h2
      split at hx <;> cases hx
      rename_i g1 g2 g3 g4
      obtain ⟨b, hb, hlb, rfl⟩ := slo_out ha
      obtain ⟨b', hb', hlb', rfl⟩ := slo_out he
      rw [hb] at hb'; cases hb'
      have g1' := of_decide_eq_true g1
      have g2' := of_decide_eq_true g2
      have g3' := of_decide_eq_true g3
      refine slWord_sl (z := z') ht h1 h2 hl hh ⟨g1', g2', by omega, ?_⟩
      rw [show b.2 - (d + l0.toNat) = b.2 - d - l0.toNat by omega] at hk
      by_cases h00 : l0.toNat = 0
      · rw [h00] at hk ⊢
        rw [Nat.zero_mul, Nat.add_zero] at hk
        split
        · exact hk
        · show K (.slice (some (Addr.add ⟨b.1, off, none⟩ (0 * z'))) _ _) w
          rw [Nat.zero_mul]
          exact hk
      · have h01 : l0.toNat < lb := by
          simp only [Bool.or_eq_true, Nat.blt_eq] at g4
          rcases g4 with g | g
          · exact absurd (Nat.eq_of_beq_eq_true g) h00
          · exact g
        rw [if_neg (by omega)]
        show K (.slice (some (Addr.add ⟨b.1, off, none⟩ (l0.toNat * z'))) _ _) w
        rw [Addr.add_lit]
        exact hk
    · cases hx
  · cases hx
theorem xlen_ok {ts : Array TypeId} {ty : TypeId} {a e : EV} {x z : Value} (h : xlen P ts a = some e) (ha : sh v a = some x) (he : sh v e = some z) (hk : K z w) : spt .bare P (Builtin.len_ ts ty #[x]) K w := by
  unfold xlen at h
  split at h
  · rename_i t ht
    split at h <;> cases h
    rename_i n hn hl
    cases he
    unfold kindLen at hn
    split at hn <;> try cases hn
    all_goals
      rename_i hd
      simp only [lenE, Option.some.injEq] at hl
      subst hl
      unfold Builtin.len_
      simp only [ht, List.getElem?_toArray, List.getElem?_cons_zero]
      refine spt_bind (pure _) ?_
      refine spt_bind (underlying t) (spt_und hd ?_)
    · cases ha
      rw [lenX_eq] at hk
      exact hk
    · cases ha; exact hk
    · obtain ⟨b, hb, rfl⟩ := sl_out ha; exact hk
    · obtain ⟨b, hb, hlb, rfl⟩ := slo_out ha; exact hk
  · cases h
end
end Go.Sh
