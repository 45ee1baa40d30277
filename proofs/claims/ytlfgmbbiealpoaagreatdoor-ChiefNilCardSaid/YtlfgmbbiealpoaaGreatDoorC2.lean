/- Contracts of entry, check and journal. Conditions: none. -/
import Derived.Test.YtlfgmbbiealpoaaGreatDoorHp
import Derived.Test.YtlfgmbbiealpoaaGreatDoorAu
import Derived.Test.YtlfgmbbiealpoaaGreatDoorFS
import Derived.Test.YtlfgmbbiealpoaaGreatDoorShelfI
import Derived.Lib.AppendIntMem
import Derived.Lib.ItoaLen
set_option linter.unusedVariables false
set_option maxRecDepth 100000
namespace Go.Proofs.YtlfgmbbiealpoaaGreatDoor
open Go Go.Sh

theorem el32 : ElTy Tryz.prog 30 3 1 8 := ⟨⟨_, _, rfl, rfl, rfl, rfl, rfl, rfl⟩, by decide⟩
def idx {α : Type} (f : α → Bool) (l : List α) : Int := match l.findIdx? f with | some i => i | none => -1

def okc (c : UInt8) : Bool := decide (97 ≤ c.toNat) && decide (c.toNat ≤ 122)
def namedB (s : ByteArray) : Bool := (s.data.toList.all okc && decide (1 ≤ s.size)) && decide (s.size ≤ 8)
theorem named_c {w0 w : World} {hs : List Hp} {K : KV} {s : ByteArray} (hl : s.size < 1000000000) (H : Holds w0 hs w) (k : ∀ w', Holds w0 hs w' → K (.bool (namedB s)) w') : gocall Tryz.prog 239 [.string s] K w := by
  apply F239_go; unfold F239
  refine ⟨fun y w => Holds w0 hs w ∧ 0 ≤ y.1 ∧ y.1 ≤ s.size ∧ ∀ j : Nat, (j : Int) < y.1 → ∀ c, s[j]? = some c → okc c = true, fun y _ => (s.size - y.1).toNat, ⟨H, by simp, by simp, fun j hj => by simp at hj; omega⟩, ?_⟩
  rintro ⟨y, b, u⟩ w ⟨H, h0, h1, hf⟩
  simp only at h0 h1 hf
  have hsz : s.size = s.data.size := rfl
  refine br_s (fun h => ?_) (fun h => ?_)
  · simp only [decide_eq_true_eq] at h
    have hy : y.toNat < s.size := by omega
    have hc : s[y.toNat]? = some s[y.toNat] := getElem?_pos s y.toNat hy
    have bad : okc s[y.toNat] = false → namedB s = false := fun hb => by
      have : s.data.toList.all okc = false := by
        rw [List.all_eq_false]
        exact ⟨s[y.toNat], by simp [ByteArray.getElem_eq_getElem_data], by simp [hb]⟩
      simp [namedB, this]
    refine ⟨s[y.toNat], h0, hc, ?_⟩
    refine br_s (fun hb => ?_) (fun hb => ?_)
    · have := k w H
      rwa [bad (by simp at hb; simp [okc]; omega)] at this
    refine ⟨s[y.toNat], h0, hc, ?_⟩
    refine br_s (fun hb' => ?_) (fun hb' => ?_)
    · have := k w H
      rwa [bad (by simp at hb'; simp [okc]; omega)] at this
    have hw : IntKind.wrap .i64 (y + 1) = y + 1 := wrap64 (by omega) (by omega)
    simp only [hw]
    refine ⟨⟨H, by omega, by omega, fun j hj c hc' => ?_⟩, by omega⟩
    by_cases hj' : (j : Int) < y
    · exact hf j hj' c hc'
    · have : j = y.toNat := by omega
      subst this
      rw [hc] at hc'; cases hc'
      simp at hb hb'; simp [okc]; omega
  · have hall : s.data.toList.all okc = true := by
      rw [List.all_eq_true]
      intro c hc
      obtain ⟨j, hj, rfl⟩ := List.getElem_of_mem hc
      simp at hj
      simp only [decide_eq_false_iff_not] at h
      exact hf j (by omega) _ (by rw [getElem?_pos s j hj]; simp [ByteArray.getElem_eq_getElem_data])
    refine br_s (fun hb => ?_) (fun hb => ?_)
    · have := k w H
      have hb1 := of_decide_eq_true hb
      have hb2 : decide (1 ≤ s.size) = true := decide_eq_true (by omega)
      rwa [show namedB s = decide ((s.size : Int) ≤ 8) by unfold namedB; rw [hall, hb2]; simp only [Bool.true_and]; exact decide_eq_decide.2 (by omega)] at this
    · have := k w H
      have hb1 := of_decide_eq_false hb
      have hb2 : decide (1 ≤ s.size) = false := decide_eq_false (by omega)
      rwa [show namedB s = false by unfold namedB; rw [hb2]; simp] at this

def badN (n : Int) : Bool := decide (n < -1000000000) || decide (n > 1000000000)
theorem bad_c {w0 w : World} {hs : List Hp} {K : KV} {n : Int} (H : Holds w0 hs w) (k : ∀ w', Holds w0 hs w' → K (.bool (badN n)) w') : gocall Tryz.prog 272 [I n] K w := by
  apply F272_go; unfold F272
  have := k w H
  refine br_s (fun h => ?_) (fun h => ?_)
  · rwa [show badN n = true by simp at h; simp [badN]; omega] at this
  · rwa [show badN n = decide (n > 1000000000) by simp only [badN, h, Bool.false_or]] at this
theorem IndexInt_c {w0 w : World} {hs : List Hp} {K : KV} {l : List Int} {f : Int → Bool} {g : FuncId} {cap : Array Value} {p : Option Addr} {n c : Nat} (H : Holds w0 hs w) (hsl : Sl (Holds w0 hs) p n 1 (l.map I)) (hl : l.length < 1000000)
    (hg : ∀ x ∈ l, ∀ {K : KV} {w}, Holds w0 hs w → (∀ w', Holds w0 hs w' → K (.bool (f x)) w') → gocall Tryz.prog g (I x :: cap.toList) K w) (k : ∀ w', Holds w0 hs w' → K (I (idx f l)) w') :
    gocall Tryz.prog 244 [.slice p n c, .func (.func g) #[] cap] K w := by
  have hn : n = l.length := by have := hsl.len; simp at this; omega
  apply F244_go; unfold F244
  refine ⟨fun x w => Holds w0 hs w ∧ 0 ≤ x.1 ∧ x.1 ≤ l.length ∧ ∀ j : Nat, (j : Int) < x.1 → ∀ p, l[j]? = some p → f p = false, fun x _ => (l.length - x.1).toNat, ⟨H, by simp, by simp, ?_⟩, ?_⟩
  · intro j hj; simp at hj; omega
  · rintro ⟨x, y, u⟩ w ⟨H, h0, h1, hf⟩
    simp only at h0 h1 hf
    refine br_s (fun h => ?_) (fun h => ?_)
    · simp only [decide_eq_true_eq] at h
      refine slAt_s hsl h0 h (fun b o hp => ?_)
      have hx : x.toNat < l.length := by omega
      have hp' := List.getElem?_eq_getElem hx
      refine ldS_s hsl hp H (v := I l[x.toNat]) (by simp [hp']) ?_
      refine asI_h ?_
      refine hg l[x.toNat] (List.getElem_mem hx) H (fun w1 H1 => ?_)
      refine asBoo_h ?_
      refine br_s (fun hb => ?_) (fun hb => ?_)
      · have e : idx f l = x := by
          have : l.findIdx? f = some x.toNat := by
            rw [List.findIdx?_eq_some_iff_getElem]
            refine ⟨hx, hb, fun j hj => ?_⟩
            have := hf j (by omega) l[j] (List.getElem?_eq_getElem (by omega))
            simp [this]
          simp [idx, this]; omega
        rw [← e]; exact k _ H1
      · have hw : IntKind.wrap .i64 (x + 1) = x + 1 := wrap64 (by omega) (by omega)
        simp only [hw]
        refine ⟨⟨H1, by omega, by omega, fun j hj p hp => ?_⟩, by omega⟩
        by_cases hj' : (j : Int) < x
        · exact hf j hj' p hp
        · have : j = x.toNat := by omega
          subst this
          rw [hp'] at hp; cases hp; exact hb
    · have e : idx f l = -1 := by
        have : l.findIdx? f = none := by
          rw [List.findIdx?_eq_none_iff]
          intro p hp
          obtain ⟨j, hj, rfl⟩ := List.getElem_of_mem hp
          simp at h
          exact hf j (by omega) _ (List.getElem?_eq_getElem hj)
        simp [idx, this]
      rw [← e]; exact k _ H
def numberedB (l : List Int) : Bool := decide (l.length ≤ 4) && !l.any badN
theorem idx_any (l : List Int) : decide (idx badN l ≥ 0) = l.any badN := by
  unfold idx
  cases e : l.findIdx? badN with
  | none => rw [List.findIdx?_eq_none_iff] at e; simp only [ge_iff_le]; rw [List.any_eq_false.2 (fun x hx => by simp [e x hx])]; rfl
  | some j =>
    obtain ⟨hj, h1, h2⟩ := List.findIdx?_eq_some_iff_getElem.1 e
    rw [List.any_eq_true.2 ⟨l[j], List.getElem_mem hj, h1⟩]; simp
theorem numbered_c {w0 w : World} {hs : List Hp} {K : KV} {l : List Int} {p : Option Addr} {n c : Nat} (hsl : Sl (Holds w0 hs) p n 1 (l.map I)) (H : Holds w0 hs w) (k : ∀ w', Holds w0 hs w' → K (.bool (numberedB l)) w') : gocall Tryz.prog 240 [.slice p n c] K w := by
  have hn : n = l.length := by have := hsl.len; simp at this; omega
  apply F240_go; unfold F240
  refine br_s (fun h => ?_) (fun h => ?_)
  · simp at h
    apply F216_go; unfold F216
    refine IndexInt_c (f := badN) (g := 272) (cap := #[]) H hsl (by omega) (fun x _ _ _ H k => bad_c H k) (fun w H => ?_)
    refine asI_h ?_
    refine asBoo_h ?_
    have := k w H
    rwa [show numberedB l = !decide (idx badN l ≥ 0) by rw [idx_any, numberedB]; simp; omega] at this
  · have := k w H
    simp at h
    rwa [show numberedB l = false by rw [numberedB]; simp; omega] at this

def mayE (s : ByteArray) (id : Int) (l : List Int) : Bool := namedB s && (decide (id ≥ 0) && (decide (id ≤ 999) && numberedB l))
theorem MayE_c {w0 w : World} {hs : List Hp} {K : KV} {s : ByteArray} {id : Int} {l : List Int} {p : Option Addr} {n c : Nat} (hl : s.size < 1000000000) (hsl : Sl (Holds w0 hs) p n 1 (l.map I)) (H : Holds w0 hs w)
    (k : ∀ w', Holds w0 hs w' → K (.bool (mayE s id l)) w') : gocall Tryz.prog 202 [.agg #[.string s, I id, .slice p n c]] K w := by
  apply F202_go; unfold F202
  (repeat first|(with_reducible first|refine ldA (by assumption) ?_|refine Stp.imp ?_|refine stA (by assumption) rfl fun _ _=>?_|refine nw_h (by assumption) fun _ _ _=>?_|refine ldSA ?_|refine asT_e [] rfl rfl ?_|refine ldD (by assumption) ?_|refine nwD (by assumption) fun _ _ _=>?_|refine kpA (by first|assumption|(apply Holds.drew; assumption)) ?_)|((with_reducible first|apply asI_e|apply asStr_e|apply asSl_e|apply asBoo_e|apply asPtr_e); rfl))
  refine named_c hl (by (first | assumption | (apply Holds.drew; assumption))) (fun w H => ?_)
  (repeat first|(with_reducible first|refine ldA (by assumption) ?_|refine Stp.imp ?_|refine stA (by assumption) rfl fun _ _=>?_|refine nw_h (by assumption) fun _ _ _=>?_|refine ldSA ?_|refine asT_e [] rfl rfl ?_|refine ldD (by assumption) ?_|refine nwD (by assumption) fun _ _ _=>?_|refine kpA (by first|assumption|(apply Holds.drew; assumption)) ?_)|((with_reducible first|apply asI_e|apply asStr_e|apply asSl_e|apply asBoo_e|apply asPtr_e); rfl))
  refine br_s (fun h1 => ?_) (fun h1 => ?_)
  · (repeat first|(with_reducible first|refine ldA (by assumption) ?_|refine Stp.imp ?_|refine stA (by assumption) rfl fun _ _=>?_|refine nw_h (by assumption) fun _ _ _=>?_|refine ldSA ?_|refine asT_e [] rfl rfl ?_|refine ldD (by assumption) ?_|refine nwD (by assumption) fun _ _ _=>?_|refine kpA (by first|assumption|(apply Holds.drew; assumption)) ?_)|((with_reducible first|apply asI_e|apply asStr_e|apply asSl_e|apply asBoo_e|apply asPtr_e); rfl))
    refine br_s (fun h2 => ?_) (fun h2 => ?_)
    · (repeat first|(with_reducible first|refine ldA (by assumption) ?_|refine Stp.imp ?_|refine stA (by assumption) rfl fun _ _=>?_|refine nw_h (by assumption) fun _ _ _=>?_|refine ldSA ?_|refine asT_e [] rfl rfl ?_|refine ldD (by assumption) ?_|refine nwD (by assumption) fun _ _ _=>?_|refine kpA (by first|assumption|(apply Holds.drew; assumption)) ?_)|((with_reducible first|apply asI_e|apply asStr_e|apply asSl_e|apply asBoo_e|apply asPtr_e); rfl))
      refine br_s (fun h3 => ?_) (fun h3 => ?_)
      · (repeat first|(with_reducible first|refine ldA (by assumption) ?_|refine Stp.imp ?_|refine stA (by assumption) rfl fun _ _=>?_|refine nw_h (by assumption) fun _ _ _=>?_|refine ldSA ?_|refine asT_e [] rfl rfl ?_|refine ldD (by assumption) ?_|refine nwD (by assumption) fun _ _ _=>?_|refine kpA (by first|assumption|(apply Holds.drew; assumption)) ?_)|((with_reducible first|apply asI_e|apply asStr_e|apply asSl_e|apply asBoo_e|apply asPtr_e); rfl))
        refine numbered_c (hsl.mono fun w H => H.tail) (by (first | assumption | (apply Holds.drew; assumption))) (fun w H => ?_)
        (repeat first|(with_reducible first|refine ldA (by assumption) ?_|refine Stp.imp ?_|refine stA (by assumption) rfl fun _ _=>?_|refine nw_h (by assumption) fun _ _ _=>?_|refine ldSA ?_|refine asT_e [] rfl rfl ?_|refine ldD (by assumption) ?_|refine nwD (by assumption) fun _ _ _=>?_|refine kpA (by first|assumption|(apply Holds.drew; assumption)) ?_)|((with_reducible first|apply asI_e|apply asStr_e|apply asSl_e|apply asBoo_e|apply asPtr_e); rfl))
        have := k w (by (first|assumption|exact Holds.re (by first|assumption|(apply Holds.drew; assumption))))
        rwa [show mayE s id l = numberedB l by unfold mayE; rw [h1, h2, h3]; simp] at this
      · have := k w (by (first|assumption|exact Holds.re (by first|assumption|(apply Holds.drew; assumption))))
        rwa [show mayE s id l = false by unfold mayE; rw [h3]; simp] at this
    · have := k w (by (first|assumption|exact Holds.re (by first|assumption|(apply Holds.drew; assumption))))
      rwa [show mayE s id l = false by unfold mayE; rw [h2]; simp] at this
  · have := k w (by (first|assumption|exact Holds.re (by first|assumption|(apply Holds.drew; assumption))))
    rwa [show mayE s id l = false by unfold mayE; rw [h1]; simp] at this

def Tab (w0 : World) : Prop := Lib.TabBelow Tryz.prog w0.heap.size w0 "internal/strconv.uint64pow10" .u64 Lib.pow10Tab
def itoaB (n : Int) : ByteArray := ⟨(Lib.itoa n).toArray⟩
theorem Itoa_c {w0 w : World} {hs : List Hp} {K : KV} {n : Int} (T : Tab w0) (h0 : -9223372036854775808 ≤ n) (h1 : n ≤ 9223372036854775807) (H : Holds w0 hs w) (k : ∀ w', Holds w0 hs w' → K (.string (itoaB n)) w') : gocall Tryz.prog 59 [I n] K w := by
  refine ⟨by kernel_rfl, (Tryz.strconv_Itoa n h0 h1 w (T _ H.below)).mono ?_⟩
  rintro e w' ⟨rfl, q, os, rfl⟩
  refine ⟨_, rfl, k _ (H.grown ⟨rfl, rfl, rfl, ?_, fun j hj _ => ?_⟩)⟩
  · simp [Sort.grow]
  · simp only [Sort.grow, World.heap_drewN]
    exact Array.getElem?_append_left hj

def letStep (x : Int × Int) (c : UInt8) : Int × Int := ((IntKind.i64.wrap (x.1 * 3)).tmod 673, (IntKind.i64.wrap (x.2 + IntKind.i64.wrap (IntKind.i64.wrap (c.toNat : Int) * x.1))).tmod 673)
def letFold (s : ByteArray) : Int × Int := s.data.toList.foldl letStep (1, 0)
def lettersB (s : ByteArray) : ByteArray := bytesOf [IntKind.u8.wrap (IntKind.i64.wrap (97 + IntKind.i64.wrap (Int.tdiv (letFold s).2 26))), IntKind.u8.wrap (IntKind.i64.wrap (97 + Int.tmod (letFold s).2 26))]
theorem bt : BytesTy Tryz.prog 293 9 := ⟨⟨_, rfl, rfl, rfl⟩⟩
theorem Letters_c {w0 w : World} {hs : List Hp} {K : KV} {s : ByteArray} (hl : s.size < 1000000000) (H : Holds w0 hs w) (k : ∀ w', Holds w0 hs w' → K (.string (lettersB s)) w') : gocall Tryz.prog 262 [.string s] K w := by
  have hsz : s.size = s.data.size := rfl
  apply F262_go; unfold F262
  refine ⟨fun y w => Holds w0 hs w ∧ 0 ≤ y.1 ∧ y.1 ≤ s.size ∧ (y.2.1, y.2.2.1) = (s.data.toList.take y.1.toNat).foldl letStep (1, 0), fun y _ => (s.size - y.1).toNat, ⟨H, by simp, by simp, by simp⟩, ?_⟩
  rintro ⟨y, a, b, u⟩ w ⟨H, h0, h1, hf⟩
  simp only at h0 h1 hf
  refine br_s (fun h => ?_) (fun h => ?_)
  · simp only [decide_eq_true_eq] at h
    have hy : y.toNat < s.size := by omega
    have hc : s[y.toNat]? = some s[y.toNat] := getElem?_pos s y.toNat hy
    refine ⟨s[y.toNat], h0, hc, ?_⟩
    refine ⟨by decide, ?_⟩
    refine ⟨by decide, ?_⟩
    have hw : IntKind.wrap .i64 (y + 1) = y + 1 := wrap64 (by omega) (by omega)
    simp only [hw]
    refine ⟨⟨H, by omega, by omega, ?_⟩, by omega⟩
    rw [show (y + 1).toNat = y.toNat + 1 by omega, List.take_add_one, List.foldl_append, ← hf]
    have hg : s.data.toList[y.toNat]? = some s[y.toNat] := by
      rw [List.getElem?_eq_getElem (by simpa using hy)]
      simp [ByteArray.getElem_eq_getElem_data]
    rw [hg]
    rfl
  · simp only [decide_eq_false_iff_not] at h
    have ht : s.data.toList.take y.toNat = s.data.toList := List.take_of_length_le (by simp; omega)
    rw [ht] at hf
    have hb : b = (letFold s).2 := by unfold letFold; rw [← hf]
    refine ⟨by decide, ?_⟩
    refine ⟨by decide, ?_⟩
    (repeat first|(with_reducible first|refine ldA (by assumption) ?_|refine Stp.imp ?_|refine stA (by assumption) rfl fun _ _=>?_|refine nw_h (by assumption) fun _ _ _=>?_|refine ldSA ?_|refine asT_e [] rfl rfl ?_|refine ldD (by assumption) ?_|refine nwD (by assumption) fun _ _ _=>?_|refine kpA (by first|assumption|(apply Holds.drew; assumption)) ?_)|((with_reducible first|apply asI_e|apply asStr_e|apply asSl_e|apply asBoo_e|apply asPtr_e); rfl))
    refine cnv_h (ns := [IntKind.u8.wrap (IntKind.i64.wrap (97 + IntKind.i64.wrap (Int.tdiv b 26))), IntKind.u8.wrap (IntKind.i64.wrap (97 + Int.tmod b 26))]) bt 0 (by assumption) rfl rfl ?_
    (repeat first|(with_reducible first|refine ldA (by assumption) ?_|refine Stp.imp ?_|refine stA (by assumption) rfl fun _ _=>?_|refine nw_h (by assumption) fun _ _ _=>?_|refine ldSA ?_|refine asT_e [] rfl rfl ?_|refine ldD (by assumption) ?_|refine nwD (by assumption) fun _ _ _=>?_|refine kpA (by first|assumption|(apply Holds.drew; assumption)) ?_)|((with_reducible first|apply asI_e|apply asStr_e|apply asSl_e|apply asBoo_e|apply asPtr_e); rfl))
    have := k _ (Holds.tail (by assumption))
    unfold lettersB at this
    rwa [← hb] at this
def signB (s : ByteArray) : ByteArray := (s ++ ⟨#[124]⟩) ++ lettersB s
theorem size_letters (s : ByteArray) : (lettersB s).size = 2 := rfl
theorem Sign_c {w0 w : World} {hs : List Hp} {K : KV} {s : ByteArray} (hl : s.size < 1000000000) (H : Holds w0 hs w) (k : ∀ w', Holds w0 hs w' → K (.string (signB s)) w') : gocall Tryz.prog 234 [.string s] K w := by
  apply F234_go; unfold F234
  refine ⟨by show s.size + 1 ≤ _; omega, ?_⟩
  refine Letters_c hl H (fun w H => ?_)
  refine asStr_h ?_
  refine ⟨?_, k w H⟩
  rw [size_letters, ByteArray.size_append]
  show s.size + 1 + 2 ≤ _
  omega
/-- an entry's text -/
def addN (s : ByteArray) (n : Int) : ByteArray := s ++ (⟨#[32]⟩ ++ itoaB n)
def textE (s : ByteArray) (l : List Int) : ByteArray := l.foldl addN s
theorem size_itoaB {n : Int} (h0 : -9223372036854775808 ≤ n) (h1 : n ≤ 9223372036854775807) : (itoaB n).size ≤ 21 := Lib.itoa_length_le n h0 h1
def okN (n : Int) : Prop := -9223372036854775808 ≤ n ∧ n ≤ 9223372036854775807
theorem size_textE : ∀ (l : List Int) (s : ByteArray), (∀ n ∈ l, okN n) → (textE s l).size ≤ s.size + 22 * l.length
  | [], s, h => by simp [textE]
  | n :: l, s, h => by
    have h1 := h n (by simp)
    have := size_textE l (addN s n) (fun m hm => h m (by simp [hm]))
    have h2 := size_itoaB h1.1 h1.2
    have h3 : (addN s n).size = s.size + (1 + (itoaB n).size) := by rw [addN, ByteArray.size_append, ByteArray.size_append]; rfl
    have h4 : textE s (n :: l) = textE (addN s n) l := rfl
    rw [h4, List.length_cons]
    omega
def lineE (s : ByteArray) (id : Int) (l : List Int) : ByteArray := signB (textE s (id :: l))
theorem mayE_out {s : ByteArray} {id : Int} {l : List Int} (h : mayE s id l = true) : namedB s = true ∧ 0 ≤ id ∧ id ≤ 999 ∧ l.length ≤ 4 ∧ (∀ n ∈ l, -1000000000 ≤ n ∧ n ≤ 1000000000) ∧ s.size ≤ 8 := by
  simp only [mayE, Bool.and_eq_true, decide_eq_true_eq, numberedB, Bool.not_eq_true', List.any_eq_false] at h
  obtain ⟨h1, h2, h3, h4, h5⟩ := h
  refine ⟨h1, h2, h3, h4, fun n hn => ?_, ?_⟩
  · have := h5 n hn
    simp [badN] at this
    omega
  · simp [namedB] at h1; omega
theorem bapp_s {w0 w : World} {hs : List Hp} {K : KV} {P : Program} {t ty e : TypeId} {size bytes : Nat} (T : ElTy P t e size bytes) {r : Row} {xs news : List Value} {p : Option Addr} {m c : Nat}
    (H : Holds w0 (r.hp e :: hs) w) (hr : r.g ≠ none) (h : r.Ok size xs) (hsl : Sl (Holds w0 (r.hp e :: hs)) p m size news) (h1 : ∀ u ∈ news, u.oneCell' = true)
    (hb : (r.n + m) * bytes ≤ 140737488355328) (h63 : r.n + m ≤ maxLen)
    (hk : ∀ (r' : Row) w', r'.n = r.n + m → r'.Ok size (xs ++ news) → Holds w0 (r'.hp e :: hs) w' → K r'.v w') :
    bapp .full P #[t, t] ty r.v (.slice p m c) K w := by
  cases p with
  | none =>
    have hm := hsl.no rfl
    subst hm
    have hn : news = [] := List.eq_nil_of_length_eq_zero (by simpa using hsl.len)
    subst hn
    cases hg : r.g with
    | none => exact absurd hg hr
    | some g =>
      have hv : r.v = .slice (some ⟨g, 0, none⟩) r.n r.c := by simp [Row.v, Row.p, hg]
      rw [hv]
      refine bapp0_h T ((h.yes g hg).1) ?_
      rw [← hv]
      exact hk r w rfl (by simpa using h) H
  | some a =>
    obtain ⟨b, o, sp⟩ := a
    rcases (hsl.yes _ rfl).1 with hm | this
    · have hn : news = [] := List.eq_nil_of_length_eq_zero (by rw [hsl.len, hm, Nat.zero_mul])
      subst hn
      exact bapp_h T H h hsl.len (fun j u hu => by simp at hu) h1 hb h63 hk
    simp only at this
    subst this
    exact bapp_h T H h hsl.len (fun j u hu => by rw [Addr.add_lit]; exact (hsl.yes _ rfl).2 j u hu w H) h1 hb h63 hk
theorem Line_c {w0 w : World} {hs : List Hp} {K : KV} {s : ByteArray} {id : Int} {l : List Int} {p : Option Addr} {n c : Nat} (T : Tab w0) (hl : s.size < 1000000000) (hsl : Sl (Holds w0 hs) p n 1 (l.map I)) (H : Holds w0 hs w)
    (k : ∀ w', Holds w0 hs w' → K (if mayE s id l = true then .tuple #[.string (lineE s id l), I 0] else .tuple #[.string ⟨#[]⟩, I 1]) w') : gocall Tryz.prog 191 [.agg #[.string s, I id, .slice p n c]] K w := by
  have hn : n = l.length := by have := hsl.len; simp at this; omega
  apply F191_go; unfold F191
  (repeat first|(with_reducible first|refine ldA (by assumption) ?_|refine Stp.imp ?_|refine stA (by assumption) rfl fun _ _=>?_|refine nw_h (by assumption) fun _ _ _=>?_|refine ldSA ?_|refine asT_e [] rfl rfl ?_|refine ldD (by assumption) ?_|refine nwD (by assumption) fun _ _ _=>?_|refine kpA (by first|assumption|(apply Holds.drew; assumption)) ?_)|((with_reducible first|apply asI_e|apply asStr_e|apply asSl_e|apply asBoo_e|apply asPtr_e); rfl))
  refine MayE_c hl (hsl.mono fun w H => H.tail) (by (first | assumption | (apply Holds.drew; assumption))) (fun w H => ?_)
  (repeat first|(with_reducible first|refine ldA (by assumption) ?_|refine Stp.imp ?_|refine stA (by assumption) rfl fun _ _=>?_|refine nw_h (by assumption) fun _ _ _=>?_|refine ldSA ?_|refine asT_e [] rfl rfl ?_|refine ldD (by assumption) ?_|refine nwD (by assumption) fun _ _ _=>?_|refine kpA (by first|assumption|(apply Holds.drew; assumption)) ?_)|((with_reducible first|apply asI_e|apply asStr_e|apply asSl_e|apply asBoo_e|apply asPtr_e); rfl))
  refine br_s (fun h1 => ?_) (fun h1 => ?_)
  · have := k w (by (first|assumption|exact Holds.re (by first|assumption|(apply Holds.drew; assumption))))
    simp at h1
    rwa [h1, if_neg (by simp)] at this
  · simp at h1
    obtain ⟨m1, m2, m3, m4, m5, m6⟩ := mayE_out h1
    (repeat first|(with_reducible first|refine ldA (by assumption) ?_|refine Stp.imp ?_|refine stA (by assumption) rfl fun _ _=>?_|refine nw_h (by assumption) fun _ _ _=>?_|refine ldSA ?_|refine asT_e [] rfl rfl ?_|refine ldD (by assumption) ?_|refine nwD (by assumption) fun _ _ _=>?_|refine kpA (by first|assumption|(apply Holds.drew; assumption)) ?_)|((with_reducible first|apply asI_e|apply asStr_e|apply asSl_e|apply asBoo_e|apply asPtr_e); rfl))
    rename_i k2 w2 H2
    have ok0 : (Row.mk (some k2) 1 1 #[I id]).Ok 1 [I id] := ⟨rfl, fun h => by simp at h, fun g hg => ⟨by simp, by simp [maxLen], rfl, rfl⟩⟩
    refine bapp_s (r := ⟨some k2, 1, 1, #[I id]⟩) el32 H2 (by simp) ok0 (hsl.mono fun w H => H.tail.tail) (by simp [Value.oneCell']) (by simp only; omega) (by simp only; unfold maxLen; omega) (fun r' w1 hr1 hr2 H1 => ?_)
    (repeat first|(with_reducible first|refine ldA (by assumption) ?_|refine Stp.imp ?_|refine stA (by assumption) rfl fun _ _=>?_|refine nw_h (by assumption) fun _ _ _=>?_|refine ldSA ?_|refine asT_e [] rfl rfl ?_|refine ldD (by assumption) ?_|refine nwD (by assumption) fun _ _ _=>?_|refine kpA (by first|assumption|(apply Holds.drew; assumption)) ?_)|((with_reducible first|apply asI_e|apply asStr_e|apply asSl_e|apply asBoo_e|apply asPtr_e); rfl))
    have hok : ∀ m ∈ id :: l, okN m := by
      intro m hm
      rcases List.mem_cons.1 hm with rfl | hm
      · unfold okN; omega
      · have := m5 m hm; unfold okN; omega
    have hr2' : r'.Ok 1 ((id :: l).map I) := by simpa using hr2
    have hn' : r'.n = (id :: l).length := by simp only at hr1; simp; omega
    refine ⟨fun y w => Holds w0 (r'.hp 3 :: hs) w ∧ 0 ≤ y.1 ∧ y.1 ≤ (id :: l).length ∧ y.2.1 = textE s ((id :: l).take y.1.toNat), fun y _ => ((id :: l).length - y.1).toNat, ⟨?_, by simp, by simp only; omega, rfl⟩, ?_⟩
    · (first|assumption|exact Holds.re (by first|assumption|(apply Holds.drew; assumption)))
    clear H1 H2
    have hlen : (id :: l).length = l.length + 1 := rfl
    rintro ⟨y, a, u⟩ w ⟨H, h0, h1, hf⟩
    simp only at h0 h1 hf
    have hsz : (textE s ((id :: l).take y.toNat)).size ≤ 8 + 22 * 5 := by
      have := size_textE ((id :: l).take y.toNat) s (fun m hm => hok m (List.mem_of_mem_take hm))
      have h5 : ((id :: l).take y.toNat).length ≤ 5 := by rw [List.length_take, List.length_cons]; omega
      omega
    refine br_s (fun h => ?_) (fun h => ?_)
    · simp only [decide_eq_true_eq] at h
      have hy : y.toNat < (id :: l).length := by omega
      have hp := List.getElem?_eq_getElem hy
      have hm := hok _ (List.getElem_mem hy)
      have hi := size_itoaB hm.1 hm.2
      refine slAt_h hr2' h0 h (fun g hg => ?_)
      refine ldR_h 0 H rfl hr2' hg (v := I (id :: l)[y.toNat]) (by rw [Nat.mul_one, List.getElem?_map, hp]; rfl) ?_
      refine asI_h ?_
      refine Itoa_c T hm.1 hm.2 H (fun w H => ?_)
      refine asStr_h ?_
      subst hf
      dsimp only
      refine ⟨by show 1 + _ ≤ _; omega, ?_⟩
      refine ⟨by show (textE s ((id :: l).take y.toNat)).size + _ ≤ _; rw [ByteArray.size_append]; show (textE s ((id :: l).take y.toNat)).size + (1 + _) ≤ _; omega, ?_⟩
      have hw : IntKind.wrap .i64 (y + 1) = y + 1 := wrap64 (by omega) (by omega)
      rw [hw]
      refine ⟨⟨H, by omega, by omega, ?_⟩, by omega⟩
      rw [show (y + 1).toNat = y.toNat + 1 by omega, List.take_add_one, hp, textE, textE, List.foldl_append]
      rfl
    · simp only [decide_eq_false_iff_not] at h
      have ht : (id :: l).take y.toNat = id :: l := List.take_of_length_le (by omega)
      rw [ht] at hf hsz
      subst hf
      dsimp only
      refine Sign_c (by omega) H (fun w H => ?_)
      refine asStr_h ?_
      have := k w (by (first|assumption|exact Holds.re (by first|assumption|(apply Holds.drew; assumption))))
      rwa [if_pos (by assumption)] at this
end Go.Proofs.YtlfgmbbiealpoaaGreatDoor
