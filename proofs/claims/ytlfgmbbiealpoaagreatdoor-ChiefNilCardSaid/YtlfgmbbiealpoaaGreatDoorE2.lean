/- An executor for the shallow reading: what its values and its store stand for. Conditions: none. -/
import Derived.Test.YtlfgmbbiealpoaaGreatDoorE1
set_option linter.unusedVariables false
namespace Go.Sh
open Go Go.RowKit

structure Vl where
  β : Nat → Option (Nat × Nat)
  R : Nat → Rt
  ν : (l : Leaf) → Nat → l.P
  A : Nat → Prop
mutual
def sh (v : Vl) : EV → Option Value
  | .int k n => some (.int k n)
  | .bool b => some (.bool b)
  | .str l => some (.string ⟨l.toArray⟩)
  | .nilp => some (.pointer none)
  | .ptr k off => (match v.β k with | some b => some (.pointer (some ⟨b.1, off, none⟩)) | none => none)
  | .glob g off => some (.pointer (some ⟨g, off, none⟩))
  | .nils => some (.slice none 0 0)
  | .sl k off n c => (match v.β k with | some b => some (.slice (some ⟨b.1, off, none⟩) n c) | none => none)
  | .slo k off n lb d => (match v.β k with | some b => (match Nat.ble (lb + d) b.2 with | true => some (.slice (some ⟨b.1, off, none⟩) n (b.2 - d)) | false => none) | none => none)
  | .nilm => some (.map none)
  | .map k => (match v.β k with | some b => some (.map (some b.1)) | none => none)
  | .nilf => some .nilFunc
  | .fn f cs => (match shL v cs with | some vs => some (.func (.func f) #[] vs.toArray) | none => none)
  | .yld l => (match v.β l with | some b => some (.func (.yield b.1) #[] #[]) | none => none)
  | .nili => some .nilIface
  | .ifc t x => (match sh v x with | some y => some (.iface t y) | none => none)
  | .agg l => (match shL v l with | some vs => some (.agg vs.toArray) | none => none)
  | .tup l => (match shL v l with | some vs => some (.tuple vs.toArray) | none => none)
  | .opq .any i => none
  | .opq l i => some (l.val (v.ν l i))
def shL (v : Vl) : List EV → Option (List Value)
  | [] => some []
  | x :: r => (match sh v x, shL v r with | some y, some l => some (y :: l) | _, _ => none)
end
structure Vl.sub (v v' : Vl) : Prop where
  β : ∀ k b, v.β k = some b → v'.β k = some b
  R : ∀ k b, v.β k = some b → v'.R k = v.R k
  ν : v'.ν = v.ν
structure Vl.le (v v' : Vl) : Prop extends Vl.sub v v' where
  A : v'.A = v.A
theorem Vl.le.rfl' {v : Vl} : v.le v := ⟨⟨fun _ _ h => h, fun _ _ _ => rfl, rfl⟩, rfl⟩
theorem Vl.sub.trans {a b c : Vl} (h : a.sub b) (k : b.sub c) : a.sub c := ⟨fun _ _ x => k.β _ _ (h.β _ _ x), fun _ _ x => (k.R _ _ (h.β _ _ x)).trans (h.R _ _ x), k.ν.trans h.ν⟩
theorem Vl.le.trans {a b c : Vl} (h : a.le b) (k : b.le c) : a.le c := ⟨h.tosub.trans k.tosub, k.A.trans h.A⟩
mutual
theorem sh_sub {v v' : Vl} (h : v.sub v') : ∀ {x : EV} {y : Value}, sh v x = some y → sh v' x = some y
  | .int _ _, y, e => by simpa [sh] using e
  | .bool _, y, e => by simpa [sh] using e
  | .str _, y, e => by simpa [sh] using e
  | .nilp, y, e => by simpa [sh] using e
  | .ptr k off, y, e => by
    simp only [sh] at e ⊢
    split at e
    · rename_i b hb; rw [h.β _ _ hb]; exact e
    · cases e
  | .glob _ _, y, e => by simpa [sh] using e
  | .nils, y, e => by simpa [sh] using e
  | .sl k off n c, y, e => by
    simp only [sh] at e ⊢
    split at e
    · rename_i b hb; rw [h.β _ _ hb]; exact e
    · cases e
  | .slo k off n lb d, y, e => by
    simp only [sh] at e ⊢
    split at e
    · rename_i b hb; rw [h.β _ _ hb]; exact e
    · cases e
  | .nilm, y, e => by simpa [sh] using e
  | .map k, y, e => by
    simp only [sh] at e ⊢
    split at e
    · rename_i b hb; rw [h.β _ _ hb]; exact e
    · cases e
  | .nilf, y, e => by simpa [sh] using e
  | .fn f cs, y, e => by
    simp only [sh] at e ⊢
    split at e
    · rename_i vs hvs; rw [shL_sub h hvs]; exact e
    · cases e
  | .yld l, y, e => by
    simp only [sh] at e ⊢
    split at e
    · rename_i b hb; rw [h.β _ _ hb]; exact e
    · cases e
  | .nili, y, e => by simpa [sh] using e
  | .ifc t x, y, e => by
    simp only [sh] at e ⊢
    split at e
    · rename_i z hz; rw [sh_sub h hz]; exact e
    · cases e
  | .agg l, y, e => by
    simp only [sh] at e ⊢
    split at e
    · rename_i vs hvs; rw [shL_sub h hvs]; exact e
    · cases e
  | .tup l, y, e => by
    simp only [sh] at e ⊢
    split at e
    · rename_i vs hvs; rw [shL_sub h hvs]; exact e
    · cases e
  | .opq l i, y, e => by cases l <;> simp only [sh] at e ⊢ <;> first | (rw [h.ν]; exact e) | exact e
theorem shL_sub {v v' : Vl} (h : v.sub v') : ∀ {x : List EV} {y : List Value}, shL v x = some y → shL v' x = some y
  | [], y, e => by simpa [shL] using e
  | x :: r, y, e => by
    simp only [shL] at e ⊢
    split at e
    · rename_i a b ha hb; rw [sh_sub h ha, shL_sub h hb]; exact e
    · cases e
end
theorem sh_mono {v v' : Vl} (h : v.le v') {x : EV} {y : Value} (e : sh v x = some y) : sh v' x = some y := sh_sub h.tosub e
theorem shL_mono {v v' : Vl} (h : v.le v') {x : List EV} {y : List Value} (e : shL v x = some y) : shL v' x = some y := shL_sub h.tosub e
theorem shL_cons {v : Vl} {x : EV} {r : List EV} {vs : List Value} : shL v (x :: r) = some vs ↔ ∃ y l, sh v x = some y ∧ shL v r = some l ∧ vs = y :: l := by
  simp only [shL]
  constructor
  · intro h
    split at h
    · rename_i y l hy hl; cases h; exact ⟨y, l, hy, hl, rfl⟩
    · cases h
  · rintro ⟨y, l, hy, hl, rfl⟩; rw [hy, hl]
theorem shL_nil {v : Vl} {vs : List Value} : shL v [] = some vs ↔ vs = [] := by simp [shL, eq_comm]
theorem shL_len {v : Vl} : ∀ {l : List EV} {vs : List Value}, shL v l = some vs → vs.length = l.length
  | [], vs, h => by rw [shL_nil] at h; subst h; rfl
  | x :: r, vs, h => by
    obtain ⟨y, l, _, hl, rfl⟩ := shL_cons.1 h
    simp [shL_len hl]
theorem shL_at {v : Vl} : ∀ {l : List EV} {vs : List Value} {i : Nat} {x : EV}, shL v l = some vs → l[i]? = some x → ∃ y, vs[i]? = some y ∧ sh v x = some y
  | [], vs, i, x, h, hx => by simp at hx
  | a :: r, vs, 0, x, h, hx => by
    obtain ⟨y, l, hy, hl, rfl⟩ := shL_cons.1 h
    simp at hx; subst hx
    exact ⟨y, rfl, hy⟩
  | a :: r, vs, i + 1, x, h, hx => by
    obtain ⟨y, l, hy, hl, rfl⟩ := shL_cons.1 h
    simp only [List.getElem?_cons_succ] at hx ⊢
    exact shL_at hl hx
theorem shL_at' {v : Vl} {l : List EV} {vs : List Value} {i : Nat} {y : Value} (h : shL v l = some vs) (hy : vs[i]? = some y) : ∃ x, l[i]? = some x ∧ sh v x = some y := by
  have hlt : i < vs.length := by
    rcases Nat.lt_or_ge i vs.length with h' | h'
    · exact h'
    · rw [List.getElem?_eq_none h'] at hy; cases hy
  rw [shL_len h] at hlt
  obtain ⟨y', hy', hs⟩ := shL_at h (List.getElem?_eq_getElem hlt)
  rw [hy] at hy'; cases hy'
  exact ⟨_, List.getElem?_eq_getElem hlt, hs⟩
theorem shL_app {v : Vl} : ∀ {a b : List EV} {x y : List Value}, shL v a = some x → shL v b = some y → shL v (a ++ b) = some (x ++ y)
  | [], b, x, y, hx, hy => by rw [shL_nil] at hx; subst hx; simpa using hy
  | c :: a, b, x, y, hx, hy => by
    obtain ⟨z, l, hz, hl, rfl⟩ := shL_cons.1 hx
    exact shL_cons.2 ⟨z, l ++ y, hz, shL_app hl hy, rfl⟩
theorem shL_take {v : Vl} : ∀ {l : List EV} {vs : List Value} (n : Nat), shL v l = some vs → shL v (l.take n) = some (vs.take n)
  | [], vs, n, h => by rw [shL_nil] at h; subst h; simp [shL]
  | x :: r, vs, 0, h => by simp [shL]
  | x :: r, vs, n + 1, h => by
    obtain ⟨y, l, hy, hl, rfl⟩ := shL_cons.1 h
    simp only [List.take_succ_cons]
    exact shL_cons.2 ⟨y, l.take n, hy, shL_take n hl, rfl⟩
theorem shL_drop {v : Vl} : ∀ {l : List EV} {vs : List Value} (n : Nat), shL v l = some vs → shL v (l.drop n) = some (vs.drop n)
  | [], vs, n, h => by rw [shL_nil] at h; subst h; simp [shL]
  | x :: r, vs, 0, h => h
  | x :: r, vs, n + 1, h => by
    obtain ⟨y, l, hy, hl, rfl⟩ := shL_cons.1 h
    simp only [List.drop_succ_cons]
    exact shL_drop n hl
theorem lenX_eq {α : Type} : ∀ (l : List α), lenX l = l.length
  | [] => rfl
  | x :: r => by rw [List.length_cons, ← lenX_eq r]; rfl
theorem dropX_eq {α : Type} : ∀ (l : List α) (n : Nat), dropX l n = l.drop n
  | [], n => by simp [dropX]
  | x :: r, 0 => rfl
  | x :: r, n + 1 => by rw [List.drop_succ_cons, ← dropX_eq r n]; rfl
theorem takeX_eq {α : Type} : ∀ (l : List α) (n : Nat), takeX l n = l.take n
  | [], n => by simp [takeX]
  | x :: r, 0 => rfl
  | x :: r, n + 1 => by rw [List.take_succ_cons, ← takeX_eq r n]; rfl
theorem nthX_eq {α : Type} : ∀ (l : List α) (n : Nat), nthX l n = l[n]?
  | [], n => by simp [nthX]
  | x :: r, 0 => rfl
  | x :: r, n + 1 => by rw [List.getElem?_cons_succ, ← nthX_eq r n]; rfl
theorem appX_eq {α : Type} : ∀ (x y : List α), appX x y = x ++ y
  | [], y => rfl
  | a :: r, y => by rw [List.cons_append, ← appX_eq r y]; rfl
theorem set1_eq {α : Type} : ∀ (l : List α) (n : Nat) (v : α), set1 l n v = l.set n v
  | [], n, v => by simp [set1]
  | x :: r, 0, v => rfl
  | x :: r, n + 1, v => by rw [List.set_cons_succ, ← set1_eq r n v]; rfl
/-- cells put one behind the other -/
def putL {α : Type} : List α → Nat → List α → List α
  | l, _, [] => l
  | l, n, v :: vs => putL (l.set n v) (n + 1) vs
theorem putL_len {α : Type} : ∀ (vs l : List α) (n : Nat), (putL l n vs).length = l.length
  | [], l, n => rfl
  | v :: vs, l, n => by rw [putL, putL_len vs, List.length_set]
theorem putL_cons {α : Type} : ∀ (vs : List α) (x : α) (l : List α) (n : Nat), putL (x :: l) (n + 1) vs = x :: putL l n vs
  | [], x, l, n => rfl
  | v :: vs, x, l, n => by rw [putL, List.set_cons_succ, putL_cons vs]; rfl
theorem put0_eq {α : Type} : ∀ (l vs : List α), put0 l vs = putL l 0 vs
  | [], [] => rfl
  | [], v :: vs => by
    have : ∀ (us : List α) (n : Nat), putL ([] : List α) n us = [] := fun us => by
      induction us with
      | nil => intro n; rfl
      | cons u us ih => intro n; rw [putL, List.set_nil, ih]
    rw [this]; rfl
  | x :: l, [] => rfl
  | x :: l, v :: vs => by
    rw [putL, List.set_cons_zero, putL_cons]
    show v :: put0 l vs = _
    rw [put0_eq l vs]
theorem putC_eq {α : Type} : ∀ (l : List α) (n : Nat) (vs : List α), putC l n vs = putL l n vs
  | [], n, vs => by
    have : ∀ (us : List α) (n : Nat), putL ([] : List α) n us = [] := fun us => by
      induction us with
      | nil => intro n; rfl
      | cons u us ih => intro n; rw [putL, List.set_nil, ih]
    rw [this]; rfl
  | x :: l, 0, vs => by
    show put0 (x :: l) vs = _
    exact put0_eq _ _
  | x :: l, n + 1, vs => by
    rw [putL_cons, ← putC_eq l n vs]; rfl
theorem shL_set {v : Vl} : ∀ {l : List EV} {vs : List Value} (n : Nat) {x : EV} {y : Value}, shL v l = some vs → sh v x = some y → shL v (l.set n x) = some (vs.set n y)
  | [], vs, n, x, y, h, _ => by rw [shL_nil] at h; subst h; rfl
  | a :: r, vs, 0, x, y, h, hx => by
    obtain ⟨b, l, hb, hl, rfl⟩ := shL_cons.1 h
    exact shL_cons.2 ⟨y, l, hx, hl, rfl⟩
  | a :: r, vs, n + 1, x, y, h, hx => by
    obtain ⟨b, l, hb, hl, rfl⟩ := shL_cons.1 h
    exact shL_cons.2 ⟨b, l.set n y, hb, shL_set n hl hx, rfl⟩
theorem shL_put {v : Vl} : ∀ {cs l : List EV} {us vs : List Value} (n : Nat), shL v l = some vs → shL v cs = some us → shL v (putL l n cs) = some (putL vs n us)
  | [], l, us, vs, n, h, h2 => by rw [shL_nil] at h2; subst h2; exact h
  | c :: cs, l, us, vs, n, h, h2 => by
    obtain ⟨y, q, hy, hq, rfl⟩ := shL_cons.1 h2
    exact shL_put (n + 1) (shL_set n h hy) hq

/-! ### the trie -/
theorem Tr.get_proj (t : Tr) (k : Nat) : t.get k = match k with
    | 0 => t.o
    | k + 1 => (match Nat.beq (Nat.mod k 2) 0 with | true => t.l.get (Nat.div k 2) | false => t.r.get (Nat.div k 2)) := by
  cases t with
  | lf => cases k with
    | zero => rfl
    | succ k => simp only; cases Nat.beq (Nat.mod k 2) 0 <;> rfl
  | nd l o r => cases k with
    | zero => rfl
    | succ k =>
      show (Bool.rec (motive := fun _ => Option EObj) (Tr.get r (Nat.div k 2)) (Tr.get l (Nat.div k 2)) (Nat.beq (Nat.mod k 2) 0)) = _
      simp only
      cases Nat.beq (Nat.mod k 2) 0 <;> rfl
theorem Tr.set_zero (f : Nat) (t : Tr) (o : Option EObj) : Tr.set (f + 1) t 0 o = .nd t.l o t.r := rfl
theorem Tr.set_succ (f : Nat) (t : Tr) (k : Nat) (o : Option EObj) : Tr.set (f + 1) t (k + 1) o = match Nat.beq (Nat.mod k 2) 0 with | true => .nd (Tr.set f t.l (Nat.div k 2) o) t.o t.r | false => .nd t.l t.o (Tr.set f t.r (Nat.div k 2) o) := by
  show (Bool.rec (motive := fun _ => Tr) (.nd t.l t.o (Tr.set f t.r (Nat.div k 2) o)) (.nd (Tr.set f t.l (Nat.div k 2) o) t.o t.r) (Nat.beq (Nat.mod k 2) 0)) = _
  cases Nat.beq (Nat.mod k 2) 0 <;> rfl
theorem div_lt {k f : Nat} (h : k + 1 + 2 ≤ 2 ^ (f + 1)) : Nat.div k 2 + 2 ≤ 2 ^ f := by
  have e : Nat.div k 2 = k / 2 := rfl
  rw [Nat.pow_succ] at h
  omega
theorem div_inj {k j : Nat} (h : Nat.div k 2 = Nat.div j 2) (h2 : Nat.beq (Nat.mod k 2) 0 = Nat.beq (Nat.mod j 2) 0) : k = j := by
  have e1 : Nat.div k 2 = k / 2 := rfl
  have e2 : Nat.div j 2 = j / 2 := rfl
  have e3 : Nat.mod k 2 = k % 2 := rfl
  have e4 : Nat.mod j 2 = j % 2 := rfl
  rw [e1, e2] at h
  rw [e3, e4] at h2
  have hk : k % 2 = 0 ∨ k % 2 = 1 := by omega
  have hj : j % 2 = 0 ∨ j % 2 = 1 := by omega
  rcases hk with a | a <;> rcases hj with b | b <;> rw [a, b] at h2 <;> first | omega | cases h2
theorem Tr.get_set : ∀ (f : Nat) (t : Tr) (k j : Nat) (o : Option EObj), k + 2 ≤ 2 ^ f → (Tr.set f t k o).get j = if j = k then o else t.get j
  | 0, t, k, j, o, h => by simp at h
  | f + 1, t, 0, j, o, h => by
    rw [Tr.set_zero, Tr.get_proj, Tr.get_proj t]
    cases j with
    | zero => simp [Tr.o]
    | succ j => simp [Tr.l, Tr.r]
  | f + 1, t, k + 1, j, o, h => by
    rw [Tr.set_succ, Tr.get_proj, Tr.get_proj t]
    have hd := div_lt h
    cases j with
    | zero =>
      cases Nat.beq (Nat.mod k 2) 0 <;> simp [Tr.o]
    | succ j =>
      simp only
      cases hb : Nat.beq (Nat.mod k 2) 0 <;> cases hc : Nat.beq (Nat.mod j 2) 0 <;> simp only [Tr.l, Tr.r] <;> (try rw [Tr.get_set f _ _ _ _ hd])
      · by_cases e : Nat.div j 2 = Nat.div k 2
        · have := div_inj e (by rw [hb, hc]); rw [if_pos e, if_pos (by omega)]
        · rw [if_neg e, if_neg (fun e2 => e (by have : j = k := by omega
                                                rw [this]))]
      · rw [if_neg (fun e2 => by have : j = k := by omega
                                 rw [this, hb] at hc; cases hc)]
      · rw [if_neg (fun e2 => by have : j = k := by omega
                                 rw [this, hb] at hc; cases hc)]
      · by_cases e : Nat.div j 2 = Nat.div k 2
        · have := div_inj e (by rw [hb, hc]); rw [if_pos e, if_pos (by omega)]
        · rw [if_neg e, if_neg (fun e2 => e (by have : j = k := by omega
                                                rw [this]))]

/-! ### objects and the store -/
def shT (v : Vl) : List XTri → Option (List TriG)
  | [] => some []
  | t :: r => (match sh v t.2.1, shT v r with | some y, some l => some ((t.1, y, t.2.2) :: l) | _, _ => none)
def stOf : Nat → LoopState
  | 0 => .ready
  | 1 => .busy
  | 2 => .done
  | _ => .exhausted
def jOf : Option (Option Nat) → Option Code
  | none => none
  | some none => some .ret
  | some (some id) => some (.exit id)
def RO (v : Vl) (k : Nat) : EObj → Obj → Prop
  | .cells l e z, O => ∃ vs rest, shL v l = some vs ∧ O = .cells (vs ++ rest).toArray e (0, 0) ∧ (z = 0 → rest = []) ∧ (0 < z → ∃ b, v.β k = some b ∧ (vs ++ rest).length = b.2 * z ∧ b.2 ≤ maxLen)
  | .map l c, O => ∃ gl, shT v l = some gl ∧ O = mapG gl c ∧ GOk gl c
  | .it m since seen c, O => ∃ b, v.β m = some b ∧ O = .mapIter (some b.1) since seen.reverse.toArray c
  | .dfr b, O => O = .deferred (match b with | true => some [] | false => none)
  | .lp s j, O => O = v.R k (stOf s) (jOf j)
theorem shT_sub {v v' : Vl} (h : v.sub v') : ∀ {x : List XTri} {y : List TriG}, shT v x = some y → shT v' x = some y
  | [], y, e => by simpa [shT] using e
  | x :: r, y, e => by
    simp only [shT] at e ⊢
    split at e
    · rename_i a b ha hb; rw [sh_sub h ha, shT_sub h hb]; exact e
    · cases e
theorem RO.sub {v v' : Vl} (h : v.sub v') {k : Nat} {b : Nat × Nat} (hk : v.β k = some b) {o : EObj} {O : Obj} (r : RO v k o O) : RO v' k o O := by
  cases o with
  | cells l e z =>
    obtain ⟨vs, rest, h1, h2, h3, h4⟩ := r
    exact ⟨vs, rest, shL_sub h h1, h2, h3, fun hz => by obtain ⟨b, hb, h5⟩ := h4 hz; exact ⟨b, h.β _ _ hb, h5⟩⟩
  | map l c => obtain ⟨gl, h1, h2⟩ := r; exact ⟨gl, shT_sub h h1, h2⟩
  | it m since seen c => obtain ⟨b, h1, h2⟩ := r; exact ⟨b, h.β _ _ h1, h2⟩
  | dfr b => exact r
  | lp s j => show O = _; rw [h.R _ _ hk]; exact r

theorem RO.mono {v v' : Vl} (h : v.le v') {k : Nat} {b : Nat × Nat} (hk : v.β k = some b) {o : EObj} {O : Obj} (r : RO v k o O) : RO v' k o O := r.sub h.tosub hk
structure Rep (w0 : World) (v : Vl) (s : XSt) (w : World) : Prop where
  below : Below w0.heap.size w0 w
  held : ∀ k o, s.get k = some o → ∃ b O, v.β k = some b ∧ w0.heap.size ≤ b.1 ∧ w.heap[b.1]? = some O ∧ RO v k o O
  inj : ∀ k k' o o' b b', s.get k = some o → s.get k' = some o' → v.β k = some b → v.β k' = some b' → b.1 = b'.1 → k = k'
  fresh : ∀ k, s.nx ≤ k → k < s.lim → v.β k = none ∧ v.A k
  dom : ∀ k b, v.β k = some b → k < 1000000000 ∧ v.A k
  lim : s.lim ≤ 1000000000
theorem small40 {k : Nat} (h : k < 1000000000) : k + 2 ≤ 2 ^ 40 := by
  have : (2 : Nat) ^ 40 = 1099511627776 := by decide
  omega
theorem XSt.get_put {s : XSt} {k j : Nat} {o : EObj} (h : k < 1000000000) : (s.put k o).get j = if j = k then some o else s.get j := Tr.get_set 40 _ _ _ _ (small40 h)
theorem XSt.get_del {s : XSt} {k j : Nat} (h : k < 1000000000) : (s.del k).get j = if j = k then none else s.get j := Tr.get_set 40 _ _ _ _ (small40 h)
section
variable {w0 w : World} {v : Vl} {s : XSt}
theorem Rep.drew (H : Rep w0 v s w) : Rep w0 v s w.drew := ⟨⟨H.below.os, H.below.tape, H.below.output, H.below.size, H.below.block⟩, H.held, H.inj, H.fresh, H.dom, H.lim⟩
theorem Rep.lt (H : Rep w0 v s w) {k : Nat} {o : EObj} (h : s.get k = some o) : k < 1000000000 := by
  obtain ⟨b, _, hb, _⟩ := H.held k o h
  exact (H.dom k b hb).1
/-- one object turned -/
theorem Rep.put (H : Rep w0 v s w) {k : Nat} {o o' : EObj} {b : Nat × Nat} {O' : Obj} (h : s.get k = some o) (hb : v.β k = some b) (w' : World) (hos : w'.os = w.os) (ht : w'.tape = w.tape) (ho : w'.output = w.output)
    (hsz : w.heap.size ≤ w'.heap.size) (hk : w'.heap[b.1]? = some O') (hr : ∀ j, j < w.heap.size → j ≠ b.1 → w'.heap[j]? = w.heap[j]?) (hO : RO v k o' O') : Rep w0 v (s.put k o') w' := by
  have hlt := H.lt h
  obtain ⟨b', O, hb', hw0, hO0, hRO⟩ := H.held k o h
  rw [hb] at hb'; cases hb'
  refine ⟨⟨hos.trans H.below.os, ht.trans H.below.tape, ho.trans H.below.output, Nat.le_trans H.below.size hsz, fun j hj => ?_⟩, ?_, ?_, H.fresh, H.dom, H.lim⟩
  · rw [hr j (by have := H.below.size; omega) (by omega)]; exact H.below.block j hj
  · intro j o2 hj
    rw [XSt.get_put hlt] at hj
    split at hj
    · rename_i e; subst e; cases hj; exact ⟨b, O', hb, hw0, hk, hO⟩
    · rename_i hne
      obtain ⟨c, P, hc, h1, h2, h3⟩ := H.held j o2 hj
      refine ⟨c, P, hc, h1, ?_, h3⟩
      rw [hr c.1 (lt_of_some h2) (fun e => hne (H.inj _ _ _ _ _ _ hj h hc hb e))]
      exact h2
  · intro i j o1 o2 b1 b2 h1 h2 h3 h4 h5
    rw [XSt.get_put hlt] at h1 h2
    have f : ∀ i o1, (if i = k then some o' else s.get i) = some o1 → ∃ o3, s.get i = some o3 := fun i o1 hi => by
      split at hi
      · rename_i e; rw [e]; exact ⟨_, h⟩
      · exact ⟨_, hi⟩
    obtain ⟨_, g1⟩ := f _ _ h1
    obtain ⟨_, g2⟩ := f _ _ h2
    exact H.inj _ _ _ _ _ _ g1 g2 h3 h4 h5
theorem Rep.del (H : Rep w0 v s w) (k : Nat) (hk : k < 1000000000) : Rep w0 v (s.del k) w := by
  have f : ∀ i o1, (s.del k).get i = some o1 → s.get i = some o1 := fun i o1 hi => by
    rw [XSt.get_del hk] at hi
    split at hi
    · cases hi
    · exact hi
  exact ⟨H.below, fun i o hi => H.held i o (f _ _ hi), fun i j o1 o2 b1 b2 h1 h2 => H.inj i j o1 o2 b1 b2 (f _ _ h1) (f _ _ h2), H.fresh, H.dom, H.lim⟩
/-- a name for a block -/
def Vl.put (v : Vl) (k : Nat) (b : Nat × Nat) (R : Rt) : Vl := ⟨fun j => if j = k then some b else v.β j, fun j => if j = k then R else v.R j, v.ν, v.A⟩
theorem Vl.put_le {k : Nat} {b : Nat × Nat} {R : Rt} (h : v.β k = none) : v.le (v.put k b R) := by
  refine ⟨⟨fun j c hj => ?_, fun j c hj => ?_, rfl⟩, rfl⟩
  · simp only [Vl.put]; rw [if_neg (fun e => by rw [e, h] at hj; cases hj)]; exact hj
  · simp only [Vl.put]; rw [if_neg (fun e => by rw [e, h] at hj; cases hj)]
theorem new_out {s s' : XSt} {o : EObj} {k : Nat} (h : s.new o = some (k, s')) : k = s.nx ∧ s.nx < s.lim ∧ s' = ⟨s.h.set 40 s.nx (some o), s.nx + 1, s.lim⟩ := by
  unfold XSt.new at h
  split at h
  · rename_i hb
    cases h
    exact ⟨rfl, by simpa [Nat.blt_eq] using hb, rfl⟩
  · cases h
/-- a block that is not of the store gets a name -/
theorem Rep.add (H : Rep w0 v s w) {o : EObj} {k : Nat} {s' : XSt} (h : s.new o = some (k, s')) {b : Nat × Nat} {O : Obj} (R : Rt) (hb : w0.heap.size ≤ b.1) (hO : w.heap[b.1]? = some O) (hn : ∀ j o b', s.get j = some o → v.β j = some b' → b'.1 ≠ b.1)
    (hR : RO (v.put k b R) k o O) : v.le (v.put k b R) ∧ Rep w0 (v.put k b R) s' w := by
  obtain ⟨rfl, hlt, rfl⟩ := new_out h
  have hnone : v.β s.nx = none := (H.fresh _ (Nat.le_refl _) hlt).1
  have hle := Vl.put_le (b := b) (R := R) hnone
  have hsm : s.nx < 1000000000 := Nat.lt_of_lt_of_le hlt H.lim
  have hg : ∀ j, (⟨s.h.set 40 s.nx (some o), s.nx + 1, s.lim⟩ : XSt).get j = if j = s.nx then some o else s.get j := fun j => Tr.get_set 40 _ _ _ _ (small40 hsm)
  have hself : (v.put s.nx b R).β s.nx = some b := by simp [Vl.put]
  refine ⟨hle, H.below, ?_, ?_, ?_, ?_, H.lim⟩
  · intro j o2 hj
    rw [hg] at hj
    split at hj
    · rename_i e; subst e; cases hj; exact ⟨b, O, hself, hb, hO, hR⟩
    · obtain ⟨c, P, hc, h1, h2, h3⟩ := H.held j o2 hj
      exact ⟨c, P, hle.β _ _ hc, h1, h2, h3.mono hle hc⟩
  · intro i j o1 o2 b1 b2 h1 h2 h3 h4 h5
    rw [hg] at h1 h2
    split at h1 <;> split at h2
    · rename_i e1 e2; rw [e1, e2]
    · rename_i e1 e2
      obtain ⟨c, P, hc, -⟩ := H.held j o2 h2
      have hc2 := hle.β _ _ hc
      rw [h4] at hc2; cases hc2
      subst e1
      rw [hself] at h3; cases h3
      exact absurd h5.symm (hn _ _ _ h2 hc)
    · rename_i e1 e2
      obtain ⟨c, P, hc, -⟩ := H.held i o1 h1
      have hc2 := hle.β _ _ hc
      rw [h3] at hc2; cases hc2
      subst e2
      rw [hself] at h4; cases h4
      exact absurd h5 (hn _ _ _ h1 hc)
    · rename_i e1 e2
      obtain ⟨c, P, hc, -⟩ := H.held i o1 h1
      obtain ⟨c', P', hc', -⟩ := H.held j o2 h2
      have g1 := hle.β _ _ hc
      have g2 := hle.β _ _ hc'
      rw [h3] at g1; cases g1
      rw [h4] at g2; cases g2
      exact H.inj _ _ _ _ _ _ h1 h2 hc hc' h5
  · intro j h1 h2
    simp only at h1 h2
    simp only [Vl.put]
    rw [if_neg (by omega)]
    exact H.fresh j (by omega) h2
  · intro j c hj
    simp only [Vl.put] at hj
    split at hj
    · rename_i e; exact ⟨by omega, by rw [e]; exact (H.fresh _ (Nat.le_refl _) hlt).2⟩
    · exact H.dom j c hj
theorem Rep.blt (H : Rep w0 v s w) {k : Nat} {o : EObj} (h : s.get k = some o) {b : Nat × Nat} (hb : v.β k = some b) : b.1 < w.heap.size := by
  obtain ⟨c, P, hc, h1, h2, h3⟩ := H.held k o h
  rw [hb] at hc; cases hc
  exact lt_of_some h2
theorem Rep.alloc (H : Rep w0 v s w) (O : Obj) : Rep w0 v s (w.alloc O) := by
  refine ⟨⟨H.below.os, H.below.tape, H.below.output, ?_, fun j hj => ?_⟩, fun k o h => ?_, H.inj, H.fresh, H.dom, H.lim⟩
  · have := H.below.size; simp only [World.alloc, Array.size_push]; omega
  · rw [heap_alloc_old w O (r := j) (by have := H.below.size; omega)]; exact H.below.block j hj
  · obtain ⟨b, P, h1, h2, h3, h4⟩ := H.held k o h
    exact ⟨b, P, h1, h2, by rw [heap_alloc_old w O (lt_of_some h3)]; exact h3, h4⟩
/-- a new block with a new name -/
theorem Rep.nw (H : Rep w0 v s w) {o : EObj} {k : Nat} {s' : XSt} (h : s.new o = some (k, s')) (c : Nat) {O : Obj} (R : Rt) (hR : RO (v.put k (w.heap.size, c) R) k o O) :
    v.le (v.put k (w.heap.size, c) R) ∧ Rep w0 (v.put k (w.heap.size, c) R) s' (w.alloc O) :=
  (H.alloc O).add h R (by exact H.below.size) (heap_alloc_new w O) (fun j o b' hj hb e => by have := H.blt hj hb; simp only at e; omega) hR
theorem Vl.put_self {k : Nat} {b : Nat × Nat} {R : Rt} : (v.put k b R).β k = some b := by simp [Vl.put]
end

end Go.Sh
