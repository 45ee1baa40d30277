/- Runs of the executor at this seat: a harbour that there isn't; who is forced. Conditions: none. -/
import Derived.Test.YtlfgmbbiealpoaaGreatDoorEH1
set_option linter.unusedVariables false
set_option maxRecDepth 100000
namespace Go.Proofs.YtlfgmbbiealpoaaGreatDoor
open Go Go.Sh Go.RowKit
/-- what is known of the numbers that are not looked into: an order's number below 1, above 999, from 1 to 999 and not 3, from 1 to 999; a node that is no keeper -/
def QF : List (Nat × BinOp × Int × Bool) := [(10, .geq, 1, false), (10, .lss, 1, true), (10, .eql, 3, false),
  (11, .geq, 1, true), (11, .leq, 999, false), (11, .lss, 1, false), (11, .gtr, 999, true), (11, .eql, 3, false),
  (12, .geq, 1, true), (12, .leq, 999, true), (12, .eql, 3, false), (12, .lss, 1, false), (12, .gtr, 999, false),
  (13, .geq, 1, true), (13, .leq, 999, true), (13, .lss, 1, false), (13, .gtr, 999, false),
  (20, .eql, 1, false), (20, .eql, 2, false), (20, .neq, 1, true), (20, .neq, 2, true)]
noncomputable def cxF : XCx := ⟨Tryz.prog, QF, [], primA 51⟩
def oq (i : Nat) : EV := .opq (.int .i64) i
noncomputable def runF (node id yes : EV) : Bool := xcall cxF ⟨tbL, 3000⟩ 2000 [] 11 [node, id, yes] st0 isTrueE
def i1 (n : Int) : EV := .int .i64 n
noncomputable def runFs : Bool := runF (i1 1) (i1 3) (.bool true) && (runF (i1 1) (i1 3) (.bool false) && (runF (i1 1) (oq 10) (.opq .bool 0) && (runF (i1 1) (oq 11) (.opq .bool 0) && (runF (i1 1) (oq 12) (.opq .bool 0) && (runF (i1 2) (oq 10) (.opq .bool 0) && (runF (i1 2) (oq 11) (.opq .bool 0) && (runF (i1 2) (oq 13) (.opq .bool 0) && runF (oq 20) (oq 14) (.opq .bool 0))))))))
theorem runFs_true : runFs = true := by kernel_rfl
noncomputable def cmdE : EV := .agg [oq 0, oq 1, oq 2, oq 3, .opq .bool 0, oq 4, oq 5, oq 6, oq 7, oq 8, .opq .slice 0]
noncomputable def runHN : Bool := xcall cxF ⟨tbL, 3000⟩ 2000 [] 10 [cmdE] st0 isTrueE
theorem runHN_true : runHN = true := by kernel_rfl
theorem qlook_mem : ∀ {l : List (Nat × BinOp × Int × Bool)} {i : Nat} {op : BinOp} {n : Int} {b : Bool}, qlook l i op n = some b → (i, op, n, b) ∈ l
  | [], i, op, n, b, h => by cases h
  | (i', op', n', b') :: r, i, op, n, b, h => by
    simp only [qlook] at h
    split at h
    · rename_i h1 h2 h3
      cases h
      have h1 := Nat.eq_of_beq_eq_true h1
      have h2 := of_decide_eq_true h2
      have h3 := of_decide_eq_true h3
      subst h1 h2 h3
      exact List.mem_cons_self ..
    · exact List.mem_cons_of_mem _ (qlook_mem h)
/-- numbers at their places -/
def nuF (a b c d e f : Int) : List Int := [0, 0, 0, 0, 0, 0, 0, 0, 0, 0, a, b, c, d, e, 0, 0, 0, 0, 0, f]
theorem qF {a b c d e f : Int} {bs : List Bool} {ss : List (Option Addr × Nat × Nat)} (ha : a < 1) (hb : 999 < b) (hc : 1 ≤ c ∧ c ≤ 999 ∧ c ≠ 3) (hd : 1 ≤ d ∧ d ≤ 999) (hf : f ≠ 1 ∧ f ≠ 2) : QOk cxF (vOf (nuF a b c d e f) bs ss).ν := by
  intro i op n t h
  have hm := qlook_mem h
  obtain ⟨c1, c2, c3⟩ := hc
  obtain ⟨d1, d2⟩ := hd
  obtain ⟨f1, f2⟩ := hf
  simp only [cxF, QF, List.mem_cons, Prod.mk.injEq, List.not_mem_nil, or_false] at hm
  rcases hm with h | h | h | h | h | h | h | h | h | h | h | h | h | h | h | h | h | h | h | h | h <;> obtain ⟨rfl, rfl, rfl, rfl⟩ := h <;> simp [vOf, nuF, xint] <;> omega
theorem runF_c {w : World} (T : Tab w) {nu : List Int} {bs : List Bool} {node id yes : EV} (hr : runF node id yes = true) (hq : QOk cxF (vOf nu bs []).ν) {vs : List Value} (hs : shL (vOf nu bs []) [node, id, yes] = some vs) {K : KV} (hK : ∀ w', Below w.heap.size w w' → K (.bool true) w') :
    gocall Tryz.prog 11 vs K w :=
  x_run (cx := cxF) (tb := ⟨tbL, 3000⟩) (n := 2000) (args := [node, id, yes]) (v := vOf nu bs []) (K := isTrueE) (tbOk 3000) (primA_ok T fun w T => awake25_x T) rfl ⟨fun g l h => (by cases h), hq⟩ hs hr (fun v' s' w' x y h1 h2 h3 h4 => by rw [isTrue_val h4 h3]; exact hK w' h2.below)
theorem harbourForces_c {w : World} (T : Tab w) {node id : Int} {b : Bool} {K : KV} (hK : ∀ w', Below w.heap.size w w' → K (.bool true) w') : gocall Tryz.prog 11 [I node, I id, .bool b] K w := by
  have hr := runFs_true
  simp only [runFs, Bool.and_eq_true] at hr
  obtain ⟨r1, r2, r3, r4, r5, r6, r7, r8, r9⟩ := hr
  by_cases h1 : node = 1
  · subst h1
    by_cases h3 : id = 3
    · subst h3
      have q := qF (a := 0) (b := 1000) (c := 1) (d := 1) (e := 0) (f := 0) (bs := []) (ss := []) (by omega) (by omega) (by omega) (by omega) (by omega)
      cases b
      · exact runF_c T r2 q rfl hK
      · exact runF_c T r1 q rfl hK
    · by_cases h4 : id < 1
      · exact runF_c T r3 (qF (a := id) (b := 1000) (c := 1) (d := 1) (e := 0) (f := 0) (bs := [b]) (ss := []) h4 (by omega) (by omega) (by omega) (by omega)) rfl hK
      · by_cases h5 : 999 < id
        · exact runF_c T r4 (qF (a := 0) (b := id) (c := 1) (d := 1) (e := 0) (f := 0) (bs := [b]) (ss := []) (by omega) h5 (by omega) (by omega) (by omega)) rfl hK
        · exact runF_c T r5 (qF (a := 0) (b := 1000) (c := id) (d := 1) (e := 0) (f := 0) (bs := [b]) (ss := []) (by omega) (by omega) ⟨by omega, by omega, h3⟩ (by omega) (by omega)) rfl hK
  · by_cases h2 : node = 2
    · subst h2
      by_cases h4 : id < 1
      · exact runF_c T r6 (qF (a := id) (b := 1000) (c := 1) (d := 1) (e := 0) (f := 0) (bs := [b]) (ss := []) h4 (by omega) (by omega) (by omega) (by omega)) rfl hK
      · by_cases h5 : 999 < id
        · exact runF_c T r7 (qF (a := 0) (b := id) (c := 1) (d := 1) (e := 0) (f := 0) (bs := [b]) (ss := []) (by omega) h5 (by omega) (by omega) (by omega)) rfl hK
        · exact runF_c T r8 (qF (a := 0) (b := 1000) (c := 1) (d := id) (e := 0) (f := 0) (bs := [b]) (ss := []) (by omega) (by omega) (by omega) (by omega) (by omega)) rfl hK
    · exact runF_c T r9 (qF (a := 0) (b := 1000) (c := 1) (d := 1) (e := id) (f := node) (bs := [b]) (ss := []) (by omega) (by omega) (by omega) (by omega) ⟨h1, h2⟩) rfl hK
theorem harbourNil_c {w : World} (T : Tab w) {x0 x1 x2 x3 x5 x6 x7 x8 x9 : Int} {x4 : Bool} {p : Option Addr} {n k : Nat} {K : KV} (hK : ∀ w', Below w.heap.size w w' → K (.bool true) w') :
    gocall Tryz.prog 10 [.agg #[I x0, I x1, I x2, I x3, .bool x4, I x5, I x6, I x7, I x8, I x9, .slice p n k]] K w :=
  x_run (cx := cxF) (tb := ⟨tbL, 3000⟩) (n := 2000) (args := [cmdE]) (v := vOf [x0, x1, x2, x3, x5, x6, x7, x8, x9, 0, 0, 1000, 1, 1, 0, 0, 0, 0, 0, 0, 0] [x4] [(p, n, k)]) (K := isTrueE) (tbOk 3000) (primA_ok T fun w T => awake25_x T) rfl ⟨fun g l h => (by cases h), fun i op n t h => (by
    have hm := qlook_mem h
    simp only [cxF, QF, List.mem_cons, Prod.mk.injEq, List.not_mem_nil, or_false] at hm
    rcases hm with h | h | h | h | h | h | h | h | h | h | h | h | h | h | h | h | h | h | h | h | h <;> obtain ⟨rfl, rfl, rfl, rfl⟩ := h <;> simp [vOf, xint])⟩ rfl runHN_true (fun v' s' w' x y h1 h2 h3 h4 => by rw [isTrue_val h4 h3]; exact hK w' h2.below)
end Go.Proofs.YtlfgmbbiealpoaaGreatDoor
