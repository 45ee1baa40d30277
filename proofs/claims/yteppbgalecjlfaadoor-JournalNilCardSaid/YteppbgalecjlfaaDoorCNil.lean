/- What law4's JournalNil computes: true, of any call. Conditions: none. -/
import Derived.Test.YteppbgalecjlfaaDoorCR
import Derived.Test.YteppbgalecjlfaaDoorFB
set_option linter.unusedVariables false
set_option maxRecDepth 100000
namespace Go.Proofs.YteppbgalecjlfaaDoor
open Go Go.Sh

theorem open_call {W : World} {r : Reach} {b0 : Nat} {v : Value} (h : Value.okWide Tryd.prog W r b0 46 v) : ∃ (x0 x1 x2 : Int) (s : ByteArray) (x4 : Int) (a : Option Addr) (n c : Nat), v = .agg #[I x0, I x1, I x2, .string s, I x4, .slice a n c] := by
  unfold Value.okWide at h
  rw [Tryd.underlying46] at h
  obtain ⟨cs, rfl, hsz, ts, h1, -, h3⟩ := h
  rw [show Tryd.prog.cellTypes Tryd.prog.depth 46 = some [3, 3, 3, 9, 3, 27] by kernel_rfl] at h1
  cases h1
  rw [show Tryd.prog.cellsOf 46 = 6 by kernel_rfl] at hsz
  have oi : ∀ (i : Nat) (v : Value), cs[i]? = some v → [3, 3, 3, 9, 3, 27][i % 6]? = some 3 → ∃ n, v = I n := fun i v hv ht => by
    obtain ⟨u, hu, hc⟩ := h3 i v hv
    rw [show [3, 3, 3, 9, 3, 27].length = 6 from rfl, ht] at hu
    cases hu
    refine Go.WideShapes.okWide_int (P := Tryd.prog) (w := W) (r := r) (base := b0) (t := 3) Tryd.underlying3 ?_
    unfold Value.okWide
    rw [Tryd.underlying3]
    exact hc
  obtain ⟨l⟩ := cs
  match l, hsz with
  | [c0, c1, c2, c3, c4, c5], _ =>
    obtain ⟨x0, rfl⟩ := oi 0 _ rfl rfl
    obtain ⟨x1, rfl⟩ := oi 1 _ rfl rfl
    obtain ⟨x2, rfl⟩ := oi 2 _ rfl rfl
    obtain ⟨x4, rfl⟩ := oi 4 _ rfl rfl
    have hs : ∃ s, c3 = .string s := by
      obtain ⟨u, hu, hc⟩ := h3 3 c3 rfl
      have hu : u = 9 := by simpa using hu.symm
      subst hu
      refine Go.WideShapes.okWide_string (P := Tryd.prog) (w := W) (r := r) (base := b0) (t := 9) Tryd.underlying9 ?_
      unfold Value.okWide
      rw [Tryd.underlying9]
      exact hc
    have hl : ∃ a n c, c5 = .slice a n c := by
      obtain ⟨u, hu, hc⟩ := h3 5 c5 rfl
      have hu : u = 27 := by simpa using hu.symm
      subst hu
      refine Go.WideShapes.okWide_slice (P := Tryd.prog) (w := W) (r := r) (base := b0) (t := 27) Tryd.underlying27 ?_
      unfold Value.okWide
      rw [Tryd.underlying27]
      exact hc
    obtain ⟨s, rfl⟩ := hs
    obtain ⟨a, n, c, rfl⟩ := hl
    exact ⟨x0, x1, x2, s, x4, a, n, c, rfl⟩
theorem allNil_c {w0 w : World} {hs : List Hp} {K : KV} {x : Int} (H : Sh.Holds w0 hs w) (k : ∀ w', Sh.Holds w0 hs w' → K (.slice none 0 0) w') : gocall Tryd.prog 17 [.pointer none, I x] K w := by
  apply F17_go; unfold F17
  refine nw_h H (fun k2 w H => ?_)
  refine nw_h H (fun k4 w H => ?_)
  apply F31_go; unfold F31
  refine nw_h H (fun kb w H => ?_)
  refine ⟨false, .inr ⟨rfl, _, _, _, rfl⟩, ?_⟩
  refine br_f rfl ?_
  refine asFn_h ?_
  refine rfn_h H (fun D l R w hround H => ?_)
  show gocall Tryd.prog 38 [yv l, .pointer (some ⟨kb, 0, none⟩)] _ w
  apply F38_go; unfold F38
  apply ld_h 2 H rfl rfl; refine asPtr_h ?_
  apply F11_go; unfold F11
  refine br_t rfl ?_
  refine asSl_h ?_
  refine ⟨fun y w => Sh.Holds w0 ([(l, R .ready none)] :: [(D, .deferred (some []))] :: [(kb, .cells #[.pointer none] 23 (0, 0))] :: [(k4, .cells #[.slice none 0 0] 37 (0, 0))] :: [(k2, .cells #[I x] 3 (0, 0))] :: hs) w ∧ y.1 = 0, fun y _ => 0, ⟨H, rfl⟩, ?_⟩
  clear H
  rintro ⟨y, u⟩ w ⟨H, rfl⟩
  refine br_f rfl ?_
  refine rfe_h 0 (st := .ready) (pe := none) (by simp) H rfl (fun w H => ?_)
  unfold rfj
  simp only
  apply ld_h 3 H rfl rfl; refine asSl_h ?_
  refine dfr_h 1 H rfl (fun w H => ?_)
  exact k _ H.tail.tail.tail.tail.tail
theorem Nil_c {w0 w : World} {hs : List Hp} {K : KV} {x0 x1 x2 x4 : Int} {s : ByteArray} {a : Option Addr} {n c : Nat} (E : Errs w0) (T : Tab w0) (H : Sh.Holds w0 hs w) (k : ∀ w', Sh.Holds w0 hs w' → K (.bool true) w') :
    gocall Tryd.prog 7 [.agg #[I x0, I x1, I x2, .string s, I x4, .slice a n c]] K w := by
  apply F7_go; unfold F7
  refine nw_h H (fun k8 w H => ?_)
  apply ld_h 0 H rfl rfl; refine asI_h ?_
  apply ld_h 0 H rfl rfl; refine asI_h ?_
  apply F12_go; unfold F12
  refine br_t rfl ?_
  refine asT_e [] rfl rfl ?_
  apply ld_h 0 H rfl rfl; refine asStr_h ?_
  apply ld_h 0 H rfl rfl; refine asI_h ?_
  apply ld_h 0 H rfl rfl; refine asSl_h ?_
  apply F10_go; unfold F10
  refine nw_h H (fun k6 w H => ?_)
  refine br_t rfl ?_
  refine asI_h ?_
  refine br_t rfl ?_
  apply F15_go; unfold F15
  refine br_t rfl ?_
  refine asI_h ?_
  refine br_t rfl ?_
  apply F13_go; unfold F13
  refine br_t rfl ?_
  refine asI_h ?_
  refine br_t rfl ?_
  refine allNil_c H (fun w H => ?_)
  refine asSl_h ?_
  refine br_t rfl ?_
  apply F11_go; unfold F11
  refine br_t rfl ?_
  refine asSl_h ?_
  refine br_t rfl ?_
  apply F16_go; unfold F16
  refine br_t rfl ?_
  refine asI_h ?_
  refine br_t rfl ?_
  apply F27_go; unfold F27
  refine br_f rfl ?_
  refine asBoo_h ?_
  refine br_t rfl ?_
  refine awake4_c E T H (fun w H => ?_)
  refine asBoo_h ?_
  exact k _ H.tail.tail
end Go.Proofs.YteppbgalecjlfaaDoor
