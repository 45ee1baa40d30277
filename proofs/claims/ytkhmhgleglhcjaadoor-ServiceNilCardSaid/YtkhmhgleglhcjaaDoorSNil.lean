/- What law21's ShipperNil and law19's ServiceNil compute: true, of every call. Conditions: none. -/
import Derived.Test.YtkhmhgleglhcjaaDoorC5
import Derived.Test.YtkhmhgleglhcjaaDoorC9
import Derived.Test.YtkhmhgleglhcjaaDoorFJ
import Derived.Test.YtkhmhgleglhcjaaDoorFNil
set_option linter.unusedVariables false
set_option maxRecDepth 100000
namespace Go.Proofs.YtkhmhgleglhcjaaDoor
open Go Go.Sh

theorem snil_c {w0 w : World} {hs : List Hp} {K : KV} {x0 x1 x2 x3 x4 x5 x6 x7 x8 x9 : Int} (T : Tab w0) (H : Holds w0 hs w) (k : ∀ w', Holds w0 hs w' → K (.bool true) w') :
    gocall Tryd.prog 8 [.agg #[I x0, I x1, I x2, I x3, I x4, I x5, I x6, I x7, I x8, I x9]] K w := by
  apply F8_go; unfold F8
  refine nw_h H (fun k0 w H => ?_)
  apply ld_h 0 H rfl rfl; refine asI_h ?_
  apply ld_h 0 H rfl rfl; refine asI_h ?_
  apply F27_go; unfold F27
  refine br_t rfl ?_
  refine asT_e [] rfl rfl ?_
  apply F28_go; unfold F28
  refine nw_h H (fun k1 w H => ?_)
  apply ld_h 0 H rfl rfl; refine asPtr_h ?_
  refine br_t rfl ?_
  refine asT_e [] rfl rfl ?_
  replace H := H.tail
  apply ld_h 0 H rfl rfl; refine asI_h ?_
  apply ld_h 0 H rfl rfl; refine asI_h ?_
  apply ld_h 0 H rfl rfl; refine asI_h ?_
  apply ld_h 0 H rfl rfl; refine asI_h ?_
  apply ld_h 0 H rfl rfl; refine asI_h ?_
  apply ld_h 0 H rfl rfl; refine asI_h ?_
  apply ld_h 0 H rfl rfl; refine asI_h ?_
  apply F29_go; unfold F29
  refine nw_h H (fun k2 w H => ?_)
  refine br_t rfl ?_
  refine asSl_h ?_
  refine br_t rfl ?_
  apply F30_go; unfold F30
  refine br_t rfl ?_
  refine asPtr_h ?_
  refine br_t rfl ?_
  apply F31_go; unfold F31
  refine br_f rfl ?_
  refine asBoo_h ?_
  refine br_t rfl ?_
  refine awakeS_c T H (fun w H => ?_)
  refine asBoo_h ?_
  exact k _ H.tail.tail
theorem vnil_c {w0 w : World} {hs : List Hp} {K : KV} {x0 x1 x2 x3 x4 x5 x6 x7 x8 x9 : Int} (T : Tab w0) (H : Holds w0 hs w) (k : ∀ w', Holds w0 hs w' → K (.bool true) w') :
    gocall Tryd.prog 10 [.agg #[I x0, I x1, I x2, I x3, I x4, I x5, I x6, I x7, I x8, I x9]] K w := by
  apply F10_go; unfold F10
  refine nw_h H (fun k0 w H => ?_)
  apply ld_h 0 H rfl rfl; refine asI_h ?_
  apply ld_h 0 H rfl rfl; refine asI_h ?_
  apply F36_go; unfold F36
  refine br_t rfl ?_
  refine asT_e [] rfl rfl ?_
  apply F37_go; unfold F37
  refine nw_h H (fun k1 w H => ?_)
  apply ld_h 0 H rfl rfl; refine asPtr_h ?_
  refine br_t rfl ?_
  refine asT_e [] rfl rfl ?_
  replace H := H.tail
  apply ld_h 0 H rfl rfl; refine asI_h ?_
  apply ld_h 0 H rfl rfl; refine asI_h ?_
  apply ld_h 0 H rfl rfl; refine asI_h ?_
  apply ld_h 0 H rfl rfl; refine asI_h ?_
  apply ld_h 0 H rfl rfl; refine asI_h ?_
  apply ld_h 0 H rfl rfl; refine asI_h ?_
  apply ld_h 0 H rfl rfl; refine asI_h ?_
  apply F38_go; unfold F38
  refine nw_h H (fun k2 w H => ?_)
  replace H := H.drew
  refine keeps_h H ?_
  refine br_t rfl ?_
  refine asSl_h ?_
  refine br_t rfl ?_
  replace H := H.tail
  apply ld_h 0 H rfl rfl; refine asI_h ?_
  apply F39_go; unfold F39
  refine br_t rfl ?_
  refine asI_h ?_
  refine br_t rfl ?_
  apply F40_go; unfold F40
  refine br_t rfl ?_
  refine asI_h ?_
  refine br_t rfl ?_
  apply F41_go; unfold F41
  refine br_f rfl ?_
  refine asBoo_h ?_
  refine br_t rfl ?_
  refine awakeV_c T H (fun w H => ?_)
  refine asBoo_h ?_
  exact k _ H.tail
end Go.Proofs.YtkhmhgleglhcjaaDoor
