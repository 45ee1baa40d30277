/-
  NARROWER THAN 'FOR EVERY INPUT', by the rows' own cells (each row's printed sentence says how): ChiefTurns: laid · ChiefCancels: laid · ShipperPlays: laid · ServicePlays: laid · ChiefRoom: laid · KeeperLasts: laid · KeeperPlays: laid · ChiefAnswers: laid · ChiefPresumes: laid · ChiefPlays: laid · ChiefNil: laid · ChiefLasts: laid.
  DERIVED. THE GIVEN ROWS OF THIS SEAT. 12 by the template 'for every input the law returns true; each argument reads behind the call as it read before'; 0 by the template 'total and deterministic' (their statements: YtcfmnoimehcfnaaGreatDoorTotals.lean).
  GIVEN WITH THE SEED: the statements are not yours to turn. If you find one false, say at which input.
  Laid BY PROGRAM, IN A SANDBOX (cutbox-rows.mjs): the forced cells as the released guide's own fill.sh prints them over the translation c6e75615b6c1f01d… (all of the seat's roots in one cut). By AI agents, Wed Nov 11 2026. No macro, syntax, notation, axiom, sorry.
-/
import Derived.Test.YtcfmnoimehcfnaaGreatDoorChecked
import GoSem.PinnedTables
import GoSem.Claim
import GoSem.ClaimJoined
import GoSem.ClaimMapViews
import Derived.JoinedTies
import Derived.KernelRfl
namespace Go.Proofs.YtcfmnoimehcfnaaGreatDoor
/- THE CELL 'sum', in the pinned program and in every row, IS THE sha256 OF THE DUMP (.gsa) THAT YtcfmnoimehcfnaaGreatDoorProg.lean LOADS. Nothing in Lean hashes anything: it is a label: what it is worth is what the hold of that sum in a sandbox is worth. -/
noncomputable def Tryz.pinned : Pinned := { name := "ytcfmnoimehcfnaagreatdoor", sum := "c6e75615b6c1f01d0cbc0710ca070b60dc6fe27485e3d74e8c0f5b661ae8f33f", checked := Tryz.checked }
namespace Rows
def none {H : Type} : Left H := { results := [], args := [] }

/- WHAT THE LISTED PACKAGE-LEVEL VARIABLES READ AS WHEN THE CALL BEGINS. Each datum BY PROGRAM (the guide's laid-datum.mjs) off the statement by which the dump's own 'gosem.cut.vars' lays the variable. In a bare row this is a premise. The card (YtcfmnoimehcfnaaGreatDoorCards.lean) ties it to the program's text. -/
def laid_math_bits_deBruijn32tab {H : Type} : DataW H := .agg [.lit (.int .u8 0), .lit (.int .u8 1), .lit (.int .u8 28), .lit (.int .u8 2), .lit (.int .u8 29), .lit (.int .u8 14), .lit (.int .u8 24), .lit (.int .u8 3), .lit (.int .u8 30), .lit (.int .u8 22), .lit (.int .u8 20), .lit (.int .u8 15), .lit (.int .u8 25), .lit (.int .u8 17), .lit (.int .u8 4), .lit (.int .u8 8), .lit (.int .u8 31), .lit (.int .u8 27), .lit (.int .u8 13), .lit (.int .u8 23), .lit (.int .u8 21), .lit (.int .u8 19), .lit (.int .u8 16), .lit (.int .u8 7), .lit (.int .u8 26), .lit (.int .u8 12), .lit (.int .u8 18), .lit (.int .u8 6), .lit (.int .u8 11), .lit (.int .u8 5), .lit (.int .u8 10), .lit (.int .u8 9)]
def laid_math_bits_deBruijn64tab {H : Type} : DataW H := .agg [.lit (.int .u8 0), .lit (.int .u8 1), .lit (.int .u8 56), .lit (.int .u8 2), .lit (.int .u8 57), .lit (.int .u8 49), .lit (.int .u8 28), .lit (.int .u8 3), .lit (.int .u8 61), .lit (.int .u8 58), .lit (.int .u8 42), .lit (.int .u8 50), .lit (.int .u8 38), .lit (.int .u8 29), .lit (.int .u8 17), .lit (.int .u8 4), .lit (.int .u8 62), .lit (.int .u8 47), .lit (.int .u8 59), .lit (.int .u8 36), .lit (.int .u8 45), .lit (.int .u8 43), .lit (.int .u8 51), .lit (.int .u8 22), .lit (.int .u8 53), .lit (.int .u8 39), .lit (.int .u8 33), .lit (.int .u8 30), .lit (.int .u8 24), .lit (.int .u8 18), .lit (.int .u8 12), .lit (.int .u8 5), .lit (.int .u8 63), .lit (.int .u8 55), .lit (.int .u8 48), .lit (.int .u8 27), .lit (.int .u8 60), .lit (.int .u8 41), .lit (.int .u8 37), .lit (.int .u8 16), .lit (.int .u8 46), .lit (.int .u8 35), .lit (.int .u8 44), .lit (.int .u8 21), .lit (.int .u8 52), .lit (.int .u8 32), .lit (.int .u8 23), .lit (.int .u8 11), .lit (.int .u8 54), .lit (.int .u8 26), .lit (.int .u8 40), .lit (.int .u8 15), .lit (.int .u8 34), .lit (.int .u8 20), .lit (.int .u8 31), .lit (.int .u8 10), .lit (.int .u8 25), .lit (.int .u8 14), .lit (.int .u8 19), .lit (.int .u8 9), .lit (.int .u8 13), .lit (.int .u8 8), .lit (.int .u8 7), .lit (.int .u8 6)]
def laid_internal_strconv_uint64pow10 {H : Type} : DataW H := .agg [.lit (.int .u64 1), .lit (.int .u64 10), .lit (.int .u64 100), .lit (.int .u64 1000), .lit (.int .u64 10000), .lit (.int .u64 100000), .lit (.int .u64 1000000), .lit (.int .u64 10000000), .lit (.int .u64 100000000), .lit (.int .u64 1000000000), .lit (.int .u64 10000000000), .lit (.int .u64 100000000000), .lit (.int .u64 1000000000000), .lit (.int .u64 10000000000000), .lit (.int .u64 100000000000000), .lit (.int .u64 1000000000000000), .lit (.int .u64 10000000000000000), .lit (.int .u64 100000000000000000), .lit (.int .u64 1000000000000000000), .lit (.int .u64 10000000000000000000)]
def laid_unicode_utf8_acceptRanges {H : Type} : DataW H := .agg [.agg [.lit (.int .u8 128), .lit (.int .u8 191)], .agg [.lit (.int .u8 160), .lit (.int .u8 191)], .agg [.lit (.int .u8 128), .lit (.int .u8 159)], .agg [.lit (.int .u8 144), .lit (.int .u8 191)], .agg [.lit (.int .u8 128), .lit (.int .u8 143)], .agg [.lit (.int .u8 0), .lit (.int .u8 0)], .agg [.lit (.int .u8 0), .lit (.int .u8 0)], .agg [.lit (.int .u8 0), .lit (.int .u8 0)], .agg [.lit (.int .u8 0), .lit (.int .u8 0)], .agg [.lit (.int .u8 0), .lit (.int .u8 0)], .agg [.lit (.int .u8 0), .lit (.int .u8 0)], .agg [.lit (.int .u8 0), .lit (.int .u8 0)], .agg [.lit (.int .u8 0), .lit (.int .u8 0)], .agg [.lit (.int .u8 0), .lit (.int .u8 0)], .agg [.lit (.int .u8 0), .lit (.int .u8 0)], .agg [.lit (.int .u8 0), .lit (.int .u8 0)]]
def laid_strconv_ErrRange {H : Type} : DataW H := .iface "*errors.errorString" (.ptr (.agg [.lit (.string [118, 97, 108, 117, 101, 32, 111, 117, 116, 32, 111, 102, 32, 114, 97, 110, 103, 101])]))
def laid_strconv_ErrSyntax {H : Type} : DataW H := .iface "*errors.errorString" (.ptr (.agg [.lit (.string [105, 110, 118, 97, 108, 105, 100, 32, 115, 121, 110, 116, 97, 120])]))
/-- One of Go's own tables, pinned by name: the form's constant. -/
def laid_unicode_utf8_first : DataW Unit := Go.Pinned.utf8First

/-- 'wharfingerlaw22.ChiefTurns': WHATEVER THE INPUT: true; the input reads as it did. -/
def chiefTurnsSpec : ChangeSpec := { name := "chiefTurns", fn := fun _ => fun
  | [d1, d2, d3] => { results := [.lit (.bool true)], args := [d1, d2, d3] }
  | _ => none }
def chiefTurnsRow : OpenClaim := { program := "ytcfmnoimehcfnaagreatdoor", sum := "c6e75615b6c1f01d0cbc0710ca070b60dc6fe27485e3d74e8c0f5b661ae8f33f", func := "wharfinger/wharfingerlaw22.ChiefTurns", spec := "chiefTurns", unfollowed := true, recurses := true, named := ["internal/strconv.uint64pow10", "math/bits.deBruijn32tab", "math/bits.deBruijn64tab"], apart := false, laid := [("math/bits.deBruijn32tab", laid_math_bits_deBruijn32tab), ("math/bits.deBruijn64tab", laid_math_bits_deBruijn64tab), ("internal/strconv.uint64pow10", laid_internal_strconv_uint64pow10)] }
def ChiefTurnsSaid : Prop := chiefTurnsRow.holds Tryz.pinned (OpenSpec.ofChange chiefTurnsSpec)

/-- ITS FALSE NEIGHBOUR: 'it returns false'. Refute it at one input. -/
def chiefTurnsWrong : ChangeSpec := { name := "chiefTurns", fn := fun _ => fun
  | [d1, d2, d3] => { results := [.lit (.bool false)], args := [d1, d2, d3] }
  | _ => none }
def ChiefTurnsWrongFalsely : Prop := chiefTurnsRow.holds Tryz.pinned (OpenSpec.ofChange chiefTurnsWrong)

/-- 'wharfingerlaw22.ChiefCancels': WHATEVER THE INPUT: true; the input reads as it did. -/
def chiefCancelsSpec : ChangeSpec := { name := "chiefCancels", fn := fun _ => fun
  | [d1, d2] => { results := [.lit (.bool true)], args := [d1, d2] }
  | _ => none }
def chiefCancelsRow : OpenClaim := { program := "ytcfmnoimehcfnaagreatdoor", sum := "c6e75615b6c1f01d0cbc0710ca070b60dc6fe27485e3d74e8c0f5b661ae8f33f", func := "wharfinger/wharfingerlaw22.ChiefCancels", spec := "chiefCancels", unfollowed := true, recurses := true, named := ["internal/strconv.uint64pow10", "math/bits.deBruijn32tab", "math/bits.deBruijn64tab"], apart := false, laid := [("math/bits.deBruijn32tab", laid_math_bits_deBruijn32tab), ("math/bits.deBruijn64tab", laid_math_bits_deBruijn64tab), ("internal/strconv.uint64pow10", laid_internal_strconv_uint64pow10)] }
def ChiefCancelsSaid : Prop := chiefCancelsRow.holds Tryz.pinned (OpenSpec.ofChange chiefCancelsSpec)

/-- ITS FALSE NEIGHBOUR: 'it returns false'. Refute it at one input. -/
def chiefCancelsWrong : ChangeSpec := { name := "chiefCancels", fn := fun _ => fun
  | [d1, d2] => { results := [.lit (.bool false)], args := [d1, d2] }
  | _ => none }
def ChiefCancelsWrongFalsely : Prop := chiefCancelsRow.holds Tryz.pinned (OpenSpec.ofChange chiefCancelsWrong)

/-- 'wharfingerlaw21.ShipperPlays': WHATEVER THE INPUT: true; the input reads as it did. -/
def shipperPlaysSpec : ChangeSpec := { name := "shipperPlays", fn := fun _ => fun
  | [d1, d2] => { results := [.lit (.bool true)], args := [d1, d2] }
  | _ => none }
def shipperPlaysRow : OpenClaim := { program := "ytcfmnoimehcfnaagreatdoor", sum := "c6e75615b6c1f01d0cbc0710ca070b60dc6fe27485e3d74e8c0f5b661ae8f33f", func := "wharfinger/wharfingerlaw21.ShipperPlays", spec := "shipperPlays", inPlace := ["internal/bytealg.IndexByteString", "internal/bytealg.IndexString"], unfollowed := true, recurses := true, named := ["unicode/utf8.first", "unicode/utf8.acceptRanges", "internal/bytealg.MaxLen", "strconv.ErrSyntax", "strconv.ErrRange", "internal/strconv.uint64pow10", "math/bits.deBruijn32tab", "math/bits.deBruijn64tab"], apart := false, laid := [("math/bits.deBruijn32tab", laid_math_bits_deBruijn32tab), ("math/bits.deBruijn64tab", laid_math_bits_deBruijn64tab), ("internal/strconv.uint64pow10", laid_internal_strconv_uint64pow10), ("unicode/utf8.acceptRanges", laid_unicode_utf8_acceptRanges), ("strconv.ErrRange", laid_strconv_ErrRange), ("strconv.ErrSyntax", laid_strconv_ErrSyntax), ("unicode/utf8.first", laid_unicode_utf8_first)] }
def ShipperPlaysSaid : Prop := shipperPlaysRow.holds Tryz.pinned (OpenSpec.ofChange shipperPlaysSpec)

/-- ITS FALSE NEIGHBOUR: 'it returns false'. Refute it at one input. -/
def shipperPlaysWrong : ChangeSpec := { name := "shipperPlays", fn := fun _ => fun
  | [d1, d2] => { results := [.lit (.bool false)], args := [d1, d2] }
  | _ => none }
def ShipperPlaysWrongFalsely : Prop := shipperPlaysRow.holds Tryz.pinned (OpenSpec.ofChange shipperPlaysWrong)

/-- 'wharfingerlaw19.ServicePlays': WHATEVER THE INPUT: true; the input reads as it did. -/
def servicePlaysSpec : ChangeSpec := { name := "servicePlays", fn := fun _ => fun
  | [d1, d2, d3, d4] => { results := [.lit (.bool true)], args := [d1, d2, d3, d4] }
  | _ => none }
def servicePlaysRow : OpenClaim := { program := "ytcfmnoimehcfnaagreatdoor", sum := "c6e75615b6c1f01d0cbc0710ca070b60dc6fe27485e3d74e8c0f5b661ae8f33f", func := "wharfinger/wharfingerlaw19.ServicePlays", spec := "servicePlays", inPlace := ["internal/bytealg.IndexByteString", "internal/bytealg.IndexString"], unfollowed := true, recurses := true, named := ["internal/strconv.uint64pow10", "math/bits.deBruijn32tab", "math/bits.deBruijn64tab", "unicode/utf8.first", "unicode/utf8.acceptRanges", "internal/bytealg.MaxLen", "strconv.ErrSyntax", "strconv.ErrRange"], apart := false, laid := [("math/bits.deBruijn32tab", laid_math_bits_deBruijn32tab), ("math/bits.deBruijn64tab", laid_math_bits_deBruijn64tab), ("internal/strconv.uint64pow10", laid_internal_strconv_uint64pow10), ("unicode/utf8.acceptRanges", laid_unicode_utf8_acceptRanges), ("strconv.ErrRange", laid_strconv_ErrRange), ("strconv.ErrSyntax", laid_strconv_ErrSyntax), ("unicode/utf8.first", laid_unicode_utf8_first)] }
def ServicePlaysSaid : Prop := servicePlaysRow.holds Tryz.pinned (OpenSpec.ofChange servicePlaysSpec)

/-- ITS FALSE NEIGHBOUR: 'it returns false'. Refute it at one input. -/
def servicePlaysWrong : ChangeSpec := { name := "servicePlays", fn := fun _ => fun
  | [d1, d2, d3, d4] => { results := [.lit (.bool false)], args := [d1, d2, d3, d4] }
  | _ => none }
def ServicePlaysWrongFalsely : Prop := servicePlaysRow.holds Tryz.pinned (OpenSpec.ofChange servicePlaysWrong)

/-- 'wharfingerlaw22.ChiefRoom': WHATEVER THE INPUT: true; the input reads as it did. -/
def chiefRoomSpec : ChangeSpec := { name := "chiefRoom", fn := fun _ => fun
  | [d1, d2] => { results := [.lit (.bool true)], args := [d1, d2] }
  | _ => none }
def chiefRoomRow : OpenClaim := { program := "ytcfmnoimehcfnaagreatdoor", sum := "c6e75615b6c1f01d0cbc0710ca070b60dc6fe27485e3d74e8c0f5b661ae8f33f", func := "wharfinger/wharfingerlaw22.ChiefRoom", spec := "chiefRoom", unfollowed := true, recurses := true, named := ["internal/strconv.uint64pow10", "math/bits.deBruijn32tab", "math/bits.deBruijn64tab"], apart := false, laid := [("math/bits.deBruijn32tab", laid_math_bits_deBruijn32tab), ("math/bits.deBruijn64tab", laid_math_bits_deBruijn64tab), ("internal/strconv.uint64pow10", laid_internal_strconv_uint64pow10)] }
def ChiefRoomSaid : Prop := chiefRoomRow.holds Tryz.pinned (OpenSpec.ofChange chiefRoomSpec)

/-- ITS FALSE NEIGHBOUR: 'it returns false'. Refute it at one input. -/
def chiefRoomWrong : ChangeSpec := { name := "chiefRoom", fn := fun _ => fun
  | [d1, d2] => { results := [.lit (.bool false)], args := [d1, d2] }
  | _ => none }
def ChiefRoomWrongFalsely : Prop := chiefRoomRow.holds Tryz.pinned (OpenSpec.ofChange chiefRoomWrong)

/-- 'wharfingerlaw20.KeeperLasts': WHATEVER THE INPUT: true; the input reads as it did. -/
def keeperLastsSpec : ChangeSpec := { name := "keeperLasts", fn := fun _ => fun
  | [d1, d2] => { results := [.lit (.bool true)], args := [d1, d2] }
  | _ => none }
def keeperLastsRow : OpenClaim := { program := "ytcfmnoimehcfnaagreatdoor", sum := "c6e75615b6c1f01d0cbc0710ca070b60dc6fe27485e3d74e8c0f5b661ae8f33f", func := "wharfinger/wharfingerlaw20.KeeperLasts", spec := "keeperLasts", inPlace := ["internal/bytealg.IndexByteString", "internal/bytealg.IndexString"], unfollowed := true, recurses := true, named := ["unicode/utf8.first", "unicode/utf8.acceptRanges", "internal/bytealg.MaxLen", "strconv.ErrSyntax", "strconv.ErrRange", "internal/strconv.uint64pow10", "math/bits.deBruijn32tab", "math/bits.deBruijn64tab"], apart := false, laid := [("math/bits.deBruijn32tab", laid_math_bits_deBruijn32tab), ("math/bits.deBruijn64tab", laid_math_bits_deBruijn64tab), ("internal/strconv.uint64pow10", laid_internal_strconv_uint64pow10), ("unicode/utf8.acceptRanges", laid_unicode_utf8_acceptRanges), ("strconv.ErrRange", laid_strconv_ErrRange), ("strconv.ErrSyntax", laid_strconv_ErrSyntax), ("unicode/utf8.first", laid_unicode_utf8_first)] }
def KeeperLastsSaid : Prop := keeperLastsRow.holds Tryz.pinned (OpenSpec.ofChange keeperLastsSpec)

/-- ITS FALSE NEIGHBOUR: 'it returns false'. Refute it at one input. -/
def keeperLastsWrong : ChangeSpec := { name := "keeperLasts", fn := fun _ => fun
  | [d1, d2] => { results := [.lit (.bool false)], args := [d1, d2] }
  | _ => none }
def KeeperLastsWrongFalsely : Prop := keeperLastsRow.holds Tryz.pinned (OpenSpec.ofChange keeperLastsWrong)

/-- 'wharfingerlaw20.KeeperPlays': WHATEVER THE INPUT: true; the input reads as it did. -/
def keeperPlaysSpec : ChangeSpec := { name := "keeperPlays", fn := fun _ => fun
  | [d1, d2, d3, d4, d5] => { results := [.lit (.bool true)], args := [d1, d2, d3, d4, d5] }
  | _ => none }
def keeperPlaysRow : OpenClaim := { program := "ytcfmnoimehcfnaagreatdoor", sum := "c6e75615b6c1f01d0cbc0710ca070b60dc6fe27485e3d74e8c0f5b661ae8f33f", func := "wharfinger/wharfingerlaw20.KeeperPlays", spec := "keeperPlays", inPlace := ["internal/bytealg.IndexByteString", "internal/bytealg.IndexString"], unfollowed := true, recurses := true, named := ["internal/strconv.uint64pow10", "math/bits.deBruijn32tab", "math/bits.deBruijn64tab", "unicode/utf8.first", "unicode/utf8.acceptRanges", "internal/bytealg.MaxLen", "strconv.ErrSyntax", "strconv.ErrRange"], apart := false, laid := [("math/bits.deBruijn32tab", laid_math_bits_deBruijn32tab), ("math/bits.deBruijn64tab", laid_math_bits_deBruijn64tab), ("internal/strconv.uint64pow10", laid_internal_strconv_uint64pow10), ("unicode/utf8.acceptRanges", laid_unicode_utf8_acceptRanges), ("strconv.ErrRange", laid_strconv_ErrRange), ("strconv.ErrSyntax", laid_strconv_ErrSyntax), ("unicode/utf8.first", laid_unicode_utf8_first)] }
def KeeperPlaysSaid : Prop := keeperPlaysRow.holds Tryz.pinned (OpenSpec.ofChange keeperPlaysSpec)

/-- ITS FALSE NEIGHBOUR: 'it returns false'. Refute it at one input. -/
def keeperPlaysWrong : ChangeSpec := { name := "keeperPlays", fn := fun _ => fun
  | [d1, d2, d3, d4, d5] => { results := [.lit (.bool false)], args := [d1, d2, d3, d4, d5] }
  | _ => none }
def KeeperPlaysWrongFalsely : Prop := keeperPlaysRow.holds Tryz.pinned (OpenSpec.ofChange keeperPlaysWrong)

/-- 'wharfingerlaw22.ChiefAnswers': WHATEVER THE INPUT: true; the input reads as it did. -/
def chiefAnswersSpec : ChangeSpec := { name := "chiefAnswers", fn := fun _ => fun
  | [d1, d2, d3] => { results := [.lit (.bool true)], args := [d1, d2, d3] }
  | _ => none }
def chiefAnswersRow : OpenClaim := { program := "ytcfmnoimehcfnaagreatdoor", sum := "c6e75615b6c1f01d0cbc0710ca070b60dc6fe27485e3d74e8c0f5b661ae8f33f", func := "wharfinger/wharfingerlaw22.ChiefAnswers", spec := "chiefAnswers", inPlace := ["internal/bytealg.IndexByteString", "internal/bytealg.IndexString"], unfollowed := true, recurses := true, named := ["internal/strconv.uint64pow10", "math/bits.deBruijn32tab", "math/bits.deBruijn64tab", "unicode/utf8.first", "unicode/utf8.acceptRanges", "internal/bytealg.MaxLen", "strconv.ErrSyntax", "strconv.ErrRange"], apart := false, laid := [("math/bits.deBruijn32tab", laid_math_bits_deBruijn32tab), ("math/bits.deBruijn64tab", laid_math_bits_deBruijn64tab), ("internal/strconv.uint64pow10", laid_internal_strconv_uint64pow10), ("unicode/utf8.acceptRanges", laid_unicode_utf8_acceptRanges), ("strconv.ErrRange", laid_strconv_ErrRange), ("strconv.ErrSyntax", laid_strconv_ErrSyntax), ("unicode/utf8.first", laid_unicode_utf8_first)] }
def ChiefAnswersSaid : Prop := chiefAnswersRow.holds Tryz.pinned (OpenSpec.ofChange chiefAnswersSpec)

/-- ITS FALSE NEIGHBOUR: 'it returns false'. Refute it at one input. -/
def chiefAnswersWrong : ChangeSpec := { name := "chiefAnswers", fn := fun _ => fun
  | [d1, d2, d3] => { results := [.lit (.bool false)], args := [d1, d2, d3] }
  | _ => none }
def ChiefAnswersWrongFalsely : Prop := chiefAnswersRow.holds Tryz.pinned (OpenSpec.ofChange chiefAnswersWrong)

/-- 'wharfingerlaw22.ChiefPresumes': WHATEVER THE INPUT: true; the input reads as it did. -/
def chiefPresumesSpec : ChangeSpec := { name := "chiefPresumes", fn := fun _ => fun
  | [d1, d2] => { results := [.lit (.bool true)], args := [d1, d2] }
  | _ => none }
def chiefPresumesRow : OpenClaim := { program := "ytcfmnoimehcfnaagreatdoor", sum := "c6e75615b6c1f01d0cbc0710ca070b60dc6fe27485e3d74e8c0f5b661ae8f33f", func := "wharfinger/wharfingerlaw22.ChiefPresumes", spec := "chiefPresumes", inPlace := ["internal/bytealg.IndexByteString", "internal/bytealg.IndexString"], unfollowed := true, recurses := true, named := ["internal/strconv.uint64pow10", "math/bits.deBruijn32tab", "math/bits.deBruijn64tab", "unicode/utf8.first", "unicode/utf8.acceptRanges", "internal/bytealg.MaxLen", "strconv.ErrSyntax", "strconv.ErrRange"], apart := false, laid := [("math/bits.deBruijn32tab", laid_math_bits_deBruijn32tab), ("math/bits.deBruijn64tab", laid_math_bits_deBruijn64tab), ("internal/strconv.uint64pow10", laid_internal_strconv_uint64pow10), ("unicode/utf8.acceptRanges", laid_unicode_utf8_acceptRanges), ("strconv.ErrRange", laid_strconv_ErrRange), ("strconv.ErrSyntax", laid_strconv_ErrSyntax), ("unicode/utf8.first", laid_unicode_utf8_first)] }
def ChiefPresumesSaid : Prop := chiefPresumesRow.holds Tryz.pinned (OpenSpec.ofChange chiefPresumesSpec)

/-- ITS FALSE NEIGHBOUR: 'it returns false'. Refute it at one input. -/
def chiefPresumesWrong : ChangeSpec := { name := "chiefPresumes", fn := fun _ => fun
  | [d1, d2] => { results := [.lit (.bool false)], args := [d1, d2] }
  | _ => none }
def ChiefPresumesWrongFalsely : Prop := chiefPresumesRow.holds Tryz.pinned (OpenSpec.ofChange chiefPresumesWrong)

/-- 'wharfingerlaw22.ChiefPlays': WHATEVER THE INPUT: true; the input reads as it did. -/
def chiefPlaysSpec : ChangeSpec := { name := "chiefPlays", fn := fun _ => fun
  | [d1, d2, d3, d4] => { results := [.lit (.bool true)], args := [d1, d2, d3, d4] }
  | _ => none }
def chiefPlaysRow : OpenClaim := { program := "ytcfmnoimehcfnaagreatdoor", sum := "c6e75615b6c1f01d0cbc0710ca070b60dc6fe27485e3d74e8c0f5b661ae8f33f", func := "wharfinger/wharfingerlaw22.ChiefPlays", spec := "chiefPlays", inPlace := ["internal/bytealg.IndexByteString", "internal/bytealg.IndexString"], unfollowed := true, recurses := true, named := ["internal/strconv.uint64pow10", "math/bits.deBruijn32tab", "math/bits.deBruijn64tab", "unicode/utf8.first", "unicode/utf8.acceptRanges", "internal/bytealg.MaxLen", "strconv.ErrSyntax", "strconv.ErrRange"], apart := false, laid := [("math/bits.deBruijn32tab", laid_math_bits_deBruijn32tab), ("math/bits.deBruijn64tab", laid_math_bits_deBruijn64tab), ("internal/strconv.uint64pow10", laid_internal_strconv_uint64pow10), ("unicode/utf8.acceptRanges", laid_unicode_utf8_acceptRanges), ("strconv.ErrRange", laid_strconv_ErrRange), ("strconv.ErrSyntax", laid_strconv_ErrSyntax), ("unicode/utf8.first", laid_unicode_utf8_first)] }
def ChiefPlaysSaid : Prop := chiefPlaysRow.holds Tryz.pinned (OpenSpec.ofChange chiefPlaysSpec)

/-- ITS FALSE NEIGHBOUR: 'it returns false'. Refute it at one input. -/
def chiefPlaysWrong : ChangeSpec := { name := "chiefPlays", fn := fun _ => fun
  | [d1, d2, d3, d4] => { results := [.lit (.bool false)], args := [d1, d2, d3, d4] }
  | _ => none }
def ChiefPlaysWrongFalsely : Prop := chiefPlaysRow.holds Tryz.pinned (OpenSpec.ofChange chiefPlaysWrong)

/-- 'wharfingerlaw22.ChiefNil': WHATEVER THE INPUT: true; the input reads as it did. -/
def chiefNilSpec : ChangeSpec := { name := "chiefNil", fn := fun _ => fun
  | [d] => { results := [.lit (.bool true)], args := [d] }
  | _ => none }
def chiefNilRow : OpenClaim := { program := "ytcfmnoimehcfnaagreatdoor", sum := "c6e75615b6c1f01d0cbc0710ca070b60dc6fe27485e3d74e8c0f5b661ae8f33f", func := "wharfinger/wharfingerlaw22.ChiefNil", spec := "chiefNil", inPlace := ["internal/bytealg.IndexByteString", "internal/bytealg.IndexString"], unfollowed := true, recurses := true, named := ["unicode/utf8.first", "unicode/utf8.acceptRanges", "internal/bytealg.MaxLen", "strconv.ErrSyntax", "strconv.ErrRange", "internal/strconv.uint64pow10", "math/bits.deBruijn32tab", "math/bits.deBruijn64tab"], apart := false, laid := [("math/bits.deBruijn32tab", laid_math_bits_deBruijn32tab), ("math/bits.deBruijn64tab", laid_math_bits_deBruijn64tab), ("internal/strconv.uint64pow10", laid_internal_strconv_uint64pow10), ("unicode/utf8.acceptRanges", laid_unicode_utf8_acceptRanges), ("strconv.ErrRange", laid_strconv_ErrRange), ("strconv.ErrSyntax", laid_strconv_ErrSyntax), ("unicode/utf8.first", laid_unicode_utf8_first)] }
def ChiefNilSaid : Prop := chiefNilRow.holds Tryz.pinned (OpenSpec.ofChange chiefNilSpec)

/-- ITS FALSE NEIGHBOUR: 'it returns false'. Refute it at one input. -/
def chiefNilWrong : ChangeSpec := { name := "chiefNil", fn := fun _ => fun
  | [d] => { results := [.lit (.bool false)], args := [d] }
  | _ => none }
def ChiefNilWrongFalsely : Prop := chiefNilRow.holds Tryz.pinned (OpenSpec.ofChange chiefNilWrong)

/-- 'wharfingerlaw22.ChiefLasts': WHATEVER THE INPUT: true; the input reads as it did. -/
def chiefLastsSpec : ChangeSpec := { name := "chiefLasts", fn := fun _ => fun
  | [d1, d2] => { results := [.lit (.bool true)], args := [d1, d2] }
  | _ => none }
def chiefLastsRow : OpenClaim := { program := "ytcfmnoimehcfnaagreatdoor", sum := "c6e75615b6c1f01d0cbc0710ca070b60dc6fe27485e3d74e8c0f5b661ae8f33f", func := "wharfinger/wharfingerlaw22.ChiefLasts", spec := "chiefLasts", inPlace := ["internal/bytealg.IndexByteString", "internal/bytealg.IndexString"], unfollowed := true, recurses := true, named := ["internal/strconv.uint64pow10", "math/bits.deBruijn32tab", "math/bits.deBruijn64tab", "unicode/utf8.first", "unicode/utf8.acceptRanges", "internal/bytealg.MaxLen", "strconv.ErrSyntax", "strconv.ErrRange"], apart := false, laid := [("math/bits.deBruijn32tab", laid_math_bits_deBruijn32tab), ("math/bits.deBruijn64tab", laid_math_bits_deBruijn64tab), ("internal/strconv.uint64pow10", laid_internal_strconv_uint64pow10), ("unicode/utf8.acceptRanges", laid_unicode_utf8_acceptRanges), ("strconv.ErrRange", laid_strconv_ErrRange), ("strconv.ErrSyntax", laid_strconv_ErrSyntax), ("unicode/utf8.first", laid_unicode_utf8_first)] }
def ChiefLastsSaid : Prop := chiefLastsRow.holds Tryz.pinned (OpenSpec.ofChange chiefLastsSpec)

/-- ITS FALSE NEIGHBOUR: 'it returns false'. Refute it at one input. -/
def chiefLastsWrong : ChangeSpec := { name := "chiefLasts", fn := fun _ => fun
  | [d1, d2] => { results := [.lit (.bool false)], args := [d1, d2] }
  | _ => none }
def ChiefLastsWrongFalsely : Prop := chiefLastsRow.holds Tryz.pinned (OpenSpec.ofChange chiefLastsWrong)

/- THE SECOND FORM. 'bulk': how many values and letters a reading holds, each counted each time it is reached (what is shared counts as often as it is met; a slice's spare places count too). A statement '..UptoSaid' is the law's where the arguments, and the package variables that the reading takes, are together of bulk at most 1048576: NARROWER than '..Said'. Prove '..Said' where nothing that the law and all that it calls make is longer than what came in: it says more and counts as full. Else prove '..UptoSaid'. A law counts once. -/
mutual
def uptoBulk {H : Type} : DataW H → Nat
  | .lit (.string bytes) => bytes.length + 1
  | .lit _ => 1
  | .nil => 1
  | .ptr d => uptoBulk d + 1
  | .slice elems spare => uptoBulkAll elems + uptoBulkAll spare + 1
  | .agg parts => uptoBulkAll parts + 1
  | .iface _ d => uptoBulk d + 1
  | .map entries => uptoBulkEntries entries + 1
  | .held _ => 1
def uptoBulkAll {H : Type} : List (DataW H) → Nat
  | [] => 0
  | d :: r => uptoBulk d + uptoBulkAll r
def uptoBulkEntries {H : Type} : List (Lit × DataW H) → Nat
  | [] => 0
  | x :: r => uptoBulkEntry x + uptoBulkEntries r
def uptoBulkEntry {H : Type} : Lit × DataW H → Nat
  | (.string bytes, d) => bytes.length + uptoBulk d + 1
  | (_, d) => uptoBulk d + 1
 end
def uptoSmall : (H : Type) → List (DataW H) → Bool := fun _ ds => decide (uptoBulkAll ds ≤ 1048576)
def OpenSpec.upto (s : _root_.Go.ChangeSpec) : _root_.Go.OpenSpec := { _root_.Go.OpenSpec.ofChange s with cond := some uptoSmall }

/-- 'wharfingerlaw22.ChiefTurns', WHERE WHAT IT READS IS OF BULK AT MOST 1048576: true; the input reads as it did. -/
def chiefTurnsUptoRow : OpenClaim := { program := "ytcfmnoimehcfnaagreatdoor", sum := "c6e75615b6c1f01d0cbc0710ca070b60dc6fe27485e3d74e8c0f5b661ae8f33f", func := "wharfinger/wharfingerlaw22.ChiefTurns", spec := "chiefTurns", unfollowed := true, recurses := true, named := ["internal/strconv.uint64pow10", "math/bits.deBruijn32tab", "math/bits.deBruijn64tab"], apart := false, laid := [("math/bits.deBruijn32tab", laid_math_bits_deBruijn32tab), ("math/bits.deBruijn64tab", laid_math_bits_deBruijn64tab), ("internal/strconv.uint64pow10", laid_internal_strconv_uint64pow10)], narrowed := true }
def ChiefTurnsUptoSaid : Prop := chiefTurnsUptoRow.holds Tryz.pinned (OpenSpec.upto chiefTurnsSpec)

/-- 'wharfingerlaw22.ChiefCancels', WHERE WHAT IT READS IS OF BULK AT MOST 1048576: true; the input reads as it did. -/
def chiefCancelsUptoRow : OpenClaim := { program := "ytcfmnoimehcfnaagreatdoor", sum := "c6e75615b6c1f01d0cbc0710ca070b60dc6fe27485e3d74e8c0f5b661ae8f33f", func := "wharfinger/wharfingerlaw22.ChiefCancels", spec := "chiefCancels", unfollowed := true, recurses := true, named := ["internal/strconv.uint64pow10", "math/bits.deBruijn32tab", "math/bits.deBruijn64tab"], apart := false, laid := [("math/bits.deBruijn32tab", laid_math_bits_deBruijn32tab), ("math/bits.deBruijn64tab", laid_math_bits_deBruijn64tab), ("internal/strconv.uint64pow10", laid_internal_strconv_uint64pow10)], narrowed := true }
def ChiefCancelsUptoSaid : Prop := chiefCancelsUptoRow.holds Tryz.pinned (OpenSpec.upto chiefCancelsSpec)

/-- 'wharfingerlaw21.ShipperPlays', WHERE WHAT IT READS IS OF BULK AT MOST 1048576: true; the input reads as it did. -/
def shipperPlaysUptoRow : OpenClaim := { program := "ytcfmnoimehcfnaagreatdoor", sum := "c6e75615b6c1f01d0cbc0710ca070b60dc6fe27485e3d74e8c0f5b661ae8f33f", func := "wharfinger/wharfingerlaw21.ShipperPlays", spec := "shipperPlays", inPlace := ["internal/bytealg.IndexByteString", "internal/bytealg.IndexString"], unfollowed := true, recurses := true, named := ["unicode/utf8.first", "unicode/utf8.acceptRanges", "internal/bytealg.MaxLen", "strconv.ErrSyntax", "strconv.ErrRange", "internal/strconv.uint64pow10", "math/bits.deBruijn32tab", "math/bits.deBruijn64tab"], apart := false, laid := [("math/bits.deBruijn32tab", laid_math_bits_deBruijn32tab), ("math/bits.deBruijn64tab", laid_math_bits_deBruijn64tab), ("internal/strconv.uint64pow10", laid_internal_strconv_uint64pow10), ("unicode/utf8.acceptRanges", laid_unicode_utf8_acceptRanges), ("strconv.ErrRange", laid_strconv_ErrRange), ("strconv.ErrSyntax", laid_strconv_ErrSyntax), ("unicode/utf8.first", laid_unicode_utf8_first)], narrowed := true }
def ShipperPlaysUptoSaid : Prop := shipperPlaysUptoRow.holds Tryz.pinned (OpenSpec.upto shipperPlaysSpec)

/-- 'wharfingerlaw19.ServicePlays', WHERE WHAT IT READS IS OF BULK AT MOST 1048576: true; the input reads as it did. -/
def servicePlaysUptoRow : OpenClaim := { program := "ytcfmnoimehcfnaagreatdoor", sum := "c6e75615b6c1f01d0cbc0710ca070b60dc6fe27485e3d74e8c0f5b661ae8f33f", func := "wharfinger/wharfingerlaw19.ServicePlays", spec := "servicePlays", inPlace := ["internal/bytealg.IndexByteString", "internal/bytealg.IndexString"], unfollowed := true, recurses := true, named := ["internal/strconv.uint64pow10", "math/bits.deBruijn32tab", "math/bits.deBruijn64tab", "unicode/utf8.first", "unicode/utf8.acceptRanges", "internal/bytealg.MaxLen", "strconv.ErrSyntax", "strconv.ErrRange"], apart := false, laid := [("math/bits.deBruijn32tab", laid_math_bits_deBruijn32tab), ("math/bits.deBruijn64tab", laid_math_bits_deBruijn64tab), ("internal/strconv.uint64pow10", laid_internal_strconv_uint64pow10), ("unicode/utf8.acceptRanges", laid_unicode_utf8_acceptRanges), ("strconv.ErrRange", laid_strconv_ErrRange), ("strconv.ErrSyntax", laid_strconv_ErrSyntax), ("unicode/utf8.first", laid_unicode_utf8_first)], narrowed := true }
def ServicePlaysUptoSaid : Prop := servicePlaysUptoRow.holds Tryz.pinned (OpenSpec.upto servicePlaysSpec)

/-- 'wharfingerlaw22.ChiefRoom', WHERE WHAT IT READS IS OF BULK AT MOST 1048576: true; the input reads as it did. -/
def chiefRoomUptoRow : OpenClaim := { program := "ytcfmnoimehcfnaagreatdoor", sum := "c6e75615b6c1f01d0cbc0710ca070b60dc6fe27485e3d74e8c0f5b661ae8f33f", func := "wharfinger/wharfingerlaw22.ChiefRoom", spec := "chiefRoom", unfollowed := true, recurses := true, named := ["internal/strconv.uint64pow10", "math/bits.deBruijn32tab", "math/bits.deBruijn64tab"], apart := false, laid := [("math/bits.deBruijn32tab", laid_math_bits_deBruijn32tab), ("math/bits.deBruijn64tab", laid_math_bits_deBruijn64tab), ("internal/strconv.uint64pow10", laid_internal_strconv_uint64pow10)], narrowed := true }
def ChiefRoomUptoSaid : Prop := chiefRoomUptoRow.holds Tryz.pinned (OpenSpec.upto chiefRoomSpec)

/-- 'wharfingerlaw20.KeeperLasts', WHERE WHAT IT READS IS OF BULK AT MOST 1048576: true; the input reads as it did. -/
def keeperLastsUptoRow : OpenClaim := { program := "ytcfmnoimehcfnaagreatdoor", sum := "c6e75615b6c1f01d0cbc0710ca070b60dc6fe27485e3d74e8c0f5b661ae8f33f", func := "wharfinger/wharfingerlaw20.KeeperLasts", spec := "keeperLasts", inPlace := ["internal/bytealg.IndexByteString", "internal/bytealg.IndexString"], unfollowed := true, recurses := true, named := ["unicode/utf8.first", "unicode/utf8.acceptRanges", "internal/bytealg.MaxLen", "strconv.ErrSyntax", "strconv.ErrRange", "internal/strconv.uint64pow10", "math/bits.deBruijn32tab", "math/bits.deBruijn64tab"], apart := false, laid := [("math/bits.deBruijn32tab", laid_math_bits_deBruijn32tab), ("math/bits.deBruijn64tab", laid_math_bits_deBruijn64tab), ("internal/strconv.uint64pow10", laid_internal_strconv_uint64pow10), ("unicode/utf8.acceptRanges", laid_unicode_utf8_acceptRanges), ("strconv.ErrRange", laid_strconv_ErrRange), ("strconv.ErrSyntax", laid_strconv_ErrSyntax), ("unicode/utf8.first", laid_unicode_utf8_first)], narrowed := true }
def KeeperLastsUptoSaid : Prop := keeperLastsUptoRow.holds Tryz.pinned (OpenSpec.upto keeperLastsSpec)

/-- 'wharfingerlaw20.KeeperPlays', WHERE WHAT IT READS IS OF BULK AT MOST 1048576: true; the input reads as it did. -/
def keeperPlaysUptoRow : OpenClaim := { program := "ytcfmnoimehcfnaagreatdoor", sum := "c6e75615b6c1f01d0cbc0710ca070b60dc6fe27485e3d74e8c0f5b661ae8f33f", func := "wharfinger/wharfingerlaw20.KeeperPlays", spec := "keeperPlays", inPlace := ["internal/bytealg.IndexByteString", "internal/bytealg.IndexString"], unfollowed := true, recurses := true, named := ["internal/strconv.uint64pow10", "math/bits.deBruijn32tab", "math/bits.deBruijn64tab", "unicode/utf8.first", "unicode/utf8.acceptRanges", "internal/bytealg.MaxLen", "strconv.ErrSyntax", "strconv.ErrRange"], apart := false, laid := [("math/bits.deBruijn32tab", laid_math_bits_deBruijn32tab), ("math/bits.deBruijn64tab", laid_math_bits_deBruijn64tab), ("internal/strconv.uint64pow10", laid_internal_strconv_uint64pow10), ("unicode/utf8.acceptRanges", laid_unicode_utf8_acceptRanges), ("strconv.ErrRange", laid_strconv_ErrRange), ("strconv.ErrSyntax", laid_strconv_ErrSyntax), ("unicode/utf8.first", laid_unicode_utf8_first)], narrowed := true }
def KeeperPlaysUptoSaid : Prop := keeperPlaysUptoRow.holds Tryz.pinned (OpenSpec.upto keeperPlaysSpec)

/-- 'wharfingerlaw22.ChiefAnswers', WHERE WHAT IT READS IS OF BULK AT MOST 1048576: true; the input reads as it did. -/
def chiefAnswersUptoRow : OpenClaim := { program := "ytcfmnoimehcfnaagreatdoor", sum := "c6e75615b6c1f01d0cbc0710ca070b60dc6fe27485e3d74e8c0f5b661ae8f33f", func := "wharfinger/wharfingerlaw22.ChiefAnswers", spec := "chiefAnswers", inPlace := ["internal/bytealg.IndexByteString", "internal/bytealg.IndexString"], unfollowed := true, recurses := true, named := ["internal/strconv.uint64pow10", "math/bits.deBruijn32tab", "math/bits.deBruijn64tab", "unicode/utf8.first", "unicode/utf8.acceptRanges", "internal/bytealg.MaxLen", "strconv.ErrSyntax", "strconv.ErrRange"], apart := false, laid := [("math/bits.deBruijn32tab", laid_math_bits_deBruijn32tab), ("math/bits.deBruijn64tab", laid_math_bits_deBruijn64tab), ("internal/strconv.uint64pow10", laid_internal_strconv_uint64pow10), ("unicode/utf8.acceptRanges", laid_unicode_utf8_acceptRanges), ("strconv.ErrRange", laid_strconv_ErrRange), ("strconv.ErrSyntax", laid_strconv_ErrSyntax), ("unicode/utf8.first", laid_unicode_utf8_first)], narrowed := true }
def ChiefAnswersUptoSaid : Prop := chiefAnswersUptoRow.holds Tryz.pinned (OpenSpec.upto chiefAnswersSpec)

/-- 'wharfingerlaw22.ChiefPresumes', WHERE WHAT IT READS IS OF BULK AT MOST 1048576: true; the input reads as it did. -/
def chiefPresumesUptoRow : OpenClaim := { program := "ytcfmnoimehcfnaagreatdoor", sum := "c6e75615b6c1f01d0cbc0710ca070b60dc6fe27485e3d74e8c0f5b661ae8f33f", func := "wharfinger/wharfingerlaw22.ChiefPresumes", spec := "chiefPresumes", inPlace := ["internal/bytealg.IndexByteString", "internal/bytealg.IndexString"], unfollowed := true, recurses := true, named := ["internal/strconv.uint64pow10", "math/bits.deBruijn32tab", "math/bits.deBruijn64tab", "unicode/utf8.first", "unicode/utf8.acceptRanges", "internal/bytealg.MaxLen", "strconv.ErrSyntax", "strconv.ErrRange"], apart := false, laid := [("math/bits.deBruijn32tab", laid_math_bits_deBruijn32tab), ("math/bits.deBruijn64tab", laid_math_bits_deBruijn64tab), ("internal/strconv.uint64pow10", laid_internal_strconv_uint64pow10), ("unicode/utf8.acceptRanges", laid_unicode_utf8_acceptRanges), ("strconv.ErrRange", laid_strconv_ErrRange), ("strconv.ErrSyntax", laid_strconv_ErrSyntax), ("unicode/utf8.first", laid_unicode_utf8_first)], narrowed := true }
def ChiefPresumesUptoSaid : Prop := chiefPresumesUptoRow.holds Tryz.pinned (OpenSpec.upto chiefPresumesSpec)

/-- 'wharfingerlaw22.ChiefPlays', WHERE WHAT IT READS IS OF BULK AT MOST 1048576: true; the input reads as it did. -/
def chiefPlaysUptoRow : OpenClaim := { program := "ytcfmnoimehcfnaagreatdoor", sum := "c6e75615b6c1f01d0cbc0710ca070b60dc6fe27485e3d74e8c0f5b661ae8f33f", func := "wharfinger/wharfingerlaw22.ChiefPlays", spec := "chiefPlays", inPlace := ["internal/bytealg.IndexByteString", "internal/bytealg.IndexString"], unfollowed := true, recurses := true, named := ["internal/strconv.uint64pow10", "math/bits.deBruijn32tab", "math/bits.deBruijn64tab", "unicode/utf8.first", "unicode/utf8.acceptRanges", "internal/bytealg.MaxLen", "strconv.ErrSyntax", "strconv.ErrRange"], apart := false, laid := [("math/bits.deBruijn32tab", laid_math_bits_deBruijn32tab), ("math/bits.deBruijn64tab", laid_math_bits_deBruijn64tab), ("internal/strconv.uint64pow10", laid_internal_strconv_uint64pow10), ("unicode/utf8.acceptRanges", laid_unicode_utf8_acceptRanges), ("strconv.ErrRange", laid_strconv_ErrRange), ("strconv.ErrSyntax", laid_strconv_ErrSyntax), ("unicode/utf8.first", laid_unicode_utf8_first)], narrowed := true }
def ChiefPlaysUptoSaid : Prop := chiefPlaysUptoRow.holds Tryz.pinned (OpenSpec.upto chiefPlaysSpec)

/-- 'wharfingerlaw22.ChiefNil', WHERE WHAT IT READS IS OF BULK AT MOST 1048576: true; the input reads as it did. -/
def chiefNilUptoRow : OpenClaim := { program := "ytcfmnoimehcfnaagreatdoor", sum := "c6e75615b6c1f01d0cbc0710ca070b60dc6fe27485e3d74e8c0f5b661ae8f33f", func := "wharfinger/wharfingerlaw22.ChiefNil", spec := "chiefNil", inPlace := ["internal/bytealg.IndexByteString", "internal/bytealg.IndexString"], unfollowed := true, recurses := true, named := ["unicode/utf8.first", "unicode/utf8.acceptRanges", "internal/bytealg.MaxLen", "strconv.ErrSyntax", "strconv.ErrRange", "internal/strconv.uint64pow10", "math/bits.deBruijn32tab", "math/bits.deBruijn64tab"], apart := false, laid := [("math/bits.deBruijn32tab", laid_math_bits_deBruijn32tab), ("math/bits.deBruijn64tab", laid_math_bits_deBruijn64tab), ("internal/strconv.uint64pow10", laid_internal_strconv_uint64pow10), ("unicode/utf8.acceptRanges", laid_unicode_utf8_acceptRanges), ("strconv.ErrRange", laid_strconv_ErrRange), ("strconv.ErrSyntax", laid_strconv_ErrSyntax), ("unicode/utf8.first", laid_unicode_utf8_first)], narrowed := true }
def ChiefNilUptoSaid : Prop := chiefNilUptoRow.holds Tryz.pinned (OpenSpec.upto chiefNilSpec)

/-- 'wharfingerlaw22.ChiefLasts', WHERE WHAT IT READS IS OF BULK AT MOST 1048576: true; the input reads as it did. -/
def chiefLastsUptoRow : OpenClaim := { program := "ytcfmnoimehcfnaagreatdoor", sum := "c6e75615b6c1f01d0cbc0710ca070b60dc6fe27485e3d74e8c0f5b661ae8f33f", func := "wharfinger/wharfingerlaw22.ChiefLasts", spec := "chiefLasts", inPlace := ["internal/bytealg.IndexByteString", "internal/bytealg.IndexString"], unfollowed := true, recurses := true, named := ["internal/strconv.uint64pow10", "math/bits.deBruijn32tab", "math/bits.deBruijn64tab", "unicode/utf8.first", "unicode/utf8.acceptRanges", "internal/bytealg.MaxLen", "strconv.ErrSyntax", "strconv.ErrRange"], apart := false, laid := [("math/bits.deBruijn32tab", laid_math_bits_deBruijn32tab), ("math/bits.deBruijn64tab", laid_math_bits_deBruijn64tab), ("internal/strconv.uint64pow10", laid_internal_strconv_uint64pow10), ("unicode/utf8.acceptRanges", laid_unicode_utf8_acceptRanges), ("strconv.ErrRange", laid_strconv_ErrRange), ("strconv.ErrSyntax", laid_strconv_ErrSyntax), ("unicode/utf8.first", laid_unicode_utf8_first)], narrowed := true }
def ChiefLastsUptoSaid : Prop := chiefLastsUptoRow.holds Tryz.pinned (OpenSpec.upto chiefLastsSpec)

end Rows
end Go.Proofs.YtcfmnoimehcfnaaGreatDoor
