/-
  NARROWER THAN 'FOR EVERY INPUT', by the rows' own cells (each row's printed sentence says how): DeskNil: laid · DeskWords: laid · DeskRefuses: laid · DeskLets: laid · DeskDamage: laid · ChiefNil: laid · ChiefLasts: laid · HarbourNil: laid · HarbourForces: laid · AuditNil: laid · AuditSums: laid · HarbourDown: laid.
  DERIVED. THE GIVEN ROWS OF THIS SEAT. 12 by the template 'for every input the law returns true; each argument reads behind the call as it read before'; 0 by the template 'total and deterministic' (their statements: YtlfgmbbiealpoaaGreatDoorTotals.lean).
  GIVEN WITH THE SEED: the statements are not yours to turn. If you find one false, say at which input.
  Laid BY PROGRAM, IN A SANDBOX (cutbox-rows.mjs): the forced cells as the released guide's own fill.sh prints them over the translation efd14f0f87029887… (all of the seat's roots in one cut). By AI agents, Wed Nov 11 2026. No macro, syntax, notation, axiom, sorry.
-/
import Derived.Test.YtlfgmbbiealpoaaGreatDoorChecked
import GoSem.PinnedTables
import GoSem.Claim
import GoSem.ClaimJoined
import GoSem.ClaimMapViews
import Derived.JoinedTies
import Derived.KernelRfl
namespace Go.Proofs.YtlfgmbbiealpoaaGreatDoor
/- THE CELL 'sum', in the pinned program and in every row, IS THE sha256 OF THE DUMP (.gsa) THAT YtlfgmbbiealpoaaGreatDoorProg.lean LOADS. Nothing in Lean hashes anything: it is a label: what it is worth is what the hold of that sum in a sandbox is worth. -/
noncomputable def Tryz.pinned : Pinned := { name := "ytlfgmbbiealpoaagreatdoor", sum := "efd14f0f87029887838e2084910d22d1ab7d6b6a81544ebbcfde14f0aaf4fccd", checked := Tryz.checked }
namespace Rows
def none {H : Type} : Left H := { results := [], args := [] }

/- WHAT THE LISTED PACKAGE-LEVEL VARIABLES READ AS WHEN THE CALL BEGINS. Each datum BY PROGRAM (the guide's laid-datum.mjs) off the statement by which the dump's own 'gosem.cut.vars' lays the variable. In a bare row this is a premise. The card (YtlfgmbbiealpoaaGreatDoorCards.lean) ties it to the program's text. -/
def laid_math_bits_deBruijn32tab {H : Type} : DataW H := .agg [.lit (.int .u8 0), .lit (.int .u8 1), .lit (.int .u8 28), .lit (.int .u8 2), .lit (.int .u8 29), .lit (.int .u8 14), .lit (.int .u8 24), .lit (.int .u8 3), .lit (.int .u8 30), .lit (.int .u8 22), .lit (.int .u8 20), .lit (.int .u8 15), .lit (.int .u8 25), .lit (.int .u8 17), .lit (.int .u8 4), .lit (.int .u8 8), .lit (.int .u8 31), .lit (.int .u8 27), .lit (.int .u8 13), .lit (.int .u8 23), .lit (.int .u8 21), .lit (.int .u8 19), .lit (.int .u8 16), .lit (.int .u8 7), .lit (.int .u8 26), .lit (.int .u8 12), .lit (.int .u8 18), .lit (.int .u8 6), .lit (.int .u8 11), .lit (.int .u8 5), .lit (.int .u8 10), .lit (.int .u8 9)]
def laid_math_bits_deBruijn64tab {H : Type} : DataW H := .agg [.lit (.int .u8 0), .lit (.int .u8 1), .lit (.int .u8 56), .lit (.int .u8 2), .lit (.int .u8 57), .lit (.int .u8 49), .lit (.int .u8 28), .lit (.int .u8 3), .lit (.int .u8 61), .lit (.int .u8 58), .lit (.int .u8 42), .lit (.int .u8 50), .lit (.int .u8 38), .lit (.int .u8 29), .lit (.int .u8 17), .lit (.int .u8 4), .lit (.int .u8 62), .lit (.int .u8 47), .lit (.int .u8 59), .lit (.int .u8 36), .lit (.int .u8 45), .lit (.int .u8 43), .lit (.int .u8 51), .lit (.int .u8 22), .lit (.int .u8 53), .lit (.int .u8 39), .lit (.int .u8 33), .lit (.int .u8 30), .lit (.int .u8 24), .lit (.int .u8 18), .lit (.int .u8 12), .lit (.int .u8 5), .lit (.int .u8 63), .lit (.int .u8 55), .lit (.int .u8 48), .lit (.int .u8 27), .lit (.int .u8 60), .lit (.int .u8 41), .lit (.int .u8 37), .lit (.int .u8 16), .lit (.int .u8 46), .lit (.int .u8 35), .lit (.int .u8 44), .lit (.int .u8 21), .lit (.int .u8 52), .lit (.int .u8 32), .lit (.int .u8 23), .lit (.int .u8 11), .lit (.int .u8 54), .lit (.int .u8 26), .lit (.int .u8 40), .lit (.int .u8 15), .lit (.int .u8 34), .lit (.int .u8 20), .lit (.int .u8 31), .lit (.int .u8 10), .lit (.int .u8 25), .lit (.int .u8 14), .lit (.int .u8 19), .lit (.int .u8 9), .lit (.int .u8 13), .lit (.int .u8 8), .lit (.int .u8 7), .lit (.int .u8 6)]
def laid_internal_strconv_uint64pow10 {H : Type} : DataW H := .agg [.lit (.int .u64 1), .lit (.int .u64 10), .lit (.int .u64 100), .lit (.int .u64 1000), .lit (.int .u64 10000), .lit (.int .u64 100000), .lit (.int .u64 1000000), .lit (.int .u64 10000000), .lit (.int .u64 100000000), .lit (.int .u64 1000000000), .lit (.int .u64 10000000000), .lit (.int .u64 100000000000), .lit (.int .u64 1000000000000), .lit (.int .u64 10000000000000), .lit (.int .u64 100000000000000), .lit (.int .u64 1000000000000000), .lit (.int .u64 10000000000000000), .lit (.int .u64 100000000000000000), .lit (.int .u64 1000000000000000000), .lit (.int .u64 10000000000000000000)]
def laid_unicode_utf8_acceptRanges {H : Type} : DataW H := .agg [.agg [.lit (.int .u8 128), .lit (.int .u8 191)], .agg [.lit (.int .u8 160), .lit (.int .u8 191)], .agg [.lit (.int .u8 128), .lit (.int .u8 159)], .agg [.lit (.int .u8 144), .lit (.int .u8 191)], .agg [.lit (.int .u8 128), .lit (.int .u8 143)], .agg [.lit (.int .u8 0), .lit (.int .u8 0)], .agg [.lit (.int .u8 0), .lit (.int .u8 0)], .agg [.lit (.int .u8 0), .lit (.int .u8 0)], .agg [.lit (.int .u8 0), .lit (.int .u8 0)], .agg [.lit (.int .u8 0), .lit (.int .u8 0)], .agg [.lit (.int .u8 0), .lit (.int .u8 0)], .agg [.lit (.int .u8 0), .lit (.int .u8 0)], .agg [.lit (.int .u8 0), .lit (.int .u8 0)], .agg [.lit (.int .u8 0), .lit (.int .u8 0)], .agg [.lit (.int .u8 0), .lit (.int .u8 0)], .agg [.lit (.int .u8 0), .lit (.int .u8 0)]]
def laid_strconv_ErrRange {H : Type} : DataW H := .iface "*errors.errorString" (.ptr (.agg [.lit (.string [118, 97, 108, 117, 101, 32, 111, 117, 116, 32, 111, 102, 32, 114, 97, 110, 103, 101])]))
def laid_strconv_ErrSyntax {H : Type} : DataW H := .iface "*errors.errorString" (.ptr (.agg [.lit (.string [105, 110, 118, 97, 108, 105, 100, 32, 115, 121, 110, 116, 97, 120])]))
/-- One of Go's own tables, pinned by name: the form's constant. -/
def laid_unicode_utf8_first : DataW Unit := Go.Pinned.utf8First

/-- 'wharfingerlaw24.DeskNil': WHATEVER THE INPUT: true; the input reads as it did. -/
def deskNilSpec : ChangeSpec := { name := "deskNil", fn := fun _ => fun
  | [d] => { results := [.lit (.bool true)], args := [d] }
  | _ => none }
def deskNilRow : OpenClaim := { program := "ytlfgmbbiealpoaagreatdoor", sum := "efd14f0f87029887838e2084910d22d1ab7d6b6a81544ebbcfde14f0aaf4fccd", func := "wharfinger/wharfingerlaw24.DeskNil", spec := "deskNil", unfollowed := true, recurses := true, named := ["internal/strconv.uint64pow10", "math/bits.deBruijn32tab", "math/bits.deBruijn64tab"], apart := false, laid := [("math/bits.deBruijn32tab", laid_math_bits_deBruijn32tab), ("math/bits.deBruijn64tab", laid_math_bits_deBruijn64tab), ("internal/strconv.uint64pow10", laid_internal_strconv_uint64pow10)] }
def DeskNilSaid : Prop := deskNilRow.holds Tryz.pinned (OpenSpec.ofChange deskNilSpec)

/-- ITS FALSE NEIGHBOUR: 'it returns false'. Refute it at one input. -/
def deskNilWrong : ChangeSpec := { name := "deskNil", fn := fun _ => fun
  | [d] => { results := [.lit (.bool false)], args := [d] }
  | _ => none }
def DeskNilWrongFalsely : Prop := deskNilRow.holds Tryz.pinned (OpenSpec.ofChange deskNilWrong)

/-- 'wharfingerlaw24.DeskWords': WHATEVER THE INPUT: true; the input reads as it did. -/
def deskWordsSpec : ChangeSpec := { name := "deskWords", fn := fun _ => fun
  | [d] => { results := [.lit (.bool true)], args := [d] }
  | _ => none }
def deskWordsRow : OpenClaim := { program := "ytlfgmbbiealpoaagreatdoor", sum := "efd14f0f87029887838e2084910d22d1ab7d6b6a81544ebbcfde14f0aaf4fccd", func := "wharfinger/wharfingerlaw24.DeskWords", spec := "deskWords", unfollowed := true, recurses := true, named := ["internal/strconv.uint64pow10", "math/bits.deBruijn32tab", "math/bits.deBruijn64tab"], apart := false, laid := [("math/bits.deBruijn32tab", laid_math_bits_deBruijn32tab), ("math/bits.deBruijn64tab", laid_math_bits_deBruijn64tab), ("internal/strconv.uint64pow10", laid_internal_strconv_uint64pow10)] }
def DeskWordsSaid : Prop := deskWordsRow.holds Tryz.pinned (OpenSpec.ofChange deskWordsSpec)

/-- ITS FALSE NEIGHBOUR: 'it returns false'. Refute it at one input. -/
def deskWordsWrong : ChangeSpec := { name := "deskWords", fn := fun _ => fun
  | [d] => { results := [.lit (.bool false)], args := [d] }
  | _ => none }
def DeskWordsWrongFalsely : Prop := deskWordsRow.holds Tryz.pinned (OpenSpec.ofChange deskWordsWrong)

/-- 'wharfingerlaw24.DeskRefuses': WHATEVER THE INPUT: true; the input reads as it did. -/
def deskRefusesSpec : ChangeSpec := { name := "deskRefuses", fn := fun _ => fun
  | [d] => { results := [.lit (.bool true)], args := [d] }
  | _ => none }
def deskRefusesRow : OpenClaim := { program := "ytlfgmbbiealpoaagreatdoor", sum := "efd14f0f87029887838e2084910d22d1ab7d6b6a81544ebbcfde14f0aaf4fccd", func := "wharfinger/wharfingerlaw24.DeskRefuses", spec := "deskRefuses", unfollowed := true, recurses := true, named := ["internal/strconv.uint64pow10", "math/bits.deBruijn32tab", "math/bits.deBruijn64tab"], apart := false, laid := [("math/bits.deBruijn32tab", laid_math_bits_deBruijn32tab), ("math/bits.deBruijn64tab", laid_math_bits_deBruijn64tab), ("internal/strconv.uint64pow10", laid_internal_strconv_uint64pow10)] }
def DeskRefusesSaid : Prop := deskRefusesRow.holds Tryz.pinned (OpenSpec.ofChange deskRefusesSpec)

/-- ITS FALSE NEIGHBOUR: 'it returns false'. Refute it at one input. -/
def deskRefusesWrong : ChangeSpec := { name := "deskRefuses", fn := fun _ => fun
  | [d] => { results := [.lit (.bool false)], args := [d] }
  | _ => none }
def DeskRefusesWrongFalsely : Prop := deskRefusesRow.holds Tryz.pinned (OpenSpec.ofChange deskRefusesWrong)

/-- 'wharfingerlaw24.DeskLets': WHATEVER THE INPUT: true; the input reads as it did. -/
def deskLetsSpec : ChangeSpec := { name := "deskLets", fn := fun _ => fun
  | [d1, d2] => { results := [.lit (.bool true)], args := [d1, d2] }
  | _ => none }
def deskLetsRow : OpenClaim := { program := "ytlfgmbbiealpoaagreatdoor", sum := "efd14f0f87029887838e2084910d22d1ab7d6b6a81544ebbcfde14f0aaf4fccd", func := "wharfinger/wharfingerlaw24.DeskLets", spec := "deskLets", unfollowed := true, recurses := true, named := ["internal/strconv.uint64pow10", "math/bits.deBruijn32tab", "math/bits.deBruijn64tab"], apart := false, laid := [("math/bits.deBruijn32tab", laid_math_bits_deBruijn32tab), ("math/bits.deBruijn64tab", laid_math_bits_deBruijn64tab), ("internal/strconv.uint64pow10", laid_internal_strconv_uint64pow10)] }
def DeskLetsSaid : Prop := deskLetsRow.holds Tryz.pinned (OpenSpec.ofChange deskLetsSpec)

/-- ITS FALSE NEIGHBOUR: 'it returns false'. Refute it at one input. -/
def deskLetsWrong : ChangeSpec := { name := "deskLets", fn := fun _ => fun
  | [d1, d2] => { results := [.lit (.bool false)], args := [d1, d2] }
  | _ => none }
def DeskLetsWrongFalsely : Prop := deskLetsRow.holds Tryz.pinned (OpenSpec.ofChange deskLetsWrong)

/-- 'wharfingerlaw24.DeskDamage': WHATEVER THE INPUT: true; the input reads as it did. -/
def deskDamageSpec : ChangeSpec := { name := "deskDamage", fn := fun _ => fun
  | [d1, d2, d3] => { results := [.lit (.bool true)], args := [d1, d2, d3] }
  | _ => none }
def deskDamageRow : OpenClaim := { program := "ytlfgmbbiealpoaagreatdoor", sum := "efd14f0f87029887838e2084910d22d1ab7d6b6a81544ebbcfde14f0aaf4fccd", func := "wharfinger/wharfingerlaw24.DeskDamage", spec := "deskDamage", inPlace := ["internal/bytealg.IndexByteString", "internal/bytealg.IndexString"], unfollowed := true, recurses := true, named := ["internal/strconv.uint64pow10", "math/bits.deBruijn32tab", "math/bits.deBruijn64tab", "unicode/utf8.first", "unicode/utf8.acceptRanges", "internal/bytealg.MaxLen", "strconv.ErrSyntax", "strconv.ErrRange"], apart := false, laid := [("math/bits.deBruijn32tab", laid_math_bits_deBruijn32tab), ("math/bits.deBruijn64tab", laid_math_bits_deBruijn64tab), ("internal/strconv.uint64pow10", laid_internal_strconv_uint64pow10), ("unicode/utf8.acceptRanges", laid_unicode_utf8_acceptRanges), ("strconv.ErrRange", laid_strconv_ErrRange), ("strconv.ErrSyntax", laid_strconv_ErrSyntax), ("unicode/utf8.first", laid_unicode_utf8_first)] }
def DeskDamageSaid : Prop := deskDamageRow.holds Tryz.pinned (OpenSpec.ofChange deskDamageSpec)

/-- ITS FALSE NEIGHBOUR: 'it returns false'. Refute it at one input. -/
def deskDamageWrong : ChangeSpec := { name := "deskDamage", fn := fun _ => fun
  | [d1, d2, d3] => { results := [.lit (.bool false)], args := [d1, d2, d3] }
  | _ => none }
def DeskDamageWrongFalsely : Prop := deskDamageRow.holds Tryz.pinned (OpenSpec.ofChange deskDamageWrong)

/-- 'wharfingerlaw22.ChiefNil': WHATEVER THE INPUT: true; the input reads as it did. -/
def chiefNilSpec : ChangeSpec := { name := "chiefNil", fn := fun _ => fun
  | [d] => { results := [.lit (.bool true)], args := [d] }
  | _ => none }
def chiefNilRow : OpenClaim := { program := "ytlfgmbbiealpoaagreatdoor", sum := "efd14f0f87029887838e2084910d22d1ab7d6b6a81544ebbcfde14f0aaf4fccd", func := "wharfinger/wharfingerlaw22.ChiefNil", spec := "chiefNil", inPlace := ["internal/bytealg.IndexByteString", "internal/bytealg.IndexString"], unfollowed := true, recurses := true, named := ["unicode/utf8.first", "unicode/utf8.acceptRanges", "internal/bytealg.MaxLen", "strconv.ErrSyntax", "strconv.ErrRange", "internal/strconv.uint64pow10", "math/bits.deBruijn32tab", "math/bits.deBruijn64tab"], apart := false, laid := [("math/bits.deBruijn32tab", laid_math_bits_deBruijn32tab), ("math/bits.deBruijn64tab", laid_math_bits_deBruijn64tab), ("internal/strconv.uint64pow10", laid_internal_strconv_uint64pow10), ("unicode/utf8.acceptRanges", laid_unicode_utf8_acceptRanges), ("strconv.ErrRange", laid_strconv_ErrRange), ("strconv.ErrSyntax", laid_strconv_ErrSyntax), ("unicode/utf8.first", laid_unicode_utf8_first)] }
def ChiefNilSaid : Prop := chiefNilRow.holds Tryz.pinned (OpenSpec.ofChange chiefNilSpec)

/-- ITS FALSE NEIGHBOUR: 'it returns false'. Refute it at one input. -/
def chiefNilWrong : ChangeSpec := { name := "chiefNil", fn := fun _ => fun
  | [d] => { results := [.lit (.bool false)], args := [d] }
  | _ => none }
def ChiefNilWrongFalsely : Prop := chiefNilRow.holds Tryz.pinned (OpenSpec.ofChange chiefNilWrong)

/-- 'wharfingerlaw22.ChiefLasts': WHATEVER THE INPUT: true; the input reads as it did. -/
def chiefLastsSpec : ChangeSpec := { name := "chiefLasts", fn := fun _ => fun
  | [d1, d2] => { results := [.lit (.bool true)], args := [d1, d2] }
  | _ => none }
def chiefLastsRow : OpenClaim := { program := "ytlfgmbbiealpoaagreatdoor", sum := "efd14f0f87029887838e2084910d22d1ab7d6b6a81544ebbcfde14f0aaf4fccd", func := "wharfinger/wharfingerlaw22.ChiefLasts", spec := "chiefLasts", inPlace := ["internal/bytealg.IndexByteString", "internal/bytealg.IndexString"], unfollowed := true, recurses := true, named := ["internal/strconv.uint64pow10", "math/bits.deBruijn32tab", "math/bits.deBruijn64tab", "unicode/utf8.first", "unicode/utf8.acceptRanges", "internal/bytealg.MaxLen", "strconv.ErrSyntax", "strconv.ErrRange"], apart := false, laid := [("math/bits.deBruijn32tab", laid_math_bits_deBruijn32tab), ("math/bits.deBruijn64tab", laid_math_bits_deBruijn64tab), ("internal/strconv.uint64pow10", laid_internal_strconv_uint64pow10), ("unicode/utf8.acceptRanges", laid_unicode_utf8_acceptRanges), ("strconv.ErrRange", laid_strconv_ErrRange), ("strconv.ErrSyntax", laid_strconv_ErrSyntax), ("unicode/utf8.first", laid_unicode_utf8_first)] }
def ChiefLastsSaid : Prop := chiefLastsRow.holds Tryz.pinned (OpenSpec.ofChange chiefLastsSpec)

/-- ITS FALSE NEIGHBOUR: 'it returns false'. Refute it at one input. -/
def chiefLastsWrong : ChangeSpec := { name := "chiefLasts", fn := fun _ => fun
  | [d1, d2] => { results := [.lit (.bool false)], args := [d1, d2] }
  | _ => none }
def ChiefLastsWrongFalsely : Prop := chiefLastsRow.holds Tryz.pinned (OpenSpec.ofChange chiefLastsWrong)

/-- 'wharfingerlaw25.HarbourNil': WHATEVER THE INPUT: true; the input reads as it did. -/
def harbourNilSpec : ChangeSpec := { name := "harbourNil", fn := fun _ => fun
  | [d] => { results := [.lit (.bool true)], args := [d] }
  | _ => none }
def harbourNilRow : OpenClaim := { program := "ytlfgmbbiealpoaagreatdoor", sum := "efd14f0f87029887838e2084910d22d1ab7d6b6a81544ebbcfde14f0aaf4fccd", func := "wharfinger/wharfingerlaw25.HarbourNil", spec := "harbourNil", unfollowed := true, recurses := true, named := ["internal/strconv.uint64pow10", "math/bits.deBruijn32tab", "math/bits.deBruijn64tab"], apart := false, laid := [("math/bits.deBruijn32tab", laid_math_bits_deBruijn32tab), ("math/bits.deBruijn64tab", laid_math_bits_deBruijn64tab), ("internal/strconv.uint64pow10", laid_internal_strconv_uint64pow10)] }
def HarbourNilSaid : Prop := harbourNilRow.holds Tryz.pinned (OpenSpec.ofChange harbourNilSpec)

/-- ITS FALSE NEIGHBOUR: 'it returns false'. Refute it at one input. -/
def harbourNilWrong : ChangeSpec := { name := "harbourNil", fn := fun _ => fun
  | [d] => { results := [.lit (.bool false)], args := [d] }
  | _ => none }
def HarbourNilWrongFalsely : Prop := harbourNilRow.holds Tryz.pinned (OpenSpec.ofChange harbourNilWrong)

/-- 'wharfingerlaw25.HarbourForces': WHATEVER THE INPUT: true; the input reads as it did. -/
def harbourForcesSpec : ChangeSpec := { name := "harbourForces", fn := fun _ => fun
  | [d1, d2, d3] => { results := [.lit (.bool true)], args := [d1, d2, d3] }
  | _ => none }
def harbourForcesRow : OpenClaim := { program := "ytlfgmbbiealpoaagreatdoor", sum := "efd14f0f87029887838e2084910d22d1ab7d6b6a81544ebbcfde14f0aaf4fccd", func := "wharfinger/wharfingerlaw25.HarbourForces", spec := "harbourForces", unfollowed := true, recurses := true, named := ["internal/strconv.uint64pow10", "math/bits.deBruijn32tab", "math/bits.deBruijn64tab"], apart := false, laid := [("math/bits.deBruijn32tab", laid_math_bits_deBruijn32tab), ("math/bits.deBruijn64tab", laid_math_bits_deBruijn64tab), ("internal/strconv.uint64pow10", laid_internal_strconv_uint64pow10)] }
def HarbourForcesSaid : Prop := harbourForcesRow.holds Tryz.pinned (OpenSpec.ofChange harbourForcesSpec)

/-- ITS FALSE NEIGHBOUR: 'it returns false'. Refute it at one input. -/
def harbourForcesWrong : ChangeSpec := { name := "harbourForces", fn := fun _ => fun
  | [d1, d2, d3] => { results := [.lit (.bool false)], args := [d1, d2, d3] }
  | _ => none }
def HarbourForcesWrongFalsely : Prop := harbourForcesRow.holds Tryz.pinned (OpenSpec.ofChange harbourForcesWrong)

/-- 'wharfingerlaw26.AuditNil': WHATEVER THE INPUT: true; the input reads as it did. -/
def auditNilSpec : ChangeSpec := { name := "auditNil", fn := fun _ => fun
  | [d] => { results := [.lit (.bool true)], args := [d] }
  | _ => none }
def auditNilRow : OpenClaim := { program := "ytlfgmbbiealpoaagreatdoor", sum := "efd14f0f87029887838e2084910d22d1ab7d6b6a81544ebbcfde14f0aaf4fccd", func := "wharfinger/wharfingerlaw26.AuditNil", spec := "auditNil", unfollowed := true, recurses := true, named := ["internal/strconv.uint64pow10", "math/bits.deBruijn32tab", "math/bits.deBruijn64tab"], apart := false, laid := [("math/bits.deBruijn32tab", laid_math_bits_deBruijn32tab), ("math/bits.deBruijn64tab", laid_math_bits_deBruijn64tab), ("internal/strconv.uint64pow10", laid_internal_strconv_uint64pow10)] }
def AuditNilSaid : Prop := auditNilRow.holds Tryz.pinned (OpenSpec.ofChange auditNilSpec)

/-- ITS FALSE NEIGHBOUR: 'it returns false'. Refute it at one input. -/
def auditNilWrong : ChangeSpec := { name := "auditNil", fn := fun _ => fun
  | [d] => { results := [.lit (.bool false)], args := [d] }
  | _ => none }
def AuditNilWrongFalsely : Prop := auditNilRow.holds Tryz.pinned (OpenSpec.ofChange auditNilWrong)

/-- 'wharfingerlaw26.AuditSums': WHATEVER THE INPUT: true; the input reads as it did. -/
def auditSumsSpec : ChangeSpec := { name := "auditSums", fn := fun _ => fun
  | [d] => { results := [.lit (.bool true)], args := [d] }
  | _ => none }
def auditSumsRow : OpenClaim := { program := "ytlfgmbbiealpoaagreatdoor", sum := "efd14f0f87029887838e2084910d22d1ab7d6b6a81544ebbcfde14f0aaf4fccd", func := "wharfinger/wharfingerlaw26.AuditSums", spec := "auditSums", unfollowed := true, recurses := true, named := ["internal/strconv.uint64pow10", "math/bits.deBruijn32tab", "math/bits.deBruijn64tab"], apart := false, laid := [("math/bits.deBruijn32tab", laid_math_bits_deBruijn32tab), ("math/bits.deBruijn64tab", laid_math_bits_deBruijn64tab), ("internal/strconv.uint64pow10", laid_internal_strconv_uint64pow10)] }
def AuditSumsSaid : Prop := auditSumsRow.holds Tryz.pinned (OpenSpec.ofChange auditSumsSpec)

/-- ITS FALSE NEIGHBOUR: 'it returns false'. Refute it at one input. -/
def auditSumsWrong : ChangeSpec := { name := "auditSums", fn := fun _ => fun
  | [d] => { results := [.lit (.bool false)], args := [d] }
  | _ => none }
def AuditSumsWrongFalsely : Prop := auditSumsRow.holds Tryz.pinned (OpenSpec.ofChange auditSumsWrong)

/-- 'wharfingerlaw25.HarbourDown': WHATEVER THE INPUT: true; the input reads as it did. -/
def harbourDownSpec : ChangeSpec := { name := "harbourDown", fn := fun _ => fun
  | [d1, d2] => { results := [.lit (.bool true)], args := [d1, d2] }
  | _ => none }
def harbourDownRow : OpenClaim := { program := "ytlfgmbbiealpoaagreatdoor", sum := "efd14f0f87029887838e2084910d22d1ab7d6b6a81544ebbcfde14f0aaf4fccd", func := "wharfinger/wharfingerlaw25.HarbourDown", spec := "harbourDown", unfollowed := true, recurses := true, named := ["internal/strconv.uint64pow10", "math/bits.deBruijn32tab", "math/bits.deBruijn64tab"], apart := false, laid := [("math/bits.deBruijn32tab", laid_math_bits_deBruijn32tab), ("math/bits.deBruijn64tab", laid_math_bits_deBruijn64tab), ("internal/strconv.uint64pow10", laid_internal_strconv_uint64pow10)] }
def HarbourDownSaid : Prop := harbourDownRow.holds Tryz.pinned (OpenSpec.ofChange harbourDownSpec)

/-- ITS FALSE NEIGHBOUR: 'it returns false'. Refute it at one input. -/
def harbourDownWrong : ChangeSpec := { name := "harbourDown", fn := fun _ => fun
  | [d1, d2] => { results := [.lit (.bool false)], args := [d1, d2] }
  | _ => none }
def HarbourDownWrongFalsely : Prop := harbourDownRow.holds Tryz.pinned (OpenSpec.ofChange harbourDownWrong)

/- THE SECOND FORM. 'bulk': how many values and letters a reading holds, each counted each time it is reached (what is shared counts as often as it is met; a slice's spare places count too). A statement '..UptoSaid' is the law's where the arguments, and the package variables that the reading takes, are together of bulk at most 1048576: NARROWER than '..Said'. Prove '..Said' where nothing that the law and all that it calls make is longer than what came in: it says more and counts as full. Else prove '..UptoSaid'. A law counts once. -/
mutual
def uptoBulk {H : Type} : DataW H → Nat
  | .lit (.string bytes) => bytes.length + 1
  | .lit _ => 1
  | .nil => 1
  | .ptr d => uptoBulk d + 1
  | .slice elems spare => uptoBulkAll elems + uptoBulkAll spare + 1
  | .agg parts => uptoBulkAll parts + 1
  | .iface _ d => uptoBulk d + 1
  | .map entries => uptoBulkEntries entries + 1
  | .held _ => 1
def uptoBulkAll {H : Type} : List (DataW H) → Nat
  | [] => 0
  | d :: r => uptoBulk d + uptoBulkAll r
def uptoBulkEntries {H : Type} : List (Lit × DataW H) → Nat
  | [] => 0
  | x :: r => uptoBulkEntry x + uptoBulkEntries r
def uptoBulkEntry {H : Type} : Lit × DataW H → Nat
  | (.string bytes, d) => bytes.length + uptoBulk d + 1
  | (_, d) => uptoBulk d + 1
 end
def uptoSmall : (H : Type) → List (DataW H) → Bool := fun _ ds => decide (uptoBulkAll ds ≤ 1048576)
def OpenSpec.upto (s : _root_.Go.ChangeSpec) : _root_.Go.OpenSpec := { _root_.Go.OpenSpec.ofChange s with cond := some uptoSmall }

/-- 'wharfingerlaw24.DeskNil', WHERE WHAT IT READS IS OF BULK AT MOST 1048576: true; the input reads as it did. -/
def deskNilUptoRow : OpenClaim := { program := "ytlfgmbbiealpoaagreatdoor", sum := "efd14f0f87029887838e2084910d22d1ab7d6b6a81544ebbcfde14f0aaf4fccd", func := "wharfinger/wharfingerlaw24.DeskNil", spec := "deskNil", unfollowed := true, recurses := true, named := ["internal/strconv.uint64pow10", "math/bits.deBruijn32tab", "math/bits.deBruijn64tab"], apart := false, laid := [("math/bits.deBruijn32tab", laid_math_bits_deBruijn32tab), ("math/bits.deBruijn64tab", laid_math_bits_deBruijn64tab), ("internal/strconv.uint64pow10", laid_internal_strconv_uint64pow10)], narrowed := true }
def DeskNilUptoSaid : Prop := deskNilUptoRow.holds Tryz.pinned (OpenSpec.upto deskNilSpec)

/-- 'wharfingerlaw24.DeskWords', WHERE WHAT IT READS IS OF BULK AT MOST 1048576: true; the input reads as it did. -/
def deskWordsUptoRow : OpenClaim := { program := "ytlfgmbbiealpoaagreatdoor", sum := "efd14f0f87029887838e2084910d22d1ab7d6b6a81544ebbcfde14f0aaf4fccd", func := "wharfinger/wharfingerlaw24.DeskWords", spec := "deskWords", unfollowed := true, recurses := true, named := ["internal/strconv.uint64pow10", "math/bits.deBruijn32tab", "math/bits.deBruijn64tab"], apart := false, laid := [("math/bits.deBruijn32tab", laid_math_bits_deBruijn32tab), ("math/bits.deBruijn64tab", laid_math_bits_deBruijn64tab), ("internal/strconv.uint64pow10", laid_internal_strconv_uint64pow10)], narrowed := true }
def DeskWordsUptoSaid : Prop := deskWordsUptoRow.holds Tryz.pinned (OpenSpec.upto deskWordsSpec)

/-- 'wharfingerlaw24.DeskRefuses', WHERE WHAT IT READS IS OF BULK AT MOST 1048576: true; the input reads as it did. -/
def deskRefusesUptoRow : OpenClaim := { program := "ytlfgmbbiealpoaagreatdoor", sum := "efd14f0f87029887838e2084910d22d1ab7d6b6a81544ebbcfde14f0aaf4fccd", func := "wharfinger/wharfingerlaw24.DeskRefuses", spec := "deskRefuses", unfollowed := true, recurses := true, named := ["internal/strconv.uint64pow10", "math/bits.deBruijn32tab", "math/bits.deBruijn64tab"], apart := false, laid := [("math/bits.deBruijn32tab", laid_math_bits_deBruijn32tab), ("math/bits.deBruijn64tab", laid_math_bits_deBruijn64tab), ("internal/strconv.uint64pow10", laid_internal_strconv_uint64pow10)], narrowed := true }
def DeskRefusesUptoSaid : Prop := deskRefusesUptoRow.holds Tryz.pinned (OpenSpec.upto deskRefusesSpec)

/-- 'wharfingerlaw24.DeskLets', WHERE WHAT IT READS IS OF BULK AT MOST 1048576: true; the input reads as it did. -/
def deskLetsUptoRow : OpenClaim := { program := "ytlfgmbbiealpoaagreatdoor", sum := "efd14f0f87029887838e2084910d22d1ab7d6b6a81544ebbcfde14f0aaf4fccd", func := "wharfinger/wharfingerlaw24.DeskLets", spec := "deskLets", unfollowed := true, recurses := true, named := ["internal/strconv.uint64pow10", "math/bits.deBruijn32tab", "math/bits.deBruijn64tab"], apart := false, laid := [("math/bits.deBruijn32tab", laid_math_bits_deBruijn32tab), ("math/bits.deBruijn64tab", laid_math_bits_deBruijn64tab), ("internal/strconv.uint64pow10", laid_internal_strconv_uint64pow10)], narrowed := true }
def DeskLetsUptoSaid : Prop := deskLetsUptoRow.holds Tryz.pinned (OpenSpec.upto deskLetsSpec)

/-- 'wharfingerlaw24.DeskDamage', WHERE WHAT IT READS IS OF BULK AT MOST 1048576: true; the input reads as it did. -/
def deskDamageUptoRow : OpenClaim := { program := "ytlfgmbbiealpoaagreatdoor", sum := "efd14f0f87029887838e2084910d22d1ab7d6b6a81544ebbcfde14f0aaf4fccd", func := "wharfinger/wharfingerlaw24.DeskDamage", spec := "deskDamage", inPlace := ["internal/bytealg.IndexByteString", "internal/bytealg.IndexString"], unfollowed := true, recurses := true, named := ["internal/strconv.uint64pow10", "math/bits.deBruijn32tab", "math/bits.deBruijn64tab", "unicode/utf8.first", "unicode/utf8.acceptRanges", "internal/bytealg.MaxLen", "strconv.ErrSyntax", "strconv.ErrRange"], apart := false, laid := [("math/bits.deBruijn32tab", laid_math_bits_deBruijn32tab), ("math/bits.deBruijn64tab", laid_math_bits_deBruijn64tab), ("internal/strconv.uint64pow10", laid_internal_strconv_uint64pow10), ("unicode/utf8.acceptRanges", laid_unicode_utf8_acceptRanges), ("strconv.ErrRange", laid_strconv_ErrRange), ("strconv.ErrSyntax", laid_strconv_ErrSyntax), ("unicode/utf8.first", laid_unicode_utf8_first)], narrowed := true }
def DeskDamageUptoSaid : Prop := deskDamageUptoRow.holds Tryz.pinned (OpenSpec.upto deskDamageSpec)

/-- 'wharfingerlaw22.ChiefNil', WHERE WHAT IT READS IS OF BULK AT MOST 1048576: true; the input reads as it did. -/
def chiefNilUptoRow : OpenClaim := { program := "ytlfgmbbiealpoaagreatdoor", sum := "efd14f0f87029887838e2084910d22d1ab7d6b6a81544ebbcfde14f0aaf4fccd", func := "wharfinger/wharfingerlaw22.ChiefNil", spec := "chiefNil", inPlace := ["internal/bytealg.IndexByteString", "internal/bytealg.IndexString"], unfollowed := true, recurses := true, named := ["unicode/utf8.first", "unicode/utf8.acceptRanges", "internal/bytealg.MaxLen", "strconv.ErrSyntax", "strconv.ErrRange", "internal/strconv.uint64pow10", "math/bits.deBruijn32tab", "math/bits.deBruijn64tab"], apart := false, laid := [("math/bits.deBruijn32tab", laid_math_bits_deBruijn32tab), ("math/bits.deBruijn64tab", laid_math_bits_deBruijn64tab), ("internal/strconv.uint64pow10", laid_internal_strconv_uint64pow10), ("unicode/utf8.acceptRanges", laid_unicode_utf8_acceptRanges), ("strconv.ErrRange", laid_strconv_ErrRange), ("strconv.ErrSyntax", laid_strconv_ErrSyntax), ("unicode/utf8.first", laid_unicode_utf8_first)], narrowed := true }
def ChiefNilUptoSaid : Prop := chiefNilUptoRow.holds Tryz.pinned (OpenSpec.upto chiefNilSpec)

/-- 'wharfingerlaw22.ChiefLasts', WHERE WHAT IT READS IS OF BULK AT MOST 1048576: true; the input reads as it did. -/
def chiefLastsUptoRow : OpenClaim := { program := "ytlfgmbbiealpoaagreatdoor", sum := "efd14f0f87029887838e2084910d22d1ab7d6b6a81544ebbcfde14f0aaf4fccd", func := "wharfinger/wharfingerlaw22.ChiefLasts", spec := "chiefLasts", inPlace := ["internal/bytealg.IndexByteString", "internal/bytealg.IndexString"], unfollowed := true, recurses := true, named := ["internal/strconv.uint64pow10", "math/bits.deBruijn32tab", "math/bits.deBruijn64tab", "unicode/utf8.first", "unicode/utf8.acceptRanges", "internal/bytealg.MaxLen", "strconv.ErrSyntax", "strconv.ErrRange"], apart := false, laid := [("math/bits.deBruijn32tab", laid_math_bits_deBruijn32tab), ("math/bits.deBruijn64tab", laid_math_bits_deBruijn64tab), ("internal/strconv.uint64pow10", laid_internal_strconv_uint64pow10), ("unicode/utf8.acceptRanges", laid_unicode_utf8_acceptRanges), ("strconv.ErrRange", laid_strconv_ErrRange), ("strconv.ErrSyntax", laid_strconv_ErrSyntax), ("unicode/utf8.first", laid_unicode_utf8_first)], narrowed := true }
def ChiefLastsUptoSaid : Prop := chiefLastsUptoRow.holds Tryz.pinned (OpenSpec.upto chiefLastsSpec)

/-- 'wharfingerlaw25.HarbourNil', WHERE WHAT IT READS IS OF BULK AT MOST 1048576: true; the input reads as it did. -/
def harbourNilUptoRow : OpenClaim := { program := "ytlfgmbbiealpoaagreatdoor", sum := "efd14f0f87029887838e2084910d22d1ab7d6b6a81544ebbcfde14f0aaf4fccd", func := "wharfinger/wharfingerlaw25.HarbourNil", spec := "harbourNil", unfollowed := true, recurses := true, named := ["internal/strconv.uint64pow10", "math/bits.deBruijn32tab", "math/bits.deBruijn64tab"], apart := false, laid := [("math/bits.deBruijn32tab", laid_math_bits_deBruijn32tab), ("math/bits.deBruijn64tab", laid_math_bits_deBruijn64tab), ("internal/strconv.uint64pow10", laid_internal_strconv_uint64pow10)], narrowed := true }
def HarbourNilUptoSaid : Prop := harbourNilUptoRow.holds Tryz.pinned (OpenSpec.upto harbourNilSpec)

/-- 'wharfingerlaw25.HarbourForces', WHERE WHAT IT READS IS OF BULK AT MOST 1048576: true; the input reads as it did. -/
def harbourForcesUptoRow : OpenClaim := { program := "ytlfgmbbiealpoaagreatdoor", sum := "efd14f0f87029887838e2084910d22d1ab7d6b6a81544ebbcfde14f0aaf4fccd", func := "wharfinger/wharfingerlaw25.HarbourForces", spec := "harbourForces", unfollowed := true, recurses := true, named := ["internal/strconv.uint64pow10", "math/bits.deBruijn32tab", "math/bits.deBruijn64tab"], apart := false, laid := [("math/bits.deBruijn32tab", laid_math_bits_deBruijn32tab), ("math/bits.deBruijn64tab", laid_math_bits_deBruijn64tab), ("internal/strconv.uint64pow10", laid_internal_strconv_uint64pow10)], narrowed := true }
def HarbourForcesUptoSaid : Prop := harbourForcesUptoRow.holds Tryz.pinned (OpenSpec.upto harbourForcesSpec)

/-- 'wharfingerlaw26.AuditNil', WHERE WHAT IT READS IS OF BULK AT MOST 1048576: true; the input reads as it did. -/
def auditNilUptoRow : OpenClaim := { program := "ytlfgmbbiealpoaagreatdoor", sum := "efd14f0f87029887838e2084910d22d1ab7d6b6a81544ebbcfde14f0aaf4fccd", func := "wharfinger/wharfingerlaw26.AuditNil", spec := "auditNil", unfollowed := true, recurses := true, named := ["internal/strconv.uint64pow10", "math/bits.deBruijn32tab", "math/bits.deBruijn64tab"], apart := false, laid := [("math/bits.deBruijn32tab", laid_math_bits_deBruijn32tab), ("math/bits.deBruijn64tab", laid_math_bits_deBruijn64tab), ("internal/strconv.uint64pow10", laid_internal_strconv_uint64pow10)], narrowed := true }
def AuditNilUptoSaid : Prop := auditNilUptoRow.holds Tryz.pinned (OpenSpec.upto auditNilSpec)

/-- 'wharfingerlaw26.AuditSums', WHERE WHAT IT READS IS OF BULK AT MOST 1048576: true; the input reads as it did. -/
def auditSumsUptoRow : OpenClaim := { program := "ytlfgmbbiealpoaagreatdoor", sum := "efd14f0f87029887838e2084910d22d1ab7d6b6a81544ebbcfde14f0aaf4fccd", func := "wharfinger/wharfingerlaw26.AuditSums", spec := "auditSums", unfollowed := true, recurses := true, named := ["internal/strconv.uint64pow10", "math/bits.deBruijn32tab", "math/bits.deBruijn64tab"], apart := false, laid := [("math/bits.deBruijn32tab", laid_math_bits_deBruijn32tab), ("math/bits.deBruijn64tab", laid_math_bits_deBruijn64tab), ("internal/strconv.uint64pow10", laid_internal_strconv_uint64pow10)], narrowed := true }
def AuditSumsUptoSaid : Prop := auditSumsUptoRow.holds Tryz.pinned (OpenSpec.upto auditSumsSpec)

/-- 'wharfingerlaw25.HarbourDown', WHERE WHAT IT READS IS OF BULK AT MOST 1048576: true; the input reads as it did. -/
def harbourDownUptoRow : OpenClaim := { program := "ytlfgmbbiealpoaagreatdoor", sum := "efd14f0f87029887838e2084910d22d1ab7d6b6a81544ebbcfde14f0aaf4fccd", func := "wharfinger/wharfingerlaw25.HarbourDown", spec := "harbourDown", unfollowed := true, recurses := true, named := ["internal/strconv.uint64pow10", "math/bits.deBruijn32tab", "math/bits.deBruijn64tab"], apart := false, laid := [("math/bits.deBruijn32tab", laid_math_bits_deBruijn32tab), ("math/bits.deBruijn64tab", laid_math_bits_deBruijn64tab), ("internal/strconv.uint64pow10", laid_internal_strconv_uint64pow10)], narrowed := true }
def HarbourDownUptoSaid : Prop := harbourDownUptoRow.holds Tryz.pinned (OpenSpec.upto harbourDownSpec)

end Rows
end Go.Proofs.YtlfgmbbiealpoaaGreatDoor
