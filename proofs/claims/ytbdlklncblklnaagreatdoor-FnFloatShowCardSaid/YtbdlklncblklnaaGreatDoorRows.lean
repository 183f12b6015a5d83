/-
  NARROWER THAN 'FOR EVERY INPUT', by the rows' own cells (each row's printed sentence says how): FnSpanTight: laid · FnSpanDivTwo: laid · FnBackGap: laid · FnExactFloatShow: laid · FnSpanMore: laid · FnSpanWidths: laid · FnSpanTop: laid · FnFloatShow: laid · FnBackTop: laid.
  DERIVED. THE GIVEN ROWS OF THIS SEAT. 9 by the template 'for every input the law returns true; each argument reads behind the call as it read before'; 0 by the template 'total and deterministic' (their statements: YtbdlklncblklnaaGreatDoorTotals.lean).
  GIVEN WITH THE SEED: the statements are not yours to turn. If you find one false, say at which input.
  Laid BY PROGRAM, IN A SANDBOX (cutbox-rows.mjs): the forced cells as the released guide's own fill.sh prints them over the translation 494684678810d4c2… (all of the seat's roots in one cut). By AI agents, Wed Nov 11 2026. No macro, syntax, notation, axiom, sorry.
-/
import Derived.Test.YtbdlklncblklnaaGreatDoorChecked
import GoSem.PinnedTables
import GoSem.Claim
import GoSem.ClaimJoined
import GoSem.ClaimMapViews
import Derived.JoinedTies
import Derived.KernelRfl
namespace Go.Proofs.YtbdlklncblklnaaGreatDoor
/- THE CELL 'sum', in the pinned program and in every row, IS THE sha256 OF THE DUMP (.gsa) THAT YtbdlklncblklnaaGreatDoorProg.lean LOADS. Nothing in Lean hashes anything: it is a label: what it is worth is what the hold of that sum in a sandbox is worth. -/
noncomputable def Tryz.pinned : Pinned := { name := "ytbdlklncblklnaagreatdoor", sum := "494684678810d4c21caf2d9010e58e7cd9dc4c28f50aaf7a88dd4cbd3ed44338", checked := Tryz.checked }
namespace Rows
def none {H : Type} : Left H := { results := [], args := [] }

/- WHAT THE LISTED PACKAGE-LEVEL VARIABLES READ AS WHEN THE CALL BEGINS. Each datum BY PROGRAM (the guide's laid-datum.mjs) off the statement by which the dump's own 'gosem.cut.vars' lays the variable. In a bare row this is a premise. The card (YtbdlklncblklnaaGreatDoorCards.lean) ties it to the program's text. -/
def laid_math_bits_deBruijn64tab {H : Type} : DataW H := .agg [.lit (.int .u8 0), .lit (.int .u8 1), .lit (.int .u8 56), .lit (.int .u8 2), .lit (.int .u8 57), .lit (.int .u8 49), .lit (.int .u8 28), .lit (.int .u8 3), .lit (.int .u8 61), .lit (.int .u8 58), .lit (.int .u8 42), .lit (.int .u8 50), .lit (.int .u8 38), .lit (.int .u8 29), .lit (.int .u8 17), .lit (.int .u8 4), .lit (.int .u8 62), .lit (.int .u8 47), .lit (.int .u8 59), .lit (.int .u8 36), .lit (.int .u8 45), .lit (.int .u8 43), .lit (.int .u8 51), .lit (.int .u8 22), .lit (.int .u8 53), .lit (.int .u8 39), .lit (.int .u8 33), .lit (.int .u8 30), .lit (.int .u8 24), .lit (.int .u8 18), .lit (.int .u8 12), .lit (.int .u8 5), .lit (.int .u8 63), .lit (.int .u8 55), .lit (.int .u8 48), .lit (.int .u8 27), .lit (.int .u8 60), .lit (.int .u8 41), .lit (.int .u8 37), .lit (.int .u8 16), .lit (.int .u8 46), .lit (.int .u8 35), .lit (.int .u8 44), .lit (.int .u8 21), .lit (.int .u8 52), .lit (.int .u8 32), .lit (.int .u8 23), .lit (.int .u8 11), .lit (.int .u8 54), .lit (.int .u8 26), .lit (.int .u8 40), .lit (.int .u8 15), .lit (.int .u8 34), .lit (.int .u8 20), .lit (.int .u8 31), .lit (.int .u8 10), .lit (.int .u8 25), .lit (.int .u8 14), .lit (.int .u8 19), .lit (.int .u8 9), .lit (.int .u8 13), .lit (.int .u8 8), .lit (.int .u8 7), .lit (.int .u8 6)]
def laid_math_bits_deBruijn32tab {H : Type} : DataW H := .agg [.lit (.int .u8 0), .lit (.int .u8 1), .lit (.int .u8 28), .lit (.int .u8 2), .lit (.int .u8 29), .lit (.int .u8 14), .lit (.int .u8 24), .lit (.int .u8 3), .lit (.int .u8 30), .lit (.int .u8 22), .lit (.int .u8 20), .lit (.int .u8 15), .lit (.int .u8 25), .lit (.int .u8 17), .lit (.int .u8 4), .lit (.int .u8 8), .lit (.int .u8 31), .lit (.int .u8 27), .lit (.int .u8 13), .lit (.int .u8 23), .lit (.int .u8 21), .lit (.int .u8 19), .lit (.int .u8 16), .lit (.int .u8 7), .lit (.int .u8 26), .lit (.int .u8 12), .lit (.int .u8 18), .lit (.int .u8 6), .lit (.int .u8 11), .lit (.int .u8 5), .lit (.int .u8 10), .lit (.int .u8 9)]
def laid_internal_strconv_uint64pow10 {H : Type} : DataW H := .agg [.lit (.int .u64 1), .lit (.int .u64 10), .lit (.int .u64 100), .lit (.int .u64 1000), .lit (.int .u64 10000), .lit (.int .u64 100000), .lit (.int .u64 1000000), .lit (.int .u64 10000000), .lit (.int .u64 100000000), .lit (.int .u64 1000000000), .lit (.int .u64 10000000000), .lit (.int .u64 100000000000), .lit (.int .u64 1000000000000), .lit (.int .u64 10000000000000), .lit (.int .u64 100000000000000), .lit (.int .u64 1000000000000000), .lit (.int .u64 10000000000000000), .lit (.int .u64 100000000000000000), .lit (.int .u64 1000000000000000000), .lit (.int .u64 10000000000000000000)]
def laid_unicode_utf8_acceptRanges {H : Type} : DataW H := .agg [.agg [.lit (.int .u8 128), .lit (.int .u8 191)], .agg [.lit (.int .u8 160), .lit (.int .u8 191)], .agg [.lit (.int .u8 128), .lit (.int .u8 159)], .agg [.lit (.int .u8 144), .lit (.int .u8 191)], .agg [.lit (.int .u8 128), .lit (.int .u8 143)], .agg [.lit (.int .u8 0), .lit (.int .u8 0)], .agg [.lit (.int .u8 0), .lit (.int .u8 0)], .agg [.lit (.int .u8 0), .lit (.int .u8 0)], .agg [.lit (.int .u8 0), .lit (.int .u8 0)], .agg [.lit (.int .u8 0), .lit (.int .u8 0)], .agg [.lit (.int .u8 0), .lit (.int .u8 0)], .agg [.lit (.int .u8 0), .lit (.int .u8 0)], .agg [.lit (.int .u8 0), .lit (.int .u8 0)], .agg [.lit (.int .u8 0), .lit (.int .u8 0)], .agg [.lit (.int .u8 0), .lit (.int .u8 0)], .agg [.lit (.int .u8 0), .lit (.int .u8 0)]]
/-- One of Go's own tables, pinned by name: the form's constant. -/
def laid_unicode_utf8_first : DataW Unit := Go.Pinned.utf8First

/-- 'laws.FnSpanTight': WHATEVER THE INPUT: true; the input reads as it did. -/
def fnSpanTightSpec : ChangeSpec := { name := "fnSpanTight", fn := fun _ => fun
  | [d1, d2] => { results := [.lit (.bool true)], args := [d1, d2] }
  | _ => none }
def fnSpanTightRow : OpenClaim := { program := "ytbdlklncblklnaagreatdoor", sum := "494684678810d4c21caf2d9010e58e7cd9dc4c28f50aaf7a88dd4cbd3ed44338", func := "loop.example/pinfold/laws.FnSpanTight", spec := "fnSpanTight", unfollowed := true, recurses := true, named := ["math/bits.deBruijn64tab"], apart := false, laid := [("math/bits.deBruijn64tab", laid_math_bits_deBruijn64tab)] }
def FnSpanTightSaid : Prop := fnSpanTightRow.holds Tryz.pinned (OpenSpec.ofChange fnSpanTightSpec)

/-- ITS FALSE NEIGHBOUR: 'it returns false'. Refute it at one input. -/
def fnSpanTightWrong : ChangeSpec := { name := "fnSpanTight", fn := fun _ => fun
  | [d1, d2] => { results := [.lit (.bool false)], args := [d1, d2] }
  | _ => none }
def FnSpanTightWrongFalsely : Prop := fnSpanTightRow.holds Tryz.pinned (OpenSpec.ofChange fnSpanTightWrong)

/-- 'laws.FnSpanDivTwo': WHATEVER THE INPUT: true; the input reads as it did. -/
def fnSpanDivTwoSpec : ChangeSpec := { name := "fnSpanDivTwo", fn := fun _ => fun
  | [d1, d2] => { results := [.lit (.bool true)], args := [d1, d2] }
  | _ => none }
def fnSpanDivTwoRow : OpenClaim := { program := "ytbdlklncblklnaagreatdoor", sum := "494684678810d4c21caf2d9010e58e7cd9dc4c28f50aaf7a88dd4cbd3ed44338", func := "loop.example/pinfold/laws.FnSpanDivTwo", spec := "fnSpanDivTwo", unfollowed := true, recurses := true, named := ["math/bits.deBruijn64tab"], apart := false, laid := [("math/bits.deBruijn64tab", laid_math_bits_deBruijn64tab)] }
def FnSpanDivTwoSaid : Prop := fnSpanDivTwoRow.holds Tryz.pinned (OpenSpec.ofChange fnSpanDivTwoSpec)

/-- ITS FALSE NEIGHBOUR: 'it returns false'. Refute it at one input. -/
def fnSpanDivTwoWrong : ChangeSpec := { name := "fnSpanDivTwo", fn := fun _ => fun
  | [d1, d2] => { results := [.lit (.bool false)], args := [d1, d2] }
  | _ => none }
def FnSpanDivTwoWrongFalsely : Prop := fnSpanDivTwoRow.holds Tryz.pinned (OpenSpec.ofChange fnSpanDivTwoWrong)

/-- 'laws.FnBackGap': WHATEVER THE INPUT: true; the input reads as it did. -/
def fnBackGapSpec : ChangeSpec := { name := "fnBackGap", fn := fun _ => fun
  | [d1, d2] => { results := [.lit (.bool true)], args := [d1, d2] }
  | _ => none }
def fnBackGapRow : OpenClaim := { program := "ytbdlklncblklnaagreatdoor", sum := "494684678810d4c21caf2d9010e58e7cd9dc4c28f50aaf7a88dd4cbd3ed44338", func := "loop.example/pinfold/laws.FnBackGap", spec := "fnBackGap", unfollowed := true, recurses := true, named := ["math/bits.deBruijn64tab"], apart := false, laid := [("math/bits.deBruijn64tab", laid_math_bits_deBruijn64tab)] }
def FnBackGapSaid : Prop := fnBackGapRow.holds Tryz.pinned (OpenSpec.ofChange fnBackGapSpec)

/-- ITS FALSE NEIGHBOUR: 'it returns false'. Refute it at one input. -/
def fnBackGapWrong : ChangeSpec := { name := "fnBackGap", fn := fun _ => fun
  | [d1, d2] => { results := [.lit (.bool false)], args := [d1, d2] }
  | _ => none }
def FnBackGapWrongFalsely : Prop := fnBackGapRow.holds Tryz.pinned (OpenSpec.ofChange fnBackGapWrong)

/-- 'laws.FnExactFloatShow': WHATEVER THE INPUT: true; the input reads as it did. -/
def fnExactFloatShowSpec : ChangeSpec := { name := "fnExactFloatShow", fn := fun _ => fun
  | [d1, d2, d3] => { results := [.lit (.bool true)], args := [d1, d2, d3] }
  | _ => none }
def fnExactFloatShowRow : OpenClaim := { program := "ytbdlklncblklnaagreatdoor", sum := "494684678810d4c21caf2d9010e58e7cd9dc4c28f50aaf7a88dd4cbd3ed44338", func := "loop.example/pinfold/laws.FnExactFloatShow", spec := "fnExactFloatShow", inPlace := ["internal/abi.NoEscape", "internal/bytealg.MakeNoZero", "internal/bytealg.IndexByteString", "internal/bytealg.IndexString"], recurses := true, named := ["internal/strconv.uint64pow10", "math/bits.deBruijn32tab", "math/bits.deBruijn64tab", "unicode/utf8.first", "unicode/utf8.acceptRanges", "internal/bytealg.MaxLen"], apart := false, laid := [("math/bits.deBruijn32tab", laid_math_bits_deBruijn32tab), ("math/bits.deBruijn64tab", laid_math_bits_deBruijn64tab), ("internal/strconv.uint64pow10", laid_internal_strconv_uint64pow10), ("unicode/utf8.acceptRanges", laid_unicode_utf8_acceptRanges), ("unicode/utf8.first", laid_unicode_utf8_first)] }
def FnExactFloatShowSaid : Prop := fnExactFloatShowRow.holds Tryz.pinned (OpenSpec.ofChange fnExactFloatShowSpec)

/-- ITS FALSE NEIGHBOUR: 'it returns false'. Refute it at one input. -/
def fnExactFloatShowWrong : ChangeSpec := { name := "fnExactFloatShow", fn := fun _ => fun
  | [d1, d2, d3] => { results := [.lit (.bool false)], args := [d1, d2, d3] }
  | _ => none }
def FnExactFloatShowWrongFalsely : Prop := fnExactFloatShowRow.holds Tryz.pinned (OpenSpec.ofChange fnExactFloatShowWrong)

/-- 'laws.FnSpanMore': WHATEVER THE INPUT: true; the input reads as it did. -/
def fnSpanMoreSpec : ChangeSpec := { name := "fnSpanMore", fn := fun _ => fun
  | [d1, d2] => { results := [.lit (.bool true)], args := [d1, d2] }
  | _ => none }
def fnSpanMoreRow : OpenClaim := { program := "ytbdlklncblklnaagreatdoor", sum := "494684678810d4c21caf2d9010e58e7cd9dc4c28f50aaf7a88dd4cbd3ed44338", func := "loop.example/pinfold/laws.FnSpanMore", spec := "fnSpanMore", unfollowed := true, recurses := true, named := ["math/bits.deBruijn64tab"], apart := false, laid := [("math/bits.deBruijn64tab", laid_math_bits_deBruijn64tab)] }
def FnSpanMoreSaid : Prop := fnSpanMoreRow.holds Tryz.pinned (OpenSpec.ofChange fnSpanMoreSpec)

/-- ITS FALSE NEIGHBOUR: 'it returns false'. Refute it at one input. -/
def fnSpanMoreWrong : ChangeSpec := { name := "fnSpanMore", fn := fun _ => fun
  | [d1, d2] => { results := [.lit (.bool false)], args := [d1, d2] }
  | _ => none }
def FnSpanMoreWrongFalsely : Prop := fnSpanMoreRow.holds Tryz.pinned (OpenSpec.ofChange fnSpanMoreWrong)

/-- 'laws.FnSpanWidths': WHATEVER THE INPUT: true; the input reads as it did. -/
def fnSpanWidthsSpec : ChangeSpec := { name := "fnSpanWidths", fn := fun _ => fun
  | [d1, d2] => { results := [.lit (.bool true)], args := [d1, d2] }
  | _ => none }
def fnSpanWidthsRow : OpenClaim := { program := "ytbdlklncblklnaagreatdoor", sum := "494684678810d4c21caf2d9010e58e7cd9dc4c28f50aaf7a88dd4cbd3ed44338", func := "loop.example/pinfold/laws.FnSpanWidths", spec := "fnSpanWidths", unfollowed := true, recurses := true, named := ["math/bits.deBruijn64tab"], apart := false, laid := [("math/bits.deBruijn64tab", laid_math_bits_deBruijn64tab)] }
def FnSpanWidthsSaid : Prop := fnSpanWidthsRow.holds Tryz.pinned (OpenSpec.ofChange fnSpanWidthsSpec)

/-- ITS FALSE NEIGHBOUR: 'it returns false'. Refute it at one input. -/
def fnSpanWidthsWrong : ChangeSpec := { name := "fnSpanWidths", fn := fun _ => fun
  | [d1, d2] => { results := [.lit (.bool false)], args := [d1, d2] }
  | _ => none }
def FnSpanWidthsWrongFalsely : Prop := fnSpanWidthsRow.holds Tryz.pinned (OpenSpec.ofChange fnSpanWidthsWrong)

/-- 'laws.FnSpanTop': WHATEVER THE INPUT: true; the input reads as it did. -/
def fnSpanTopSpec : ChangeSpec := { name := "fnSpanTop", fn := fun _ => fun
  | [d1, d2] => { results := [.lit (.bool true)], args := [d1, d2] }
  | _ => none }
def fnSpanTopRow : OpenClaim := { program := "ytbdlklncblklnaagreatdoor", sum := "494684678810d4c21caf2d9010e58e7cd9dc4c28f50aaf7a88dd4cbd3ed44338", func := "loop.example/pinfold/laws.FnSpanTop", spec := "fnSpanTop", unfollowed := true, recurses := true, named := ["math/bits.deBruijn64tab"], apart := false, laid := [("math/bits.deBruijn64tab", laid_math_bits_deBruijn64tab)] }
def FnSpanTopSaid : Prop := fnSpanTopRow.holds Tryz.pinned (OpenSpec.ofChange fnSpanTopSpec)

/-- ITS FALSE NEIGHBOUR: 'it returns false'. Refute it at one input. -/
def fnSpanTopWrong : ChangeSpec := { name := "fnSpanTop", fn := fun _ => fun
  | [d1, d2] => { results := [.lit (.bool false)], args := [d1, d2] }
  | _ => none }
def FnSpanTopWrongFalsely : Prop := fnSpanTopRow.holds Tryz.pinned (OpenSpec.ofChange fnSpanTopWrong)

/-- 'laws.FnFloatShow': WHATEVER THE INPUT: true; the input reads as it did. -/
def fnFloatShowSpec : ChangeSpec := { name := "fnFloatShow", fn := fun _ => fun
  | [d] => { results := [.lit (.bool true)], args := [d] }
  | _ => none }
def fnFloatShowRow : OpenClaim := { program := "ytbdlklncblklnaagreatdoor", sum := "494684678810d4c21caf2d9010e58e7cd9dc4c28f50aaf7a88dd4cbd3ed44338", func := "loop.example/pinfold/laws.FnFloatShow", spec := "fnFloatShow", inPlace := ["internal/abi.NoEscape", "internal/bytealg.MakeNoZero", "internal/bytealg.IndexByteString", "internal/bytealg.IndexString"], recurses := true, named := ["internal/strconv.uint64pow10", "math/bits.deBruijn32tab", "math/bits.deBruijn64tab", "unicode/utf8.first", "unicode/utf8.acceptRanges", "internal/bytealg.MaxLen"], apart := false, laid := [("math/bits.deBruijn32tab", laid_math_bits_deBruijn32tab), ("math/bits.deBruijn64tab", laid_math_bits_deBruijn64tab), ("internal/strconv.uint64pow10", laid_internal_strconv_uint64pow10), ("unicode/utf8.acceptRanges", laid_unicode_utf8_acceptRanges), ("unicode/utf8.first", laid_unicode_utf8_first)] }
def FnFloatShowSaid : Prop := fnFloatShowRow.holds Tryz.pinned (OpenSpec.ofChange fnFloatShowSpec)

/-- ITS FALSE NEIGHBOUR: 'it returns false'. Refute it at one input. -/
def fnFloatShowWrong : ChangeSpec := { name := "fnFloatShow", fn := fun _ => fun
  | [d] => { results := [.lit (.bool false)], args := [d] }
  | _ => none }
def FnFloatShowWrongFalsely : Prop := fnFloatShowRow.holds Tryz.pinned (OpenSpec.ofChange fnFloatShowWrong)

/-- 'laws.FnBackTop': WHATEVER THE INPUT: true; the input reads as it did. -/
def fnBackTopSpec : ChangeSpec := { name := "fnBackTop", fn := fun _ => fun
  | [d1, d2] => { results := [.lit (.bool true)], args := [d1, d2] }
  | _ => none }
def fnBackTopRow : OpenClaim := { program := "ytbdlklncblklnaagreatdoor", sum := "494684678810d4c21caf2d9010e58e7cd9dc4c28f50aaf7a88dd4cbd3ed44338", func := "loop.example/pinfold/laws.FnBackTop", spec := "fnBackTop", unfollowed := true, recurses := true, named := ["math/bits.deBruijn64tab"], apart := false, laid := [("math/bits.deBruijn64tab", laid_math_bits_deBruijn64tab)] }
def FnBackTopSaid : Prop := fnBackTopRow.holds Tryz.pinned (OpenSpec.ofChange fnBackTopSpec)

/-- ITS FALSE NEIGHBOUR: 'it returns false'. Refute it at one input. -/
def fnBackTopWrong : ChangeSpec := { name := "fnBackTop", fn := fun _ => fun
  | [d1, d2] => { results := [.lit (.bool false)], args := [d1, d2] }
  | _ => none }
def FnBackTopWrongFalsely : Prop := fnBackTopRow.holds Tryz.pinned (OpenSpec.ofChange fnBackTopWrong)

/- THE SECOND FORM. 'bulk': how many values and letters a reading holds, each counted each time it is reached (what is shared counts as often as it is met; a slice's spare places count too). A statement '..UptoSaid' is the law's where the arguments, and the package variables that the reading takes, are together of bulk at most 1048576: NARROWER than '..Said'. Prove '..Said' where nothing that the law and all that it calls make is longer than what came in: it says more and counts as full. Else prove '..UptoSaid'. A law counts once. -/
mutual
def uptoBulk {H : Type} : DataW H → Nat
  | .lit (.string bytes) => bytes.length + 1
  | .lit _ => 1
  | .nil => 1
  | .ptr d => uptoBulk d + 1
  | .slice elems spare => uptoBulkAll elems + uptoBulkAll spare + 1
  | .agg parts => uptoBulkAll parts + 1
  | .iface _ d => uptoBulk d + 1
  | .map entries => uptoBulkEntries entries + 1
  | .held _ => 1
def uptoBulkAll {H : Type} : List (DataW H) → Nat
  | [] => 0
  | d :: r => uptoBulk d + uptoBulkAll r
def uptoBulkEntries {H : Type} : List (Lit × DataW H) → Nat
  | [] => 0
  | x :: r => uptoBulkEntry x + uptoBulkEntries r
def uptoBulkEntry {H : Type} : Lit × DataW H → Nat
  | (.string bytes, d) => bytes.length + uptoBulk d + 1
  | (_, d) => uptoBulk d + 1
 end
def uptoSmall : (H : Type) → List (DataW H) → Bool := fun _ ds => decide (uptoBulkAll ds ≤ 1048576)
def OpenSpec.upto (s : _root_.Go.ChangeSpec) : _root_.Go.OpenSpec := { _root_.Go.OpenSpec.ofChange s with cond := some uptoSmall }

/-- 'laws.FnSpanTight', WHERE WHAT IT READS IS OF BULK AT MOST 1048576: true; the input reads as it did. -/
def fnSpanTightUptoRow : OpenClaim := { program := "ytbdlklncblklnaagreatdoor", sum := "494684678810d4c21caf2d9010e58e7cd9dc4c28f50aaf7a88dd4cbd3ed44338", func := "loop.example/pinfold/laws.FnSpanTight", spec := "fnSpanTight", unfollowed := true, recurses := true, named := ["math/bits.deBruijn64tab"], apart := false, laid := [("math/bits.deBruijn64tab", laid_math_bits_deBruijn64tab)], narrowed := true }
def FnSpanTightUptoSaid : Prop := fnSpanTightUptoRow.holds Tryz.pinned (OpenSpec.upto fnSpanTightSpec)

/-- 'laws.FnSpanDivTwo', WHERE WHAT IT READS IS OF BULK AT MOST 1048576: true; the input reads as it did. -/
def fnSpanDivTwoUptoRow : OpenClaim := { program := "ytbdlklncblklnaagreatdoor", sum := "494684678810d4c21caf2d9010e58e7cd9dc4c28f50aaf7a88dd4cbd3ed44338", func := "loop.example/pinfold/laws.FnSpanDivTwo", spec := "fnSpanDivTwo", unfollowed := true, recurses := true, named := ["math/bits.deBruijn64tab"], apart := false, laid := [("math/bits.deBruijn64tab", laid_math_bits_deBruijn64tab)], narrowed := true }
def FnSpanDivTwoUptoSaid : Prop := fnSpanDivTwoUptoRow.holds Tryz.pinned (OpenSpec.upto fnSpanDivTwoSpec)

/-- 'laws.FnBackGap', WHERE WHAT IT READS IS OF BULK AT MOST 1048576: true; the input reads as it did. -/
def fnBackGapUptoRow : OpenClaim := { program := "ytbdlklncblklnaagreatdoor", sum := "494684678810d4c21caf2d9010e58e7cd9dc4c28f50aaf7a88dd4cbd3ed44338", func := "loop.example/pinfold/laws.FnBackGap", spec := "fnBackGap", unfollowed := true, recurses := true, named := ["math/bits.deBruijn64tab"], apart := false, laid := [("math/bits.deBruijn64tab", laid_math_bits_deBruijn64tab)], narrowed := true }
def FnBackGapUptoSaid : Prop := fnBackGapUptoRow.holds Tryz.pinned (OpenSpec.upto fnBackGapSpec)

/-- 'laws.FnExactFloatShow', WHERE WHAT IT READS IS OF BULK AT MOST 1048576: true; the input reads as it did. -/
def fnExactFloatShowUptoRow : OpenClaim := { program := "ytbdlklncblklnaagreatdoor", sum := "494684678810d4c21caf2d9010e58e7cd9dc4c28f50aaf7a88dd4cbd3ed44338", func := "loop.example/pinfold/laws.FnExactFloatShow", spec := "fnExactFloatShow", inPlace := ["internal/abi.NoEscape", "internal/bytealg.MakeNoZero", "internal/bytealg.IndexByteString", "internal/bytealg.IndexString"], recurses := true, named := ["internal/strconv.uint64pow10", "math/bits.deBruijn32tab", "math/bits.deBruijn64tab", "unicode/utf8.first", "unicode/utf8.acceptRanges", "internal/bytealg.MaxLen"], apart := false, laid := [("math/bits.deBruijn32tab", laid_math_bits_deBruijn32tab), ("math/bits.deBruijn64tab", laid_math_bits_deBruijn64tab), ("internal/strconv.uint64pow10", laid_internal_strconv_uint64pow10), ("unicode/utf8.acceptRanges", laid_unicode_utf8_acceptRanges), ("unicode/utf8.first", laid_unicode_utf8_first)], narrowed := true }
def FnExactFloatShowUptoSaid : Prop := fnExactFloatShowUptoRow.holds Tryz.pinned (OpenSpec.upto fnExactFloatShowSpec)

/-- 'laws.FnSpanMore', WHERE WHAT IT READS IS OF BULK AT MOST 1048576: true; the input reads as it did. -/
def fnSpanMoreUptoRow : OpenClaim := { program := "ytbdlklncblklnaagreatdoor", sum := "494684678810d4c21caf2d9010e58e7cd9dc4c28f50aaf7a88dd4cbd3ed44338", func := "loop.example/pinfold/laws.FnSpanMore", spec := "fnSpanMore", unfollowed := true, recurses := true, named := ["math/bits.deBruijn64tab"], apart := false, laid := [("math/bits.deBruijn64tab", laid_math_bits_deBruijn64tab)], narrowed := true }
def FnSpanMoreUptoSaid : Prop := fnSpanMoreUptoRow.holds Tryz.pinned (OpenSpec.upto fnSpanMoreSpec)

/-- 'laws.FnSpanWidths', WHERE WHAT IT READS IS OF BULK AT MOST 1048576: true; the input reads as it did. -/
def fnSpanWidthsUptoRow : OpenClaim := { program := "ytbdlklncblklnaagreatdoor", sum := "494684678810d4c21caf2d9010e58e7cd9dc4c28f50aaf7a88dd4cbd3ed44338", func := "loop.example/pinfold/laws.FnSpanWidths", spec := "fnSpanWidths", unfollowed := true, recurses := true, named := ["math/bits.deBruijn64tab"], apart := false, laid := [("math/bits.deBruijn64tab", laid_math_bits_deBruijn64tab)], narrowed := true }
def FnSpanWidthsUptoSaid : Prop := fnSpanWidthsUptoRow.holds Tryz.pinned (OpenSpec.upto fnSpanWidthsSpec)

/-- 'laws.FnSpanTop', WHERE WHAT IT READS IS OF BULK AT MOST 1048576: true; the input reads as it did. -/
def fnSpanTopUptoRow : OpenClaim := { program := "ytbdlklncblklnaagreatdoor", sum := "494684678810d4c21caf2d9010e58e7cd9dc4c28f50aaf7a88dd4cbd3ed44338", func := "loop.example/pinfold/laws.FnSpanTop", spec := "fnSpanTop", unfollowed := true, recurses := true, named := ["math/bits.deBruijn64tab"], apart := false, laid := [("math/bits.deBruijn64tab", laid_math_bits_deBruijn64tab)], narrowed := true }
def FnSpanTopUptoSaid : Prop := fnSpanTopUptoRow.holds Tryz.pinned (OpenSpec.upto fnSpanTopSpec)

/-- 'laws.FnFloatShow', WHERE WHAT IT READS IS OF BULK AT MOST 1048576: true; the input reads as it did. -/
def fnFloatShowUptoRow : OpenClaim := { program := "ytbdlklncblklnaagreatdoor", sum := "494684678810d4c21caf2d9010e58e7cd9dc4c28f50aaf7a88dd4cbd3ed44338", func := "loop.example/pinfold/laws.FnFloatShow", spec := "fnFloatShow", inPlace := ["internal/abi.NoEscape", "internal/bytealg.MakeNoZero", "internal/bytealg.IndexByteString", "internal/bytealg.IndexString"], recurses := true, named := ["internal/strconv.uint64pow10", "math/bits.deBruijn32tab", "math/bits.deBruijn64tab", "unicode/utf8.first", "unicode/utf8.acceptRanges", "internal/bytealg.MaxLen"], apart := false, laid := [("math/bits.deBruijn32tab", laid_math_bits_deBruijn32tab), ("math/bits.deBruijn64tab", laid_math_bits_deBruijn64tab), ("internal/strconv.uint64pow10", laid_internal_strconv_uint64pow10), ("unicode/utf8.acceptRanges", laid_unicode_utf8_acceptRanges), ("unicode/utf8.first", laid_unicode_utf8_first)], narrowed := true }
def FnFloatShowUptoSaid : Prop := fnFloatShowUptoRow.holds Tryz.pinned (OpenSpec.upto fnFloatShowSpec)

/-- 'laws.FnBackTop', WHERE WHAT IT READS IS OF BULK AT MOST 1048576: true; the input reads as it did. -/
def fnBackTopUptoRow : OpenClaim := { program := "ytbdlklncblklnaagreatdoor", sum := "494684678810d4c21caf2d9010e58e7cd9dc4c28f50aaf7a88dd4cbd3ed44338", func := "loop.example/pinfold/laws.FnBackTop", spec := "fnBackTop", unfollowed := true, recurses := true, named := ["math/bits.deBruijn64tab"], apart := false, laid := [("math/bits.deBruijn64tab", laid_math_bits_deBruijn64tab)], narrowed := true }
def FnBackTopUptoSaid : Prop := fnBackTopUptoRow.holds Tryz.pinned (OpenSpec.upto fnBackTopSpec)

end Rows
end Go.Proofs.YtbdlklncblklnaaGreatDoor
