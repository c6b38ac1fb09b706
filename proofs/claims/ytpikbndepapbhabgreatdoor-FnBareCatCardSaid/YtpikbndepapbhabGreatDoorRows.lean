/-
  NARROWER THAN 'FOR EVERY INPUT', by the rows' own cells (each row's printed sentence says how): FnBareRun: laid · FnBareText: laid · FnExactBareAll: laid · FnExactPageOf: laid · FnPage: laid · FnBareCat: laid · FnExactBookOk: laid · FnExactBookBare: laid · FnExactBookText: laid.
  DERIVED. THE GIVEN ROWS OF THIS SEAT. 9 by the template 'for every input the law returns true; each argument reads behind the call as it read before'; 0 by the template 'total and deterministic' (their statements: YtpikbndepapbhabGreatDoorTotals.lean).
  GIVEN WITH THE SEED: the statements are not yours to turn. If you find one false, say at which input.
  Laid BY PROGRAM, IN A SANDBOX (cutbox-rows.mjs): the forced cells as the released guide's own fill.sh prints them over the translation c272cce1acb0ed83… (all of the seat's roots in one cut). By AI agents, Wed Nov 11 2026. No macro, syntax, notation, axiom, sorry.
-/
import Derived.Test.YtpikbndepapbhabGreatDoorChecked
import GoSem.PinnedTables
import GoSem.Claim
import GoSem.ClaimJoined
import GoSem.ClaimMapViews
import Derived.JoinedTies
import Derived.KernelRfl
namespace Go.Proofs.YtpikbndepapbhabGreatDoor
/- THE CELL 'sum', in the pinned program and in every row, IS THE sha256 OF THE DUMP (.gsa) THAT YtpikbndepapbhabGreatDoorProg.lean LOADS. Nothing in Lean hashes anything: it is a label: what it is worth is what the hold of that sum in a sandbox is worth. -/
noncomputable def Tryz.pinned : Pinned := { name := "ytpikbndepapbhabgreatdoor", sum := "c272cce1acb0ed839a41fd3079065a29383dc5587e17b4b8d51e25b13a04fd7f", checked := Tryz.checked }
namespace Rows
def none {H : Type} : Left H := { results := [], args := [] }

/- WHAT THE LISTED PACKAGE-LEVEL VARIABLES READ AS WHEN THE CALL BEGINS. Each datum BY PROGRAM (the guide's laid-datum.mjs) off the statement by which the dump's own 'gosem.cut.vars' lays the variable. In a bare row this is a premise. The card (YtpikbndepapbhabGreatDoorCards.lean) ties it to the program's text. -/
def laid_math_bits_deBruijn32tab {H : Type} : DataW H := .agg [.lit (.int .u8 0), .lit (.int .u8 1), .lit (.int .u8 28), .lit (.int .u8 2), .lit (.int .u8 29), .lit (.int .u8 14), .lit (.int .u8 24), .lit (.int .u8 3), .lit (.int .u8 30), .lit (.int .u8 22), .lit (.int .u8 20), .lit (.int .u8 15), .lit (.int .u8 25), .lit (.int .u8 17), .lit (.int .u8 4), .lit (.int .u8 8), .lit (.int .u8 31), .lit (.int .u8 27), .lit (.int .u8 13), .lit (.int .u8 23), .lit (.int .u8 21), .lit (.int .u8 19), .lit (.int .u8 16), .lit (.int .u8 7), .lit (.int .u8 26), .lit (.int .u8 12), .lit (.int .u8 18), .lit (.int .u8 6), .lit (.int .u8 11), .lit (.int .u8 5), .lit (.int .u8 10), .lit (.int .u8 9)]
def laid_math_bits_deBruijn64tab {H : Type} : DataW H := .agg [.lit (.int .u8 0), .lit (.int .u8 1), .lit (.int .u8 56), .lit (.int .u8 2), .lit (.int .u8 57), .lit (.int .u8 49), .lit (.int .u8 28), .lit (.int .u8 3), .lit (.int .u8 61), .lit (.int .u8 58), .lit (.int .u8 42), .lit (.int .u8 50), .lit (.int .u8 38), .lit (.int .u8 29), .lit (.int .u8 17), .lit (.int .u8 4), .lit (.int .u8 62), .lit (.int .u8 47), .lit (.int .u8 59), .lit (.int .u8 36), .lit (.int .u8 45), .lit (.int .u8 43), .lit (.int .u8 51), .lit (.int .u8 22), .lit (.int .u8 53), .lit (.int .u8 39), .lit (.int .u8 33), .lit (.int .u8 30), .lit (.int .u8 24), .lit (.int .u8 18), .lit (.int .u8 12), .lit (.int .u8 5), .lit (.int .u8 63), .lit (.int .u8 55), .lit (.int .u8 48), .lit (.int .u8 27), .lit (.int .u8 60), .lit (.int .u8 41), .lit (.int .u8 37), .lit (.int .u8 16), .lit (.int .u8 46), .lit (.int .u8 35), .lit (.int .u8 44), .lit (.int .u8 21), .lit (.int .u8 52), .lit (.int .u8 32), .lit (.int .u8 23), .lit (.int .u8 11), .lit (.int .u8 54), .lit (.int .u8 26), .lit (.int .u8 40), .lit (.int .u8 15), .lit (.int .u8 34), .lit (.int .u8 20), .lit (.int .u8 31), .lit (.int .u8 10), .lit (.int .u8 25), .lit (.int .u8 14), .lit (.int .u8 19), .lit (.int .u8 9), .lit (.int .u8 13), .lit (.int .u8 8), .lit (.int .u8 7), .lit (.int .u8 6)]
def laid_internal_strconv_uint64pow10 {H : Type} : DataW H := .agg [.lit (.int .u64 1), .lit (.int .u64 10), .lit (.int .u64 100), .lit (.int .u64 1000), .lit (.int .u64 10000), .lit (.int .u64 100000), .lit (.int .u64 1000000), .lit (.int .u64 10000000), .lit (.int .u64 100000000), .lit (.int .u64 1000000000), .lit (.int .u64 10000000000), .lit (.int .u64 100000000000), .lit (.int .u64 1000000000000), .lit (.int .u64 10000000000000), .lit (.int .u64 100000000000000), .lit (.int .u64 1000000000000000), .lit (.int .u64 10000000000000000), .lit (.int .u64 100000000000000000), .lit (.int .u64 1000000000000000000), .lit (.int .u64 10000000000000000000)]
def laid_unicode_utf8_acceptRanges {H : Type} : DataW H := .agg [.agg [.lit (.int .u8 128), .lit (.int .u8 191)], .agg [.lit (.int .u8 160), .lit (.int .u8 191)], .agg [.lit (.int .u8 128), .lit (.int .u8 159)], .agg [.lit (.int .u8 144), .lit (.int .u8 191)], .agg [.lit (.int .u8 128), .lit (.int .u8 143)], .agg [.lit (.int .u8 0), .lit (.int .u8 0)], .agg [.lit (.int .u8 0), .lit (.int .u8 0)], .agg [.lit (.int .u8 0), .lit (.int .u8 0)], .agg [.lit (.int .u8 0), .lit (.int .u8 0)], .agg [.lit (.int .u8 0), .lit (.int .u8 0)], .agg [.lit (.int .u8 0), .lit (.int .u8 0)], .agg [.lit (.int .u8 0), .lit (.int .u8 0)], .agg [.lit (.int .u8 0), .lit (.int .u8 0)], .agg [.lit (.int .u8 0), .lit (.int .u8 0)], .agg [.lit (.int .u8 0), .lit (.int .u8 0)], .agg [.lit (.int .u8 0), .lit (.int .u8 0)]]
def laid_strconv_ErrRange {H : Type} : DataW H := .iface "*errors.errorString" (.ptr (.agg [.lit (.string [118, 97, 108, 117, 101, 32, 111, 117, 116, 32, 111, 102, 32, 114, 97, 110, 103, 101])]))
def laid_strconv_ErrSyntax {H : Type} : DataW H := .iface "*errors.errorString" (.ptr (.agg [.lit (.string [105, 110, 118, 97, 108, 105, 100, 32, 115, 121, 110, 116, 97, 120])]))
def laid_loop_example_interlinear_impl_ownWords {H : Type} : DataW H := .slice [.lit (.string [108, 101, 116]), .lit (.string [115, 97, 121]), .lit (.string [119, 104, 101, 110]), .lit (.string [97, 115]), .lit (.string [112, 114, 105, 110, 116]), .lit (.string [105, 102]), .lit (.string [105, 110, 116]), .lit (.string [98, 111, 111, 108])] []
/-- One of Go's own tables, pinned by name: the form's constant. -/
def laid_unicode_utf8_first : DataW Unit := Go.Pinned.utf8First

/-- 'laws.FnBareRun': WHATEVER THE INPUT: true; the input reads as it did. -/
def fnBareRunSpec : ChangeSpec := { name := "fnBareRun", vars := ["loop.example/interlinear/impl.ownWords"], fn := fun _ => fun
  | [d1, d2, g1] => { results := [.lit (.bool true)], args := [d1, d2], vars := [g1] }
  | _ => none }
def fnBareRunRow : OpenClaim := { program := "ytpikbndepapbhabgreatdoor", sum := "c272cce1acb0ed839a41fd3079065a29383dc5587e17b4b8d51e25b13a04fd7f", func := "loop.example/interlinear/laws.FnBareRun", spec := "fnBareRun", inPlace := ["internal/bytealg.IndexByteString", "internal/bytealg.IndexString", "internal/abi.NoEscape", "internal/bytealg.MakeNoZero", "internal/bytealg.CountString"], unfollowed := true, recurses := true, named := ["loop.example/interlinear/impl.ownWords", "strconv.ErrSyntax", "strconv.ErrRange", "internal/strconv.uint64pow10", "math/bits.deBruijn32tab", "math/bits.deBruijn64tab", "internal/bytealg.MaxLen", "unicode/utf8.first", "unicode/utf8.acceptRanges"], apart := false, laid := [("math/bits.deBruijn32tab", laid_math_bits_deBruijn32tab), ("math/bits.deBruijn64tab", laid_math_bits_deBruijn64tab), ("internal/strconv.uint64pow10", laid_internal_strconv_uint64pow10), ("unicode/utf8.acceptRanges", laid_unicode_utf8_acceptRanges), ("strconv.ErrRange", laid_strconv_ErrRange), ("strconv.ErrSyntax", laid_strconv_ErrSyntax), ("loop.example/interlinear/impl.ownWords", laid_loop_example_interlinear_impl_ownWords), ("unicode/utf8.first", laid_unicode_utf8_first)] }
def FnBareRunSaid : Prop := fnBareRunRow.holds Tryz.pinned (OpenSpec.ofChange fnBareRunSpec)

/-- ITS FALSE NEIGHBOUR: 'it returns false'. Refute it at one input. -/
def fnBareRunWrong : ChangeSpec := { name := "fnBareRun", vars := ["loop.example/interlinear/impl.ownWords"], fn := fun _ => fun
  | [d1, d2, g1] => { results := [.lit (.bool false)], args := [d1, d2], vars := [g1] }
  | _ => none }
def FnBareRunWrongFalsely : Prop := fnBareRunRow.holds Tryz.pinned (OpenSpec.ofChange fnBareRunWrong)

/-- 'laws.FnBareText': WHATEVER THE INPUT: true; the input reads as it did. -/
def fnBareTextSpec : ChangeSpec := { name := "fnBareText", vars := ["loop.example/interlinear/impl.ownWords"], fn := fun _ => fun
  | [d1, d2, g1] => { results := [.lit (.bool true)], args := [d1, d2], vars := [g1] }
  | _ => none }
def fnBareTextRow : OpenClaim := { program := "ytpikbndepapbhabgreatdoor", sum := "c272cce1acb0ed839a41fd3079065a29383dc5587e17b4b8d51e25b13a04fd7f", func := "loop.example/interlinear/laws.FnBareText", spec := "fnBareText", inPlace := ["internal/bytealg.IndexByteString", "internal/bytealg.IndexString", "internal/abi.NoEscape", "internal/bytealg.MakeNoZero"], unfollowed := true, recurses := true, named := ["loop.example/interlinear/impl.ownWords", "strconv.ErrSyntax", "strconv.ErrRange", "internal/strconv.uint64pow10", "math/bits.deBruijn32tab", "math/bits.deBruijn64tab", "internal/bytealg.MaxLen"], apart := false, laid := [("math/bits.deBruijn32tab", laid_math_bits_deBruijn32tab), ("math/bits.deBruijn64tab", laid_math_bits_deBruijn64tab), ("internal/strconv.uint64pow10", laid_internal_strconv_uint64pow10), ("strconv.ErrRange", laid_strconv_ErrRange), ("strconv.ErrSyntax", laid_strconv_ErrSyntax), ("loop.example/interlinear/impl.ownWords", laid_loop_example_interlinear_impl_ownWords)] }
def FnBareTextSaid : Prop := fnBareTextRow.holds Tryz.pinned (OpenSpec.ofChange fnBareTextSpec)

/-- ITS FALSE NEIGHBOUR: 'it returns false'. Refute it at one input. -/
def fnBareTextWrong : ChangeSpec := { name := "fnBareText", vars := ["loop.example/interlinear/impl.ownWords"], fn := fun _ => fun
  | [d1, d2, g1] => { results := [.lit (.bool false)], args := [d1, d2], vars := [g1] }
  | _ => none }
def FnBareTextWrongFalsely : Prop := fnBareTextRow.holds Tryz.pinned (OpenSpec.ofChange fnBareTextWrong)

/-- 'laws.FnExactBareAll': WHATEVER THE INPUT: true; the input reads as it did. -/
def fnExactBareAllSpec : ChangeSpec := { name := "fnExactBareAll", vars := ["loop.example/interlinear/impl.ownWords"], fn := fun _ => fun
  | [d, g1] => { results := [.lit (.bool true)], args := [d], vars := [g1] }
  | _ => none }
def fnExactBareAllRow : OpenClaim := { program := "ytpikbndepapbhabgreatdoor", sum := "c272cce1acb0ed839a41fd3079065a29383dc5587e17b4b8d51e25b13a04fd7f", func := "loop.example/interlinear/laws.FnExactBareAll", spec := "fnExactBareAll", inPlace := ["internal/bytealg.CountString", "internal/bytealg.IndexByteString", "internal/bytealg.IndexString", "internal/abi.NoEscape", "internal/bytealg.MakeNoZero"], unfollowed := true, recurses := true, named := ["unicode/utf8.first", "unicode/utf8.acceptRanges", "internal/bytealg.MaxLen", "strconv.ErrSyntax", "strconv.ErrRange", "internal/strconv.uint64pow10", "math/bits.deBruijn32tab", "math/bits.deBruijn64tab", "loop.example/interlinear/impl.ownWords"], apart := false, laid := [("math/bits.deBruijn32tab", laid_math_bits_deBruijn32tab), ("math/bits.deBruijn64tab", laid_math_bits_deBruijn64tab), ("internal/strconv.uint64pow10", laid_internal_strconv_uint64pow10), ("unicode/utf8.acceptRanges", laid_unicode_utf8_acceptRanges), ("strconv.ErrRange", laid_strconv_ErrRange), ("strconv.ErrSyntax", laid_strconv_ErrSyntax), ("loop.example/interlinear/impl.ownWords", laid_loop_example_interlinear_impl_ownWords), ("unicode/utf8.first", laid_unicode_utf8_first)] }
def FnExactBareAllSaid : Prop := fnExactBareAllRow.holds Tryz.pinned (OpenSpec.ofChange fnExactBareAllSpec)

/-- ITS FALSE NEIGHBOUR: 'it returns false'. Refute it at one input. -/
def fnExactBareAllWrong : ChangeSpec := { name := "fnExactBareAll", vars := ["loop.example/interlinear/impl.ownWords"], fn := fun _ => fun
  | [d, g1] => { results := [.lit (.bool false)], args := [d], vars := [g1] }
  | _ => none }
def FnExactBareAllWrongFalsely : Prop := fnExactBareAllRow.holds Tryz.pinned (OpenSpec.ofChange fnExactBareAllWrong)

/-- 'laws.FnExactPageOf': WHATEVER THE INPUT: true; the input reads as it did. -/
def fnExactPageOfSpec : ChangeSpec := { name := "fnExactPageOf", vars := ["loop.example/interlinear/impl.ownWords"], fn := fun _ => fun
  | [d, g1] => { results := [.lit (.bool true)], args := [d], vars := [g1] }
  | _ => none }
def fnExactPageOfRow : OpenClaim := { program := "ytpikbndepapbhabgreatdoor", sum := "c272cce1acb0ed839a41fd3079065a29383dc5587e17b4b8d51e25b13a04fd7f", func := "loop.example/interlinear/laws.FnExactPageOf", spec := "fnExactPageOf", inPlace := ["internal/bytealg.IndexByteString", "internal/bytealg.IndexString", "internal/abi.NoEscape", "internal/bytealg.MakeNoZero"], unfollowed := true, recurses := true, named := ["internal/bytealg.MaxLen", "strconv.ErrSyntax", "strconv.ErrRange", "internal/strconv.uint64pow10", "math/bits.deBruijn32tab", "math/bits.deBruijn64tab", "loop.example/interlinear/impl.ownWords"], apart := false, laid := [("math/bits.deBruijn32tab", laid_math_bits_deBruijn32tab), ("math/bits.deBruijn64tab", laid_math_bits_deBruijn64tab), ("internal/strconv.uint64pow10", laid_internal_strconv_uint64pow10), ("strconv.ErrRange", laid_strconv_ErrRange), ("strconv.ErrSyntax", laid_strconv_ErrSyntax), ("loop.example/interlinear/impl.ownWords", laid_loop_example_interlinear_impl_ownWords)] }
def FnExactPageOfSaid : Prop := fnExactPageOfRow.holds Tryz.pinned (OpenSpec.ofChange fnExactPageOfSpec)

/-- ITS FALSE NEIGHBOUR: 'it returns false'. Refute it at one input. -/
def fnExactPageOfWrong : ChangeSpec := { name := "fnExactPageOf", vars := ["loop.example/interlinear/impl.ownWords"], fn := fun _ => fun
  | [d, g1] => { results := [.lit (.bool false)], args := [d], vars := [g1] }
  | _ => none }
def FnExactPageOfWrongFalsely : Prop := fnExactPageOfRow.holds Tryz.pinned (OpenSpec.ofChange fnExactPageOfWrong)

/-- 'laws.FnPage': WHATEVER THE INPUT: true; the input reads as it did. -/
def fnPageSpec : ChangeSpec := { name := "fnPage", vars := ["loop.example/interlinear/impl.ownWords"], fn := fun _ => fun
  | [d, g1] => { results := [.lit (.bool true)], args := [d], vars := [g1] }
  | _ => none }
def fnPageRow : OpenClaim := { program := "ytpikbndepapbhabgreatdoor", sum := "c272cce1acb0ed839a41fd3079065a29383dc5587e17b4b8d51e25b13a04fd7f", func := "loop.example/interlinear/laws.FnPage", spec := "fnPage", inPlace := ["internal/bytealg.IndexByteString", "internal/bytealg.IndexString", "internal/abi.NoEscape", "internal/bytealg.MakeNoZero"], unfollowed := true, recurses := true, named := ["internal/bytealg.MaxLen", "strconv.ErrSyntax", "strconv.ErrRange", "internal/strconv.uint64pow10", "math/bits.deBruijn32tab", "math/bits.deBruijn64tab", "loop.example/interlinear/impl.ownWords"], apart := false, laid := [("math/bits.deBruijn32tab", laid_math_bits_deBruijn32tab), ("math/bits.deBruijn64tab", laid_math_bits_deBruijn64tab), ("internal/strconv.uint64pow10", laid_internal_strconv_uint64pow10), ("strconv.ErrRange", laid_strconv_ErrRange), ("strconv.ErrSyntax", laid_strconv_ErrSyntax), ("loop.example/interlinear/impl.ownWords", laid_loop_example_interlinear_impl_ownWords)] }
def FnPageSaid : Prop := fnPageRow.holds Tryz.pinned (OpenSpec.ofChange fnPageSpec)

/-- ITS FALSE NEIGHBOUR: 'it returns false'. Refute it at one input. -/
def fnPageWrong : ChangeSpec := { name := "fnPage", vars := ["loop.example/interlinear/impl.ownWords"], fn := fun _ => fun
  | [d, g1] => { results := [.lit (.bool false)], args := [d], vars := [g1] }
  | _ => none }
def FnPageWrongFalsely : Prop := fnPageRow.holds Tryz.pinned (OpenSpec.ofChange fnPageWrong)

/-- 'laws.FnBareCat': WHATEVER THE INPUT: true; the input reads as it did. -/
def fnBareCatSpec : ChangeSpec := { name := "fnBareCat", vars := ["loop.example/interlinear/impl.ownWords"], fn := fun _ => fun
  | [d1, d2, g1] => { results := [.lit (.bool true)], args := [d1, d2], vars := [g1] }
  | _ => none }
def fnBareCatRow : OpenClaim := { program := "ytpikbndepapbhabgreatdoor", sum := "c272cce1acb0ed839a41fd3079065a29383dc5587e17b4b8d51e25b13a04fd7f", func := "loop.example/interlinear/laws.FnBareCat", spec := "fnBareCat", inPlace := ["internal/bytealg.IndexByteString", "internal/bytealg.IndexString", "internal/abi.NoEscape", "internal/bytealg.MakeNoZero"], unfollowed := true, recurses := true, named := ["loop.example/interlinear/impl.ownWords", "strconv.ErrSyntax", "strconv.ErrRange", "internal/strconv.uint64pow10", "math/bits.deBruijn32tab", "math/bits.deBruijn64tab", "internal/bytealg.MaxLen"], apart := false, laid := [("math/bits.deBruijn32tab", laid_math_bits_deBruijn32tab), ("math/bits.deBruijn64tab", laid_math_bits_deBruijn64tab), ("internal/strconv.uint64pow10", laid_internal_strconv_uint64pow10), ("strconv.ErrRange", laid_strconv_ErrRange), ("strconv.ErrSyntax", laid_strconv_ErrSyntax), ("loop.example/interlinear/impl.ownWords", laid_loop_example_interlinear_impl_ownWords)] }
def FnBareCatSaid : Prop := fnBareCatRow.holds Tryz.pinned (OpenSpec.ofChange fnBareCatSpec)

/-- ITS FALSE NEIGHBOUR: 'it returns false'. Refute it at one input. -/
def fnBareCatWrong : ChangeSpec := { name := "fnBareCat", vars := ["loop.example/interlinear/impl.ownWords"], fn := fun _ => fun
  | [d1, d2, g1] => { results := [.lit (.bool false)], args := [d1, d2], vars := [g1] }
  | _ => none }
def FnBareCatWrongFalsely : Prop := fnBareCatRow.holds Tryz.pinned (OpenSpec.ofChange fnBareCatWrong)

/-- 'laws.FnExactBookOk': WHATEVER THE INPUT: true; the input reads as it did. -/
def fnExactBookOkSpec : ChangeSpec := { name := "fnExactBookOk", vars := ["loop.example/interlinear/impl.ownWords"], fn := fun _ => fun
  | [d, g1] => { results := [.lit (.bool true)], args := [d], vars := [g1] }
  | _ => none }
def fnExactBookOkRow : OpenClaim := { program := "ytpikbndepapbhabgreatdoor", sum := "c272cce1acb0ed839a41fd3079065a29383dc5587e17b4b8d51e25b13a04fd7f", func := "loop.example/interlinear/laws.FnExactBookOk", spec := "fnExactBookOk", inPlace := ["internal/bytealg.IndexByteString", "internal/bytealg.IndexString", "internal/abi.NoEscape", "internal/bytealg.MakeNoZero"], unfollowed := true, recurses := true, named := ["internal/bytealg.MaxLen", "strconv.ErrSyntax", "strconv.ErrRange", "internal/strconv.uint64pow10", "math/bits.deBruijn32tab", "math/bits.deBruijn64tab", "loop.example/interlinear/impl.ownWords"], apart := false, laid := [("math/bits.deBruijn32tab", laid_math_bits_deBruijn32tab), ("math/bits.deBruijn64tab", laid_math_bits_deBruijn64tab), ("internal/strconv.uint64pow10", laid_internal_strconv_uint64pow10), ("strconv.ErrRange", laid_strconv_ErrRange), ("strconv.ErrSyntax", laid_strconv_ErrSyntax), ("loop.example/interlinear/impl.ownWords", laid_loop_example_interlinear_impl_ownWords)] }
def FnExactBookOkSaid : Prop := fnExactBookOkRow.holds Tryz.pinned (OpenSpec.ofChange fnExactBookOkSpec)

/-- ITS FALSE NEIGHBOUR: 'it returns false'. Refute it at one input. -/
def fnExactBookOkWrong : ChangeSpec := { name := "fnExactBookOk", vars := ["loop.example/interlinear/impl.ownWords"], fn := fun _ => fun
  | [d, g1] => { results := [.lit (.bool false)], args := [d], vars := [g1] }
  | _ => none }
def FnExactBookOkWrongFalsely : Prop := fnExactBookOkRow.holds Tryz.pinned (OpenSpec.ofChange fnExactBookOkWrong)

/-- 'laws.FnExactBookBare': WHATEVER THE INPUT: true; the input reads as it did. -/
def fnExactBookBareSpec : ChangeSpec := { name := "fnExactBookBare", vars := ["loop.example/interlinear/impl.ownWords"], fn := fun _ => fun
  | [d, g1] => { results := [.lit (.bool true)], args := [d], vars := [g1] }
  | _ => none }
def fnExactBookBareRow : OpenClaim := { program := "ytpikbndepapbhabgreatdoor", sum := "c272cce1acb0ed839a41fd3079065a29383dc5587e17b4b8d51e25b13a04fd7f", func := "loop.example/interlinear/laws.FnExactBookBare", spec := "fnExactBookBare", inPlace := ["internal/bytealg.IndexByteString", "internal/bytealg.IndexString", "internal/abi.NoEscape", "internal/bytealg.MakeNoZero"], unfollowed := true, recurses := true, named := ["internal/bytealg.MaxLen", "strconv.ErrSyntax", "strconv.ErrRange", "internal/strconv.uint64pow10", "math/bits.deBruijn32tab", "math/bits.deBruijn64tab", "loop.example/interlinear/impl.ownWords"], apart := false, laid := [("math/bits.deBruijn32tab", laid_math_bits_deBruijn32tab), ("math/bits.deBruijn64tab", laid_math_bits_deBruijn64tab), ("internal/strconv.uint64pow10", laid_internal_strconv_uint64pow10), ("strconv.ErrRange", laid_strconv_ErrRange), ("strconv.ErrSyntax", laid_strconv_ErrSyntax), ("loop.example/interlinear/impl.ownWords", laid_loop_example_interlinear_impl_ownWords)] }
def FnExactBookBareSaid : Prop := fnExactBookBareRow.holds Tryz.pinned (OpenSpec.ofChange fnExactBookBareSpec)

/-- ITS FALSE NEIGHBOUR: 'it returns false'. Refute it at one input. -/
def fnExactBookBareWrong : ChangeSpec := { name := "fnExactBookBare", vars := ["loop.example/interlinear/impl.ownWords"], fn := fun _ => fun
  | [d, g1] => { results := [.lit (.bool false)], args := [d], vars := [g1] }
  | _ => none }
def FnExactBookBareWrongFalsely : Prop := fnExactBookBareRow.holds Tryz.pinned (OpenSpec.ofChange fnExactBookBareWrong)

/-- 'laws.FnExactBookText': WHATEVER THE INPUT: true; the input reads as it did. -/
def fnExactBookTextSpec : ChangeSpec := { name := "fnExactBookText", vars := ["loop.example/interlinear/impl.ownWords"], fn := fun _ => fun
  | [d, g1] => { results := [.lit (.bool true)], args := [d], vars := [g1] }
  | _ => none }
def fnExactBookTextRow : OpenClaim := { program := "ytpikbndepapbhabgreatdoor", sum := "c272cce1acb0ed839a41fd3079065a29383dc5587e17b4b8d51e25b13a04fd7f", func := "loop.example/interlinear/laws.FnExactBookText", spec := "fnExactBookText", inPlace := ["internal/bytealg.IndexByteString", "internal/bytealg.IndexString", "internal/abi.NoEscape", "internal/bytealg.MakeNoZero"], unfollowed := true, recurses := true, named := ["internal/bytealg.MaxLen", "strconv.ErrSyntax", "strconv.ErrRange", "internal/strconv.uint64pow10", "math/bits.deBruijn32tab", "math/bits.deBruijn64tab", "loop.example/interlinear/impl.ownWords"], apart := false, laid := [("math/bits.deBruijn32tab", laid_math_bits_deBruijn32tab), ("math/bits.deBruijn64tab", laid_math_bits_deBruijn64tab), ("internal/strconv.uint64pow10", laid_internal_strconv_uint64pow10), ("strconv.ErrRange", laid_strconv_ErrRange), ("strconv.ErrSyntax", laid_strconv_ErrSyntax), ("loop.example/interlinear/impl.ownWords", laid_loop_example_interlinear_impl_ownWords)] }
def FnExactBookTextSaid : Prop := fnExactBookTextRow.holds Tryz.pinned (OpenSpec.ofChange fnExactBookTextSpec)

/-- ITS FALSE NEIGHBOUR: 'it returns false'. Refute it at one input. -/
def fnExactBookTextWrong : ChangeSpec := { name := "fnExactBookText", vars := ["loop.example/interlinear/impl.ownWords"], fn := fun _ => fun
  | [d, g1] => { results := [.lit (.bool false)], args := [d], vars := [g1] }
  | _ => none }
def FnExactBookTextWrongFalsely : Prop := fnExactBookTextRow.holds Tryz.pinned (OpenSpec.ofChange fnExactBookTextWrong)

/- THE SECOND FORM. 'bulk': how many values and letters a reading holds, each counted each time it is reached (what is shared counts as often as it is met; a slice's spare places count too). A statement '..UptoSaid' is the law's where the arguments, and the package variables that the reading takes, are together of bulk at most 1048576: NARROWER than '..Said'. Prove '..Said' where nothing that the law and all that it calls make is longer than what came in: it says more and counts as full. Else prove '..UptoSaid'. A law counts once. -/
mutual
def uptoBulk {H : Type} : DataW H → Nat
  | .lit (.string bytes) => bytes.length + 1
  | .lit _ => 1
  | .nil => 1
  | .ptr d => uptoBulk d + 1
  | .slice elems spare => uptoBulkAll elems + uptoBulkAll spare + 1
  | .agg parts => uptoBulkAll parts + 1
  | .iface _ d => uptoBulk d + 1
  | .map entries => uptoBulkEntries entries + 1
  | .held _ => 1
def uptoBulkAll {H : Type} : List (DataW H) → Nat
  | [] => 0
  | d :: r => uptoBulk d + uptoBulkAll r
def uptoBulkEntries {H : Type} : List (Lit × DataW H) → Nat
  | [] => 0
  | x :: r => uptoBulkEntry x + uptoBulkEntries r
def uptoBulkEntry {H : Type} : Lit × DataW H → Nat
  | (.string bytes, d) => bytes.length + uptoBulk d + 1
  | (_, d) => uptoBulk d + 1
 end
def uptoSmall : (H : Type) → List (DataW H) → Bool := fun _ ds => decide (uptoBulkAll ds ≤ 1048576)
def OpenSpec.upto (s : _root_.Go.ChangeSpec) : _root_.Go.OpenSpec := { _root_.Go.OpenSpec.ofChange s with cond := some uptoSmall }

/-- 'laws.FnBareRun', WHERE WHAT IT READS IS OF BULK AT MOST 1048576: true; the input reads as it did. -/
def fnBareRunUptoRow : OpenClaim := { program := "ytpikbndepapbhabgreatdoor", sum := "c272cce1acb0ed839a41fd3079065a29383dc5587e17b4b8d51e25b13a04fd7f", func := "loop.example/interlinear/laws.FnBareRun", spec := "fnBareRun", inPlace := ["internal/bytealg.IndexByteString", "internal/bytealg.IndexString", "internal/abi.NoEscape", "internal/bytealg.MakeNoZero", "internal/bytealg.CountString"], unfollowed := true, recurses := true, named := ["loop.example/interlinear/impl.ownWords", "strconv.ErrSyntax", "strconv.ErrRange", "internal/strconv.uint64pow10", "math/bits.deBruijn32tab", "math/bits.deBruijn64tab", "internal/bytealg.MaxLen", "unicode/utf8.first", "unicode/utf8.acceptRanges"], apart := false, laid := [("math/bits.deBruijn32tab", laid_math_bits_deBruijn32tab), ("math/bits.deBruijn64tab", laid_math_bits_deBruijn64tab), ("internal/strconv.uint64pow10", laid_internal_strconv_uint64pow10), ("unicode/utf8.acceptRanges", laid_unicode_utf8_acceptRanges), ("strconv.ErrRange", laid_strconv_ErrRange), ("strconv.ErrSyntax", laid_strconv_ErrSyntax), ("loop.example/interlinear/impl.ownWords", laid_loop_example_interlinear_impl_ownWords), ("unicode/utf8.first", laid_unicode_utf8_first)], narrowed := true }
def FnBareRunUptoSaid : Prop := fnBareRunUptoRow.holds Tryz.pinned (OpenSpec.upto fnBareRunSpec)

/-- 'laws.FnBareText', WHERE WHAT IT READS IS OF BULK AT MOST 1048576: true; the input reads as it did. -/
def fnBareTextUptoRow : OpenClaim := { program := "ytpikbndepapbhabgreatdoor", sum := "c272cce1acb0ed839a41fd3079065a29383dc5587e17b4b8d51e25b13a04fd7f", func := "loop.example/interlinear/laws.FnBareText", spec := "fnBareText", inPlace := ["internal/bytealg.IndexByteString", "internal/bytealg.IndexString", "internal/abi.NoEscape", "internal/bytealg.MakeNoZero"], unfollowed := true, recurses := true, named := ["loop.example/interlinear/impl.ownWords", "strconv.ErrSyntax", "strconv.ErrRange", "internal/strconv.uint64pow10", "math/bits.deBruijn32tab", "math/bits.deBruijn64tab", "internal/bytealg.MaxLen"], apart := false, laid := [("math/bits.deBruijn32tab", laid_math_bits_deBruijn32tab), ("math/bits.deBruijn64tab", laid_math_bits_deBruijn64tab), ("internal/strconv.uint64pow10", laid_internal_strconv_uint64pow10), ("strconv.ErrRange", laid_strconv_ErrRange), ("strconv.ErrSyntax", laid_strconv_ErrSyntax), ("loop.example/interlinear/impl.ownWords", laid_loop_example_interlinear_impl_ownWords)], narrowed := true }
def FnBareTextUptoSaid : Prop := fnBareTextUptoRow.holds Tryz.pinned (OpenSpec.upto fnBareTextSpec)

/-- 'laws.FnExactBareAll', WHERE WHAT IT READS IS OF BULK AT MOST 1048576: true; the input reads as it did. -/
def fnExactBareAllUptoRow : OpenClaim := { program := "ytpikbndepapbhabgreatdoor", sum := "c272cce1acb0ed839a41fd3079065a29383dc5587e17b4b8d51e25b13a04fd7f", func := "loop.example/interlinear/laws.FnExactBareAll", spec := "fnExactBareAll", inPlace := ["internal/bytealg.CountString", "internal/bytealg.IndexByteString", "internal/bytealg.IndexString", "internal/abi.NoEscape", "internal/bytealg.MakeNoZero"], unfollowed := true, recurses := true, named := ["unicode/utf8.first", "unicode/utf8.acceptRanges", "internal/bytealg.MaxLen", "strconv.ErrSyntax", "strconv.ErrRange", "internal/strconv.uint64pow10", "math/bits.deBruijn32tab", "math/bits.deBruijn64tab", "loop.example/interlinear/impl.ownWords"], apart := false, laid := [("math/bits.deBruijn32tab", laid_math_bits_deBruijn32tab), ("math/bits.deBruijn64tab", laid_math_bits_deBruijn64tab), ("internal/strconv.uint64pow10", laid_internal_strconv_uint64pow10), ("unicode/utf8.acceptRanges", laid_unicode_utf8_acceptRanges), ("strconv.ErrRange", laid_strconv_ErrRange), ("strconv.ErrSyntax", laid_strconv_ErrSyntax), ("loop.example/interlinear/impl.ownWords", laid_loop_example_interlinear_impl_ownWords), ("unicode/utf8.first", laid_unicode_utf8_first)], narrowed := true }
def FnExactBareAllUptoSaid : Prop := fnExactBareAllUptoRow.holds Tryz.pinned (OpenSpec.upto fnExactBareAllSpec)

/-- 'laws.FnExactPageOf', WHERE WHAT IT READS IS OF BULK AT MOST 1048576: true; the input reads as it did. -/
def fnExactPageOfUptoRow : OpenClaim := { program := "ytpikbndepapbhabgreatdoor", sum := "c272cce1acb0ed839a41fd3079065a29383dc5587e17b4b8d51e25b13a04fd7f", func := "loop.example/interlinear/laws.FnExactPageOf", spec := "fnExactPageOf", inPlace := ["internal/bytealg.IndexByteString", "internal/bytealg.IndexString", "internal/abi.NoEscape", "internal/bytealg.MakeNoZero"], unfollowed := true, recurses := true, named := ["internal/bytealg.MaxLen", "strconv.ErrSyntax", "strconv.ErrRange", "internal/strconv.uint64pow10", "math/bits.deBruijn32tab", "math/bits.deBruijn64tab", "loop.example/interlinear/impl.ownWords"], apart := false, laid := [("math/bits.deBruijn32tab", laid_math_bits_deBruijn32tab), ("math/bits.deBruijn64tab", laid_math_bits_deBruijn64tab), ("internal/strconv.uint64pow10", laid_internal_strconv_uint64pow10), ("strconv.ErrRange", laid_strconv_ErrRange), ("strconv.ErrSyntax", laid_strconv_ErrSyntax), ("loop.example/interlinear/impl.ownWords", laid_loop_example_interlinear_impl_ownWords)], narrowed := true }
def FnExactPageOfUptoSaid : Prop := fnExactPageOfUptoRow.holds Tryz.pinned (OpenSpec.upto fnExactPageOfSpec)

/-- 'laws.FnPage', WHERE WHAT IT READS IS OF BULK AT MOST 1048576: true; the input reads as it did. -/
def fnPageUptoRow : OpenClaim := { program := "ytpikbndepapbhabgreatdoor", sum := "c272cce1acb0ed839a41fd3079065a29383dc5587e17b4b8d51e25b13a04fd7f", func := "loop.example/interlinear/laws.FnPage", spec := "fnPage", inPlace := ["internal/bytealg.IndexByteString", "internal/bytealg.IndexString", "internal/abi.NoEscape", "internal/bytealg.MakeNoZero"], unfollowed := true, recurses := true, named := ["internal/bytealg.MaxLen", "strconv.ErrSyntax", "strconv.ErrRange", "internal/strconv.uint64pow10", "math/bits.deBruijn32tab", "math/bits.deBruijn64tab", "loop.example/interlinear/impl.ownWords"], apart := false, laid := [("math/bits.deBruijn32tab", laid_math_bits_deBruijn32tab), ("math/bits.deBruijn64tab", laid_math_bits_deBruijn64tab), ("internal/strconv.uint64pow10", laid_internal_strconv_uint64pow10), ("strconv.ErrRange", laid_strconv_ErrRange), ("strconv.ErrSyntax", laid_strconv_ErrSyntax), ("loop.example/interlinear/impl.ownWords", laid_loop_example_interlinear_impl_ownWords)], narrowed := true }
def FnPageUptoSaid : Prop := fnPageUptoRow.holds Tryz.pinned (OpenSpec.upto fnPageSpec)

/-- 'laws.FnBareCat', WHERE WHAT IT READS IS OF BULK AT MOST 1048576: true; the input reads as it did. -/
def fnBareCatUptoRow : OpenClaim := { program := "ytpikbndepapbhabgreatdoor", sum := "c272cce1acb0ed839a41fd3079065a29383dc5587e17b4b8d51e25b13a04fd7f", func := "loop.example/interlinear/laws.FnBareCat", spec := "fnBareCat", inPlace := ["internal/bytealg.IndexByteString", "internal/bytealg.IndexString", "internal/abi.NoEscape", "internal/bytealg.MakeNoZero"], unfollowed := true, recurses := true, named := ["loop.example/interlinear/impl.ownWords", "strconv.ErrSyntax", "strconv.ErrRange", "internal/strconv.uint64pow10", "math/bits.deBruijn32tab", "math/bits.deBruijn64tab", "internal/bytealg.MaxLen"], apart := false, laid := [("math/bits.deBruijn32tab", laid_math_bits_deBruijn32tab), ("math/bits.deBruijn64tab", laid_math_bits_deBruijn64tab), ("internal/strconv.uint64pow10", laid_internal_strconv_uint64pow10), ("strconv.ErrRange", laid_strconv_ErrRange), ("strconv.ErrSyntax", laid_strconv_ErrSyntax), ("loop.example/interlinear/impl.ownWords", laid_loop_example_interlinear_impl_ownWords)], narrowed := true }
def FnBareCatUptoSaid : Prop := fnBareCatUptoRow.holds Tryz.pinned (OpenSpec.upto fnBareCatSpec)

/-- 'laws.FnExactBookOk', WHERE WHAT IT READS IS OF BULK AT MOST 1048576: true; the input reads as it did. -/
def fnExactBookOkUptoRow : OpenClaim := { program := "ytpikbndepapbhabgreatdoor", sum := "c272cce1acb0ed839a41fd3079065a29383dc5587e17b4b8d51e25b13a04fd7f", func := "loop.example/interlinear/laws.FnExactBookOk", spec := "fnExactBookOk", inPlace := ["internal/bytealg.IndexByteString", "internal/bytealg.IndexString", "internal/abi.NoEscape", "internal/bytealg.MakeNoZero"], unfollowed := true, recurses := true, named := ["internal/bytealg.MaxLen", "strconv.ErrSyntax", "strconv.ErrRange", "internal/strconv.uint64pow10", "math/bits.deBruijn32tab", "math/bits.deBruijn64tab", "loop.example/interlinear/impl.ownWords"], apart := false, laid := [("math/bits.deBruijn32tab", laid_math_bits_deBruijn32tab), ("math/bits.deBruijn64tab", laid_math_bits_deBruijn64tab), ("internal/strconv.uint64pow10", laid_internal_strconv_uint64pow10), ("strconv.ErrRange", laid_strconv_ErrRange), ("strconv.ErrSyntax", laid_strconv_ErrSyntax), ("loop.example/interlinear/impl.ownWords", laid_loop_example_interlinear_impl_ownWords)], narrowed := true }
def FnExactBookOkUptoSaid : Prop := fnExactBookOkUptoRow.holds Tryz.pinned (OpenSpec.upto fnExactBookOkSpec)

/-- 'laws.FnExactBookBare', WHERE WHAT IT READS IS OF BULK AT MOST 1048576: true; the input reads as it did. -/
def fnExactBookBareUptoRow : OpenClaim := { program := "ytpikbndepapbhabgreatdoor", sum := "c272cce1acb0ed839a41fd3079065a29383dc5587e17b4b8d51e25b13a04fd7f", func := "loop.example/interlinear/laws.FnExactBookBare", spec := "fnExactBookBare", inPlace := ["internal/bytealg.IndexByteString", "internal/bytealg.IndexString", "internal/abi.NoEscape", "internal/bytealg.MakeNoZero"], unfollowed := true, recurses := true, named := ["internal/bytealg.MaxLen", "strconv.ErrSyntax", "strconv.ErrRange", "internal/strconv.uint64pow10", "math/bits.deBruijn32tab", "math/bits.deBruijn64tab", "loop.example/interlinear/impl.ownWords"], apart := false, laid := [("math/bits.deBruijn32tab", laid_math_bits_deBruijn32tab), ("math/bits.deBruijn64tab", laid_math_bits_deBruijn64tab), ("internal/strconv.uint64pow10", laid_internal_strconv_uint64pow10), ("strconv.ErrRange", laid_strconv_ErrRange), ("strconv.ErrSyntax", laid_strconv_ErrSyntax), ("loop.example/interlinear/impl.ownWords", laid_loop_example_interlinear_impl_ownWords)], narrowed := true }
def FnExactBookBareUptoSaid : Prop := fnExactBookBareUptoRow.holds Tryz.pinned (OpenSpec.upto fnExactBookBareSpec)

/-- 'laws.FnExactBookText', WHERE WHAT IT READS IS OF BULK AT MOST 1048576: true; the input reads as it did. -/
def fnExactBookTextUptoRow : OpenClaim := { program := "ytpikbndepapbhabgreatdoor", sum := "c272cce1acb0ed839a41fd3079065a29383dc5587e17b4b8d51e25b13a04fd7f", func := "loop.example/interlinear/laws.FnExactBookText", spec := "fnExactBookText", inPlace := ["internal/bytealg.IndexByteString", "internal/bytealg.IndexString", "internal/abi.NoEscape", "internal/bytealg.MakeNoZero"], unfollowed := true, recurses := true, named := ["internal/bytealg.MaxLen", "strconv.ErrSyntax", "strconv.ErrRange", "internal/strconv.uint64pow10", "math/bits.deBruijn32tab", "math/bits.deBruijn64tab", "loop.example/interlinear/impl.ownWords"], apart := false, laid := [("math/bits.deBruijn32tab", laid_math_bits_deBruijn32tab), ("math/bits.deBruijn64tab", laid_math_bits_deBruijn64tab), ("internal/strconv.uint64pow10", laid_internal_strconv_uint64pow10), ("strconv.ErrRange", laid_strconv_ErrRange), ("strconv.ErrSyntax", laid_strconv_ErrSyntax), ("loop.example/interlinear/impl.ownWords", laid_loop_example_interlinear_impl_ownWords)], narrowed := true }
def FnExactBookTextUptoSaid : Prop := fnExactBookTextUptoRow.holds Tryz.pinned (OpenSpec.upto fnExactBookTextSpec)

end Rows
end Go.Proofs.YtpikbndepapbhabGreatDoor
