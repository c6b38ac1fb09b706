/-
  NARROWER THAN 'FOR EVERY INPUT', by the rows' own cells (each row's printed sentence says how): FnBareBent: laid · FnExactBareText: loops, laid · FnBareCast: laid · FnBareOf: laid · FnEmitType: laid · FnExactBareOf: loops, laid · FnEmitNames: laid · FnEmit: laid · FnExactEmitLine: loops, laid · FnExactEmitText: loops, laid · FnBareCat: laid · FnBareSame: laid.
  DERIVED. THE GIVEN ROWS OF THIS SEAT. 12 by the template 'for every input the law returns true; each argument reads behind the call as it read before'; 0 by the template 'total and deterministic' (their statements: YthljacdbmhonfaaGreatDoorTotals.lean).
  GIVEN WITH THE SEED: the statements are not yours to turn. If you find one false, say at which input.
  Laid BY PROGRAM, IN A SANDBOX (cutbox-rows.mjs): the forced cells as the released guide's own fill.sh prints them over the translation ce41b5f3a2a1f6f1… (all of the seat's roots in one cut). By AI agents, Wed Nov 11 2026. No macro, syntax, notation, axiom, sorry.
-/
import Derived.Test.YthljacdbmhonfaaGreatDoorChecked
import GoSem.Claim
import GoSem.ClaimJoined
import GoSem.ClaimMapViews
import Derived.JoinedTies
import Derived.KernelRfl
namespace Go.Proofs.YthljacdbmhonfaaGreatDoor
/- THE CELL 'sum', in the pinned program and in every row, IS THE sha256 OF THE DUMP (.gsa) THAT YthljacdbmhonfaaGreatDoorProg.lean LOADS. Nothing in Lean hashes anything: it is a label: what it is worth is what the hold of that sum in a sandbox is worth. -/
noncomputable def Tryz.pinned : Pinned := { name := "ythljacdbmhonfaagreatdoor", sum := "ce41b5f3a2a1f6f18a1a4a02b2f1ad2d13b13957323a775637a83911a17f50c9", checked := Tryz.checked }
namespace Rows
def none {H : Type} : Left H := { results := [], args := [] }

/- WHAT THE LISTED PACKAGE-LEVEL VARIABLES READ AS WHEN THE CALL BEGINS. Each datum BY PROGRAM (the guide's laid-datum.mjs) off the statement by which the dump's own 'gosem.cut.vars' lays the variable. In a bare row this is a premise. The card (YthljacdbmhonfaaGreatDoorCards.lean) ties it to the program's text. -/
def laid_math_bits_deBruijn32tab {H : Type} : DataW H := .agg [.lit (.int .u8 0), .lit (.int .u8 1), .lit (.int .u8 28), .lit (.int .u8 2), .lit (.int .u8 29), .lit (.int .u8 14), .lit (.int .u8 24), .lit (.int .u8 3), .lit (.int .u8 30), .lit (.int .u8 22), .lit (.int .u8 20), .lit (.int .u8 15), .lit (.int .u8 25), .lit (.int .u8 17), .lit (.int .u8 4), .lit (.int .u8 8), .lit (.int .u8 31), .lit (.int .u8 27), .lit (.int .u8 13), .lit (.int .u8 23), .lit (.int .u8 21), .lit (.int .u8 19), .lit (.int .u8 16), .lit (.int .u8 7), .lit (.int .u8 26), .lit (.int .u8 12), .lit (.int .u8 18), .lit (.int .u8 6), .lit (.int .u8 11), .lit (.int .u8 5), .lit (.int .u8 10), .lit (.int .u8 9)]
def laid_math_bits_deBruijn64tab {H : Type} : DataW H := .agg [.lit (.int .u8 0), .lit (.int .u8 1), .lit (.int .u8 56), .lit (.int .u8 2), .lit (.int .u8 57), .lit (.int .u8 49), .lit (.int .u8 28), .lit (.int .u8 3), .lit (.int .u8 61), .lit (.int .u8 58), .lit (.int .u8 42), .lit (.int .u8 50), .lit (.int .u8 38), .lit (.int .u8 29), .lit (.int .u8 17), .lit (.int .u8 4), .lit (.int .u8 62), .lit (.int .u8 47), .lit (.int .u8 59), .lit (.int .u8 36), .lit (.int .u8 45), .lit (.int .u8 43), .lit (.int .u8 51), .lit (.int .u8 22), .lit (.int .u8 53), .lit (.int .u8 39), .lit (.int .u8 33), .lit (.int .u8 30), .lit (.int .u8 24), .lit (.int .u8 18), .lit (.int .u8 12), .lit (.int .u8 5), .lit (.int .u8 63), .lit (.int .u8 55), .lit (.int .u8 48), .lit (.int .u8 27), .lit (.int .u8 60), .lit (.int .u8 41), .lit (.int .u8 37), .lit (.int .u8 16), .lit (.int .u8 46), .lit (.int .u8 35), .lit (.int .u8 44), .lit (.int .u8 21), .lit (.int .u8 52), .lit (.int .u8 32), .lit (.int .u8 23), .lit (.int .u8 11), .lit (.int .u8 54), .lit (.int .u8 26), .lit (.int .u8 40), .lit (.int .u8 15), .lit (.int .u8 34), .lit (.int .u8 20), .lit (.int .u8 31), .lit (.int .u8 10), .lit (.int .u8 25), .lit (.int .u8 14), .lit (.int .u8 19), .lit (.int .u8 9), .lit (.int .u8 13), .lit (.int .u8 8), .lit (.int .u8 7), .lit (.int .u8 6)]
def laid_internal_strconv_uint64pow10 {H : Type} : DataW H := .agg [.lit (.int .u64 1), .lit (.int .u64 10), .lit (.int .u64 100), .lit (.int .u64 1000), .lit (.int .u64 10000), .lit (.int .u64 100000), .lit (.int .u64 1000000), .lit (.int .u64 10000000), .lit (.int .u64 100000000), .lit (.int .u64 1000000000), .lit (.int .u64 10000000000), .lit (.int .u64 100000000000), .lit (.int .u64 1000000000000), .lit (.int .u64 10000000000000), .lit (.int .u64 100000000000000), .lit (.int .u64 1000000000000000), .lit (.int .u64 10000000000000000), .lit (.int .u64 100000000000000000), .lit (.int .u64 1000000000000000000), .lit (.int .u64 10000000000000000000)]
def laid_strconv_ErrRange {H : Type} : DataW H := .iface "*errors.errorString" (.ptr (.agg [.lit (.string [118, 97, 108, 117, 101, 32, 111, 117, 116, 32, 111, 102, 32, 114, 97, 110, 103, 101])]))
def laid_strconv_ErrSyntax {H : Type} : DataW H := .iface "*errors.errorString" (.ptr (.agg [.lit (.string [105, 110, 118, 97, 108, 105, 100, 32, 115, 121, 110, 116, 97, 120])]))
def laid_loop_example_interlinear_impl_ownWords {H : Type} : DataW H := .slice [.lit (.string [108, 101, 116]), .lit (.string [115, 97, 121]), .lit (.string [119, 104, 101, 110]), .lit (.string [97, 115]), .lit (.string [112, 114, 105, 110, 116]), .lit (.string [105, 102]), .lit (.string [105, 110, 116]), .lit (.string [98, 111, 111, 108])] []

/-- 'laws.FnBareBent': WHATEVER THE INPUT: true; the input reads as it did. -/
def fnBareBentSpec : ChangeSpec := { name := "fnBareBent", vars := ["loop.example/interlinear/impl.ownWords"], fn := fun _ => fun
  | [d, g1] => { results := [.lit (.bool true)], args := [d], vars := [g1] }
  | _ => none }
def fnBareBentRow : OpenClaim := { program := "ythljacdbmhonfaagreatdoor", sum := "ce41b5f3a2a1f6f18a1a4a02b2f1ad2d13b13957323a775637a83911a17f50c9", func := "loop.example/interlinear/laws.FnBareBent", spec := "fnBareBent", inPlace := ["internal/bytealg.IndexByteString", "internal/bytealg.IndexString", "internal/abi.NoEscape", "internal/bytealg.MakeNoZero"], unfollowed := true, recurses := true, named := ["loop.example/interlinear/impl.ownWords", "strconv.ErrSyntax", "strconv.ErrRange", "internal/strconv.uint64pow10", "math/bits.deBruijn32tab", "math/bits.deBruijn64tab", "internal/bytealg.MaxLen"], apart := false, laid := [("math/bits.deBruijn32tab", laid_math_bits_deBruijn32tab), ("math/bits.deBruijn64tab", laid_math_bits_deBruijn64tab), ("internal/strconv.uint64pow10", laid_internal_strconv_uint64pow10), ("strconv.ErrRange", laid_strconv_ErrRange), ("strconv.ErrSyntax", laid_strconv_ErrSyntax), ("loop.example/interlinear/impl.ownWords", laid_loop_example_interlinear_impl_ownWords)] }
def FnBareBentSaid : Prop := fnBareBentRow.holds Tryz.pinned (OpenSpec.ofChange fnBareBentSpec)

/-- ITS FALSE NEIGHBOUR: 'it returns false'. Refute it at one input. -/
def fnBareBentWrong : ChangeSpec := { name := "fnBareBent", vars := ["loop.example/interlinear/impl.ownWords"], fn := fun _ => fun
  | [d, g1] => { results := [.lit (.bool false)], args := [d], vars := [g1] }
  | _ => none }
def FnBareBentWrongFalsely : Prop := fnBareBentRow.holds Tryz.pinned (OpenSpec.ofChange fnBareBentWrong)

/-- 'laws.FnExactBareText': WHATEVER THE INPUT: true; the input reads as it did. -/
def fnExactBareTextSpec : ChangeSpec := { name := "fnExactBareText", vars := ["loop.example/interlinear/impl.ownWords"], fn := fun _ => fun
  | [d, g1] => { results := [.lit (.bool true)], args := [d], vars := [g1] }
  | _ => none }
def fnExactBareTextRow : OpenClaim := { program := "ythljacdbmhonfaagreatdoor", sum := "ce41b5f3a2a1f6f18a1a4a02b2f1ad2d13b13957323a775637a83911a17f50c9", func := "loop.example/interlinear/laws.FnExactBareText", spec := "fnExactBareText", inPlace := ["internal/bytealg.IndexByteString", "internal/bytealg.IndexString", "internal/abi.NoEscape", "internal/bytealg.MakeNoZero"], unfollowed := true, recurses := true, named := ["loop.example/interlinear/impl.ownWords", "strconv.ErrSyntax", "strconv.ErrRange", "internal/strconv.uint64pow10", "math/bits.deBruijn32tab", "math/bits.deBruijn64tab", "internal/bytealg.MaxLen"], loops := true, apart := false, laid := [("math/bits.deBruijn32tab", laid_math_bits_deBruijn32tab), ("math/bits.deBruijn64tab", laid_math_bits_deBruijn64tab), ("internal/strconv.uint64pow10", laid_internal_strconv_uint64pow10), ("strconv.ErrRange", laid_strconv_ErrRange), ("strconv.ErrSyntax", laid_strconv_ErrSyntax), ("loop.example/interlinear/impl.ownWords", laid_loop_example_interlinear_impl_ownWords)] }
def FnExactBareTextSaid : Prop := fnExactBareTextRow.holds Tryz.pinned (OpenSpec.ofChange fnExactBareTextSpec)

/-- ITS FALSE NEIGHBOUR: 'it returns false'. Refute it at one input. -/
def fnExactBareTextWrong : ChangeSpec := { name := "fnExactBareText", vars := ["loop.example/interlinear/impl.ownWords"], fn := fun _ => fun
  | [d, g1] => { results := [.lit (.bool false)], args := [d], vars := [g1] }
  | _ => none }
def FnExactBareTextWrongFalsely : Prop := fnExactBareTextRow.holds Tryz.pinned (OpenSpec.ofChange fnExactBareTextWrong)

/-- 'laws.FnBareCast': WHATEVER THE INPUT: true; the input reads as it did. -/
def fnBareCastSpec : ChangeSpec := { name := "fnBareCast", vars := ["loop.example/interlinear/impl.ownWords"], fn := fun _ => fun
  | [d, g1] => { results := [.lit (.bool true)], args := [d], vars := [g1] }
  | _ => none }
def fnBareCastRow : OpenClaim := { program := "ythljacdbmhonfaagreatdoor", sum := "ce41b5f3a2a1f6f18a1a4a02b2f1ad2d13b13957323a775637a83911a17f50c9", func := "loop.example/interlinear/laws.FnBareCast", spec := "fnBareCast", inPlace := ["internal/bytealg.IndexByteString", "internal/bytealg.IndexString", "internal/abi.NoEscape", "internal/bytealg.MakeNoZero"], unfollowed := true, recurses := true, named := ["loop.example/interlinear/impl.ownWords", "strconv.ErrSyntax", "strconv.ErrRange", "internal/strconv.uint64pow10", "math/bits.deBruijn32tab", "math/bits.deBruijn64tab", "internal/bytealg.MaxLen"], apart := false, laid := [("math/bits.deBruijn32tab", laid_math_bits_deBruijn32tab), ("math/bits.deBruijn64tab", laid_math_bits_deBruijn64tab), ("internal/strconv.uint64pow10", laid_internal_strconv_uint64pow10), ("strconv.ErrRange", laid_strconv_ErrRange), ("strconv.ErrSyntax", laid_strconv_ErrSyntax), ("loop.example/interlinear/impl.ownWords", laid_loop_example_interlinear_impl_ownWords)] }
def FnBareCastSaid : Prop := fnBareCastRow.holds Tryz.pinned (OpenSpec.ofChange fnBareCastSpec)

/-- ITS FALSE NEIGHBOUR: 'it returns false'. Refute it at one input. -/
def fnBareCastWrong : ChangeSpec := { name := "fnBareCast", vars := ["loop.example/interlinear/impl.ownWords"], fn := fun _ => fun
  | [d, g1] => { results := [.lit (.bool false)], args := [d], vars := [g1] }
  | _ => none }
def FnBareCastWrongFalsely : Prop := fnBareCastRow.holds Tryz.pinned (OpenSpec.ofChange fnBareCastWrong)

/-- 'laws.FnBareOf': WHATEVER THE INPUT: true; the input reads as it did. -/
def fnBareOfSpec : ChangeSpec := { name := "fnBareOf", vars := ["loop.example/interlinear/impl.ownWords"], fn := fun _ => fun
  | [d, g1] => { results := [.lit (.bool true)], args := [d], vars := [g1] }
  | _ => none }
def fnBareOfRow : OpenClaim := { program := "ythljacdbmhonfaagreatdoor", sum := "ce41b5f3a2a1f6f18a1a4a02b2f1ad2d13b13957323a775637a83911a17f50c9", func := "loop.example/interlinear/laws.FnBareOf", spec := "fnBareOf", inPlace := ["internal/bytealg.IndexByteString", "internal/bytealg.IndexString", "internal/abi.NoEscape", "internal/bytealg.MakeNoZero"], unfollowed := true, recurses := true, named := ["loop.example/interlinear/impl.ownWords", "strconv.ErrSyntax", "strconv.ErrRange", "internal/strconv.uint64pow10", "math/bits.deBruijn32tab", "math/bits.deBruijn64tab", "internal/bytealg.MaxLen"], apart := false, laid := [("math/bits.deBruijn32tab", laid_math_bits_deBruijn32tab), ("math/bits.deBruijn64tab", laid_math_bits_deBruijn64tab), ("internal/strconv.uint64pow10", laid_internal_strconv_uint64pow10), ("strconv.ErrRange", laid_strconv_ErrRange), ("strconv.ErrSyntax", laid_strconv_ErrSyntax), ("loop.example/interlinear/impl.ownWords", laid_loop_example_interlinear_impl_ownWords)] }
def FnBareOfSaid : Prop := fnBareOfRow.holds Tryz.pinned (OpenSpec.ofChange fnBareOfSpec)

/-- ITS FALSE NEIGHBOUR: 'it returns false'. Refute it at one input. -/
def fnBareOfWrong : ChangeSpec := { name := "fnBareOf", vars := ["loop.example/interlinear/impl.ownWords"], fn := fun _ => fun
  | [d, g1] => { results := [.lit (.bool false)], args := [d], vars := [g1] }
  | _ => none }
def FnBareOfWrongFalsely : Prop := fnBareOfRow.holds Tryz.pinned (OpenSpec.ofChange fnBareOfWrong)

/-- 'laws.FnEmitType': WHATEVER THE INPUT: true; the input reads as it did. -/
def fnEmitTypeSpec : ChangeSpec := { name := "fnEmitType", vars := ["loop.example/interlinear/impl.ownWords"], fn := fun _ => fun
  | [d, g1] => { results := [.lit (.bool true)], args := [d], vars := [g1] }
  | _ => none }
def fnEmitTypeRow : OpenClaim := { program := "ythljacdbmhonfaagreatdoor", sum := "ce41b5f3a2a1f6f18a1a4a02b2f1ad2d13b13957323a775637a83911a17f50c9", func := "loop.example/interlinear/laws.FnEmitType", spec := "fnEmitType", inPlace := ["internal/bytealg.IndexByteString", "internal/bytealg.IndexString", "internal/abi.NoEscape", "internal/bytealg.MakeNoZero"], unfollowed := true, recurses := true, named := ["loop.example/interlinear/impl.ownWords", "strconv.ErrSyntax", "strconv.ErrRange", "internal/strconv.uint64pow10", "math/bits.deBruijn32tab", "math/bits.deBruijn64tab", "internal/bytealg.MaxLen"], apart := false, laid := [("math/bits.deBruijn32tab", laid_math_bits_deBruijn32tab), ("math/bits.deBruijn64tab", laid_math_bits_deBruijn64tab), ("internal/strconv.uint64pow10", laid_internal_strconv_uint64pow10), ("strconv.ErrRange", laid_strconv_ErrRange), ("strconv.ErrSyntax", laid_strconv_ErrSyntax), ("loop.example/interlinear/impl.ownWords", laid_loop_example_interlinear_impl_ownWords)] }
def FnEmitTypeSaid : Prop := fnEmitTypeRow.holds Tryz.pinned (OpenSpec.ofChange fnEmitTypeSpec)

/-- ITS FALSE NEIGHBOUR: 'it returns false'. Refute it at one input. -/
def fnEmitTypeWrong : ChangeSpec := { name := "fnEmitType", vars := ["loop.example/interlinear/impl.ownWords"], fn := fun _ => fun
  | [d, g1] => { results := [.lit (.bool false)], args := [d], vars := [g1] }
  | _ => none }
def FnEmitTypeWrongFalsely : Prop := fnEmitTypeRow.holds Tryz.pinned (OpenSpec.ofChange fnEmitTypeWrong)

/-- 'laws.FnExactBareOf': WHATEVER THE INPUT: true; the input reads as it did. -/
def fnExactBareOfSpec : ChangeSpec := { name := "fnExactBareOf", vars := ["loop.example/interlinear/impl.ownWords"], fn := fun _ => fun
  | [d, g1] => { results := [.lit (.bool true)], args := [d], vars := [g1] }
  | _ => none }
def fnExactBareOfRow : OpenClaim := { program := "ythljacdbmhonfaagreatdoor", sum := "ce41b5f3a2a1f6f18a1a4a02b2f1ad2d13b13957323a775637a83911a17f50c9", func := "loop.example/interlinear/laws.FnExactBareOf", spec := "fnExactBareOf", inPlace := ["internal/bytealg.IndexByteString", "internal/bytealg.IndexString", "internal/abi.NoEscape", "internal/bytealg.MakeNoZero"], unfollowed := true, recurses := true, named := ["loop.example/interlinear/impl.ownWords", "strconv.ErrSyntax", "strconv.ErrRange", "internal/strconv.uint64pow10", "math/bits.deBruijn32tab", "math/bits.deBruijn64tab", "internal/bytealg.MaxLen"], loops := true, apart := false, laid := [("math/bits.deBruijn32tab", laid_math_bits_deBruijn32tab), ("math/bits.deBruijn64tab", laid_math_bits_deBruijn64tab), ("internal/strconv.uint64pow10", laid_internal_strconv_uint64pow10), ("strconv.ErrRange", laid_strconv_ErrRange), ("strconv.ErrSyntax", laid_strconv_ErrSyntax), ("loop.example/interlinear/impl.ownWords", laid_loop_example_interlinear_impl_ownWords)] }
def FnExactBareOfSaid : Prop := fnExactBareOfRow.holds Tryz.pinned (OpenSpec.ofChange fnExactBareOfSpec)

/-- ITS FALSE NEIGHBOUR: 'it returns false'. Refute it at one input. -/
def fnExactBareOfWrong : ChangeSpec := { name := "fnExactBareOf", vars := ["loop.example/interlinear/impl.ownWords"], fn := fun _ => fun
  | [d, g1] => { results := [.lit (.bool false)], args := [d], vars := [g1] }
  | _ => none }
def FnExactBareOfWrongFalsely : Prop := fnExactBareOfRow.holds Tryz.pinned (OpenSpec.ofChange fnExactBareOfWrong)

/-- 'laws.FnEmitNames': WHATEVER THE INPUT: true; the input reads as it did. -/
def fnEmitNamesSpec : ChangeSpec := { name := "fnEmitNames", vars := ["loop.example/interlinear/impl.ownWords"], fn := fun _ => fun
  | [d, g1] => { results := [.lit (.bool true)], args := [d], vars := [g1] }
  | _ => none }
def fnEmitNamesRow : OpenClaim := { program := "ythljacdbmhonfaagreatdoor", sum := "ce41b5f3a2a1f6f18a1a4a02b2f1ad2d13b13957323a775637a83911a17f50c9", func := "loop.example/interlinear/laws.FnEmitNames", spec := "fnEmitNames", inPlace := ["internal/bytealg.IndexByteString", "internal/bytealg.IndexString", "internal/abi.NoEscape", "internal/bytealg.MakeNoZero"], unfollowed := true, recurses := true, named := ["loop.example/interlinear/impl.ownWords", "strconv.ErrSyntax", "strconv.ErrRange", "internal/strconv.uint64pow10", "math/bits.deBruijn32tab", "math/bits.deBruijn64tab", "internal/bytealg.MaxLen"], apart := false, laid := [("math/bits.deBruijn32tab", laid_math_bits_deBruijn32tab), ("math/bits.deBruijn64tab", laid_math_bits_deBruijn64tab), ("internal/strconv.uint64pow10", laid_internal_strconv_uint64pow10), ("strconv.ErrRange", laid_strconv_ErrRange), ("strconv.ErrSyntax", laid_strconv_ErrSyntax), ("loop.example/interlinear/impl.ownWords", laid_loop_example_interlinear_impl_ownWords)] }
def FnEmitNamesSaid : Prop := fnEmitNamesRow.holds Tryz.pinned (OpenSpec.ofChange fnEmitNamesSpec)

/-- ITS FALSE NEIGHBOUR: 'it returns false'. Refute it at one input. -/
def fnEmitNamesWrong : ChangeSpec := { name := "fnEmitNames", vars := ["loop.example/interlinear/impl.ownWords"], fn := fun _ => fun
  | [d, g1] => { results := [.lit (.bool false)], args := [d], vars := [g1] }
  | _ => none }
def FnEmitNamesWrongFalsely : Prop := fnEmitNamesRow.holds Tryz.pinned (OpenSpec.ofChange fnEmitNamesWrong)

/-- 'laws.FnEmit': WHATEVER THE INPUT: true; the input reads as it did. -/
def fnEmitSpec : ChangeSpec := { name := "fnEmit", vars := ["loop.example/interlinear/impl.ownWords"], fn := fun _ => fun
  | [d, g1] => { results := [.lit (.bool true)], args := [d], vars := [g1] }
  | _ => none }
def fnEmitRow : OpenClaim := { program := "ythljacdbmhonfaagreatdoor", sum := "ce41b5f3a2a1f6f18a1a4a02b2f1ad2d13b13957323a775637a83911a17f50c9", func := "loop.example/interlinear/laws.FnEmit", spec := "fnEmit", inPlace := ["internal/bytealg.IndexByteString", "internal/bytealg.IndexString", "internal/abi.NoEscape", "internal/bytealg.MakeNoZero"], unfollowed := true, recurses := true, named := ["loop.example/interlinear/impl.ownWords", "strconv.ErrSyntax", "strconv.ErrRange", "internal/strconv.uint64pow10", "math/bits.deBruijn32tab", "math/bits.deBruijn64tab", "internal/bytealg.MaxLen"], apart := false, laid := [("math/bits.deBruijn32tab", laid_math_bits_deBruijn32tab), ("math/bits.deBruijn64tab", laid_math_bits_deBruijn64tab), ("internal/strconv.uint64pow10", laid_internal_strconv_uint64pow10), ("strconv.ErrRange", laid_strconv_ErrRange), ("strconv.ErrSyntax", laid_strconv_ErrSyntax), ("loop.example/interlinear/impl.ownWords", laid_loop_example_interlinear_impl_ownWords)] }
def FnEmitSaid : Prop := fnEmitRow.holds Tryz.pinned (OpenSpec.ofChange fnEmitSpec)

/-- ITS FALSE NEIGHBOUR: 'it returns false'. Refute it at one input. -/
def fnEmitWrong : ChangeSpec := { name := "fnEmit", vars := ["loop.example/interlinear/impl.ownWords"], fn := fun _ => fun
  | [d, g1] => { results := [.lit (.bool false)], args := [d], vars := [g1] }
  | _ => none }
def FnEmitWrongFalsely : Prop := fnEmitRow.holds Tryz.pinned (OpenSpec.ofChange fnEmitWrong)

/-- 'laws.FnExactEmitLine': WHATEVER THE INPUT: true; the input reads as it did. -/
def fnExactEmitLineSpec : ChangeSpec := { name := "fnExactEmitLine", vars := ["loop.example/interlinear/impl.ownWords"], fn := fun _ => fun
  | [d, g1] => { results := [.lit (.bool true)], args := [d], vars := [g1] }
  | _ => none }
def fnExactEmitLineRow : OpenClaim := { program := "ythljacdbmhonfaagreatdoor", sum := "ce41b5f3a2a1f6f18a1a4a02b2f1ad2d13b13957323a775637a83911a17f50c9", func := "loop.example/interlinear/laws.FnExactEmitLine", spec := "fnExactEmitLine", inPlace := ["internal/bytealg.IndexByteString", "internal/bytealg.IndexString", "internal/abi.NoEscape", "internal/bytealg.MakeNoZero"], unfollowed := true, recurses := true, named := ["loop.example/interlinear/impl.ownWords", "strconv.ErrSyntax", "strconv.ErrRange", "internal/strconv.uint64pow10", "math/bits.deBruijn32tab", "math/bits.deBruijn64tab", "internal/bytealg.MaxLen"], loops := true, apart := false, laid := [("math/bits.deBruijn32tab", laid_math_bits_deBruijn32tab), ("math/bits.deBruijn64tab", laid_math_bits_deBruijn64tab), ("internal/strconv.uint64pow10", laid_internal_strconv_uint64pow10), ("strconv.ErrRange", laid_strconv_ErrRange), ("strconv.ErrSyntax", laid_strconv_ErrSyntax), ("loop.example/interlinear/impl.ownWords", laid_loop_example_interlinear_impl_ownWords)] }
def FnExactEmitLineSaid : Prop := fnExactEmitLineRow.holds Tryz.pinned (OpenSpec.ofChange fnExactEmitLineSpec)

/-- ITS FALSE NEIGHBOUR: 'it returns false'. Refute it at one input. -/
def fnExactEmitLineWrong : ChangeSpec := { name := "fnExactEmitLine", vars := ["loop.example/interlinear/impl.ownWords"], fn := fun _ => fun
  | [d, g1] => { results := [.lit (.bool false)], args := [d], vars := [g1] }
  | _ => none }
def FnExactEmitLineWrongFalsely : Prop := fnExactEmitLineRow.holds Tryz.pinned (OpenSpec.ofChange fnExactEmitLineWrong)

/-- 'laws.FnExactEmitText': WHATEVER THE INPUT: true; the input reads as it did. -/
def fnExactEmitTextSpec : ChangeSpec := { name := "fnExactEmitText", vars := ["loop.example/interlinear/impl.ownWords"], fn := fun _ => fun
  | [d, g1] => { results := [.lit (.bool true)], args := [d], vars := [g1] }
  | _ => none }
def fnExactEmitTextRow : OpenClaim := { program := "ythljacdbmhonfaagreatdoor", sum := "ce41b5f3a2a1f6f18a1a4a02b2f1ad2d13b13957323a775637a83911a17f50c9", func := "loop.example/interlinear/laws.FnExactEmitText", spec := "fnExactEmitText", inPlace := ["internal/bytealg.IndexByteString", "internal/bytealg.IndexString", "internal/abi.NoEscape", "internal/bytealg.MakeNoZero"], unfollowed := true, recurses := true, named := ["loop.example/interlinear/impl.ownWords", "strconv.ErrSyntax", "strconv.ErrRange", "internal/strconv.uint64pow10", "math/bits.deBruijn32tab", "math/bits.deBruijn64tab", "internal/bytealg.MaxLen"], loops := true, apart := false, laid := [("math/bits.deBruijn32tab", laid_math_bits_deBruijn32tab), ("math/bits.deBruijn64tab", laid_math_bits_deBruijn64tab), ("internal/strconv.uint64pow10", laid_internal_strconv_uint64pow10), ("strconv.ErrRange", laid_strconv_ErrRange), ("strconv.ErrSyntax", laid_strconv_ErrSyntax), ("loop.example/interlinear/impl.ownWords", laid_loop_example_interlinear_impl_ownWords)] }
def FnExactEmitTextSaid : Prop := fnExactEmitTextRow.holds Tryz.pinned (OpenSpec.ofChange fnExactEmitTextSpec)

/-- ITS FALSE NEIGHBOUR: 'it returns false'. Refute it at one input. -/
def fnExactEmitTextWrong : ChangeSpec := { name := "fnExactEmitText", vars := ["loop.example/interlinear/impl.ownWords"], fn := fun _ => fun
  | [d, g1] => { results := [.lit (.bool false)], args := [d], vars := [g1] }
  | _ => none }
def FnExactEmitTextWrongFalsely : Prop := fnExactEmitTextRow.holds Tryz.pinned (OpenSpec.ofChange fnExactEmitTextWrong)

/-- 'laws.FnBareCat': WHATEVER THE INPUT: true; the input reads as it did. -/
def fnBareCatSpec : ChangeSpec := { name := "fnBareCat", vars := ["loop.example/interlinear/impl.ownWords"], fn := fun _ => fun
  | [d1, d2, g1] => { results := [.lit (.bool true)], args := [d1, d2], vars := [g1] }
  | _ => none }
def fnBareCatRow : OpenClaim := { program := "ythljacdbmhonfaagreatdoor", sum := "ce41b5f3a2a1f6f18a1a4a02b2f1ad2d13b13957323a775637a83911a17f50c9", func := "loop.example/interlinear/laws.FnBareCat", spec := "fnBareCat", inPlace := ["internal/bytealg.IndexByteString", "internal/bytealg.IndexString", "internal/abi.NoEscape", "internal/bytealg.MakeNoZero"], unfollowed := true, recurses := true, named := ["loop.example/interlinear/impl.ownWords", "strconv.ErrSyntax", "strconv.ErrRange", "internal/strconv.uint64pow10", "math/bits.deBruijn32tab", "math/bits.deBruijn64tab", "internal/bytealg.MaxLen"], apart := false, laid := [("math/bits.deBruijn32tab", laid_math_bits_deBruijn32tab), ("math/bits.deBruijn64tab", laid_math_bits_deBruijn64tab), ("internal/strconv.uint64pow10", laid_internal_strconv_uint64pow10), ("strconv.ErrRange", laid_strconv_ErrRange), ("strconv.ErrSyntax", laid_strconv_ErrSyntax), ("loop.example/interlinear/impl.ownWords", laid_loop_example_interlinear_impl_ownWords)] }
def FnBareCatSaid : Prop := fnBareCatRow.holds Tryz.pinned (OpenSpec.ofChange fnBareCatSpec)

/-- ITS FALSE NEIGHBOUR: 'it returns false'. Refute it at one input. -/
def fnBareCatWrong : ChangeSpec := { name := "fnBareCat", vars := ["loop.example/interlinear/impl.ownWords"], fn := fun _ => fun
  | [d1, d2, g1] => { results := [.lit (.bool false)], args := [d1, d2], vars := [g1] }
  | _ => none }
def FnBareCatWrongFalsely : Prop := fnBareCatRow.holds Tryz.pinned (OpenSpec.ofChange fnBareCatWrong)

/-- 'laws.FnBareSame': WHATEVER THE INPUT: true; the input reads as it did. -/
def fnBareSameSpec : ChangeSpec := { name := "fnBareSame", vars := ["loop.example/interlinear/impl.ownWords"], fn := fun _ => fun
  | [d1, d2, g1] => { results := [.lit (.bool true)], args := [d1, d2], vars := [g1] }
  | _ => none }
def fnBareSameRow : OpenClaim := { program := "ythljacdbmhonfaagreatdoor", sum := "ce41b5f3a2a1f6f18a1a4a02b2f1ad2d13b13957323a775637a83911a17f50c9", func := "loop.example/interlinear/laws.FnBareSame", spec := "fnBareSame", inPlace := ["internal/bytealg.IndexByteString", "internal/bytealg.IndexString", "internal/abi.NoEscape", "internal/bytealg.MakeNoZero"], unfollowed := true, recurses := true, named := ["loop.example/interlinear/impl.ownWords", "strconv.ErrSyntax", "strconv.ErrRange", "internal/strconv.uint64pow10", "math/bits.deBruijn32tab", "math/bits.deBruijn64tab", "internal/bytealg.MaxLen"], apart := false, laid := [("math/bits.deBruijn32tab", laid_math_bits_deBruijn32tab), ("math/bits.deBruijn64tab", laid_math_bits_deBruijn64tab), ("internal/strconv.uint64pow10", laid_internal_strconv_uint64pow10), ("strconv.ErrRange", laid_strconv_ErrRange), ("strconv.ErrSyntax", laid_strconv_ErrSyntax), ("loop.example/interlinear/impl.ownWords", laid_loop_example_interlinear_impl_ownWords)] }
def FnBareSameSaid : Prop := fnBareSameRow.holds Tryz.pinned (OpenSpec.ofChange fnBareSameSpec)

/-- ITS FALSE NEIGHBOUR: 'it returns false'. Refute it at one input. -/
def fnBareSameWrong : ChangeSpec := { name := "fnBareSame", vars := ["loop.example/interlinear/impl.ownWords"], fn := fun _ => fun
  | [d1, d2, g1] => { results := [.lit (.bool false)], args := [d1, d2], vars := [g1] }
  | _ => none }
def FnBareSameWrongFalsely : Prop := fnBareSameRow.holds Tryz.pinned (OpenSpec.ofChange fnBareSameWrong)

/- THE SECOND FORM. 'bulk': how many values and letters a reading holds, each counted each time it is reached (what is shared counts as often as it is met; a slice's spare places count too). A statement '..UptoSaid' is the law's where the arguments, and the package variables that the reading takes, are together of bulk at most 1048576: NARROWER than '..Said'. Prove '..Said' where nothing that the law and all that it calls make is longer than what came in: it says more and counts as full. Else prove '..UptoSaid'. A law counts once. -/
mutual
def uptoBulk {H : Type} : DataW H → Nat
  | .lit (.string bytes) => bytes.length + 1
  | .lit _ => 1
  | .nil => 1
  | .ptr d => uptoBulk d + 1
  | .slice elems spare => uptoBulkAll elems + uptoBulkAll spare + 1
  | .agg parts => uptoBulkAll parts + 1
  | .iface _ d => uptoBulk d + 1
  | .map entries => uptoBulkEntries entries + 1
  | .held _ => 1
def uptoBulkAll {H : Type} : List (DataW H) → Nat
  | [] => 0
  | d :: r => uptoBulk d + uptoBulkAll r
def uptoBulkEntries {H : Type} : List (Lit × DataW H) → Nat
  | [] => 0
  | x :: r => uptoBulkEntry x + uptoBulkEntries r
def uptoBulkEntry {H : Type} : Lit × DataW H → Nat
  | (.string bytes, d) => bytes.length + uptoBulk d + 1
  | (_, d) => uptoBulk d + 1
 end
def uptoSmall : (H : Type) → List (DataW H) → Bool := fun _ ds => decide (uptoBulkAll ds ≤ 1048576)
def OpenSpec.upto (s : _root_.Go.ChangeSpec) : _root_.Go.OpenSpec := { _root_.Go.OpenSpec.ofChange s with cond := some uptoSmall }

/-- 'laws.FnBareBent', WHERE WHAT IT READS IS OF BULK AT MOST 1048576: true; the input reads as it did. -/
def fnBareBentUptoRow : OpenClaim := { program := "ythljacdbmhonfaagreatdoor", sum := "ce41b5f3a2a1f6f18a1a4a02b2f1ad2d13b13957323a775637a83911a17f50c9", func := "loop.example/interlinear/laws.FnBareBent", spec := "fnBareBent", inPlace := ["internal/bytealg.IndexByteString", "internal/bytealg.IndexString", "internal/abi.NoEscape", "internal/bytealg.MakeNoZero"], unfollowed := true, recurses := true, named := ["loop.example/interlinear/impl.ownWords", "strconv.ErrSyntax", "strconv.ErrRange", "internal/strconv.uint64pow10", "math/bits.deBruijn32tab", "math/bits.deBruijn64tab", "internal/bytealg.MaxLen"], apart := false, laid := [("math/bits.deBruijn32tab", laid_math_bits_deBruijn32tab), ("math/bits.deBruijn64tab", laid_math_bits_deBruijn64tab), ("internal/strconv.uint64pow10", laid_internal_strconv_uint64pow10), ("strconv.ErrRange", laid_strconv_ErrRange), ("strconv.ErrSyntax", laid_strconv_ErrSyntax), ("loop.example/interlinear/impl.ownWords", laid_loop_example_interlinear_impl_ownWords)], narrowed := true }
def FnBareBentUptoSaid : Prop := fnBareBentUptoRow.holds Tryz.pinned (OpenSpec.upto fnBareBentSpec)

/-- 'laws.FnExactBareText', WHERE WHAT IT READS IS OF BULK AT MOST 1048576: true; the input reads as it did. -/
def fnExactBareTextUptoRow : OpenClaim := { program := "ythljacdbmhonfaagreatdoor", sum := "ce41b5f3a2a1f6f18a1a4a02b2f1ad2d13b13957323a775637a83911a17f50c9", func := "loop.example/interlinear/laws.FnExactBareText", spec := "fnExactBareText", inPlace := ["internal/bytealg.IndexByteString", "internal/bytealg.IndexString", "internal/abi.NoEscape", "internal/bytealg.MakeNoZero"], unfollowed := true, recurses := true, named := ["loop.example/interlinear/impl.ownWords", "strconv.ErrSyntax", "strconv.ErrRange", "internal/strconv.uint64pow10", "math/bits.deBruijn32tab", "math/bits.deBruijn64tab", "internal/bytealg.MaxLen"], loops := true, apart := false, laid := [("math/bits.deBruijn32tab", laid_math_bits_deBruijn32tab), ("math/bits.deBruijn64tab", laid_math_bits_deBruijn64tab), ("internal/strconv.uint64pow10", laid_internal_strconv_uint64pow10), ("strconv.ErrRange", laid_strconv_ErrRange), ("strconv.ErrSyntax", laid_strconv_ErrSyntax), ("loop.example/interlinear/impl.ownWords", laid_loop_example_interlinear_impl_ownWords)], narrowed := true }
def FnExactBareTextUptoSaid : Prop := fnExactBareTextUptoRow.holds Tryz.pinned (OpenSpec.upto fnExactBareTextSpec)

/-- 'laws.FnBareCast', WHERE WHAT IT READS IS OF BULK AT MOST 1048576: true; the input reads as it did. -/
def fnBareCastUptoRow : OpenClaim := { program := "ythljacdbmhonfaagreatdoor", sum := "ce41b5f3a2a1f6f18a1a4a02b2f1ad2d13b13957323a775637a83911a17f50c9", func := "loop.example/interlinear/laws.FnBareCast", spec := "fnBareCast", inPlace := ["internal/bytealg.IndexByteString", "internal/bytealg.IndexString", "internal/abi.NoEscape", "internal/bytealg.MakeNoZero"], unfollowed := true, recurses := true, named := ["loop.example/interlinear/impl.ownWords", "strconv.ErrSyntax", "strconv.ErrRange", "internal/strconv.uint64pow10", "math/bits.deBruijn32tab", "math/bits.deBruijn64tab", "internal/bytealg.MaxLen"], apart := false, laid := [("math/bits.deBruijn32tab", laid_math_bits_deBruijn32tab), ("math/bits.deBruijn64tab", laid_math_bits_deBruijn64tab), ("internal/strconv.uint64pow10", laid_internal_strconv_uint64pow10), ("strconv.ErrRange", laid_strconv_ErrRange), ("strconv.ErrSyntax", laid_strconv_ErrSyntax), ("loop.example/interlinear/impl.ownWords", laid_loop_example_interlinear_impl_ownWords)], narrowed := true }
def FnBareCastUptoSaid : Prop := fnBareCastUptoRow.holds Tryz.pinned (OpenSpec.upto fnBareCastSpec)

/-- 'laws.FnBareOf', WHERE WHAT IT READS IS OF BULK AT MOST 1048576: true; the input reads as it did. -/
def fnBareOfUptoRow : OpenClaim := { program := "ythljacdbmhonfaagreatdoor", sum := "ce41b5f3a2a1f6f18a1a4a02b2f1ad2d13b13957323a775637a83911a17f50c9", func := "loop.example/interlinear/laws.FnBareOf", spec := "fnBareOf", inPlace := ["internal/bytealg.IndexByteString", "internal/bytealg.IndexString", "internal/abi.NoEscape", "internal/bytealg.MakeNoZero"], unfollowed := true, recurses := true, named := ["loop.example/interlinear/impl.ownWords", "strconv.ErrSyntax", "strconv.ErrRange", "internal/strconv.uint64pow10", "math/bits.deBruijn32tab", "math/bits.deBruijn64tab", "internal/bytealg.MaxLen"], apart := false, laid := [("math/bits.deBruijn32tab", laid_math_bits_deBruijn32tab), ("math/bits.deBruijn64tab", laid_math_bits_deBruijn64tab), ("internal/strconv.uint64pow10", laid_internal_strconv_uint64pow10), ("strconv.ErrRange", laid_strconv_ErrRange), ("strconv.ErrSyntax", laid_strconv_ErrSyntax), ("loop.example/interlinear/impl.ownWords", laid_loop_example_interlinear_impl_ownWords)], narrowed := true }
def FnBareOfUptoSaid : Prop := fnBareOfUptoRow.holds Tryz.pinned (OpenSpec.upto fnBareOfSpec)

/-- 'laws.FnEmitType', WHERE WHAT IT READS IS OF BULK AT MOST 1048576: true; the input reads as it did. -/
def fnEmitTypeUptoRow : OpenClaim := { program := "ythljacdbmhonfaagreatdoor", sum := "ce41b5f3a2a1f6f18a1a4a02b2f1ad2d13b13957323a775637a83911a17f50c9", func := "loop.example/interlinear/laws.FnEmitType", spec := "fnEmitType", inPlace := ["internal/bytealg.IndexByteString", "internal/bytealg.IndexString", "internal/abi.NoEscape", "internal/bytealg.MakeNoZero"], unfollowed := true, recurses := true, named := ["loop.example/interlinear/impl.ownWords", "strconv.ErrSyntax", "strconv.ErrRange", "internal/strconv.uint64pow10", "math/bits.deBruijn32tab", "math/bits.deBruijn64tab", "internal/bytealg.MaxLen"], apart := false, laid := [("math/bits.deBruijn32tab", laid_math_bits_deBruijn32tab), ("math/bits.deBruijn64tab", laid_math_bits_deBruijn64tab), ("internal/strconv.uint64pow10", laid_internal_strconv_uint64pow10), ("strconv.ErrRange", laid_strconv_ErrRange), ("strconv.ErrSyntax", laid_strconv_ErrSyntax), ("loop.example/interlinear/impl.ownWords", laid_loop_example_interlinear_impl_ownWords)], narrowed := true }
def FnEmitTypeUptoSaid : Prop := fnEmitTypeUptoRow.holds Tryz.pinned (OpenSpec.upto fnEmitTypeSpec)

/-- 'laws.FnExactBareOf', WHERE WHAT IT READS IS OF BULK AT MOST 1048576: true; the input reads as it did. -/
def fnExactBareOfUptoRow : OpenClaim := { program := "ythljacdbmhonfaagreatdoor", sum := "ce41b5f3a2a1f6f18a1a4a02b2f1ad2d13b13957323a775637a83911a17f50c9", func := "loop.example/interlinear/laws.FnExactBareOf", spec := "fnExactBareOf", inPlace := ["internal/bytealg.IndexByteString", "internal/bytealg.IndexString", "internal/abi.NoEscape", "internal/bytealg.MakeNoZero"], unfollowed := true, recurses := true, named := ["loop.example/interlinear/impl.ownWords", "strconv.ErrSyntax", "strconv.ErrRange", "internal/strconv.uint64pow10", "math/bits.deBruijn32tab", "math/bits.deBruijn64tab", "internal/bytealg.MaxLen"], loops := true, apart := false, laid := [("math/bits.deBruijn32tab", laid_math_bits_deBruijn32tab), ("math/bits.deBruijn64tab", laid_math_bits_deBruijn64tab), ("internal/strconv.uint64pow10", laid_internal_strconv_uint64pow10), ("strconv.ErrRange", laid_strconv_ErrRange), ("strconv.ErrSyntax", laid_strconv_ErrSyntax), ("loop.example/interlinear/impl.ownWords", laid_loop_example_interlinear_impl_ownWords)], narrowed := true }
def FnExactBareOfUptoSaid : Prop := fnExactBareOfUptoRow.holds Tryz.pinned (OpenSpec.upto fnExactBareOfSpec)

/-- 'laws.FnEmitNames', WHERE WHAT IT READS IS OF BULK AT MOST 1048576: true; the input reads as it did. -/
def fnEmitNamesUptoRow : OpenClaim := { program := "ythljacdbmhonfaagreatdoor", sum := "ce41b5f3a2a1f6f18a1a4a02b2f1ad2d13b13957323a775637a83911a17f50c9", func := "loop.example/interlinear/laws.FnEmitNames", spec := "fnEmitNames", inPlace := ["internal/bytealg.IndexByteString", "internal/bytealg.IndexString", "internal/abi.NoEscape", "internal/bytealg.MakeNoZero"], unfollowed := true, recurses := true, named := ["loop.example/interlinear/impl.ownWords", "strconv.ErrSyntax", "strconv.ErrRange", "internal/strconv.uint64pow10", "math/bits.deBruijn32tab", "math/bits.deBruijn64tab", "internal/bytealg.MaxLen"], apart := false, laid := [("math/bits.deBruijn32tab", laid_math_bits_deBruijn32tab), ("math/bits.deBruijn64tab", laid_math_bits_deBruijn64tab), ("internal/strconv.uint64pow10", laid_internal_strconv_uint64pow10), ("strconv.ErrRange", laid_strconv_ErrRange), ("strconv.ErrSyntax", laid_strconv_ErrSyntax), ("loop.example/interlinear/impl.ownWords", laid_loop_example_interlinear_impl_ownWords)], narrowed := true }
def FnEmitNamesUptoSaid : Prop := fnEmitNamesUptoRow.holds Tryz.pinned (OpenSpec.upto fnEmitNamesSpec)

/-- 'laws.FnEmit', WHERE WHAT IT READS IS OF BULK AT MOST 1048576: true; the input reads as it did. -/
def fnEmitUptoRow : OpenClaim := { program := "ythljacdbmhonfaagreatdoor", sum := "ce41b5f3a2a1f6f18a1a4a02b2f1ad2d13b13957323a775637a83911a17f50c9", func := "loop.example/interlinear/laws.FnEmit", spec := "fnEmit", inPlace := ["internal/bytealg.IndexByteString", "internal/bytealg.IndexString", "internal/abi.NoEscape", "internal/bytealg.MakeNoZero"], unfollowed := true, recurses := true, named := ["loop.example/interlinear/impl.ownWords", "strconv.ErrSyntax", "strconv.ErrRange", "internal/strconv.uint64pow10", "math/bits.deBruijn32tab", "math/bits.deBruijn64tab", "internal/bytealg.MaxLen"], apart := false, laid := [("math/bits.deBruijn32tab", laid_math_bits_deBruijn32tab), ("math/bits.deBruijn64tab", laid_math_bits_deBruijn64tab), ("internal/strconv.uint64pow10", laid_internal_strconv_uint64pow10), ("strconv.ErrRange", laid_strconv_ErrRange), ("strconv.ErrSyntax", laid_strconv_ErrSyntax), ("loop.example/interlinear/impl.ownWords", laid_loop_example_interlinear_impl_ownWords)], narrowed := true }
def FnEmitUptoSaid : Prop := fnEmitUptoRow.holds Tryz.pinned (OpenSpec.upto fnEmitSpec)

/-- 'laws.FnExactEmitLine', WHERE WHAT IT READS IS OF BULK AT MOST 1048576: true; the input reads as it did. -/
def fnExactEmitLineUptoRow : OpenClaim := { program := "ythljacdbmhonfaagreatdoor", sum := "ce41b5f3a2a1f6f18a1a4a02b2f1ad2d13b13957323a775637a83911a17f50c9", func := "loop.example/interlinear/laws.FnExactEmitLine", spec := "fnExactEmitLine", inPlace := ["internal/bytealg.IndexByteString", "internal/bytealg.IndexString", "internal/abi.NoEscape", "internal/bytealg.MakeNoZero"], unfollowed := true, recurses := true, named := ["loop.example/interlinear/impl.ownWords", "strconv.ErrSyntax", "strconv.ErrRange", "internal/strconv.uint64pow10", "math/bits.deBruijn32tab", "math/bits.deBruijn64tab", "internal/bytealg.MaxLen"], loops := true, apart := false, laid := [("math/bits.deBruijn32tab", laid_math_bits_deBruijn32tab), ("math/bits.deBruijn64tab", laid_math_bits_deBruijn64tab), ("internal/strconv.uint64pow10", laid_internal_strconv_uint64pow10), ("strconv.ErrRange", laid_strconv_ErrRange), ("strconv.ErrSyntax", laid_strconv_ErrSyntax), ("loop.example/interlinear/impl.ownWords", laid_loop_example_interlinear_impl_ownWords)], narrowed := true }
def FnExactEmitLineUptoSaid : Prop := fnExactEmitLineUptoRow.holds Tryz.pinned (OpenSpec.upto fnExactEmitLineSpec)

/-- 'laws.FnExactEmitText', WHERE WHAT IT READS IS OF BULK AT MOST 1048576: true; the input reads as it did. -/
def fnExactEmitTextUptoRow : OpenClaim := { program := "ythljacdbmhonfaagreatdoor", sum := "ce41b5f3a2a1f6f18a1a4a02b2f1ad2d13b13957323a775637a83911a17f50c9", func := "loop.example/interlinear/laws.FnExactEmitText", spec := "fnExactEmitText", inPlace := ["internal/bytealg.IndexByteString", "internal/bytealg.IndexString", "internal/abi.NoEscape", "internal/bytealg.MakeNoZero"], unfollowed := true, recurses := true, named := ["loop.example/interlinear/impl.ownWords", "strconv.ErrSyntax", "strconv.ErrRange", "internal/strconv.uint64pow10", "math/bits.deBruijn32tab", "math/bits.deBruijn64tab", "internal/bytealg.MaxLen"], loops := true, apart := false, laid := [("math/bits.deBruijn32tab", laid_math_bits_deBruijn32tab), ("math/bits.deBruijn64tab", laid_math_bits_deBruijn64tab), ("internal/strconv.uint64pow10", laid_internal_strconv_uint64pow10), ("strconv.ErrRange", laid_strconv_ErrRange), ("strconv.ErrSyntax", laid_strconv_ErrSyntax), ("loop.example/interlinear/impl.ownWords", laid_loop_example_interlinear_impl_ownWords)], narrowed := true }
def FnExactEmitTextUptoSaid : Prop := fnExactEmitTextUptoRow.holds Tryz.pinned (OpenSpec.upto fnExactEmitTextSpec)

/-- 'laws.FnBareCat', WHERE WHAT IT READS IS OF BULK AT MOST 1048576: true; the input reads as it did. -/
def fnBareCatUptoRow : OpenClaim := { program := "ythljacdbmhonfaagreatdoor", sum := "ce41b5f3a2a1f6f18a1a4a02b2f1ad2d13b13957323a775637a83911a17f50c9", func := "loop.example/interlinear/laws.FnBareCat", spec := "fnBareCat", inPlace := ["internal/bytealg.IndexByteString", "internal/bytealg.IndexString", "internal/abi.NoEscape", "internal/bytealg.MakeNoZero"], unfollowed := true, recurses := true, named := ["loop.example/interlinear/impl.ownWords", "strconv.ErrSyntax", "strconv.ErrRange", "internal/strconv.uint64pow10", "math/bits.deBruijn32tab", "math/bits.deBruijn64tab", "internal/bytealg.MaxLen"], apart := false, laid := [("math/bits.deBruijn32tab", laid_math_bits_deBruijn32tab), ("math/bits.deBruijn64tab", laid_math_bits_deBruijn64tab), ("internal/strconv.uint64pow10", laid_internal_strconv_uint64pow10), ("strconv.ErrRange", laid_strconv_ErrRange), ("strconv.ErrSyntax", laid_strconv_ErrSyntax), ("loop.example/interlinear/impl.ownWords", laid_loop_example_interlinear_impl_ownWords)], narrowed := true }
def FnBareCatUptoSaid : Prop := fnBareCatUptoRow.holds Tryz.pinned (OpenSpec.upto fnBareCatSpec)

/-- 'laws.FnBareSame', WHERE WHAT IT READS IS OF BULK AT MOST 1048576: true; the input reads as it did. -/
def fnBareSameUptoRow : OpenClaim := { program := "ythljacdbmhonfaagreatdoor", sum := "ce41b5f3a2a1f6f18a1a4a02b2f1ad2d13b13957323a775637a83911a17f50c9", func := "loop.example/interlinear/laws.FnBareSame", spec := "fnBareSame", inPlace := ["internal/bytealg.IndexByteString", "internal/bytealg.IndexString", "internal/abi.NoEscape", "internal/bytealg.MakeNoZero"], unfollowed := true, recurses := true, named := ["loop.example/interlinear/impl.ownWords", "strconv.ErrSyntax", "strconv.ErrRange", "internal/strconv.uint64pow10", "math/bits.deBruijn32tab", "math/bits.deBruijn64tab", "internal/bytealg.MaxLen"], apart := false, laid := [("math/bits.deBruijn32tab", laid_math_bits_deBruijn32tab), ("math/bits.deBruijn64tab", laid_math_bits_deBruijn64tab), ("internal/strconv.uint64pow10", laid_internal_strconv_uint64pow10), ("strconv.ErrRange", laid_strconv_ErrRange), ("strconv.ErrSyntax", laid_strconv_ErrSyntax), ("loop.example/interlinear/impl.ownWords", laid_loop_example_interlinear_impl_ownWords)], narrowed := true }
def FnBareSameUptoSaid : Prop := fnBareSameUptoRow.holds Tryz.pinned (OpenSpec.upto fnBareSameSpec)

end Rows
end Go.Proofs.YthljacdbmhonfaaGreatDoor
