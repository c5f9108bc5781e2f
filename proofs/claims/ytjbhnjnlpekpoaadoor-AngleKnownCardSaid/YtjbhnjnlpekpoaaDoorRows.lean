/-
  NARROWER THAN 'FOR EVERY INPUT', by the rows' own cells (each row's printed sentence says how): AngleCircle: laid · AngleBack: laid · AngleSines: laid · AngleEncloses: laid · AngleFractions: laid · AngleArithmetic: laid · AngleRoots: laid · AngleArcs: laid · AngleWithin: laid · AngleStrings: laid · AngleRead: laid · AngleKnown: laid.
  DERIVED. THE GIVEN ROWS OF THIS SEAT. 12 by the template 'for every input the law returns true; each argument reads behind the call as it read before'; 0 by the template 'total and deterministic' (their statements: YtjbhnjnlpekpoaaDoorTotals.lean).
  GIVEN WITH THE SEED: the statements are not yours to turn. If you find one false, say at which input.
  Laid BY PROGRAM, IN A SANDBOX (cutbox-rows.mjs): the forced cells as the released guide's own fill.sh prints them over the translation eba4c6d62f2854a7… (all of the seat's roots in one cut). By AI agents, Wed Nov 11 2026. No macro, syntax, notation, axiom, sorry.
-/
import Derived.Test.YtjbhnjnlpekpoaaDoorChecked
import GoSem.PinnedTables
import GoSem.Claim
import GoSem.ClaimJoined
import GoSem.ClaimMapViews
import Derived.JoinedTies
import Derived.KernelRfl
namespace Go.Proofs.YtjbhnjnlpekpoaaDoor
/- THE CELL 'sum', in the pinned program and in every row, IS THE sha256 OF THE DUMP (.gsa) THAT YtjbhnjnlpekpoaaDoorProg.lean LOADS. Nothing in Lean hashes anything: it is a label: what it is worth is what the hold of that sum in a sandbox is worth. -/
noncomputable def Tryd.pinned : Pinned := { name := "ytjbhnjnlpekpoaadoor", sum := "eba4c6d62f2854a7d78a36c116fcd921a657cbba24a7cb6854890827ebbd1a61", checked := Tryd.checked }
namespace Rows
def none {H : Type} : Left H := { results := [], args := [] }

/- WHAT THE LISTED PACKAGE-LEVEL VARIABLES READ AS WHEN THE CALL BEGINS. Each datum BY PROGRAM (the guide's laid-datum.mjs) off the statement by which the dump's own 'gosem.cut.vars' lays the variable. In a bare row this is a premise. The card (YtjbhnjnlpekpoaaDoorCards.lean) ties it to the program's text. -/
def laid_math_bits_deBruijn32tab {H : Type} : DataW H := .agg [.lit (.int .u8 0), .lit (.int .u8 1), .lit (.int .u8 28), .lit (.int .u8 2), .lit (.int .u8 29), .lit (.int .u8 14), .lit (.int .u8 24), .lit (.int .u8 3), .lit (.int .u8 30), .lit (.int .u8 22), .lit (.int .u8 20), .lit (.int .u8 15), .lit (.int .u8 25), .lit (.int .u8 17), .lit (.int .u8 4), .lit (.int .u8 8), .lit (.int .u8 31), .lit (.int .u8 27), .lit (.int .u8 13), .lit (.int .u8 23), .lit (.int .u8 21), .lit (.int .u8 19), .lit (.int .u8 16), .lit (.int .u8 7), .lit (.int .u8 26), .lit (.int .u8 12), .lit (.int .u8 18), .lit (.int .u8 6), .lit (.int .u8 11), .lit (.int .u8 5), .lit (.int .u8 10), .lit (.int .u8 9)]
def laid_math_bits_deBruijn64tab {H : Type} : DataW H := .agg [.lit (.int .u8 0), .lit (.int .u8 1), .lit (.int .u8 56), .lit (.int .u8 2), .lit (.int .u8 57), .lit (.int .u8 49), .lit (.int .u8 28), .lit (.int .u8 3), .lit (.int .u8 61), .lit (.int .u8 58), .lit (.int .u8 42), .lit (.int .u8 50), .lit (.int .u8 38), .lit (.int .u8 29), .lit (.int .u8 17), .lit (.int .u8 4), .lit (.int .u8 62), .lit (.int .u8 47), .lit (.int .u8 59), .lit (.int .u8 36), .lit (.int .u8 45), .lit (.int .u8 43), .lit (.int .u8 51), .lit (.int .u8 22), .lit (.int .u8 53), .lit (.int .u8 39), .lit (.int .u8 33), .lit (.int .u8 30), .lit (.int .u8 24), .lit (.int .u8 18), .lit (.int .u8 12), .lit (.int .u8 5), .lit (.int .u8 63), .lit (.int .u8 55), .lit (.int .u8 48), .lit (.int .u8 27), .lit (.int .u8 60), .lit (.int .u8 41), .lit (.int .u8 37), .lit (.int .u8 16), .lit (.int .u8 46), .lit (.int .u8 35), .lit (.int .u8 44), .lit (.int .u8 21), .lit (.int .u8 52), .lit (.int .u8 32), .lit (.int .u8 23), .lit (.int .u8 11), .lit (.int .u8 54), .lit (.int .u8 26), .lit (.int .u8 40), .lit (.int .u8 15), .lit (.int .u8 34), .lit (.int .u8 20), .lit (.int .u8 31), .lit (.int .u8 10), .lit (.int .u8 25), .lit (.int .u8 14), .lit (.int .u8 19), .lit (.int .u8 9), .lit (.int .u8 13), .lit (.int .u8 8), .lit (.int .u8 7), .lit (.int .u8 6)]
def laid_internal_strconv_uint64pow10 {H : Type} : DataW H := .agg [.lit (.int .u64 1), .lit (.int .u64 10), .lit (.int .u64 100), .lit (.int .u64 1000), .lit (.int .u64 10000), .lit (.int .u64 100000), .lit (.int .u64 1000000), .lit (.int .u64 10000000), .lit (.int .u64 100000000), .lit (.int .u64 1000000000), .lit (.int .u64 10000000000), .lit (.int .u64 100000000000), .lit (.int .u64 1000000000000), .lit (.int .u64 10000000000000), .lit (.int .u64 100000000000000), .lit (.int .u64 1000000000000000), .lit (.int .u64 10000000000000000), .lit (.int .u64 100000000000000000), .lit (.int .u64 1000000000000000000), .lit (.int .u64 10000000000000000000)]
def laid_unicode_utf8_acceptRanges {H : Type} : DataW H := .agg [.agg [.lit (.int .u8 128), .lit (.int .u8 191)], .agg [.lit (.int .u8 160), .lit (.int .u8 191)], .agg [.lit (.int .u8 128), .lit (.int .u8 159)], .agg [.lit (.int .u8 144), .lit (.int .u8 191)], .agg [.lit (.int .u8 128), .lit (.int .u8 143)], .agg [.lit (.int .u8 0), .lit (.int .u8 0)], .agg [.lit (.int .u8 0), .lit (.int .u8 0)], .agg [.lit (.int .u8 0), .lit (.int .u8 0)], .agg [.lit (.int .u8 0), .lit (.int .u8 0)], .agg [.lit (.int .u8 0), .lit (.int .u8 0)], .agg [.lit (.int .u8 0), .lit (.int .u8 0)], .agg [.lit (.int .u8 0), .lit (.int .u8 0)], .agg [.lit (.int .u8 0), .lit (.int .u8 0)], .agg [.lit (.int .u8 0), .lit (.int .u8 0)], .agg [.lit (.int .u8 0), .lit (.int .u8 0)], .agg [.lit (.int .u8 0), .lit (.int .u8 0)]]
def laid_linkboy_angle_letters {H : Type} : DataW H := .agg [.agg [.lit (.string [78]), .lit (.int .i64 0), .lit (.int .i64 1), .lit (.int .i64 90)], .agg [.lit (.string [83]), .lit (.int .i64 0), .lit (.int .i64 (-1)), .lit (.int .i64 90)], .agg [.lit (.string [69]), .lit (.int .i64 1), .lit (.int .i64 1), .lit (.int .i64 180)], .agg [.lit (.string [87]), .lit (.int .i64 1), .lit (.int .i64 (-1)), .lit (.int .i64 180)]]
/-- One of Go's own tables, pinned by name: the form's constant. -/
def laid_unicode_utf8_first : DataW Unit := Go.Pinned.utf8First
def laid_strconv_ErrRange {H : Type} : DataW H := .iface "*errors.errorString" (.ptr (.agg [.lit (.string [118, 97, 108, 117, 101, 32, 111, 117, 116, 32, 111, 102, 32, 114, 97, 110, 103, 101])]))
def laid_strconv_ErrSyntax {H : Type} : DataW H := .iface "*errors.errorString" (.ptr (.agg [.lit (.string [105, 110, 118, 97, 108, 105, 100, 32, 115, 121, 110, 116, 97, 120])]))

/-- 'linkboylaw01.AngleCircle': WHATEVER THE INPUT: true; the input reads as it did. -/
def angleCircleSpec : ChangeSpec := { name := "angleCircle", fn := fun _ => fun
  | [d1, d2] => { results := [.lit (.bool true)], args := [d1, d2] }
  | _ => none }
def angleCircleRow : OpenClaim := { program := "ytjbhnjnlpekpoaadoor", sum := "eba4c6d62f2854a7d78a36c116fcd921a657cbba24a7cb6854890827ebbd1a61", func := "linkboy/linkboylaw01.AngleCircle", spec := "angleCircle", inPlace := ["math/bits.Add64", "math/bits.Sub64", "internal/bytealg.IndexByteString", "internal/bytealg.IndexString"], unfollowed := true, recurses := true, named := ["math/bits.divideError", "math/bits.overflowError", "linkboy/angle.letters", "internal/strconv.uint64pow10", "math/bits.deBruijn32tab", "math/bits.deBruijn64tab", "unicode/utf8.first", "unicode/utf8.acceptRanges", "internal/bytealg.MaxLen"], apart := false, laid := [("math/bits.deBruijn32tab", laid_math_bits_deBruijn32tab), ("math/bits.deBruijn64tab", laid_math_bits_deBruijn64tab), ("internal/strconv.uint64pow10", laid_internal_strconv_uint64pow10), ("unicode/utf8.acceptRanges", laid_unicode_utf8_acceptRanges), ("linkboy/angle.letters", laid_linkboy_angle_letters), ("unicode/utf8.first", laid_unicode_utf8_first)] }
def AngleCircleSaid : Prop := angleCircleRow.holds Tryd.pinned (OpenSpec.ofChange angleCircleSpec)

/-- ITS FALSE NEIGHBOUR: 'it returns false'. Refute it at one input. -/
def angleCircleWrong : ChangeSpec := { name := "angleCircle", fn := fun _ => fun
  | [d1, d2] => { results := [.lit (.bool false)], args := [d1, d2] }
  | _ => none }
def AngleCircleWrongFalsely : Prop := angleCircleRow.holds Tryd.pinned (OpenSpec.ofChange angleCircleWrong)

/-- 'linkboylaw01.AngleBack': WHATEVER THE INPUT: true; the input reads as it did. -/
def angleBackSpec : ChangeSpec := { name := "angleBack", fn := fun _ => fun
  | [d1, d2] => { results := [.lit (.bool true)], args := [d1, d2] }
  | _ => none }
def angleBackRow : OpenClaim := { program := "ytjbhnjnlpekpoaadoor", sum := "eba4c6d62f2854a7d78a36c116fcd921a657cbba24a7cb6854890827ebbd1a61", func := "linkboy/linkboylaw01.AngleBack", spec := "angleBack", inPlace := ["math/bits.Add64", "math/bits.Sub64", "internal/bytealg.IndexByteString", "internal/bytealg.IndexString"], unfollowed := true, recurses := true, named := ["math/bits.divideError", "math/bits.overflowError", "linkboy/angle.letters", "internal/strconv.uint64pow10", "math/bits.deBruijn32tab", "math/bits.deBruijn64tab", "unicode/utf8.first", "unicode/utf8.acceptRanges", "internal/bytealg.MaxLen"], apart := false, laid := [("math/bits.deBruijn32tab", laid_math_bits_deBruijn32tab), ("math/bits.deBruijn64tab", laid_math_bits_deBruijn64tab), ("internal/strconv.uint64pow10", laid_internal_strconv_uint64pow10), ("unicode/utf8.acceptRanges", laid_unicode_utf8_acceptRanges), ("linkboy/angle.letters", laid_linkboy_angle_letters), ("unicode/utf8.first", laid_unicode_utf8_first)] }
def AngleBackSaid : Prop := angleBackRow.holds Tryd.pinned (OpenSpec.ofChange angleBackSpec)

/-- ITS FALSE NEIGHBOUR: 'it returns false'. Refute it at one input. -/
def angleBackWrong : ChangeSpec := { name := "angleBack", fn := fun _ => fun
  | [d1, d2] => { results := [.lit (.bool false)], args := [d1, d2] }
  | _ => none }
def AngleBackWrongFalsely : Prop := angleBackRow.holds Tryd.pinned (OpenSpec.ofChange angleBackWrong)

/-- 'linkboylaw01.AngleSines': WHATEVER THE INPUT: true; the input reads as it did. -/
def angleSinesSpec : ChangeSpec := { name := "angleSines", fn := fun _ => fun
  | [d1, d2] => { results := [.lit (.bool true)], args := [d1, d2] }
  | _ => none }
def angleSinesRow : OpenClaim := { program := "ytjbhnjnlpekpoaadoor", sum := "eba4c6d62f2854a7d78a36c116fcd921a657cbba24a7cb6854890827ebbd1a61", func := "linkboy/linkboylaw01.AngleSines", spec := "angleSines", inPlace := ["math/bits.Add64", "math/bits.Sub64", "internal/bytealg.IndexByteString", "internal/bytealg.IndexString"], unfollowed := true, recurses := true, named := ["math/bits.divideError", "math/bits.overflowError", "linkboy/angle.letters", "internal/strconv.uint64pow10", "math/bits.deBruijn32tab", "math/bits.deBruijn64tab", "unicode/utf8.first", "unicode/utf8.acceptRanges", "internal/bytealg.MaxLen"], apart := false, laid := [("math/bits.deBruijn32tab", laid_math_bits_deBruijn32tab), ("math/bits.deBruijn64tab", laid_math_bits_deBruijn64tab), ("internal/strconv.uint64pow10", laid_internal_strconv_uint64pow10), ("unicode/utf8.acceptRanges", laid_unicode_utf8_acceptRanges), ("linkboy/angle.letters", laid_linkboy_angle_letters), ("unicode/utf8.first", laid_unicode_utf8_first)] }
def AngleSinesSaid : Prop := angleSinesRow.holds Tryd.pinned (OpenSpec.ofChange angleSinesSpec)

/-- ITS FALSE NEIGHBOUR: 'it returns false'. Refute it at one input. -/
def angleSinesWrong : ChangeSpec := { name := "angleSines", fn := fun _ => fun
  | [d1, d2] => { results := [.lit (.bool false)], args := [d1, d2] }
  | _ => none }
def AngleSinesWrongFalsely : Prop := angleSinesRow.holds Tryd.pinned (OpenSpec.ofChange angleSinesWrong)

/-- 'linkboylaw01.AngleEncloses': WHATEVER THE INPUT: true; the input reads as it did. -/
def angleEnclosesSpec : ChangeSpec := { name := "angleEncloses", fn := fun _ => fun
  | [d1, d2] => { results := [.lit (.bool true)], args := [d1, d2] }
  | _ => none }
def angleEnclosesRow : OpenClaim := { program := "ytjbhnjnlpekpoaadoor", sum := "eba4c6d62f2854a7d78a36c116fcd921a657cbba24a7cb6854890827ebbd1a61", func := "linkboy/linkboylaw01.AngleEncloses", spec := "angleEncloses", inPlace := ["math/bits.Add64", "math/bits.Sub64", "internal/bytealg.IndexByteString", "internal/bytealg.IndexString"], unfollowed := true, recurses := true, named := ["math/bits.divideError", "math/bits.overflowError", "linkboy/angle.letters", "internal/strconv.uint64pow10", "math/bits.deBruijn32tab", "math/bits.deBruijn64tab", "unicode/utf8.first", "unicode/utf8.acceptRanges", "internal/bytealg.MaxLen"], apart := false, laid := [("math/bits.deBruijn32tab", laid_math_bits_deBruijn32tab), ("math/bits.deBruijn64tab", laid_math_bits_deBruijn64tab), ("internal/strconv.uint64pow10", laid_internal_strconv_uint64pow10), ("unicode/utf8.acceptRanges", laid_unicode_utf8_acceptRanges), ("linkboy/angle.letters", laid_linkboy_angle_letters), ("unicode/utf8.first", laid_unicode_utf8_first)] }
def AngleEnclosesSaid : Prop := angleEnclosesRow.holds Tryd.pinned (OpenSpec.ofChange angleEnclosesSpec)

/-- ITS FALSE NEIGHBOUR: 'it returns false'. Refute it at one input. -/
def angleEnclosesWrong : ChangeSpec := { name := "angleEncloses", fn := fun _ => fun
  | [d1, d2] => { results := [.lit (.bool false)], args := [d1, d2] }
  | _ => none }
def AngleEnclosesWrongFalsely : Prop := angleEnclosesRow.holds Tryd.pinned (OpenSpec.ofChange angleEnclosesWrong)

/-- 'linkboylaw01.AngleFractions': WHATEVER THE INPUT: true; the input reads as it did. -/
def angleFractionsSpec : ChangeSpec := { name := "angleFractions", fn := fun _ => fun
  | [d1, d2, d3] => { results := [.lit (.bool true)], args := [d1, d2, d3] }
  | _ => none }
def angleFractionsRow : OpenClaim := { program := "ytjbhnjnlpekpoaadoor", sum := "eba4c6d62f2854a7d78a36c116fcd921a657cbba24a7cb6854890827ebbd1a61", func := "linkboy/linkboylaw01.AngleFractions", spec := "angleFractions", inPlace := ["math/bits.Add64", "math/bits.Sub64", "internal/bytealg.IndexByteString", "internal/bytealg.IndexString"], unfollowed := true, recurses := true, named := ["math/bits.divideError", "math/bits.overflowError", "linkboy/angle.letters", "internal/strconv.uint64pow10", "math/bits.deBruijn32tab", "math/bits.deBruijn64tab", "unicode/utf8.first", "unicode/utf8.acceptRanges", "internal/bytealg.MaxLen"], apart := false, laid := [("math/bits.deBruijn32tab", laid_math_bits_deBruijn32tab), ("math/bits.deBruijn64tab", laid_math_bits_deBruijn64tab), ("internal/strconv.uint64pow10", laid_internal_strconv_uint64pow10), ("unicode/utf8.acceptRanges", laid_unicode_utf8_acceptRanges), ("linkboy/angle.letters", laid_linkboy_angle_letters), ("unicode/utf8.first", laid_unicode_utf8_first)] }
def AngleFractionsSaid : Prop := angleFractionsRow.holds Tryd.pinned (OpenSpec.ofChange angleFractionsSpec)

/-- ITS FALSE NEIGHBOUR: 'it returns false'. Refute it at one input. -/
def angleFractionsWrong : ChangeSpec := { name := "angleFractions", fn := fun _ => fun
  | [d1, d2, d3] => { results := [.lit (.bool false)], args := [d1, d2, d3] }
  | _ => none }
def AngleFractionsWrongFalsely : Prop := angleFractionsRow.holds Tryd.pinned (OpenSpec.ofChange angleFractionsWrong)

/-- 'linkboylaw01.AngleArithmetic': WHATEVER THE INPUT: true; the input reads as it did. -/
def angleArithmeticSpec : ChangeSpec := { name := "angleArithmetic", fn := fun _ => fun
  | [d1, d2] => { results := [.lit (.bool true)], args := [d1, d2] }
  | _ => none }
def angleArithmeticRow : OpenClaim := { program := "ytjbhnjnlpekpoaadoor", sum := "eba4c6d62f2854a7d78a36c116fcd921a657cbba24a7cb6854890827ebbd1a61", func := "linkboy/linkboylaw01.AngleArithmetic", spec := "angleArithmetic", inPlace := ["math/bits.Add64", "math/bits.Sub64", "internal/bytealg.IndexByteString", "internal/bytealg.IndexString"], unfollowed := true, recurses := true, named := ["math/bits.divideError", "math/bits.overflowError", "linkboy/angle.letters", "internal/strconv.uint64pow10", "math/bits.deBruijn32tab", "math/bits.deBruijn64tab", "unicode/utf8.first", "unicode/utf8.acceptRanges", "internal/bytealg.MaxLen"], apart := false, laid := [("math/bits.deBruijn32tab", laid_math_bits_deBruijn32tab), ("math/bits.deBruijn64tab", laid_math_bits_deBruijn64tab), ("internal/strconv.uint64pow10", laid_internal_strconv_uint64pow10), ("unicode/utf8.acceptRanges", laid_unicode_utf8_acceptRanges), ("linkboy/angle.letters", laid_linkboy_angle_letters), ("unicode/utf8.first", laid_unicode_utf8_first)] }
def AngleArithmeticSaid : Prop := angleArithmeticRow.holds Tryd.pinned (OpenSpec.ofChange angleArithmeticSpec)

/-- ITS FALSE NEIGHBOUR: 'it returns false'. Refute it at one input. -/
def angleArithmeticWrong : ChangeSpec := { name := "angleArithmetic", fn := fun _ => fun
  | [d1, d2] => { results := [.lit (.bool false)], args := [d1, d2] }
  | _ => none }
def AngleArithmeticWrongFalsely : Prop := angleArithmeticRow.holds Tryd.pinned (OpenSpec.ofChange angleArithmeticWrong)

/-- 'linkboylaw01.AngleRoots': WHATEVER THE INPUT: true; the input reads as it did. -/
def angleRootsSpec : ChangeSpec := { name := "angleRoots", fn := fun _ => fun
  | [d] => { results := [.lit (.bool true)], args := [d] }
  | _ => none }
def angleRootsRow : OpenClaim := { program := "ytjbhnjnlpekpoaadoor", sum := "eba4c6d62f2854a7d78a36c116fcd921a657cbba24a7cb6854890827ebbd1a61", func := "linkboy/linkboylaw01.AngleRoots", spec := "angleRoots", inPlace := ["math.sqrt", "math/bits.Add64", "math/bits.Sub64", "internal/bytealg.IndexByteString", "internal/bytealg.IndexString"], unfollowed := true, recurses := true, named := ["math/bits.divideError", "math/bits.overflowError", "linkboy/angle.letters", "internal/strconv.uint64pow10", "math/bits.deBruijn32tab", "math/bits.deBruijn64tab", "unicode/utf8.first", "unicode/utf8.acceptRanges", "internal/bytealg.MaxLen"], apart := false, laid := [("math/bits.deBruijn32tab", laid_math_bits_deBruijn32tab), ("math/bits.deBruijn64tab", laid_math_bits_deBruijn64tab), ("internal/strconv.uint64pow10", laid_internal_strconv_uint64pow10), ("unicode/utf8.acceptRanges", laid_unicode_utf8_acceptRanges), ("linkboy/angle.letters", laid_linkboy_angle_letters), ("unicode/utf8.first", laid_unicode_utf8_first)] }
def AngleRootsSaid : Prop := angleRootsRow.holds Tryd.pinned (OpenSpec.ofChange angleRootsSpec)

/-- ITS FALSE NEIGHBOUR: 'it returns false'. Refute it at one input. -/
def angleRootsWrong : ChangeSpec := { name := "angleRoots", fn := fun _ => fun
  | [d] => { results := [.lit (.bool false)], args := [d] }
  | _ => none }
def AngleRootsWrongFalsely : Prop := angleRootsRow.holds Tryd.pinned (OpenSpec.ofChange angleRootsWrong)

/-- 'linkboylaw01.AngleArcs': WHATEVER THE INPUT: true; the input reads as it did. -/
def angleArcsSpec : ChangeSpec := { name := "angleArcs", fn := fun _ => fun
  | [d] => { results := [.lit (.bool true)], args := [d] }
  | _ => none }
def angleArcsRow : OpenClaim := { program := "ytjbhnjnlpekpoaadoor", sum := "eba4c6d62f2854a7d78a36c116fcd921a657cbba24a7cb6854890827ebbd1a61", func := "linkboy/linkboylaw01.AngleArcs", spec := "angleArcs", inPlace := ["math/bits.Add64", "math/bits.Sub64", "math.sqrt", "internal/bytealg.IndexByteString", "internal/bytealg.IndexString"], unfollowed := true, recurses := true, named := ["math/bits.divideError", "math/bits.overflowError", "linkboy/angle.letters", "internal/strconv.uint64pow10", "math/bits.deBruijn32tab", "math/bits.deBruijn64tab", "unicode/utf8.first", "unicode/utf8.acceptRanges", "internal/bytealg.MaxLen"], apart := false, laid := [("math/bits.deBruijn32tab", laid_math_bits_deBruijn32tab), ("math/bits.deBruijn64tab", laid_math_bits_deBruijn64tab), ("internal/strconv.uint64pow10", laid_internal_strconv_uint64pow10), ("unicode/utf8.acceptRanges", laid_unicode_utf8_acceptRanges), ("linkboy/angle.letters", laid_linkboy_angle_letters), ("unicode/utf8.first", laid_unicode_utf8_first)] }
def AngleArcsSaid : Prop := angleArcsRow.holds Tryd.pinned (OpenSpec.ofChange angleArcsSpec)

/-- ITS FALSE NEIGHBOUR: 'it returns false'. Refute it at one input. -/
def angleArcsWrong : ChangeSpec := { name := "angleArcs", fn := fun _ => fun
  | [d] => { results := [.lit (.bool false)], args := [d] }
  | _ => none }
def AngleArcsWrongFalsely : Prop := angleArcsRow.holds Tryd.pinned (OpenSpec.ofChange angleArcsWrong)

/-- 'linkboylaw01.AngleWithin': WHATEVER THE INPUT: true; the input reads as it did. -/
def angleWithinSpec : ChangeSpec := { name := "angleWithin", fn := fun _ => fun
  | [d1, d2, d3] => { results := [.lit (.bool true)], args := [d1, d2, d3] }
  | _ => none }
def angleWithinRow : OpenClaim := { program := "ytjbhnjnlpekpoaadoor", sum := "eba4c6d62f2854a7d78a36c116fcd921a657cbba24a7cb6854890827ebbd1a61", func := "linkboy/linkboylaw01.AngleWithin", spec := "angleWithin", inPlace := ["math/bits.Add64", "math/bits.Sub64", "internal/bytealg.IndexByteString", "internal/bytealg.IndexString", "math.sqrt"], unfollowed := true, recurses := true, named := ["math/bits.divideError", "math/bits.overflowError", "linkboy/angle.letters", "internal/strconv.uint64pow10", "math/bits.deBruijn32tab", "math/bits.deBruijn64tab", "unicode/utf8.first", "unicode/utf8.acceptRanges", "internal/bytealg.MaxLen"], apart := false, laid := [("math/bits.deBruijn32tab", laid_math_bits_deBruijn32tab), ("math/bits.deBruijn64tab", laid_math_bits_deBruijn64tab), ("internal/strconv.uint64pow10", laid_internal_strconv_uint64pow10), ("unicode/utf8.acceptRanges", laid_unicode_utf8_acceptRanges), ("linkboy/angle.letters", laid_linkboy_angle_letters), ("unicode/utf8.first", laid_unicode_utf8_first)] }
def AngleWithinSaid : Prop := angleWithinRow.holds Tryd.pinned (OpenSpec.ofChange angleWithinSpec)

/-- ITS FALSE NEIGHBOUR: 'it returns false'. Refute it at one input. -/
def angleWithinWrong : ChangeSpec := { name := "angleWithin", fn := fun _ => fun
  | [d1, d2, d3] => { results := [.lit (.bool false)], args := [d1, d2, d3] }
  | _ => none }
def AngleWithinWrongFalsely : Prop := angleWithinRow.holds Tryd.pinned (OpenSpec.ofChange angleWithinWrong)

/-- 'linkboylaw01.AngleStrings': WHATEVER THE INPUT: true; the input reads as it did. -/
def angleStringsSpec : ChangeSpec := { name := "angleStrings", fn := fun _ => fun
  | [d1, d2, d3] => { results := [.lit (.bool true)], args := [d1, d2, d3] }
  | _ => none }
def angleStringsRow : OpenClaim := { program := "ytjbhnjnlpekpoaadoor", sum := "eba4c6d62f2854a7d78a36c116fcd921a657cbba24a7cb6854890827ebbd1a61", func := "linkboy/linkboylaw01.AngleStrings", spec := "angleStrings", inPlace := ["internal/bytealg.IndexByteString", "internal/bytealg.IndexString", "math/bits.Add64", "math/bits.Sub64"], unfollowed := true, recurses := true, named := ["linkboy/angle.letters", "unicode/utf8.first", "unicode/utf8.acceptRanges", "strconv.ErrSyntax", "strconv.ErrRange", "internal/strconv.uint64pow10", "math/bits.deBruijn32tab", "math/bits.deBruijn64tab", "math/bits.divideError", "math/bits.overflowError", "internal/bytealg.MaxLen"], apart := false, laid := [("math/bits.deBruijn32tab", laid_math_bits_deBruijn32tab), ("math/bits.deBruijn64tab", laid_math_bits_deBruijn64tab), ("internal/strconv.uint64pow10", laid_internal_strconv_uint64pow10), ("unicode/utf8.acceptRanges", laid_unicode_utf8_acceptRanges), ("strconv.ErrRange", laid_strconv_ErrRange), ("strconv.ErrSyntax", laid_strconv_ErrSyntax), ("linkboy/angle.letters", laid_linkboy_angle_letters), ("unicode/utf8.first", laid_unicode_utf8_first)] }
def AngleStringsSaid : Prop := angleStringsRow.holds Tryd.pinned (OpenSpec.ofChange angleStringsSpec)

/-- ITS FALSE NEIGHBOUR: 'it returns false'. Refute it at one input. -/
def angleStringsWrong : ChangeSpec := { name := "angleStrings", fn := fun _ => fun
  | [d1, d2, d3] => { results := [.lit (.bool false)], args := [d1, d2, d3] }
  | _ => none }
def AngleStringsWrongFalsely : Prop := angleStringsRow.holds Tryd.pinned (OpenSpec.ofChange angleStringsWrong)

/-- 'linkboylaw01.AngleRead': WHATEVER THE INPUT: true; the input reads as it did. -/
def angleReadSpec : ChangeSpec := { name := "angleRead", fn := fun _ => fun
  | [d1, d2, d3] => { results := [.lit (.bool true)], args := [d1, d2, d3] }
  | _ => none }
def angleReadRow : OpenClaim := { program := "ytjbhnjnlpekpoaadoor", sum := "eba4c6d62f2854a7d78a36c116fcd921a657cbba24a7cb6854890827ebbd1a61", func := "linkboy/linkboylaw01.AngleRead", spec := "angleRead", inPlace := ["internal/bytealg.IndexByteString", "internal/bytealg.IndexString", "math/bits.Add64", "math/bits.Sub64"], unfollowed := true, recurses := true, named := ["linkboy/angle.letters", "internal/strconv.uint64pow10", "math/bits.deBruijn32tab", "math/bits.deBruijn64tab", "unicode/utf8.first", "unicode/utf8.acceptRanges", "strconv.ErrSyntax", "strconv.ErrRange", "math/bits.divideError", "math/bits.overflowError", "internal/bytealg.MaxLen"], apart := false, laid := [("math/bits.deBruijn32tab", laid_math_bits_deBruijn32tab), ("math/bits.deBruijn64tab", laid_math_bits_deBruijn64tab), ("internal/strconv.uint64pow10", laid_internal_strconv_uint64pow10), ("unicode/utf8.acceptRanges", laid_unicode_utf8_acceptRanges), ("strconv.ErrRange", laid_strconv_ErrRange), ("strconv.ErrSyntax", laid_strconv_ErrSyntax), ("linkboy/angle.letters", laid_linkboy_angle_letters), ("unicode/utf8.first", laid_unicode_utf8_first)] }
def AngleReadSaid : Prop := angleReadRow.holds Tryd.pinned (OpenSpec.ofChange angleReadSpec)

/-- ITS FALSE NEIGHBOUR: 'it returns false'. Refute it at one input. -/
def angleReadWrong : ChangeSpec := { name := "angleRead", fn := fun _ => fun
  | [d1, d2, d3] => { results := [.lit (.bool false)], args := [d1, d2, d3] }
  | _ => none }
def AngleReadWrongFalsely : Prop := angleReadRow.holds Tryd.pinned (OpenSpec.ofChange angleReadWrong)

/-- 'linkboylaw01.AngleKnown': WHATEVER THE INPUT: true; the input reads as it did. -/
def angleKnownSpec : ChangeSpec := { name := "angleKnown", fn := fun _ => fun
  | [] => { results := [.lit (.bool true)], args := [] }
  | _ => none }
def angleKnownRow : OpenClaim := { program := "ytjbhnjnlpekpoaadoor", sum := "eba4c6d62f2854a7d78a36c116fcd921a657cbba24a7cb6854890827ebbd1a61", func := "linkboy/linkboylaw01.AngleKnown", spec := "angleKnown", inPlace := ["math/bits.Add64", "math/bits.Sub64", "math.sqrt", "internal/bytealg.IndexByteString", "internal/bytealg.IndexString"], unfollowed := true, recurses := true, named := ["math/bits.divideError", "math/bits.overflowError", "linkboy/angle.letters", "unicode/utf8.first", "unicode/utf8.acceptRanges", "strconv.ErrSyntax", "strconv.ErrRange", "internal/strconv.uint64pow10", "math/bits.deBruijn32tab", "math/bits.deBruijn64tab", "internal/bytealg.MaxLen"], apart := false, laid := [("math/bits.deBruijn32tab", laid_math_bits_deBruijn32tab), ("math/bits.deBruijn64tab", laid_math_bits_deBruijn64tab), ("internal/strconv.uint64pow10", laid_internal_strconv_uint64pow10), ("unicode/utf8.acceptRanges", laid_unicode_utf8_acceptRanges), ("strconv.ErrRange", laid_strconv_ErrRange), ("strconv.ErrSyntax", laid_strconv_ErrSyntax), ("linkboy/angle.letters", laid_linkboy_angle_letters), ("unicode/utf8.first", laid_unicode_utf8_first)] }
def AngleKnownSaid : Prop := angleKnownRow.holds Tryd.pinned (OpenSpec.ofChange angleKnownSpec)

/-- ITS FALSE NEIGHBOUR: 'it returns false'. Refute it at one input. -/
def angleKnownWrong : ChangeSpec := { name := "angleKnown", fn := fun _ => fun
  | [] => { results := [.lit (.bool false)], args := [] }
  | _ => none }
def AngleKnownWrongFalsely : Prop := angleKnownRow.holds Tryd.pinned (OpenSpec.ofChange angleKnownWrong)

/- THE SECOND FORM. 'bulk': how many values and letters a reading holds, each counted each time it is reached (what is shared counts as often as it is met; a slice's spare places count too). A statement '..UptoSaid' is the law's where the arguments, and the package variables that the reading takes, are together of bulk at most 1048576: NARROWER than '..Said'. Prove '..Said' where nothing that the law and all that it calls make is longer than what came in: it says more and counts as full. Else prove '..UptoSaid'. A law counts once. -/
mutual
def uptoBulk {H : Type} : DataW H → Nat
  | .lit (.string bytes) => bytes.length + 1
  | .lit _ => 1
  | .nil => 1
  | .ptr d => uptoBulk d + 1
  | .slice elems spare => uptoBulkAll elems + uptoBulkAll spare + 1
  | .agg parts => uptoBulkAll parts + 1
  | .iface _ d => uptoBulk d + 1
  | .map entries => uptoBulkEntries entries + 1
  | .held _ => 1
def uptoBulkAll {H : Type} : List (DataW H) → Nat
  | [] => 0
  | d :: r => uptoBulk d + uptoBulkAll r
def uptoBulkEntries {H : Type} : List (Lit × DataW H) → Nat
  | [] => 0
  | x :: r => uptoBulkEntry x + uptoBulkEntries r
def uptoBulkEntry {H : Type} : Lit × DataW H → Nat
  | (.string bytes, d) => bytes.length + uptoBulk d + 1
  | (_, d) => uptoBulk d + 1
 end
def uptoSmall : (H : Type) → List (DataW H) → Bool := fun _ ds => decide (uptoBulkAll ds ≤ 1048576)
def OpenSpec.upto (s : _root_.Go.ChangeSpec) : _root_.Go.OpenSpec := { _root_.Go.OpenSpec.ofChange s with cond := some uptoSmall }

/-- 'linkboylaw01.AngleCircle', WHERE WHAT IT READS IS OF BULK AT MOST 1048576: true; the input reads as it did. -/
def angleCircleUptoRow : OpenClaim := { program := "ytjbhnjnlpekpoaadoor", sum := "eba4c6d62f2854a7d78a36c116fcd921a657cbba24a7cb6854890827ebbd1a61", func := "linkboy/linkboylaw01.AngleCircle", spec := "angleCircle", inPlace := ["math/bits.Add64", "math/bits.Sub64", "internal/bytealg.IndexByteString", "internal/bytealg.IndexString"], unfollowed := true, recurses := true, named := ["math/bits.divideError", "math/bits.overflowError", "linkboy/angle.letters", "internal/strconv.uint64pow10", "math/bits.deBruijn32tab", "math/bits.deBruijn64tab", "unicode/utf8.first", "unicode/utf8.acceptRanges", "internal/bytealg.MaxLen"], apart := false, laid := [("math/bits.deBruijn32tab", laid_math_bits_deBruijn32tab), ("math/bits.deBruijn64tab", laid_math_bits_deBruijn64tab), ("internal/strconv.uint64pow10", laid_internal_strconv_uint64pow10), ("unicode/utf8.acceptRanges", laid_unicode_utf8_acceptRanges), ("linkboy/angle.letters", laid_linkboy_angle_letters), ("unicode/utf8.first", laid_unicode_utf8_first)], narrowed := true }
def AngleCircleUptoSaid : Prop := angleCircleUptoRow.holds Tryd.pinned (OpenSpec.upto angleCircleSpec)

/-- 'linkboylaw01.AngleBack', WHERE WHAT IT READS IS OF BULK AT MOST 1048576: true; the input reads as it did. -/
def angleBackUptoRow : OpenClaim := { program := "ytjbhnjnlpekpoaadoor", sum := "eba4c6d62f2854a7d78a36c116fcd921a657cbba24a7cb6854890827ebbd1a61", func := "linkboy/linkboylaw01.AngleBack", spec := "angleBack", inPlace := ["math/bits.Add64", "math/bits.Sub64", "internal/bytealg.IndexByteString", "internal/bytealg.IndexString"], unfollowed := true, recurses := true, named := ["math/bits.divideError", "math/bits.overflowError", "linkboy/angle.letters", "internal/strconv.uint64pow10", "math/bits.deBruijn32tab", "math/bits.deBruijn64tab", "unicode/utf8.first", "unicode/utf8.acceptRanges", "internal/bytealg.MaxLen"], apart := false, laid := [("math/bits.deBruijn32tab", laid_math_bits_deBruijn32tab), ("math/bits.deBruijn64tab", laid_math_bits_deBruijn64tab), ("internal/strconv.uint64pow10", laid_internal_strconv_uint64pow10), ("unicode/utf8.acceptRanges", laid_unicode_utf8_acceptRanges), ("linkboy/angle.letters", laid_linkboy_angle_letters), ("unicode/utf8.first", laid_unicode_utf8_first)], narrowed := true }
def AngleBackUptoSaid : Prop := angleBackUptoRow.holds Tryd.pinned (OpenSpec.upto angleBackSpec)

/-- 'linkboylaw01.AngleSines', WHERE WHAT IT READS IS OF BULK AT MOST 1048576: true; the input reads as it did. -/
def angleSinesUptoRow : OpenClaim := { program := "ytjbhnjnlpekpoaadoor", sum := "eba4c6d62f2854a7d78a36c116fcd921a657cbba24a7cb6854890827ebbd1a61", func := "linkboy/linkboylaw01.AngleSines", spec := "angleSines", inPlace := ["math/bits.Add64", "math/bits.Sub64", "internal/bytealg.IndexByteString", "internal/bytealg.IndexString"], unfollowed := true, recurses := true, named := ["math/bits.divideError", "math/bits.overflowError", "linkboy/angle.letters", "internal/strconv.uint64pow10", "math/bits.deBruijn32tab", "math/bits.deBruijn64tab", "unicode/utf8.first", "unicode/utf8.acceptRanges", "internal/bytealg.MaxLen"], apart := false, laid := [("math/bits.deBruijn32tab", laid_math_bits_deBruijn32tab), ("math/bits.deBruijn64tab", laid_math_bits_deBruijn64tab), ("internal/strconv.uint64pow10", laid_internal_strconv_uint64pow10), ("unicode/utf8.acceptRanges", laid_unicode_utf8_acceptRanges), ("linkboy/angle.letters", laid_linkboy_angle_letters), ("unicode/utf8.first", laid_unicode_utf8_first)], narrowed := true }
def AngleSinesUptoSaid : Prop := angleSinesUptoRow.holds Tryd.pinned (OpenSpec.upto angleSinesSpec)

/-- 'linkboylaw01.AngleEncloses', WHERE WHAT IT READS IS OF BULK AT MOST 1048576: true; the input reads as it did. -/
def angleEnclosesUptoRow : OpenClaim := { program := "ytjbhnjnlpekpoaadoor", sum := "eba4c6d62f2854a7d78a36c116fcd921a657cbba24a7cb6854890827ebbd1a61", func := "linkboy/linkboylaw01.AngleEncloses", spec := "angleEncloses", inPlace := ["math/bits.Add64", "math/bits.Sub64", "internal/bytealg.IndexByteString", "internal/bytealg.IndexString"], unfollowed := true, recurses := true, named := ["math/bits.divideError", "math/bits.overflowError", "linkboy/angle.letters", "internal/strconv.uint64pow10", "math/bits.deBruijn32tab", "math/bits.deBruijn64tab", "unicode/utf8.first", "unicode/utf8.acceptRanges", "internal/bytealg.MaxLen"], apart := false, laid := [("math/bits.deBruijn32tab", laid_math_bits_deBruijn32tab), ("math/bits.deBruijn64tab", laid_math_bits_deBruijn64tab), ("internal/strconv.uint64pow10", laid_internal_strconv_uint64pow10), ("unicode/utf8.acceptRanges", laid_unicode_utf8_acceptRanges), ("linkboy/angle.letters", laid_linkboy_angle_letters), ("unicode/utf8.first", laid_unicode_utf8_first)], narrowed := true }
def AngleEnclosesUptoSaid : Prop := angleEnclosesUptoRow.holds Tryd.pinned (OpenSpec.upto angleEnclosesSpec)

/-- 'linkboylaw01.AngleFractions', WHERE WHAT IT READS IS OF BULK AT MOST 1048576: true; the input reads as it did. -/
def angleFractionsUptoRow : OpenClaim := { program := "ytjbhnjnlpekpoaadoor", sum := "eba4c6d62f2854a7d78a36c116fcd921a657cbba24a7cb6854890827ebbd1a61", func := "linkboy/linkboylaw01.AngleFractions", spec := "angleFractions", inPlace := ["math/bits.Add64", "math/bits.Sub64", "internal/bytealg.IndexByteString", "internal/bytealg.IndexString"], unfollowed := true, recurses := true, named := ["math/bits.divideError", "math/bits.overflowError", "linkboy/angle.letters", "internal/strconv.uint64pow10", "math/bits.deBruijn32tab", "math/bits.deBruijn64tab", "unicode/utf8.first", "unicode/utf8.acceptRanges", "internal/bytealg.MaxLen"], apart := false, laid := [("math/bits.deBruijn32tab", laid_math_bits_deBruijn32tab), ("math/bits.deBruijn64tab", laid_math_bits_deBruijn64tab), ("internal/strconv.uint64pow10", laid_internal_strconv_uint64pow10), ("unicode/utf8.acceptRanges", laid_unicode_utf8_acceptRanges), ("linkboy/angle.letters", laid_linkboy_angle_letters), ("unicode/utf8.first", laid_unicode_utf8_first)], narrowed := true }
def AngleFractionsUptoSaid : Prop := angleFractionsUptoRow.holds Tryd.pinned (OpenSpec.upto angleFractionsSpec)

/-- 'linkboylaw01.AngleArithmetic', WHERE WHAT IT READS IS OF BULK AT MOST 1048576: true; the input reads as it did. -/
def angleArithmeticUptoRow : OpenClaim := { program := "ytjbhnjnlpekpoaadoor", sum := "eba4c6d62f2854a7d78a36c116fcd921a657cbba24a7cb6854890827ebbd1a61", func := "linkboy/linkboylaw01.AngleArithmetic", spec := "angleArithmetic", inPlace := ["math/bits.Add64", "math/bits.Sub64", "internal/bytealg.IndexByteString", "internal/bytealg.IndexString"], unfollowed := true, recurses := true, named := ["math/bits.divideError", "math/bits.overflowError", "linkboy/angle.letters", "internal/strconv.uint64pow10", "math/bits.deBruijn32tab", "math/bits.deBruijn64tab", "unicode/utf8.first", "unicode/utf8.acceptRanges", "internal/bytealg.MaxLen"], apart := false, laid := [("math/bits.deBruijn32tab", laid_math_bits_deBruijn32tab), ("math/bits.deBruijn64tab", laid_math_bits_deBruijn64tab), ("internal/strconv.uint64pow10", laid_internal_strconv_uint64pow10), ("unicode/utf8.acceptRanges", laid_unicode_utf8_acceptRanges), ("linkboy/angle.letters", laid_linkboy_angle_letters), ("unicode/utf8.first", laid_unicode_utf8_first)], narrowed := true }
def AngleArithmeticUptoSaid : Prop := angleArithmeticUptoRow.holds Tryd.pinned (OpenSpec.upto angleArithmeticSpec)

/-- 'linkboylaw01.AngleRoots', WHERE WHAT IT READS IS OF BULK AT MOST 1048576: true; the input reads as it did. -/
def angleRootsUptoRow : OpenClaim := { program := "ytjbhnjnlpekpoaadoor", sum := "eba4c6d62f2854a7d78a36c116fcd921a657cbba24a7cb6854890827ebbd1a61", func := "linkboy/linkboylaw01.AngleRoots", spec := "angleRoots", inPlace := ["math.sqrt", "math/bits.Add64", "math/bits.Sub64", "internal/bytealg.IndexByteString", "internal/bytealg.IndexString"], unfollowed := true, recurses := true, named := ["math/bits.divideError", "math/bits.overflowError", "linkboy/angle.letters", "internal/strconv.uint64pow10", "math/bits.deBruijn32tab", "math/bits.deBruijn64tab", "unicode/utf8.first", "unicode/utf8.acceptRanges", "internal/bytealg.MaxLen"], apart := false, laid := [("math/bits.deBruijn32tab", laid_math_bits_deBruijn32tab), ("math/bits.deBruijn64tab", laid_math_bits_deBruijn64tab), ("internal/strconv.uint64pow10", laid_internal_strconv_uint64pow10), ("unicode/utf8.acceptRanges", laid_unicode_utf8_acceptRanges), ("linkboy/angle.letters", laid_linkboy_angle_letters), ("unicode/utf8.first", laid_unicode_utf8_first)], narrowed := true }
def AngleRootsUptoSaid : Prop := angleRootsUptoRow.holds Tryd.pinned (OpenSpec.upto angleRootsSpec)

/-- 'linkboylaw01.AngleArcs', WHERE WHAT IT READS IS OF BULK AT MOST 1048576: true; the input reads as it did. -/
def angleArcsUptoRow : OpenClaim := { program := "ytjbhnjnlpekpoaadoor", sum := "eba4c6d62f2854a7d78a36c116fcd921a657cbba24a7cb6854890827ebbd1a61", func := "linkboy/linkboylaw01.AngleArcs", spec := "angleArcs", inPlace := ["math/bits.Add64", "math/bits.Sub64", "math.sqrt", "internal/bytealg.IndexByteString", "internal/bytealg.IndexString"], unfollowed := true, recurses := true, named := ["math/bits.divideError", "math/bits.overflowError", "linkboy/angle.letters", "internal/strconv.uint64pow10", "math/bits.deBruijn32tab", "math/bits.deBruijn64tab", "unicode/utf8.first", "unicode/utf8.acceptRanges", "internal/bytealg.MaxLen"], apart := false, laid := [("math/bits.deBruijn32tab", laid_math_bits_deBruijn32tab), ("math/bits.deBruijn64tab", laid_math_bits_deBruijn64tab), ("internal/strconv.uint64pow10", laid_internal_strconv_uint64pow10), ("unicode/utf8.acceptRanges", laid_unicode_utf8_acceptRanges), ("linkboy/angle.letters", laid_linkboy_angle_letters), ("unicode/utf8.first", laid_unicode_utf8_first)], narrowed := true }
def AngleArcsUptoSaid : Prop := angleArcsUptoRow.holds Tryd.pinned (OpenSpec.upto angleArcsSpec)

/-- 'linkboylaw01.AngleWithin', WHERE WHAT IT READS IS OF BULK AT MOST 1048576: true; the input reads as it did. -/
def angleWithinUptoRow : OpenClaim := { program := "ytjbhnjnlpekpoaadoor", sum := "eba4c6d62f2854a7d78a36c116fcd921a657cbba24a7cb6854890827ebbd1a61", func := "linkboy/linkboylaw01.AngleWithin", spec := "angleWithin", inPlace := ["math/bits.Add64", "math/bits.Sub64", "internal/bytealg.IndexByteString", "internal/bytealg.IndexString", "math.sqrt"], unfollowed := true, recurses := true, named := ["math/bits.divideError", "math/bits.overflowError", "linkboy/angle.letters", "internal/strconv.uint64pow10", "math/bits.deBruijn32tab", "math/bits.deBruijn64tab", "unicode/utf8.first", "unicode/utf8.acceptRanges", "internal/bytealg.MaxLen"], apart := false, laid := [("math/bits.deBruijn32tab", laid_math_bits_deBruijn32tab), ("math/bits.deBruijn64tab", laid_math_bits_deBruijn64tab), ("internal/strconv.uint64pow10", laid_internal_strconv_uint64pow10), ("unicode/utf8.acceptRanges", laid_unicode_utf8_acceptRanges), ("linkboy/angle.letters", laid_linkboy_angle_letters), ("unicode/utf8.first", laid_unicode_utf8_first)], narrowed := true }
def AngleWithinUptoSaid : Prop := angleWithinUptoRow.holds Tryd.pinned (OpenSpec.upto angleWithinSpec)

/-- 'linkboylaw01.AngleStrings', WHERE WHAT IT READS IS OF BULK AT MOST 1048576: true; the input reads as it did. -/
def angleStringsUptoRow : OpenClaim := { program := "ytjbhnjnlpekpoaadoor", sum := "eba4c6d62f2854a7d78a36c116fcd921a657cbba24a7cb6854890827ebbd1a61", func := "linkboy/linkboylaw01.AngleStrings", spec := "angleStrings", inPlace := ["internal/bytealg.IndexByteString", "internal/bytealg.IndexString", "math/bits.Add64", "math/bits.Sub64"], unfollowed := true, recurses := true, named := ["linkboy/angle.letters", "unicode/utf8.first", "unicode/utf8.acceptRanges", "strconv.ErrSyntax", "strconv.ErrRange", "internal/strconv.uint64pow10", "math/bits.deBruijn32tab", "math/bits.deBruijn64tab", "math/bits.divideError", "math/bits.overflowError", "internal/bytealg.MaxLen"], apart := false, laid := [("math/bits.deBruijn32tab", laid_math_bits_deBruijn32tab), ("math/bits.deBruijn64tab", laid_math_bits_deBruijn64tab), ("internal/strconv.uint64pow10", laid_internal_strconv_uint64pow10), ("unicode/utf8.acceptRanges", laid_unicode_utf8_acceptRanges), ("strconv.ErrRange", laid_strconv_ErrRange), ("strconv.ErrSyntax", laid_strconv_ErrSyntax), ("linkboy/angle.letters", laid_linkboy_angle_letters), ("unicode/utf8.first", laid_unicode_utf8_first)], narrowed := true }
def AngleStringsUptoSaid : Prop := angleStringsUptoRow.holds Tryd.pinned (OpenSpec.upto angleStringsSpec)

/-- 'linkboylaw01.AngleRead', WHERE WHAT IT READS IS OF BULK AT MOST 1048576: true; the input reads as it did. -/
def angleReadUptoRow : OpenClaim := { program := "ytjbhnjnlpekpoaadoor", sum := "eba4c6d62f2854a7d78a36c116fcd921a657cbba24a7cb6854890827ebbd1a61", func := "linkboy/linkboylaw01.AngleRead", spec := "angleRead", inPlace := ["internal/bytealg.IndexByteString", "internal/bytealg.IndexString", "math/bits.Add64", "math/bits.Sub64"], unfollowed := true, recurses := true, named := ["linkboy/angle.letters", "internal/strconv.uint64pow10", "math/bits.deBruijn32tab", "math/bits.deBruijn64tab", "unicode/utf8.first", "unicode/utf8.acceptRanges", "strconv.ErrSyntax", "strconv.ErrRange", "math/bits.divideError", "math/bits.overflowError", "internal/bytealg.MaxLen"], apart := false, laid := [("math/bits.deBruijn32tab", laid_math_bits_deBruijn32tab), ("math/bits.deBruijn64tab", laid_math_bits_deBruijn64tab), ("internal/strconv.uint64pow10", laid_internal_strconv_uint64pow10), ("unicode/utf8.acceptRanges", laid_unicode_utf8_acceptRanges), ("strconv.ErrRange", laid_strconv_ErrRange), ("strconv.ErrSyntax", laid_strconv_ErrSyntax), ("linkboy/angle.letters", laid_linkboy_angle_letters), ("unicode/utf8.first", laid_unicode_utf8_first)], narrowed := true }
def AngleReadUptoSaid : Prop := angleReadUptoRow.holds Tryd.pinned (OpenSpec.upto angleReadSpec)

/-- 'linkboylaw01.AngleKnown', WHERE WHAT IT READS IS OF BULK AT MOST 1048576: true; the input reads as it did. -/
def angleKnownUptoRow : OpenClaim := { program := "ytjbhnjnlpekpoaadoor", sum := "eba4c6d62f2854a7d78a36c116fcd921a657cbba24a7cb6854890827ebbd1a61", func := "linkboy/linkboylaw01.AngleKnown", spec := "angleKnown", inPlace := ["math/bits.Add64", "math/bits.Sub64", "math.sqrt", "internal/bytealg.IndexByteString", "internal/bytealg.IndexString"], unfollowed := true, recurses := true, named := ["math/bits.divideError", "math/bits.overflowError", "linkboy/angle.letters", "unicode/utf8.first", "unicode/utf8.acceptRanges", "strconv.ErrSyntax", "strconv.ErrRange", "internal/strconv.uint64pow10", "math/bits.deBruijn32tab", "math/bits.deBruijn64tab", "internal/bytealg.MaxLen"], apart := false, laid := [("math/bits.deBruijn32tab", laid_math_bits_deBruijn32tab), ("math/bits.deBruijn64tab", laid_math_bits_deBruijn64tab), ("internal/strconv.uint64pow10", laid_internal_strconv_uint64pow10), ("unicode/utf8.acceptRanges", laid_unicode_utf8_acceptRanges), ("strconv.ErrRange", laid_strconv_ErrRange), ("strconv.ErrSyntax", laid_strconv_ErrSyntax), ("linkboy/angle.letters", laid_linkboy_angle_letters), ("unicode/utf8.first", laid_unicode_utf8_first)], narrowed := true }
def AngleKnownUptoSaid : Prop := angleKnownUptoRow.holds Tryd.pinned (OpenSpec.upto angleKnownSpec)

end Rows
end Go.Proofs.YtjbhnjnlpekpoaaDoor
