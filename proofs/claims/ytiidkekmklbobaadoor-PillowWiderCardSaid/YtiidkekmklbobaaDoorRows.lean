/-
  NARROWER THAN 'FOR EVERY INPUT', by the rows' own cells (each row's printed sentence says how): PillowCases: laid · PillowPossible: laid · PillowWider: laid · PillowRefutes: laid · PillowPairs: laid · PillowAll: laid · PillowFurther: laid · PillowTruth: laid · PillowTree: laid · PillowChecks: laid · PillowTrees: laid · PillowWitnesses: laid · PillowEnds: laid.
  DERIVED. THE GIVEN ROWS OF THIS SEAT. 13 by the template 'for every input the law returns true; each argument reads behind the call as it read before'; 0 by the template 'total and deterministic' (their statements: YtiidkekmklbobaaDoorTotals.lean).
  GIVEN WITH THE SEED: the statements are not yours to turn. If you find one false, say at which input.
  Laid BY PROGRAM, IN A SANDBOX (cutbox-rows.mjs): the forced cells as the released guide's own fill.sh prints them over the translation 37002feb77473384… (all of the seat's roots in one cut). By AI agents, Wed Nov 11 2026. No macro, syntax, notation, axiom, sorry.
-/
import Derived.Test.YtiidkekmklbobaaDoorChecked
import GoSem.Claim
import GoSem.ClaimJoined
import GoSem.ClaimMapViews
import Derived.JoinedTies
import Derived.KernelRfl
namespace Go.Proofs.YtiidkekmklbobaaDoor
/- THE CELL 'sum', in the pinned program and in every row, IS THE sha256 OF THE DUMP (.gsa) THAT YtiidkekmklbobaaDoorProg.lean LOADS. Nothing in Lean hashes anything: it is a label: what it is worth is what the hold of that sum in a sandbox is worth. -/
noncomputable def Tryd.pinned : Pinned := { name := "ytiidkekmklbobaadoor", sum := "37002feb77473384802070fac7675ae831cd33e13addcd51e276d3c4ba71f016", checked := Tryd.checked }
namespace Rows
def none {H : Type} : Left H := { results := [], args := [] }

/- WHAT THE LISTED PACKAGE-LEVEL VARIABLES READ AS WHEN THE CALL BEGINS. Each datum BY PROGRAM (the guide's laid-datum.mjs) off the statement by which the dump's own 'gosem.cut.vars' lays the variable. In a bare row this is a premise. The card (YtiidkekmklbobaaDoorCards.lean) ties it to the program's text. -/
def laid_math_bits_deBruijn32tab {H : Type} : DataW H := .agg [.lit (.int .u8 0), .lit (.int .u8 1), .lit (.int .u8 28), .lit (.int .u8 2), .lit (.int .u8 29), .lit (.int .u8 14), .lit (.int .u8 24), .lit (.int .u8 3), .lit (.int .u8 30), .lit (.int .u8 22), .lit (.int .u8 20), .lit (.int .u8 15), .lit (.int .u8 25), .lit (.int .u8 17), .lit (.int .u8 4), .lit (.int .u8 8), .lit (.int .u8 31), .lit (.int .u8 27), .lit (.int .u8 13), .lit (.int .u8 23), .lit (.int .u8 21), .lit (.int .u8 19), .lit (.int .u8 16), .lit (.int .u8 7), .lit (.int .u8 26), .lit (.int .u8 12), .lit (.int .u8 18), .lit (.int .u8 6), .lit (.int .u8 11), .lit (.int .u8 5), .lit (.int .u8 10), .lit (.int .u8 9)]
def laid_math_bits_deBruijn64tab {H : Type} : DataW H := .agg [.lit (.int .u8 0), .lit (.int .u8 1), .lit (.int .u8 56), .lit (.int .u8 2), .lit (.int .u8 57), .lit (.int .u8 49), .lit (.int .u8 28), .lit (.int .u8 3), .lit (.int .u8 61), .lit (.int .u8 58), .lit (.int .u8 42), .lit (.int .u8 50), .lit (.int .u8 38), .lit (.int .u8 29), .lit (.int .u8 17), .lit (.int .u8 4), .lit (.int .u8 62), .lit (.int .u8 47), .lit (.int .u8 59), .lit (.int .u8 36), .lit (.int .u8 45), .lit (.int .u8 43), .lit (.int .u8 51), .lit (.int .u8 22), .lit (.int .u8 53), .lit (.int .u8 39), .lit (.int .u8 33), .lit (.int .u8 30), .lit (.int .u8 24), .lit (.int .u8 18), .lit (.int .u8 12), .lit (.int .u8 5), .lit (.int .u8 63), .lit (.int .u8 55), .lit (.int .u8 48), .lit (.int .u8 27), .lit (.int .u8 60), .lit (.int .u8 41), .lit (.int .u8 37), .lit (.int .u8 16), .lit (.int .u8 46), .lit (.int .u8 35), .lit (.int .u8 44), .lit (.int .u8 21), .lit (.int .u8 52), .lit (.int .u8 32), .lit (.int .u8 23), .lit (.int .u8 11), .lit (.int .u8 54), .lit (.int .u8 26), .lit (.int .u8 40), .lit (.int .u8 15), .lit (.int .u8 34), .lit (.int .u8 20), .lit (.int .u8 31), .lit (.int .u8 10), .lit (.int .u8 25), .lit (.int .u8 14), .lit (.int .u8 19), .lit (.int .u8 9), .lit (.int .u8 13), .lit (.int .u8 8), .lit (.int .u8 7), .lit (.int .u8 6)]
def laid_internal_strconv_uint64pow10 {H : Type} : DataW H := .agg [.lit (.int .u64 1), .lit (.int .u64 10), .lit (.int .u64 100), .lit (.int .u64 1000), .lit (.int .u64 10000), .lit (.int .u64 100000), .lit (.int .u64 1000000), .lit (.int .u64 10000000), .lit (.int .u64 100000000), .lit (.int .u64 1000000000), .lit (.int .u64 10000000000), .lit (.int .u64 100000000000), .lit (.int .u64 1000000000000), .lit (.int .u64 10000000000000), .lit (.int .u64 100000000000000), .lit (.int .u64 1000000000000000), .lit (.int .u64 10000000000000000), .lit (.int .u64 100000000000000000), .lit (.int .u64 1000000000000000000), .lit (.int .u64 10000000000000000000)]

/-- 'snowlinelaw03.PillowCases': WHATEVER THE INPUT: true; the input reads as it did. -/
def pillowCasesSpec : ChangeSpec := { name := "pillowCases", fn := fun _ => fun
  | [d1, d2, d3] => { results := [.lit (.bool true)], args := [d1, d2, d3] }
  | _ => none }
def pillowCasesRow : OpenClaim := { program := "ytiidkekmklbobaadoor", sum := "37002feb77473384802070fac7675ae831cd33e13addcd51e276d3c4ba71f016", func := "snowline/snowlinelaw03.PillowCases", spec := "pillowCases", inPlace := ["internal/abi.NoEscape"], unfollowed := true, recurses := true, named := ["internal/strconv.uint64pow10", "math/bits.deBruijn32tab", "math/bits.deBruijn64tab"], apart := false, laid := [("math/bits.deBruijn32tab", laid_math_bits_deBruijn32tab), ("math/bits.deBruijn64tab", laid_math_bits_deBruijn64tab), ("internal/strconv.uint64pow10", laid_internal_strconv_uint64pow10)] }
def PillowCasesSaid : Prop := pillowCasesRow.holds Tryd.pinned (OpenSpec.ofChange pillowCasesSpec)

/-- ITS FALSE NEIGHBOUR: 'it returns false'. Refute it at one input. -/
def pillowCasesWrong : ChangeSpec := { name := "pillowCases", fn := fun _ => fun
  | [d1, d2, d3] => { results := [.lit (.bool false)], args := [d1, d2, d3] }
  | _ => none }
def PillowCasesWrongFalsely : Prop := pillowCasesRow.holds Tryd.pinned (OpenSpec.ofChange pillowCasesWrong)

/-- 'snowlinelaw03.PillowPossible': WHATEVER THE INPUT: true; the input reads as it did. -/
def pillowPossibleSpec : ChangeSpec := { name := "pillowPossible", fn := fun _ => fun
  | [d1, d2, d3] => { results := [.lit (.bool true)], args := [d1, d2, d3] }
  | _ => none }
def pillowPossibleRow : OpenClaim := { program := "ytiidkekmklbobaadoor", sum := "37002feb77473384802070fac7675ae831cd33e13addcd51e276d3c4ba71f016", func := "snowline/snowlinelaw03.PillowPossible", spec := "pillowPossible", inPlace := ["internal/abi.NoEscape"], unfollowed := true, recurses := true, named := ["internal/strconv.uint64pow10", "math/bits.deBruijn32tab", "math/bits.deBruijn64tab"], apart := false, laid := [("math/bits.deBruijn32tab", laid_math_bits_deBruijn32tab), ("math/bits.deBruijn64tab", laid_math_bits_deBruijn64tab), ("internal/strconv.uint64pow10", laid_internal_strconv_uint64pow10)] }
def PillowPossibleSaid : Prop := pillowPossibleRow.holds Tryd.pinned (OpenSpec.ofChange pillowPossibleSpec)

/-- ITS FALSE NEIGHBOUR: 'it returns false'. Refute it at one input. -/
def pillowPossibleWrong : ChangeSpec := { name := "pillowPossible", fn := fun _ => fun
  | [d1, d2, d3] => { results := [.lit (.bool false)], args := [d1, d2, d3] }
  | _ => none }
def PillowPossibleWrongFalsely : Prop := pillowPossibleRow.holds Tryd.pinned (OpenSpec.ofChange pillowPossibleWrong)

/-- 'snowlinelaw03.PillowWider': WHATEVER THE INPUT: true; the input reads as it did. -/
def pillowWiderSpec : ChangeSpec := { name := "pillowWider", fn := fun _ => fun
  | [d1, d2, d3, d4, d5, d6, d7] => { results := [.lit (.bool true)], args := [d1, d2, d3, d4, d5, d6, d7] }
  | _ => none }
def pillowWiderRow : OpenClaim := { program := "ytiidkekmklbobaadoor", sum := "37002feb77473384802070fac7675ae831cd33e13addcd51e276d3c4ba71f016", func := "snowline/snowlinelaw03.PillowWider", spec := "pillowWider", inPlace := ["internal/abi.NoEscape"], unfollowed := true, recurses := true, named := ["internal/strconv.uint64pow10", "math/bits.deBruijn32tab", "math/bits.deBruijn64tab"], apart := false, laid := [("math/bits.deBruijn32tab", laid_math_bits_deBruijn32tab), ("math/bits.deBruijn64tab", laid_math_bits_deBruijn64tab), ("internal/strconv.uint64pow10", laid_internal_strconv_uint64pow10)] }
def PillowWiderSaid : Prop := pillowWiderRow.holds Tryd.pinned (OpenSpec.ofChange pillowWiderSpec)

/-- ITS FALSE NEIGHBOUR: 'it returns false'. Refute it at one input. -/
def pillowWiderWrong : ChangeSpec := { name := "pillowWider", fn := fun _ => fun
  | [d1, d2, d3, d4, d5, d6, d7] => { results := [.lit (.bool false)], args := [d1, d2, d3, d4, d5, d6, d7] }
  | _ => none }
def PillowWiderWrongFalsely : Prop := pillowWiderRow.holds Tryd.pinned (OpenSpec.ofChange pillowWiderWrong)

/-- 'snowlinelaw03.PillowRefutes': WHATEVER THE INPUT: true; the input reads as it did. -/
def pillowRefutesSpec : ChangeSpec := { name := "pillowRefutes", fn := fun _ => fun
  | [d1, d2, d3, d4] => { results := [.lit (.bool true)], args := [d1, d2, d3, d4] }
  | _ => none }
def pillowRefutesRow : OpenClaim := { program := "ytiidkekmklbobaadoor", sum := "37002feb77473384802070fac7675ae831cd33e13addcd51e276d3c4ba71f016", func := "snowline/snowlinelaw03.PillowRefutes", spec := "pillowRefutes", inPlace := ["internal/abi.NoEscape"], unfollowed := true, recurses := true, named := ["internal/strconv.uint64pow10", "math/bits.deBruijn32tab", "math/bits.deBruijn64tab"], apart := false, laid := [("math/bits.deBruijn32tab", laid_math_bits_deBruijn32tab), ("math/bits.deBruijn64tab", laid_math_bits_deBruijn64tab), ("internal/strconv.uint64pow10", laid_internal_strconv_uint64pow10)] }
def PillowRefutesSaid : Prop := pillowRefutesRow.holds Tryd.pinned (OpenSpec.ofChange pillowRefutesSpec)

/-- ITS FALSE NEIGHBOUR: 'it returns false'. Refute it at one input. -/
def pillowRefutesWrong : ChangeSpec := { name := "pillowRefutes", fn := fun _ => fun
  | [d1, d2, d3, d4] => { results := [.lit (.bool false)], args := [d1, d2, d3, d4] }
  | _ => none }
def PillowRefutesWrongFalsely : Prop := pillowRefutesRow.holds Tryd.pinned (OpenSpec.ofChange pillowRefutesWrong)

/-- 'snowlinelaw03.PillowPairs': WHATEVER THE INPUT: true; the input reads as it did. -/
def pillowPairsSpec : ChangeSpec := { name := "pillowPairs", fn := fun _ => fun
  | [d1, d2, d3, d4] => { results := [.lit (.bool true)], args := [d1, d2, d3, d4] }
  | _ => none }
def pillowPairsRow : OpenClaim := { program := "ytiidkekmklbobaadoor", sum := "37002feb77473384802070fac7675ae831cd33e13addcd51e276d3c4ba71f016", func := "snowline/snowlinelaw03.PillowPairs", spec := "pillowPairs", inPlace := ["internal/abi.NoEscape"], unfollowed := true, recurses := true, named := ["internal/strconv.uint64pow10", "math/bits.deBruijn32tab", "math/bits.deBruijn64tab"], apart := false, laid := [("math/bits.deBruijn32tab", laid_math_bits_deBruijn32tab), ("math/bits.deBruijn64tab", laid_math_bits_deBruijn64tab), ("internal/strconv.uint64pow10", laid_internal_strconv_uint64pow10)] }
def PillowPairsSaid : Prop := pillowPairsRow.holds Tryd.pinned (OpenSpec.ofChange pillowPairsSpec)

/-- ITS FALSE NEIGHBOUR: 'it returns false'. Refute it at one input. -/
def pillowPairsWrong : ChangeSpec := { name := "pillowPairs", fn := fun _ => fun
  | [d1, d2, d3, d4] => { results := [.lit (.bool false)], args := [d1, d2, d3, d4] }
  | _ => none }
def PillowPairsWrongFalsely : Prop := pillowPairsRow.holds Tryd.pinned (OpenSpec.ofChange pillowPairsWrong)

/-- 'snowlinelaw03.PillowAll': WHATEVER THE INPUT: true; the input reads as it did. -/
def pillowAllSpec : ChangeSpec := { name := "pillowAll", fn := fun _ => fun
  | [d1, d2, d3] => { results := [.lit (.bool true)], args := [d1, d2, d3] }
  | _ => none }
def pillowAllRow : OpenClaim := { program := "ytiidkekmklbobaadoor", sum := "37002feb77473384802070fac7675ae831cd33e13addcd51e276d3c4ba71f016", func := "snowline/snowlinelaw03.PillowAll", spec := "pillowAll", inPlace := ["internal/abi.NoEscape"], unfollowed := true, recurses := true, named := ["internal/strconv.uint64pow10", "math/bits.deBruijn32tab", "math/bits.deBruijn64tab"], apart := false, laid := [("math/bits.deBruijn32tab", laid_math_bits_deBruijn32tab), ("math/bits.deBruijn64tab", laid_math_bits_deBruijn64tab), ("internal/strconv.uint64pow10", laid_internal_strconv_uint64pow10)] }
def PillowAllSaid : Prop := pillowAllRow.holds Tryd.pinned (OpenSpec.ofChange pillowAllSpec)

/-- ITS FALSE NEIGHBOUR: 'it returns false'. Refute it at one input. -/
def pillowAllWrong : ChangeSpec := { name := "pillowAll", fn := fun _ => fun
  | [d1, d2, d3] => { results := [.lit (.bool false)], args := [d1, d2, d3] }
  | _ => none }
def PillowAllWrongFalsely : Prop := pillowAllRow.holds Tryd.pinned (OpenSpec.ofChange pillowAllWrong)

/-- 'snowlinelaw03.PillowFurther': WHATEVER THE INPUT: true; the input reads as it did. -/
def pillowFurtherSpec : ChangeSpec := { name := "pillowFurther", fn := fun _ => fun
  | [d1, d2, d3, d4] => { results := [.lit (.bool true)], args := [d1, d2, d3, d4] }
  | _ => none }
def pillowFurtherRow : OpenClaim := { program := "ytiidkekmklbobaadoor", sum := "37002feb77473384802070fac7675ae831cd33e13addcd51e276d3c4ba71f016", func := "snowline/snowlinelaw03.PillowFurther", spec := "pillowFurther", inPlace := ["internal/abi.NoEscape"], unfollowed := true, recurses := true, named := ["internal/strconv.uint64pow10", "math/bits.deBruijn32tab", "math/bits.deBruijn64tab"], apart := false, laid := [("math/bits.deBruijn32tab", laid_math_bits_deBruijn32tab), ("math/bits.deBruijn64tab", laid_math_bits_deBruijn64tab), ("internal/strconv.uint64pow10", laid_internal_strconv_uint64pow10)] }
def PillowFurtherSaid : Prop := pillowFurtherRow.holds Tryd.pinned (OpenSpec.ofChange pillowFurtherSpec)

/-- ITS FALSE NEIGHBOUR: 'it returns false'. Refute it at one input. -/
def pillowFurtherWrong : ChangeSpec := { name := "pillowFurther", fn := fun _ => fun
  | [d1, d2, d3, d4] => { results := [.lit (.bool false)], args := [d1, d2, d3, d4] }
  | _ => none }
def PillowFurtherWrongFalsely : Prop := pillowFurtherRow.holds Tryd.pinned (OpenSpec.ofChange pillowFurtherWrong)

/-- 'snowlinelaw03.PillowTruth': WHATEVER THE INPUT: true; the input reads as it did. -/
def pillowTruthSpec : ChangeSpec := { name := "pillowTruth", fn := fun _ => fun
  | [d] => { results := [.lit (.bool true)], args := [d] }
  | _ => none }
def pillowTruthRow : OpenClaim := { program := "ytiidkekmklbobaadoor", sum := "37002feb77473384802070fac7675ae831cd33e13addcd51e276d3c4ba71f016", func := "snowline/snowlinelaw03.PillowTruth", spec := "pillowTruth", inPlace := ["internal/abi.NoEscape"], unfollowed := true, recurses := true, named := ["internal/strconv.uint64pow10", "math/bits.deBruijn32tab", "math/bits.deBruijn64tab"], apart := false, laid := [("math/bits.deBruijn32tab", laid_math_bits_deBruijn32tab), ("math/bits.deBruijn64tab", laid_math_bits_deBruijn64tab), ("internal/strconv.uint64pow10", laid_internal_strconv_uint64pow10)] }
def PillowTruthSaid : Prop := pillowTruthRow.holds Tryd.pinned (OpenSpec.ofChange pillowTruthSpec)

/-- ITS FALSE NEIGHBOUR: 'it returns false'. Refute it at one input. -/
def pillowTruthWrong : ChangeSpec := { name := "pillowTruth", fn := fun _ => fun
  | [d] => { results := [.lit (.bool false)], args := [d] }
  | _ => none }
def PillowTruthWrongFalsely : Prop := pillowTruthRow.holds Tryd.pinned (OpenSpec.ofChange pillowTruthWrong)

/-- 'snowlinelaw03.PillowTree': WHATEVER THE INPUT: true; the input reads as it did. -/
def pillowTreeSpec : ChangeSpec := { name := "pillowTree", fn := fun _ => fun
  | [d1, d2] => { results := [.lit (.bool true)], args := [d1, d2] }
  | _ => none }
def pillowTreeRow : OpenClaim := { program := "ytiidkekmklbobaadoor", sum := "37002feb77473384802070fac7675ae831cd33e13addcd51e276d3c4ba71f016", func := "snowline/snowlinelaw03.PillowTree", spec := "pillowTree", inPlace := ["internal/abi.NoEscape"], unfollowed := true, recurses := true, named := ["internal/strconv.uint64pow10", "math/bits.deBruijn32tab", "math/bits.deBruijn64tab"], apart := false, laid := [("math/bits.deBruijn32tab", laid_math_bits_deBruijn32tab), ("math/bits.deBruijn64tab", laid_math_bits_deBruijn64tab), ("internal/strconv.uint64pow10", laid_internal_strconv_uint64pow10)] }
def PillowTreeSaid : Prop := pillowTreeRow.holds Tryd.pinned (OpenSpec.ofChange pillowTreeSpec)

/-- ITS FALSE NEIGHBOUR: 'it returns false'. Refute it at one input. -/
def pillowTreeWrong : ChangeSpec := { name := "pillowTree", fn := fun _ => fun
  | [d1, d2] => { results := [.lit (.bool false)], args := [d1, d2] }
  | _ => none }
def PillowTreeWrongFalsely : Prop := pillowTreeRow.holds Tryd.pinned (OpenSpec.ofChange pillowTreeWrong)

/-- 'snowlinelaw03.PillowChecks': WHATEVER THE INPUT: true; the input reads as it did. -/
def pillowChecksSpec : ChangeSpec := { name := "pillowChecks", fn := fun _ => fun
  | [d1, d2, d3, d4] => { results := [.lit (.bool true)], args := [d1, d2, d3, d4] }
  | _ => none }
def pillowChecksRow : OpenClaim := { program := "ytiidkekmklbobaadoor", sum := "37002feb77473384802070fac7675ae831cd33e13addcd51e276d3c4ba71f016", func := "snowline/snowlinelaw03.PillowChecks", spec := "pillowChecks", inPlace := ["internal/abi.NoEscape"], unfollowed := true, recurses := true, named := ["internal/strconv.uint64pow10", "math/bits.deBruijn32tab", "math/bits.deBruijn64tab"], apart := false, laid := [("math/bits.deBruijn32tab", laid_math_bits_deBruijn32tab), ("math/bits.deBruijn64tab", laid_math_bits_deBruijn64tab), ("internal/strconv.uint64pow10", laid_internal_strconv_uint64pow10)] }
def PillowChecksSaid : Prop := pillowChecksRow.holds Tryd.pinned (OpenSpec.ofChange pillowChecksSpec)

/-- ITS FALSE NEIGHBOUR: 'it returns false'. Refute it at one input. -/
def pillowChecksWrong : ChangeSpec := { name := "pillowChecks", fn := fun _ => fun
  | [d1, d2, d3, d4] => { results := [.lit (.bool false)], args := [d1, d2, d3, d4] }
  | _ => none }
def PillowChecksWrongFalsely : Prop := pillowChecksRow.holds Tryd.pinned (OpenSpec.ofChange pillowChecksWrong)

/-- 'snowlinelaw03.PillowTrees': WHATEVER THE INPUT: true; the input reads as it did. -/
def pillowTreesSpec : ChangeSpec := { name := "pillowTrees", fn := fun _ => fun
  | [d1, d2, d3, d4] => { results := [.lit (.bool true)], args := [d1, d2, d3, d4] }
  | _ => none }
def pillowTreesRow : OpenClaim := { program := "ytiidkekmklbobaadoor", sum := "37002feb77473384802070fac7675ae831cd33e13addcd51e276d3c4ba71f016", func := "snowline/snowlinelaw03.PillowTrees", spec := "pillowTrees", inPlace := ["internal/abi.NoEscape"], unfollowed := true, recurses := true, named := ["internal/strconv.uint64pow10", "math/bits.deBruijn32tab", "math/bits.deBruijn64tab"], apart := false, laid := [("math/bits.deBruijn32tab", laid_math_bits_deBruijn32tab), ("math/bits.deBruijn64tab", laid_math_bits_deBruijn64tab), ("internal/strconv.uint64pow10", laid_internal_strconv_uint64pow10)] }
def PillowTreesSaid : Prop := pillowTreesRow.holds Tryd.pinned (OpenSpec.ofChange pillowTreesSpec)

/-- ITS FALSE NEIGHBOUR: 'it returns false'. Refute it at one input. -/
def pillowTreesWrong : ChangeSpec := { name := "pillowTrees", fn := fun _ => fun
  | [d1, d2, d3, d4] => { results := [.lit (.bool false)], args := [d1, d2, d3, d4] }
  | _ => none }
def PillowTreesWrongFalsely : Prop := pillowTreesRow.holds Tryd.pinned (OpenSpec.ofChange pillowTreesWrong)

/-- 'snowlinelaw03.PillowWitnesses': WHATEVER THE INPUT: true; the input reads as it did. -/
def pillowWitnessesSpec : ChangeSpec := { name := "pillowWitnesses", fn := fun _ => fun
  | [d1, d2, d3, d4, d5, d6] => { results := [.lit (.bool true)], args := [d1, d2, d3, d4, d5, d6] }
  | _ => none }
def pillowWitnessesRow : OpenClaim := { program := "ytiidkekmklbobaadoor", sum := "37002feb77473384802070fac7675ae831cd33e13addcd51e276d3c4ba71f016", func := "snowline/snowlinelaw03.PillowWitnesses", spec := "pillowWitnesses", inPlace := ["internal/abi.NoEscape"], unfollowed := true, recurses := true, named := ["internal/strconv.uint64pow10", "math/bits.deBruijn32tab", "math/bits.deBruijn64tab"], apart := false, laid := [("math/bits.deBruijn32tab", laid_math_bits_deBruijn32tab), ("math/bits.deBruijn64tab", laid_math_bits_deBruijn64tab), ("internal/strconv.uint64pow10", laid_internal_strconv_uint64pow10)] }
def PillowWitnessesSaid : Prop := pillowWitnessesRow.holds Tryd.pinned (OpenSpec.ofChange pillowWitnessesSpec)

/-- ITS FALSE NEIGHBOUR: 'it returns false'. Refute it at one input. -/
def pillowWitnessesWrong : ChangeSpec := { name := "pillowWitnesses", fn := fun _ => fun
  | [d1, d2, d3, d4, d5, d6] => { results := [.lit (.bool false)], args := [d1, d2, d3, d4, d5, d6] }
  | _ => none }
def PillowWitnessesWrongFalsely : Prop := pillowWitnessesRow.holds Tryd.pinned (OpenSpec.ofChange pillowWitnessesWrong)

/-- 'snowlinelaw03.PillowEnds': WHATEVER THE INPUT: true; the input reads as it did. -/
def pillowEndsSpec : ChangeSpec := { name := "pillowEnds", fn := fun _ => fun
  | [d1, d2, d3, d4, d5, d6] => { results := [.lit (.bool true)], args := [d1, d2, d3, d4, d5, d6] }
  | _ => none }
def pillowEndsRow : OpenClaim := { program := "ytiidkekmklbobaadoor", sum := "37002feb77473384802070fac7675ae831cd33e13addcd51e276d3c4ba71f016", func := "snowline/snowlinelaw03.PillowEnds", spec := "pillowEnds", inPlace := ["internal/abi.NoEscape"], unfollowed := true, recurses := true, named := ["internal/strconv.uint64pow10", "math/bits.deBruijn32tab", "math/bits.deBruijn64tab"], apart := false, laid := [("math/bits.deBruijn32tab", laid_math_bits_deBruijn32tab), ("math/bits.deBruijn64tab", laid_math_bits_deBruijn64tab), ("internal/strconv.uint64pow10", laid_internal_strconv_uint64pow10)] }
def PillowEndsSaid : Prop := pillowEndsRow.holds Tryd.pinned (OpenSpec.ofChange pillowEndsSpec)

/-- ITS FALSE NEIGHBOUR: 'it returns false'. Refute it at one input. -/
def pillowEndsWrong : ChangeSpec := { name := "pillowEnds", fn := fun _ => fun
  | [d1, d2, d3, d4, d5, d6] => { results := [.lit (.bool false)], args := [d1, d2, d3, d4, d5, d6] }
  | _ => none }
def PillowEndsWrongFalsely : Prop := pillowEndsRow.holds Tryd.pinned (OpenSpec.ofChange pillowEndsWrong)

/- THE SECOND FORM. 'bulk': how many values and letters a reading holds, each counted each time it is reached (what is shared counts as often as it is met; a slice's spare places count too). A statement '..UptoSaid' is the law's where the arguments, and the package variables that the reading takes, are together of bulk at most 1048576: NARROWER than '..Said'. Prove '..Said' where nothing that the law and all that it calls make is longer than what came in: it says more and counts as full. Else prove '..UptoSaid'. A law counts once. -/
mutual
def uptoBulk {H : Type} : DataW H → Nat
  | .lit (.string bytes) => bytes.length + 1
  | .lit _ => 1
  | .nil => 1
  | .ptr d => uptoBulk d + 1
  | .slice elems spare => uptoBulkAll elems + uptoBulkAll spare + 1
  | .agg parts => uptoBulkAll parts + 1
  | .iface _ d => uptoBulk d + 1
  | .map entries => uptoBulkEntries entries + 1
  | .held _ => 1
def uptoBulkAll {H : Type} : List (DataW H) → Nat
  | [] => 0
  | d :: r => uptoBulk d + uptoBulkAll r
def uptoBulkEntries {H : Type} : List (Lit × DataW H) → Nat
  | [] => 0
  | x :: r => uptoBulkEntry x + uptoBulkEntries r
def uptoBulkEntry {H : Type} : Lit × DataW H → Nat
  | (.string bytes, d) => bytes.length + uptoBulk d + 1
  | (_, d) => uptoBulk d + 1
 end
def uptoSmall : (H : Type) → List (DataW H) → Bool := fun _ ds => decide (uptoBulkAll ds ≤ 1048576)
def OpenSpec.upto (s : _root_.Go.ChangeSpec) : _root_.Go.OpenSpec := { _root_.Go.OpenSpec.ofChange s with cond := some uptoSmall }

/-- 'snowlinelaw03.PillowCases', WHERE WHAT IT READS IS OF BULK AT MOST 1048576: true; the input reads as it did. -/
def pillowCasesUptoRow : OpenClaim := { program := "ytiidkekmklbobaadoor", sum := "37002feb77473384802070fac7675ae831cd33e13addcd51e276d3c4ba71f016", func := "snowline/snowlinelaw03.PillowCases", spec := "pillowCases", inPlace := ["internal/abi.NoEscape"], unfollowed := true, recurses := true, named := ["internal/strconv.uint64pow10", "math/bits.deBruijn32tab", "math/bits.deBruijn64tab"], apart := false, laid := [("math/bits.deBruijn32tab", laid_math_bits_deBruijn32tab), ("math/bits.deBruijn64tab", laid_math_bits_deBruijn64tab), ("internal/strconv.uint64pow10", laid_internal_strconv_uint64pow10)], narrowed := true }
def PillowCasesUptoSaid : Prop := pillowCasesUptoRow.holds Tryd.pinned (OpenSpec.upto pillowCasesSpec)

/-- 'snowlinelaw03.PillowPossible', WHERE WHAT IT READS IS OF BULK AT MOST 1048576: true; the input reads as it did. -/
def pillowPossibleUptoRow : OpenClaim := { program := "ytiidkekmklbobaadoor", sum := "37002feb77473384802070fac7675ae831cd33e13addcd51e276d3c4ba71f016", func := "snowline/snowlinelaw03.PillowPossible", spec := "pillowPossible", inPlace := ["internal/abi.NoEscape"], unfollowed := true, recurses := true, named := ["internal/strconv.uint64pow10", "math/bits.deBruijn32tab", "math/bits.deBruijn64tab"], apart := false, laid := [("math/bits.deBruijn32tab", laid_math_bits_deBruijn32tab), ("math/bits.deBruijn64tab", laid_math_bits_deBruijn64tab), ("internal/strconv.uint64pow10", laid_internal_strconv_uint64pow10)], narrowed := true }
def PillowPossibleUptoSaid : Prop := pillowPossibleUptoRow.holds Tryd.pinned (OpenSpec.upto pillowPossibleSpec)

/-- 'snowlinelaw03.PillowWider', WHERE WHAT IT READS IS OF BULK AT MOST 1048576: true; the input reads as it did. -/
def pillowWiderUptoRow : OpenClaim := { program := "ytiidkekmklbobaadoor", sum := "37002feb77473384802070fac7675ae831cd33e13addcd51e276d3c4ba71f016", func := "snowline/snowlinelaw03.PillowWider", spec := "pillowWider", inPlace := ["internal/abi.NoEscape"], unfollowed := true, recurses := true, named := ["internal/strconv.uint64pow10", "math/bits.deBruijn32tab", "math/bits.deBruijn64tab"], apart := false, laid := [("math/bits.deBruijn32tab", laid_math_bits_deBruijn32tab), ("math/bits.deBruijn64tab", laid_math_bits_deBruijn64tab), ("internal/strconv.uint64pow10", laid_internal_strconv_uint64pow10)], narrowed := true }
def PillowWiderUptoSaid : Prop := pillowWiderUptoRow.holds Tryd.pinned (OpenSpec.upto pillowWiderSpec)

/-- 'snowlinelaw03.PillowRefutes', WHERE WHAT IT READS IS OF BULK AT MOST 1048576: true; the input reads as it did. -/
def pillowRefutesUptoRow : OpenClaim := { program := "ytiidkekmklbobaadoor", sum := "37002feb77473384802070fac7675ae831cd33e13addcd51e276d3c4ba71f016", func := "snowline/snowlinelaw03.PillowRefutes", spec := "pillowRefutes", inPlace := ["internal/abi.NoEscape"], unfollowed := true, recurses := true, named := ["internal/strconv.uint64pow10", "math/bits.deBruijn32tab", "math/bits.deBruijn64tab"], apart := false, laid := [("math/bits.deBruijn32tab", laid_math_bits_deBruijn32tab), ("math/bits.deBruijn64tab", laid_math_bits_deBruijn64tab), ("internal/strconv.uint64pow10", laid_internal_strconv_uint64pow10)], narrowed := true }
def PillowRefutesUptoSaid : Prop := pillowRefutesUptoRow.holds Tryd.pinned (OpenSpec.upto pillowRefutesSpec)

/-- 'snowlinelaw03.PillowPairs', WHERE WHAT IT READS IS OF BULK AT MOST 1048576: true; the input reads as it did. -/
def pillowPairsUptoRow : OpenClaim := { program := "ytiidkekmklbobaadoor", sum := "37002feb77473384802070fac7675ae831cd33e13addcd51e276d3c4ba71f016", func := "snowline/snowlinelaw03.PillowPairs", spec := "pillowPairs", inPlace := ["internal/abi.NoEscape"], unfollowed := true, recurses := true, named := ["internal/strconv.uint64pow10", "math/bits.deBruijn32tab", "math/bits.deBruijn64tab"], apart := false, laid := [("math/bits.deBruijn32tab", laid_math_bits_deBruijn32tab), ("math/bits.deBruijn64tab", laid_math_bits_deBruijn64tab), ("internal/strconv.uint64pow10", laid_internal_strconv_uint64pow10)], narrowed := true }
def PillowPairsUptoSaid : Prop := pillowPairsUptoRow.holds Tryd.pinned (OpenSpec.upto pillowPairsSpec)

/-- 'snowlinelaw03.PillowAll', WHERE WHAT IT READS IS OF BULK AT MOST 1048576: true; the input reads as it did. -/
def pillowAllUptoRow : OpenClaim := { program := "ytiidkekmklbobaadoor", sum := "37002feb77473384802070fac7675ae831cd33e13addcd51e276d3c4ba71f016", func := "snowline/snowlinelaw03.PillowAll", spec := "pillowAll", inPlace := ["internal/abi.NoEscape"], unfollowed := true, recurses := true, named := ["internal/strconv.uint64pow10", "math/bits.deBruijn32tab", "math/bits.deBruijn64tab"], apart := false, laid := [("math/bits.deBruijn32tab", laid_math_bits_deBruijn32tab), ("math/bits.deBruijn64tab", laid_math_bits_deBruijn64tab), ("internal/strconv.uint64pow10", laid_internal_strconv_uint64pow10)], narrowed := true }
def PillowAllUptoSaid : Prop := pillowAllUptoRow.holds Tryd.pinned (OpenSpec.upto pillowAllSpec)

/-- 'snowlinelaw03.PillowFurther', WHERE WHAT IT READS IS OF BULK AT MOST 1048576: true; the input reads as it did. -/
def pillowFurtherUptoRow : OpenClaim := { program := "ytiidkekmklbobaadoor", sum := "37002feb77473384802070fac7675ae831cd33e13addcd51e276d3c4ba71f016", func := "snowline/snowlinelaw03.PillowFurther", spec := "pillowFurther", inPlace := ["internal/abi.NoEscape"], unfollowed := true, recurses := true, named := ["internal/strconv.uint64pow10", "math/bits.deBruijn32tab", "math/bits.deBruijn64tab"], apart := false, laid := [("math/bits.deBruijn32tab", laid_math_bits_deBruijn32tab), ("math/bits.deBruijn64tab", laid_math_bits_deBruijn64tab), ("internal/strconv.uint64pow10", laid_internal_strconv_uint64pow10)], narrowed := true }
def PillowFurtherUptoSaid : Prop := pillowFurtherUptoRow.holds Tryd.pinned (OpenSpec.upto pillowFurtherSpec)

/-- 'snowlinelaw03.PillowTruth', WHERE WHAT IT READS IS OF BULK AT MOST 1048576: true; the input reads as it did. -/
def pillowTruthUptoRow : OpenClaim := { program := "ytiidkekmklbobaadoor", sum := "37002feb77473384802070fac7675ae831cd33e13addcd51e276d3c4ba71f016", func := "snowline/snowlinelaw03.PillowTruth", spec := "pillowTruth", inPlace := ["internal/abi.NoEscape"], unfollowed := true, recurses := true, named := ["internal/strconv.uint64pow10", "math/bits.deBruijn32tab", "math/bits.deBruijn64tab"], apart := false, laid := [("math/bits.deBruijn32tab", laid_math_bits_deBruijn32tab), ("math/bits.deBruijn64tab", laid_math_bits_deBruijn64tab), ("internal/strconv.uint64pow10", laid_internal_strconv_uint64pow10)], narrowed := true }
def PillowTruthUptoSaid : Prop := pillowTruthUptoRow.holds Tryd.pinned (OpenSpec.upto pillowTruthSpec)

/-- 'snowlinelaw03.PillowTree', WHERE WHAT IT READS IS OF BULK AT MOST 1048576: true; the input reads as it did. -/
def pillowTreeUptoRow : OpenClaim := { program := "ytiidkekmklbobaadoor", sum := "37002feb77473384802070fac7675ae831cd33e13addcd51e276d3c4ba71f016", func := "snowline/snowlinelaw03.PillowTree", spec := "pillowTree", inPlace := ["internal/abi.NoEscape"], unfollowed := true, recurses := true, named := ["internal/strconv.uint64pow10", "math/bits.deBruijn32tab", "math/bits.deBruijn64tab"], apart := false, laid := [("math/bits.deBruijn32tab", laid_math_bits_deBruijn32tab), ("math/bits.deBruijn64tab", laid_math_bits_deBruijn64tab), ("internal/strconv.uint64pow10", laid_internal_strconv_uint64pow10)], narrowed := true }
def PillowTreeUptoSaid : Prop := pillowTreeUptoRow.holds Tryd.pinned (OpenSpec.upto pillowTreeSpec)

/-- 'snowlinelaw03.PillowChecks', WHERE WHAT IT READS IS OF BULK AT MOST 1048576: true; the input reads as it did. -/
def pillowChecksUptoRow : OpenClaim := { program := "ytiidkekmklbobaadoor", sum := "37002feb77473384802070fac7675ae831cd33e13addcd51e276d3c4ba71f016", func := "snowline/snowlinelaw03.PillowChecks", spec := "pillowChecks", inPlace := ["internal/abi.NoEscape"], unfollowed := true, recurses := true, named := ["internal/strconv.uint64pow10", "math/bits.deBruijn32tab", "math/bits.deBruijn64tab"], apart := false, laid := [("math/bits.deBruijn32tab", laid_math_bits_deBruijn32tab), ("math/bits.deBruijn64tab", laid_math_bits_deBruijn64tab), ("internal/strconv.uint64pow10", laid_internal_strconv_uint64pow10)], narrowed := true }
def PillowChecksUptoSaid : Prop := pillowChecksUptoRow.holds Tryd.pinned (OpenSpec.upto pillowChecksSpec)

/-- 'snowlinelaw03.PillowTrees', WHERE WHAT IT READS IS OF BULK AT MOST 1048576: true; the input reads as it did. -/
def pillowTreesUptoRow : OpenClaim := { program := "ytiidkekmklbobaadoor", sum := "37002feb77473384802070fac7675ae831cd33e13addcd51e276d3c4ba71f016", func := "snowline/snowlinelaw03.PillowTrees", spec := "pillowTrees", inPlace := ["internal/abi.NoEscape"], unfollowed := true, recurses := true, named := ["internal/strconv.uint64pow10", "math/bits.deBruijn32tab", "math/bits.deBruijn64tab"], apart := false, laid := [("math/bits.deBruijn32tab", laid_math_bits_deBruijn32tab), ("math/bits.deBruijn64tab", laid_math_bits_deBruijn64tab), ("internal/strconv.uint64pow10", laid_internal_strconv_uint64pow10)], narrowed := true }
def PillowTreesUptoSaid : Prop := pillowTreesUptoRow.holds Tryd.pinned (OpenSpec.upto pillowTreesSpec)

/-- 'snowlinelaw03.PillowWitnesses', WHERE WHAT IT READS IS OF BULK AT MOST 1048576: true; the input reads as it did. -/
def pillowWitnessesUptoRow : OpenClaim := { program := "ytiidkekmklbobaadoor", sum := "37002feb77473384802070fac7675ae831cd33e13addcd51e276d3c4ba71f016", func := "snowline/snowlinelaw03.PillowWitnesses", spec := "pillowWitnesses", inPlace := ["internal/abi.NoEscape"], unfollowed := true, recurses := true, named := ["internal/strconv.uint64pow10", "math/bits.deBruijn32tab", "math/bits.deBruijn64tab"], apart := false, laid := [("math/bits.deBruijn32tab", laid_math_bits_deBruijn32tab), ("math/bits.deBruijn64tab", laid_math_bits_deBruijn64tab), ("internal/strconv.uint64pow10", laid_internal_strconv_uint64pow10)], narrowed := true }
def PillowWitnessesUptoSaid : Prop := pillowWitnessesUptoRow.holds Tryd.pinned (OpenSpec.upto pillowWitnessesSpec)

/-- 'snowlinelaw03.PillowEnds', WHERE WHAT IT READS IS OF BULK AT MOST 1048576: true; the input reads as it did. -/
def pillowEndsUptoRow : OpenClaim := { program := "ytiidkekmklbobaadoor", sum := "37002feb77473384802070fac7675ae831cd33e13addcd51e276d3c4ba71f016", func := "snowline/snowlinelaw03.PillowEnds", spec := "pillowEnds", inPlace := ["internal/abi.NoEscape"], unfollowed := true, recurses := true, named := ["internal/strconv.uint64pow10", "math/bits.deBruijn32tab", "math/bits.deBruijn64tab"], apart := false, laid := [("math/bits.deBruijn32tab", laid_math_bits_deBruijn32tab), ("math/bits.deBruijn64tab", laid_math_bits_deBruijn64tab), ("internal/strconv.uint64pow10", laid_internal_strconv_uint64pow10)], narrowed := true }
def PillowEndsUptoSaid : Prop := pillowEndsUptoRow.holds Tryd.pinned (OpenSpec.upto pillowEndsSpec)

end Rows
end Go.Proofs.YtiidkekmklbobaaDoor
