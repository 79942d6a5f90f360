/-
  NARROWER THAN 'FOR EVERY INPUT', by the rows' own cells (each row's printed sentence says how): EveningFields: laid · EveningAxioms: laid · EveningFormats: laid · EveningChecks: laid · EveningBounds: laid · EveningOnce: laid · EveningHosts: laid · EveningRings: laid · EveningNets: laid · EveningDesigns: laid · EveningPlans: laid · EveningPigeon: laid.
  DERIVED. THE GIVEN ROWS OF THIS SEAT. 12 by the template 'for every input the law returns true; each argument reads behind the call as it read before'; 0 by the template 'total and deterministic' (their statements: YthofgamegondnaaDoorTotals.lean).
  GIVEN WITH THE SEED: the statements are not yours to turn. If you find one false, say at which input.
  Laid BY PROGRAM, IN A SANDBOX (cutbox-rows.mjs): the forced cells as the released guide's own fill.sh prints them over the translation 38a63abbb6ba9d36… (all of the seat's roots in one cut). By AI agents, Wed Nov 11 2026. No macro, syntax, notation, axiom, sorry.
-/
import Derived.Test.YthofgamegondnaaDoorChecked
import GoSem.Claim
import GoSem.ClaimJoined
import GoSem.ClaimMapViews
import Derived.JoinedTies
import Derived.KernelRfl
namespace Go.Proofs.YthofgamegondnaaDoor
/- THE CELL 'sum', in the pinned program and in every row, IS THE sha256 OF THE DUMP (.gsa) THAT YthofgamegondnaaDoorProg.lean LOADS. Nothing in Lean hashes anything: it is a label: what it is worth is what the hold of that sum in a sandbox is worth. -/
noncomputable def Tryd.pinned : Pinned := { name := "ythofgamegondnaadoor", sum := "38a63abbb6ba9d36146d7f969f3830c89956b74dbaf52b696d75769531fef36d", checked := Tryd.checked }
namespace Rows
def none {H : Type} : Left H := { results := [], args := [] }

/- WHAT THE LISTED PACKAGE-LEVEL VARIABLES READ AS WHEN THE CALL BEGINS. Each datum BY PROGRAM (the guide's laid-datum.mjs) off the statement by which the dump's own 'gosem.cut.vars' lays the variable. In a bare row this is a premise. The card (YthofgamegondnaaDoorCards.lean) ties it to the program's text. -/
def laid_math_bits_deBruijn32tab {H : Type} : DataW H := .agg [.lit (.int .u8 0), .lit (.int .u8 1), .lit (.int .u8 28), .lit (.int .u8 2), .lit (.int .u8 29), .lit (.int .u8 14), .lit (.int .u8 24), .lit (.int .u8 3), .lit (.int .u8 30), .lit (.int .u8 22), .lit (.int .u8 20), .lit (.int .u8 15), .lit (.int .u8 25), .lit (.int .u8 17), .lit (.int .u8 4), .lit (.int .u8 8), .lit (.int .u8 31), .lit (.int .u8 27), .lit (.int .u8 13), .lit (.int .u8 23), .lit (.int .u8 21), .lit (.int .u8 19), .lit (.int .u8 16), .lit (.int .u8 7), .lit (.int .u8 26), .lit (.int .u8 12), .lit (.int .u8 18), .lit (.int .u8 6), .lit (.int .u8 11), .lit (.int .u8 5), .lit (.int .u8 10), .lit (.int .u8 9)]
def laid_math_bits_deBruijn64tab {H : Type} : DataW H := .agg [.lit (.int .u8 0), .lit (.int .u8 1), .lit (.int .u8 56), .lit (.int .u8 2), .lit (.int .u8 57), .lit (.int .u8 49), .lit (.int .u8 28), .lit (.int .u8 3), .lit (.int .u8 61), .lit (.int .u8 58), .lit (.int .u8 42), .lit (.int .u8 50), .lit (.int .u8 38), .lit (.int .u8 29), .lit (.int .u8 17), .lit (.int .u8 4), .lit (.int .u8 62), .lit (.int .u8 47), .lit (.int .u8 59), .lit (.int .u8 36), .lit (.int .u8 45), .lit (.int .u8 43), .lit (.int .u8 51), .lit (.int .u8 22), .lit (.int .u8 53), .lit (.int .u8 39), .lit (.int .u8 33), .lit (.int .u8 30), .lit (.int .u8 24), .lit (.int .u8 18), .lit (.int .u8 12), .lit (.int .u8 5), .lit (.int .u8 63), .lit (.int .u8 55), .lit (.int .u8 48), .lit (.int .u8 27), .lit (.int .u8 60), .lit (.int .u8 41), .lit (.int .u8 37), .lit (.int .u8 16), .lit (.int .u8 46), .lit (.int .u8 35), .lit (.int .u8 44), .lit (.int .u8 21), .lit (.int .u8 52), .lit (.int .u8 32), .lit (.int .u8 23), .lit (.int .u8 11), .lit (.int .u8 54), .lit (.int .u8 26), .lit (.int .u8 40), .lit (.int .u8 15), .lit (.int .u8 34), .lit (.int .u8 20), .lit (.int .u8 31), .lit (.int .u8 10), .lit (.int .u8 25), .lit (.int .u8 14), .lit (.int .u8 19), .lit (.int .u8 9), .lit (.int .u8 13), .lit (.int .u8 8), .lit (.int .u8 7), .lit (.int .u8 6)]
def laid_internal_strconv_uint64pow10 {H : Type} : DataW H := .agg [.lit (.int .u64 1), .lit (.int .u64 10), .lit (.int .u64 100), .lit (.int .u64 1000), .lit (.int .u64 10000), .lit (.int .u64 100000), .lit (.int .u64 1000000), .lit (.int .u64 10000000), .lit (.int .u64 100000000), .lit (.int .u64 1000000000), .lit (.int .u64 10000000000), .lit (.int .u64 100000000000), .lit (.int .u64 1000000000000), .lit (.int .u64 10000000000000), .lit (.int .u64 100000000000000), .lit (.int .u64 1000000000000000), .lit (.int .u64 10000000000000000), .lit (.int .u64 100000000000000000), .lit (.int .u64 1000000000000000000), .lit (.int .u64 10000000000000000000)]

/-- 'trestlelaw09.EveningFields': WHATEVER THE INPUT: true; the input reads as it did. -/
def eveningFieldsSpec : ChangeSpec := { name := "eveningFields", fn := fun _ => fun
  | [d1, d2, d3] => { results := [.lit (.bool true)], args := [d1, d2, d3] }
  | _ => none }
def eveningFieldsRow : OpenClaim := { program := "ythofgamegondnaadoor", sum := "38a63abbb6ba9d36146d7f969f3830c89956b74dbaf52b696d75769531fef36d", func := "trestle/trestlelaw09.EveningFields", spec := "eveningFields", inPlace := ["internal/abi.NoEscape"], unfollowed := true, recurses := true, named := ["internal/strconv.uint64pow10", "math/bits.deBruijn32tab", "math/bits.deBruijn64tab"], apart := false, laid := [("math/bits.deBruijn32tab", laid_math_bits_deBruijn32tab), ("math/bits.deBruijn64tab", laid_math_bits_deBruijn64tab), ("internal/strconv.uint64pow10", laid_internal_strconv_uint64pow10)] }
def EveningFieldsSaid : Prop := eveningFieldsRow.holds Tryd.pinned (OpenSpec.ofChange eveningFieldsSpec)

/-- ITS FALSE NEIGHBOUR: 'it returns false'. Refute it at one input. -/
def eveningFieldsWrong : ChangeSpec := { name := "eveningFields", fn := fun _ => fun
  | [d1, d2, d3] => { results := [.lit (.bool false)], args := [d1, d2, d3] }
  | _ => none }
def EveningFieldsWrongFalsely : Prop := eveningFieldsRow.holds Tryd.pinned (OpenSpec.ofChange eveningFieldsWrong)

/-- 'trestlelaw09.EveningAxioms': WHATEVER THE INPUT: true; the input reads as it did. -/
def eveningAxiomsSpec : ChangeSpec := { name := "eveningAxioms", fn := fun _ => fun
  | [d1, d2, d3, d4] => { results := [.lit (.bool true)], args := [d1, d2, d3, d4] }
  | _ => none }
def eveningAxiomsRow : OpenClaim := { program := "ythofgamegondnaadoor", sum := "38a63abbb6ba9d36146d7f969f3830c89956b74dbaf52b696d75769531fef36d", func := "trestle/trestlelaw09.EveningAxioms", spec := "eveningAxioms", inPlace := ["internal/abi.NoEscape"], unfollowed := true, recurses := true, named := ["internal/strconv.uint64pow10", "math/bits.deBruijn32tab", "math/bits.deBruijn64tab"], apart := false, laid := [("math/bits.deBruijn32tab", laid_math_bits_deBruijn32tab), ("math/bits.deBruijn64tab", laid_math_bits_deBruijn64tab), ("internal/strconv.uint64pow10", laid_internal_strconv_uint64pow10)] }
def EveningAxiomsSaid : Prop := eveningAxiomsRow.holds Tryd.pinned (OpenSpec.ofChange eveningAxiomsSpec)

/-- ITS FALSE NEIGHBOUR: 'it returns false'. Refute it at one input. -/
def eveningAxiomsWrong : ChangeSpec := { name := "eveningAxioms", fn := fun _ => fun
  | [d1, d2, d3, d4] => { results := [.lit (.bool false)], args := [d1, d2, d3, d4] }
  | _ => none }
def EveningAxiomsWrongFalsely : Prop := eveningAxiomsRow.holds Tryd.pinned (OpenSpec.ofChange eveningAxiomsWrong)

/-- 'trestlelaw09.EveningFormats': WHATEVER THE INPUT: true; the input reads as it did. -/
def eveningFormatsSpec : ChangeSpec := { name := "eveningFormats", fn := fun _ => fun
  | [d1, d2] => { results := [.lit (.bool true)], args := [d1, d2] }
  | _ => none }
def eveningFormatsRow : OpenClaim := { program := "ythofgamegondnaadoor", sum := "38a63abbb6ba9d36146d7f969f3830c89956b74dbaf52b696d75769531fef36d", func := "trestle/trestlelaw09.EveningFormats", spec := "eveningFormats", inPlace := ["internal/abi.NoEscape"], unfollowed := true, recurses := true, named := ["internal/strconv.uint64pow10", "math/bits.deBruijn32tab", "math/bits.deBruijn64tab"], apart := false, laid := [("math/bits.deBruijn32tab", laid_math_bits_deBruijn32tab), ("math/bits.deBruijn64tab", laid_math_bits_deBruijn64tab), ("internal/strconv.uint64pow10", laid_internal_strconv_uint64pow10)] }
def EveningFormatsSaid : Prop := eveningFormatsRow.holds Tryd.pinned (OpenSpec.ofChange eveningFormatsSpec)

/-- ITS FALSE NEIGHBOUR: 'it returns false'. Refute it at one input. -/
def eveningFormatsWrong : ChangeSpec := { name := "eveningFormats", fn := fun _ => fun
  | [d1, d2] => { results := [.lit (.bool false)], args := [d1, d2] }
  | _ => none }
def EveningFormatsWrongFalsely : Prop := eveningFormatsRow.holds Tryd.pinned (OpenSpec.ofChange eveningFormatsWrong)

/-- 'trestlelaw09.EveningChecks': WHATEVER THE INPUT: true; the input reads as it did. -/
def eveningChecksSpec : ChangeSpec := { name := "eveningChecks", fn := fun _ => fun
  | [d1, d2, d3] => { results := [.lit (.bool true)], args := [d1, d2, d3] }
  | _ => none }
def eveningChecksRow : OpenClaim := { program := "ythofgamegondnaadoor", sum := "38a63abbb6ba9d36146d7f969f3830c89956b74dbaf52b696d75769531fef36d", func := "trestle/trestlelaw09.EveningChecks", spec := "eveningChecks", inPlace := ["internal/abi.NoEscape"], unfollowed := true, recurses := true, named := ["internal/strconv.uint64pow10", "math/bits.deBruijn32tab", "math/bits.deBruijn64tab"], apart := false, laid := [("math/bits.deBruijn32tab", laid_math_bits_deBruijn32tab), ("math/bits.deBruijn64tab", laid_math_bits_deBruijn64tab), ("internal/strconv.uint64pow10", laid_internal_strconv_uint64pow10)] }
def EveningChecksSaid : Prop := eveningChecksRow.holds Tryd.pinned (OpenSpec.ofChange eveningChecksSpec)

/-- ITS FALSE NEIGHBOUR: 'it returns false'. Refute it at one input. -/
def eveningChecksWrong : ChangeSpec := { name := "eveningChecks", fn := fun _ => fun
  | [d1, d2, d3] => { results := [.lit (.bool false)], args := [d1, d2, d3] }
  | _ => none }
def EveningChecksWrongFalsely : Prop := eveningChecksRow.holds Tryd.pinned (OpenSpec.ofChange eveningChecksWrong)

/-- 'trestlelaw09.EveningBounds': WHATEVER THE INPUT: true; the input reads as it did. -/
def eveningBoundsSpec : ChangeSpec := { name := "eveningBounds", fn := fun _ => fun
  | [d1, d2, d3, d4] => { results := [.lit (.bool true)], args := [d1, d2, d3, d4] }
  | _ => none }
def eveningBoundsRow : OpenClaim := { program := "ythofgamegondnaadoor", sum := "38a63abbb6ba9d36146d7f969f3830c89956b74dbaf52b696d75769531fef36d", func := "trestle/trestlelaw09.EveningBounds", spec := "eveningBounds", inPlace := ["internal/abi.NoEscape"], unfollowed := true, recurses := true, named := ["internal/strconv.uint64pow10", "math/bits.deBruijn32tab", "math/bits.deBruijn64tab"], apart := false, laid := [("math/bits.deBruijn32tab", laid_math_bits_deBruijn32tab), ("math/bits.deBruijn64tab", laid_math_bits_deBruijn64tab), ("internal/strconv.uint64pow10", laid_internal_strconv_uint64pow10)] }
def EveningBoundsSaid : Prop := eveningBoundsRow.holds Tryd.pinned (OpenSpec.ofChange eveningBoundsSpec)

/-- ITS FALSE NEIGHBOUR: 'it returns false'. Refute it at one input. -/
def eveningBoundsWrong : ChangeSpec := { name := "eveningBounds", fn := fun _ => fun
  | [d1, d2, d3, d4] => { results := [.lit (.bool false)], args := [d1, d2, d3, d4] }
  | _ => none }
def EveningBoundsWrongFalsely : Prop := eveningBoundsRow.holds Tryd.pinned (OpenSpec.ofChange eveningBoundsWrong)

/-- 'trestlelaw09.EveningOnce': WHATEVER THE INPUT: true; the input reads as it did. -/
def eveningOnceSpec : ChangeSpec := { name := "eveningOnce", fn := fun _ => fun
  | [d1, d2] => { results := [.lit (.bool true)], args := [d1, d2] }
  | _ => none }
def eveningOnceRow : OpenClaim := { program := "ythofgamegondnaadoor", sum := "38a63abbb6ba9d36146d7f969f3830c89956b74dbaf52b696d75769531fef36d", func := "trestle/trestlelaw09.EveningOnce", spec := "eveningOnce", inPlace := ["internal/abi.NoEscape"], unfollowed := true, recurses := true, named := ["internal/strconv.uint64pow10", "math/bits.deBruijn32tab", "math/bits.deBruijn64tab"], apart := false, laid := [("math/bits.deBruijn32tab", laid_math_bits_deBruijn32tab), ("math/bits.deBruijn64tab", laid_math_bits_deBruijn64tab), ("internal/strconv.uint64pow10", laid_internal_strconv_uint64pow10)] }
def EveningOnceSaid : Prop := eveningOnceRow.holds Tryd.pinned (OpenSpec.ofChange eveningOnceSpec)

/-- ITS FALSE NEIGHBOUR: 'it returns false'. Refute it at one input. -/
def eveningOnceWrong : ChangeSpec := { name := "eveningOnce", fn := fun _ => fun
  | [d1, d2] => { results := [.lit (.bool false)], args := [d1, d2] }
  | _ => none }
def EveningOnceWrongFalsely : Prop := eveningOnceRow.holds Tryd.pinned (OpenSpec.ofChange eveningOnceWrong)

/-- 'trestlelaw09.EveningHosts': WHATEVER THE INPUT: true; the input reads as it did. -/
def eveningHostsSpec : ChangeSpec := { name := "eveningHosts", fn := fun _ => fun
  | [d1, d2] => { results := [.lit (.bool true)], args := [d1, d2] }
  | _ => none }
def eveningHostsRow : OpenClaim := { program := "ythofgamegondnaadoor", sum := "38a63abbb6ba9d36146d7f969f3830c89956b74dbaf52b696d75769531fef36d", func := "trestle/trestlelaw09.EveningHosts", spec := "eveningHosts", inPlace := ["internal/abi.NoEscape"], unfollowed := true, recurses := true, named := ["internal/strconv.uint64pow10", "math/bits.deBruijn32tab", "math/bits.deBruijn64tab"], apart := false, laid := [("math/bits.deBruijn32tab", laid_math_bits_deBruijn32tab), ("math/bits.deBruijn64tab", laid_math_bits_deBruijn64tab), ("internal/strconv.uint64pow10", laid_internal_strconv_uint64pow10)] }
def EveningHostsSaid : Prop := eveningHostsRow.holds Tryd.pinned (OpenSpec.ofChange eveningHostsSpec)

/-- ITS FALSE NEIGHBOUR: 'it returns false'. Refute it at one input. -/
def eveningHostsWrong : ChangeSpec := { name := "eveningHosts", fn := fun _ => fun
  | [d1, d2] => { results := [.lit (.bool false)], args := [d1, d2] }
  | _ => none }
def EveningHostsWrongFalsely : Prop := eveningHostsRow.holds Tryd.pinned (OpenSpec.ofChange eveningHostsWrong)

/-- 'trestlelaw09.EveningRings': WHATEVER THE INPUT: true; the input reads as it did. -/
def eveningRingsSpec : ChangeSpec := { name := "eveningRings", fn := fun _ => fun
  | [d] => { results := [.lit (.bool true)], args := [d] }
  | _ => none }
def eveningRingsRow : OpenClaim := { program := "ythofgamegondnaadoor", sum := "38a63abbb6ba9d36146d7f969f3830c89956b74dbaf52b696d75769531fef36d", func := "trestle/trestlelaw09.EveningRings", spec := "eveningRings", inPlace := ["internal/abi.NoEscape"], unfollowed := true, recurses := true, named := ["internal/strconv.uint64pow10", "math/bits.deBruijn32tab", "math/bits.deBruijn64tab"], apart := false, laid := [("math/bits.deBruijn32tab", laid_math_bits_deBruijn32tab), ("math/bits.deBruijn64tab", laid_math_bits_deBruijn64tab), ("internal/strconv.uint64pow10", laid_internal_strconv_uint64pow10)] }
def EveningRingsSaid : Prop := eveningRingsRow.holds Tryd.pinned (OpenSpec.ofChange eveningRingsSpec)

/-- ITS FALSE NEIGHBOUR: 'it returns false'. Refute it at one input. -/
def eveningRingsWrong : ChangeSpec := { name := "eveningRings", fn := fun _ => fun
  | [d] => { results := [.lit (.bool false)], args := [d] }
  | _ => none }
def EveningRingsWrongFalsely : Prop := eveningRingsRow.holds Tryd.pinned (OpenSpec.ofChange eveningRingsWrong)

/-- 'trestlelaw09.EveningNets': WHATEVER THE INPUT: true; the input reads as it did. -/
def eveningNetsSpec : ChangeSpec := { name := "eveningNets", fn := fun _ => fun
  | [d1, d2] => { results := [.lit (.bool true)], args := [d1, d2] }
  | _ => none }
def eveningNetsRow : OpenClaim := { program := "ythofgamegondnaadoor", sum := "38a63abbb6ba9d36146d7f969f3830c89956b74dbaf52b696d75769531fef36d", func := "trestle/trestlelaw09.EveningNets", spec := "eveningNets", inPlace := ["internal/abi.NoEscape"], unfollowed := true, recurses := true, named := ["internal/strconv.uint64pow10", "math/bits.deBruijn32tab", "math/bits.deBruijn64tab"], apart := false, laid := [("math/bits.deBruijn32tab", laid_math_bits_deBruijn32tab), ("math/bits.deBruijn64tab", laid_math_bits_deBruijn64tab), ("internal/strconv.uint64pow10", laid_internal_strconv_uint64pow10)] }
def EveningNetsSaid : Prop := eveningNetsRow.holds Tryd.pinned (OpenSpec.ofChange eveningNetsSpec)

/-- ITS FALSE NEIGHBOUR: 'it returns false'. Refute it at one input. -/
def eveningNetsWrong : ChangeSpec := { name := "eveningNets", fn := fun _ => fun
  | [d1, d2] => { results := [.lit (.bool false)], args := [d1, d2] }
  | _ => none }
def EveningNetsWrongFalsely : Prop := eveningNetsRow.holds Tryd.pinned (OpenSpec.ofChange eveningNetsWrong)

/-- 'trestlelaw09.EveningDesigns': WHATEVER THE INPUT: true; the input reads as it did. -/
def eveningDesignsSpec : ChangeSpec := { name := "eveningDesigns", fn := fun _ => fun
  | [d1, d2, d3] => { results := [.lit (.bool true)], args := [d1, d2, d3] }
  | _ => none }
def eveningDesignsRow : OpenClaim := { program := "ythofgamegondnaadoor", sum := "38a63abbb6ba9d36146d7f969f3830c89956b74dbaf52b696d75769531fef36d", func := "trestle/trestlelaw09.EveningDesigns", spec := "eveningDesigns", inPlace := ["internal/abi.NoEscape"], unfollowed := true, recurses := true, named := ["internal/strconv.uint64pow10", "math/bits.deBruijn32tab", "math/bits.deBruijn64tab"], apart := false, laid := [("math/bits.deBruijn32tab", laid_math_bits_deBruijn32tab), ("math/bits.deBruijn64tab", laid_math_bits_deBruijn64tab), ("internal/strconv.uint64pow10", laid_internal_strconv_uint64pow10)] }
def EveningDesignsSaid : Prop := eveningDesignsRow.holds Tryd.pinned (OpenSpec.ofChange eveningDesignsSpec)

/-- ITS FALSE NEIGHBOUR: 'it returns false'. Refute it at one input. -/
def eveningDesignsWrong : ChangeSpec := { name := "eveningDesigns", fn := fun _ => fun
  | [d1, d2, d3] => { results := [.lit (.bool false)], args := [d1, d2, d3] }
  | _ => none }
def EveningDesignsWrongFalsely : Prop := eveningDesignsRow.holds Tryd.pinned (OpenSpec.ofChange eveningDesignsWrong)

/-- 'trestlelaw09.EveningPlans': WHATEVER THE INPUT: true; the input reads as it did. -/
def eveningPlansSpec : ChangeSpec := { name := "eveningPlans", fn := fun _ => fun
  | [d1, d2, d3] => { results := [.lit (.bool true)], args := [d1, d2, d3] }
  | _ => none }
def eveningPlansRow : OpenClaim := { program := "ythofgamegondnaadoor", sum := "38a63abbb6ba9d36146d7f969f3830c89956b74dbaf52b696d75769531fef36d", func := "trestle/trestlelaw09.EveningPlans", spec := "eveningPlans", inPlace := ["internal/abi.NoEscape"], unfollowed := true, recurses := true, named := ["internal/strconv.uint64pow10", "math/bits.deBruijn32tab", "math/bits.deBruijn64tab"], apart := false, laid := [("math/bits.deBruijn32tab", laid_math_bits_deBruijn32tab), ("math/bits.deBruijn64tab", laid_math_bits_deBruijn64tab), ("internal/strconv.uint64pow10", laid_internal_strconv_uint64pow10)] }
def EveningPlansSaid : Prop := eveningPlansRow.holds Tryd.pinned (OpenSpec.ofChange eveningPlansSpec)

/-- ITS FALSE NEIGHBOUR: 'it returns false'. Refute it at one input. -/
def eveningPlansWrong : ChangeSpec := { name := "eveningPlans", fn := fun _ => fun
  | [d1, d2, d3] => { results := [.lit (.bool false)], args := [d1, d2, d3] }
  | _ => none }
def EveningPlansWrongFalsely : Prop := eveningPlansRow.holds Tryd.pinned (OpenSpec.ofChange eveningPlansWrong)

/-- 'trestlelaw09.EveningPigeon': WHATEVER THE INPUT: true; the input reads as it did. -/
def eveningPigeonSpec : ChangeSpec := { name := "eveningPigeon", fn := fun _ => fun
  | [d1, d2, d3] => { results := [.lit (.bool true)], args := [d1, d2, d3] }
  | _ => none }
def eveningPigeonRow : OpenClaim := { program := "ythofgamegondnaadoor", sum := "38a63abbb6ba9d36146d7f969f3830c89956b74dbaf52b696d75769531fef36d", func := "trestle/trestlelaw09.EveningPigeon", spec := "eveningPigeon", inPlace := ["internal/abi.NoEscape"], unfollowed := true, recurses := true, named := ["internal/strconv.uint64pow10", "math/bits.deBruijn32tab", "math/bits.deBruijn64tab"], apart := false, laid := [("math/bits.deBruijn32tab", laid_math_bits_deBruijn32tab), ("math/bits.deBruijn64tab", laid_math_bits_deBruijn64tab), ("internal/strconv.uint64pow10", laid_internal_strconv_uint64pow10)] }
def EveningPigeonSaid : Prop := eveningPigeonRow.holds Tryd.pinned (OpenSpec.ofChange eveningPigeonSpec)

/-- ITS FALSE NEIGHBOUR: 'it returns false'. Refute it at one input. -/
def eveningPigeonWrong : ChangeSpec := { name := "eveningPigeon", fn := fun _ => fun
  | [d1, d2, d3] => { results := [.lit (.bool false)], args := [d1, d2, d3] }
  | _ => none }
def EveningPigeonWrongFalsely : Prop := eveningPigeonRow.holds Tryd.pinned (OpenSpec.ofChange eveningPigeonWrong)

/- THE SECOND FORM. 'bulk': how many values and letters a reading holds, each counted each time it is reached (what is shared counts as often as it is met; a slice's spare places count too). A statement '..UptoSaid' is the law's where the arguments, and the package variables that the reading takes, are together of bulk at most 1048576: NARROWER than '..Said'. Prove '..Said' where nothing that the law and all that it calls make is longer than what came in: it says more and counts as full. Else prove '..UptoSaid'. A law counts once. -/
mutual
def uptoBulk {H : Type} : DataW H → Nat
  | .lit (.string bytes) => bytes.length + 1
  | .lit _ => 1
  | .nil => 1
  | .ptr d => uptoBulk d + 1
  | .slice elems spare => uptoBulkAll elems + uptoBulkAll spare + 1
  | .agg parts => uptoBulkAll parts + 1
  | .iface _ d => uptoBulk d + 1
  | .map entries => uptoBulkEntries entries + 1
  | .held _ => 1
def uptoBulkAll {H : Type} : List (DataW H) → Nat
  | [] => 0
  | d :: r => uptoBulk d + uptoBulkAll r
def uptoBulkEntries {H : Type} : List (Lit × DataW H) → Nat
  | [] => 0
  | x :: r => uptoBulkEntry x + uptoBulkEntries r
def uptoBulkEntry {H : Type} : Lit × DataW H → Nat
  | (.string bytes, d) => bytes.length + uptoBulk d + 1
  | (_, d) => uptoBulk d + 1
 end
def uptoSmall : (H : Type) → List (DataW H) → Bool := fun _ ds => decide (uptoBulkAll ds ≤ 1048576)
def OpenSpec.upto (s : _root_.Go.ChangeSpec) : _root_.Go.OpenSpec := { _root_.Go.OpenSpec.ofChange s with cond := some uptoSmall }

/-- 'trestlelaw09.EveningFields', WHERE WHAT IT READS IS OF BULK AT MOST 1048576: true; the input reads as it did. -/
def eveningFieldsUptoRow : OpenClaim := { program := "ythofgamegondnaadoor", sum := "38a63abbb6ba9d36146d7f969f3830c89956b74dbaf52b696d75769531fef36d", func := "trestle/trestlelaw09.EveningFields", spec := "eveningFields", inPlace := ["internal/abi.NoEscape"], unfollowed := true, recurses := true, named := ["internal/strconv.uint64pow10", "math/bits.deBruijn32tab", "math/bits.deBruijn64tab"], apart := false, laid := [("math/bits.deBruijn32tab", laid_math_bits_deBruijn32tab), ("math/bits.deBruijn64tab", laid_math_bits_deBruijn64tab), ("internal/strconv.uint64pow10", laid_internal_strconv_uint64pow10)], narrowed := true }
def EveningFieldsUptoSaid : Prop := eveningFieldsUptoRow.holds Tryd.pinned (OpenSpec.upto eveningFieldsSpec)

/-- 'trestlelaw09.EveningAxioms', WHERE WHAT IT READS IS OF BULK AT MOST 1048576: true; the input reads as it did. -/
def eveningAxiomsUptoRow : OpenClaim := { program := "ythofgamegondnaadoor", sum := "38a63abbb6ba9d36146d7f969f3830c89956b74dbaf52b696d75769531fef36d", func := "trestle/trestlelaw09.EveningAxioms", spec := "eveningAxioms", inPlace := ["internal/abi.NoEscape"], unfollowed := true, recurses := true, named := ["internal/strconv.uint64pow10", "math/bits.deBruijn32tab", "math/bits.deBruijn64tab"], apart := false, laid := [("math/bits.deBruijn32tab", laid_math_bits_deBruijn32tab), ("math/bits.deBruijn64tab", laid_math_bits_deBruijn64tab), ("internal/strconv.uint64pow10", laid_internal_strconv_uint64pow10)], narrowed := true }
def EveningAxiomsUptoSaid : Prop := eveningAxiomsUptoRow.holds Tryd.pinned (OpenSpec.upto eveningAxiomsSpec)

/-- 'trestlelaw09.EveningFormats', WHERE WHAT IT READS IS OF BULK AT MOST 1048576: true; the input reads as it did. -/
def eveningFormatsUptoRow : OpenClaim := { program := "ythofgamegondnaadoor", sum := "38a63abbb6ba9d36146d7f969f3830c89956b74dbaf52b696d75769531fef36d", func := "trestle/trestlelaw09.EveningFormats", spec := "eveningFormats", inPlace := ["internal/abi.NoEscape"], unfollowed := true, recurses := true, named := ["internal/strconv.uint64pow10", "math/bits.deBruijn32tab", "math/bits.deBruijn64tab"], apart := false, laid := [("math/bits.deBruijn32tab", laid_math_bits_deBruijn32tab), ("math/bits.deBruijn64tab", laid_math_bits_deBruijn64tab), ("internal/strconv.uint64pow10", laid_internal_strconv_uint64pow10)], narrowed := true }
def EveningFormatsUptoSaid : Prop := eveningFormatsUptoRow.holds Tryd.pinned (OpenSpec.upto eveningFormatsSpec)

/-- 'trestlelaw09.EveningChecks', WHERE WHAT IT READS IS OF BULK AT MOST 1048576: true; the input reads as it did. -/
def eveningChecksUptoRow : OpenClaim := { program := "ythofgamegondnaadoor", sum := "38a63abbb6ba9d36146d7f969f3830c89956b74dbaf52b696d75769531fef36d", func := "trestle/trestlelaw09.EveningChecks", spec := "eveningChecks", inPlace := ["internal/abi.NoEscape"], unfollowed := true, recurses := true, named := ["internal/strconv.uint64pow10", "math/bits.deBruijn32tab", "math/bits.deBruijn64tab"], apart := false, laid := [("math/bits.deBruijn32tab", laid_math_bits_deBruijn32tab), ("math/bits.deBruijn64tab", laid_math_bits_deBruijn64tab), ("internal/strconv.uint64pow10", laid_internal_strconv_uint64pow10)], narrowed := true }
def EveningChecksUptoSaid : Prop := eveningChecksUptoRow.holds Tryd.pinned (OpenSpec.upto eveningChecksSpec)

/-- 'trestlelaw09.EveningBounds', WHERE WHAT IT READS IS OF BULK AT MOST 1048576: true; the input reads as it did. -/
def eveningBoundsUptoRow : OpenClaim := { program := "ythofgamegondnaadoor", sum := "38a63abbb6ba9d36146d7f969f3830c89956b74dbaf52b696d75769531fef36d", func := "trestle/trestlelaw09.EveningBounds", spec := "eveningBounds", inPlace := ["internal/abi.NoEscape"], unfollowed := true, recurses := true, named := ["internal/strconv.uint64pow10", "math/bits.deBruijn32tab", "math/bits.deBruijn64tab"], apart := false, laid := [("math/bits.deBruijn32tab", laid_math_bits_deBruijn32tab), ("math/bits.deBruijn64tab", laid_math_bits_deBruijn64tab), ("internal/strconv.uint64pow10", laid_internal_strconv_uint64pow10)], narrowed := true }
def EveningBoundsUptoSaid : Prop := eveningBoundsUptoRow.holds Tryd.pinned (OpenSpec.upto eveningBoundsSpec)

/-- 'trestlelaw09.EveningOnce', WHERE WHAT IT READS IS OF BULK AT MOST 1048576: true; the input reads as it did. -/
def eveningOnceUptoRow : OpenClaim := { program := "ythofgamegondnaadoor", sum := "38a63abbb6ba9d36146d7f969f3830c89956b74dbaf52b696d75769531fef36d", func := "trestle/trestlelaw09.EveningOnce", spec := "eveningOnce", inPlace := ["internal/abi.NoEscape"], unfollowed := true, recurses := true, named := ["internal/strconv.uint64pow10", "math/bits.deBruijn32tab", "math/bits.deBruijn64tab"], apart := false, laid := [("math/bits.deBruijn32tab", laid_math_bits_deBruijn32tab), ("math/bits.deBruijn64tab", laid_math_bits_deBruijn64tab), ("internal/strconv.uint64pow10", laid_internal_strconv_uint64pow10)], narrowed := true }
def EveningOnceUptoSaid : Prop := eveningOnceUptoRow.holds Tryd.pinned (OpenSpec.upto eveningOnceSpec)

/-- 'trestlelaw09.EveningHosts', WHERE WHAT IT READS IS OF BULK AT MOST 1048576: true; the input reads as it did. -/
def eveningHostsUptoRow : OpenClaim := { program := "ythofgamegondnaadoor", sum := "38a63abbb6ba9d36146d7f969f3830c89956b74dbaf52b696d75769531fef36d", func := "trestle/trestlelaw09.EveningHosts", spec := "eveningHosts", inPlace := ["internal/abi.NoEscape"], unfollowed := true, recurses := true, named := ["internal/strconv.uint64pow10", "math/bits.deBruijn32tab", "math/bits.deBruijn64tab"], apart := false, laid := [("math/bits.deBruijn32tab", laid_math_bits_deBruijn32tab), ("math/bits.deBruijn64tab", laid_math_bits_deBruijn64tab), ("internal/strconv.uint64pow10", laid_internal_strconv_uint64pow10)], narrowed := true }
def EveningHostsUptoSaid : Prop := eveningHostsUptoRow.holds Tryd.pinned (OpenSpec.upto eveningHostsSpec)

/-- 'trestlelaw09.EveningRings', WHERE WHAT IT READS IS OF BULK AT MOST 1048576: true; the input reads as it did. -/
def eveningRingsUptoRow : OpenClaim := { program := "ythofgamegondnaadoor", sum := "38a63abbb6ba9d36146d7f969f3830c89956b74dbaf52b696d75769531fef36d", func := "trestle/trestlelaw09.EveningRings", spec := "eveningRings", inPlace := ["internal/abi.NoEscape"], unfollowed := true, recurses := true, named := ["internal/strconv.uint64pow10", "math/bits.deBruijn32tab", "math/bits.deBruijn64tab"], apart := false, laid := [("math/bits.deBruijn32tab", laid_math_bits_deBruijn32tab), ("math/bits.deBruijn64tab", laid_math_bits_deBruijn64tab), ("internal/strconv.uint64pow10", laid_internal_strconv_uint64pow10)], narrowed := true }
def EveningRingsUptoSaid : Prop := eveningRingsUptoRow.holds Tryd.pinned (OpenSpec.upto eveningRingsSpec)

/-- 'trestlelaw09.EveningNets', WHERE WHAT IT READS IS OF BULK AT MOST 1048576: true; the input reads as it did. -/
def eveningNetsUptoRow : OpenClaim := { program := "ythofgamegondnaadoor", sum := "38a63abbb6ba9d36146d7f969f3830c89956b74dbaf52b696d75769531fef36d", func := "trestle/trestlelaw09.EveningNets", spec := "eveningNets", inPlace := ["internal/abi.NoEscape"], unfollowed := true, recurses := true, named := ["internal/strconv.uint64pow10", "math/bits.deBruijn32tab", "math/bits.deBruijn64tab"], apart := false, laid := [("math/bits.deBruijn32tab", laid_math_bits_deBruijn32tab), ("math/bits.deBruijn64tab", laid_math_bits_deBruijn64tab), ("internal/strconv.uint64pow10", laid_internal_strconv_uint64pow10)], narrowed := true }
def EveningNetsUptoSaid : Prop := eveningNetsUptoRow.holds Tryd.pinned (OpenSpec.upto eveningNetsSpec)

/-- 'trestlelaw09.EveningDesigns', WHERE WHAT IT READS IS OF BULK AT MOST 1048576: true; the input reads as it did. -/
def eveningDesignsUptoRow : OpenClaim := { program := "ythofgamegondnaadoor", sum := "38a63abbb6ba9d36146d7f969f3830c89956b74dbaf52b696d75769531fef36d", func := "trestle/trestlelaw09.EveningDesigns", spec := "eveningDesigns", inPlace := ["internal/abi.NoEscape"], unfollowed := true, recurses := true, named := ["internal/strconv.uint64pow10", "math/bits.deBruijn32tab", "math/bits.deBruijn64tab"], apart := false, laid := [("math/bits.deBruijn32tab", laid_math_bits_deBruijn32tab), ("math/bits.deBruijn64tab", laid_math_bits_deBruijn64tab), ("internal/strconv.uint64pow10", laid_internal_strconv_uint64pow10)], narrowed := true }
def EveningDesignsUptoSaid : Prop := eveningDesignsUptoRow.holds Tryd.pinned (OpenSpec.upto eveningDesignsSpec)

/-- 'trestlelaw09.EveningPlans', WHERE WHAT IT READS IS OF BULK AT MOST 1048576: true; the input reads as it did. -/
def eveningPlansUptoRow : OpenClaim := { program := "ythofgamegondnaadoor", sum := "38a63abbb6ba9d36146d7f969f3830c89956b74dbaf52b696d75769531fef36d", func := "trestle/trestlelaw09.EveningPlans", spec := "eveningPlans", inPlace := ["internal/abi.NoEscape"], unfollowed := true, recurses := true, named := ["internal/strconv.uint64pow10", "math/bits.deBruijn32tab", "math/bits.deBruijn64tab"], apart := false, laid := [("math/bits.deBruijn32tab", laid_math_bits_deBruijn32tab), ("math/bits.deBruijn64tab", laid_math_bits_deBruijn64tab), ("internal/strconv.uint64pow10", laid_internal_strconv_uint64pow10)], narrowed := true }
def EveningPlansUptoSaid : Prop := eveningPlansUptoRow.holds Tryd.pinned (OpenSpec.upto eveningPlansSpec)

/-- 'trestlelaw09.EveningPigeon', WHERE WHAT IT READS IS OF BULK AT MOST 1048576: true; the input reads as it did. -/
def eveningPigeonUptoRow : OpenClaim := { program := "ythofgamegondnaadoor", sum := "38a63abbb6ba9d36146d7f969f3830c89956b74dbaf52b696d75769531fef36d", func := "trestle/trestlelaw09.EveningPigeon", spec := "eveningPigeon", inPlace := ["internal/abi.NoEscape"], unfollowed := true, recurses := true, named := ["internal/strconv.uint64pow10", "math/bits.deBruijn32tab", "math/bits.deBruijn64tab"], apart := false, laid := [("math/bits.deBruijn32tab", laid_math_bits_deBruijn32tab), ("math/bits.deBruijn64tab", laid_math_bits_deBruijn64tab), ("internal/strconv.uint64pow10", laid_internal_strconv_uint64pow10)], narrowed := true }
def EveningPigeonUptoSaid : Prop := eveningPigeonUptoRow.holds Tryd.pinned (OpenSpec.upto eveningPigeonSpec)

end Rows
end Go.Proofs.YthofgamegondnaaDoor
