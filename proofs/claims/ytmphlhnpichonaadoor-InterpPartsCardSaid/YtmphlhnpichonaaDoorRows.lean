/-
  NARROWER THAN 'FOR EVERY INPUT', by the rows' own cells (each row's printed sentence says how): FrameMakes: laid · FrameGoes: laid · FrameKeeps: laid · FrameStays: laid · InterpSteps: laid · InterpRuns: laid · InterpOne: laid · InterpParts: laid · WordDoes: laid · WordReads: laid · WordLaws: laid · WordOne: laid.
  DERIVED. THE GIVEN ROWS OF THIS SEAT. 12 by the template 'for every input the law returns true; each argument reads behind the call as it read before'; 0 by the template 'total and deterministic' (their statements: YtmphlhnpichonaaDoorTotals.lean).
  GIVEN WITH THE SEED: the statements are not yours to turn. If you find one false, say at which input.
  Laid BY PROGRAM, IN A SANDBOX (cutbox-rows.mjs): the forced cells as the released guide's own fill.sh prints them over the translation 6a54421bf3a7cdef… (all of the seat's roots in one cut). By AI agents, Wed Nov 11 2026. No macro, syntax, notation, axiom, sorry.
-/
import Derived.Test.YtmphlhnpichonaaDoorChecked
import GoSem.Claim
import GoSem.ClaimJoined
import GoSem.ClaimMapViews
import Derived.JoinedTies
import Derived.KernelRfl
namespace Go.Proofs.YtmphlhnpichonaaDoor
/- THE CELL 'sum', in the pinned program and in every row, IS THE sha256 OF THE DUMP (.gsa) THAT YtmphlhnpichonaaDoorProg.lean LOADS. Nothing in Lean hashes anything: it is a label: what it is worth is what the hold of that sum in a sandbox is worth. -/
noncomputable def Tryd.pinned : Pinned := { name := "ytmphlhnpichonaadoor", sum := "6a54421bf3a7cdef814f68def2bdf42f834e62975e1225467db2ec7c174d5ac3", checked := Tryd.checked }
namespace Rows
def none {H : Type} : Left H := { results := [], args := [] }

/- WHAT THE LISTED PACKAGE-LEVEL VARIABLES READ AS WHEN THE CALL BEGINS. Each datum BY PROGRAM (the guide's laid-datum.mjs) off the statement by which the dump's own 'gosem.cut.vars' lays the variable. In a bare row this is a premise. The card (YtmphlhnpichonaaDoorCards.lean) ties it to the program's text. -/
def laid_math_bits_deBruijn32tab {H : Type} : DataW H := .agg [.lit (.int .u8 0), .lit (.int .u8 1), .lit (.int .u8 28), .lit (.int .u8 2), .lit (.int .u8 29), .lit (.int .u8 14), .lit (.int .u8 24), .lit (.int .u8 3), .lit (.int .u8 30), .lit (.int .u8 22), .lit (.int .u8 20), .lit (.int .u8 15), .lit (.int .u8 25), .lit (.int .u8 17), .lit (.int .u8 4), .lit (.int .u8 8), .lit (.int .u8 31), .lit (.int .u8 27), .lit (.int .u8 13), .lit (.int .u8 23), .lit (.int .u8 21), .lit (.int .u8 19), .lit (.int .u8 16), .lit (.int .u8 7), .lit (.int .u8 26), .lit (.int .u8 12), .lit (.int .u8 18), .lit (.int .u8 6), .lit (.int .u8 11), .lit (.int .u8 5), .lit (.int .u8 10), .lit (.int .u8 9)]
def laid_math_bits_deBruijn64tab {H : Type} : DataW H := .agg [.lit (.int .u8 0), .lit (.int .u8 1), .lit (.int .u8 56), .lit (.int .u8 2), .lit (.int .u8 57), .lit (.int .u8 49), .lit (.int .u8 28), .lit (.int .u8 3), .lit (.int .u8 61), .lit (.int .u8 58), .lit (.int .u8 42), .lit (.int .u8 50), .lit (.int .u8 38), .lit (.int .u8 29), .lit (.int .u8 17), .lit (.int .u8 4), .lit (.int .u8 62), .lit (.int .u8 47), .lit (.int .u8 59), .lit (.int .u8 36), .lit (.int .u8 45), .lit (.int .u8 43), .lit (.int .u8 51), .lit (.int .u8 22), .lit (.int .u8 53), .lit (.int .u8 39), .lit (.int .u8 33), .lit (.int .u8 30), .lit (.int .u8 24), .lit (.int .u8 18), .lit (.int .u8 12), .lit (.int .u8 5), .lit (.int .u8 63), .lit (.int .u8 55), .lit (.int .u8 48), .lit (.int .u8 27), .lit (.int .u8 60), .lit (.int .u8 41), .lit (.int .u8 37), .lit (.int .u8 16), .lit (.int .u8 46), .lit (.int .u8 35), .lit (.int .u8 44), .lit (.int .u8 21), .lit (.int .u8 52), .lit (.int .u8 32), .lit (.int .u8 23), .lit (.int .u8 11), .lit (.int .u8 54), .lit (.int .u8 26), .lit (.int .u8 40), .lit (.int .u8 15), .lit (.int .u8 34), .lit (.int .u8 20), .lit (.int .u8 31), .lit (.int .u8 10), .lit (.int .u8 25), .lit (.int .u8 14), .lit (.int .u8 19), .lit (.int .u8 9), .lit (.int .u8 13), .lit (.int .u8 8), .lit (.int .u8 7), .lit (.int .u8 6)]
def laid_internal_strconv_uint64pow10 {H : Type} : DataW H := .agg [.lit (.int .u64 1), .lit (.int .u64 10), .lit (.int .u64 100), .lit (.int .u64 1000), .lit (.int .u64 10000), .lit (.int .u64 100000), .lit (.int .u64 1000000), .lit (.int .u64 10000000), .lit (.int .u64 100000000), .lit (.int .u64 1000000000), .lit (.int .u64 10000000000), .lit (.int .u64 100000000000), .lit (.int .u64 1000000000000), .lit (.int .u64 10000000000000), .lit (.int .u64 100000000000000), .lit (.int .u64 1000000000000000), .lit (.int .u64 10000000000000000), .lit (.int .u64 100000000000000000), .lit (.int .u64 1000000000000000000), .lit (.int .u64 10000000000000000000)]
def laid_becket_opcode_kinds {H : Type} : DataW H := .agg [.agg [.lit (.string [110, 111, 112]), .lit (.string [45, 45, 45]), .lit (.int .i64 0)], .agg [.lit (.string [104, 97, 108, 116]), .lit (.string [45, 45, 45]), .lit (.int .i64 5)], .agg [.lit (.string [109, 111, 118]), .lit (.string [114, 114, 45]), .lit (.int .i64 0)], .agg [.lit (.string [115, 101, 116]), .lit (.string [114, 105, 106]), .lit (.int .i64 0)], .agg [.lit (.string [97, 100, 100]), .lit (.string [114, 114, 114]), .lit (.int .i64 0)], .agg [.lit (.string [115, 117, 98]), .lit (.string [114, 114, 114]), .lit (.int .i64 0)], .agg [.lit (.string [109, 117, 108]), .lit (.string [114, 114, 114]), .lit (.int .i64 0)], .agg [.lit (.string [100, 105, 118]), .lit (.string [114, 114, 114]), .lit (.int .i64 0)], .agg [.lit (.string [114, 101, 109]), .lit (.string [114, 114, 114]), .lit (.int .i64 0)], .agg [.lit (.string [97, 110, 100]), .lit (.string [114, 114, 114]), .lit (.int .i64 0)], .agg [.lit (.string [111, 114]), .lit (.string [114, 114, 114]), .lit (.int .i64 0)], .agg [.lit (.string [120, 111, 114]), .lit (.string [114, 114, 114]), .lit (.int .i64 0)], .agg [.lit (.string [115, 104, 108]), .lit (.string [114, 114, 114]), .lit (.int .i64 0)], .agg [.lit (.string [115, 104, 114]), .lit (.string [114, 114, 114]), .lit (.int .i64 0)], .agg [.lit (.string [110, 111, 116]), .lit (.string [114, 114, 45]), .lit (.int .i64 0)], .agg [.lit (.string [110, 101, 103]), .lit (.string [114, 114, 45]), .lit (.int .i64 0)], .agg [.lit (.string [108, 116]), .lit (.string [114, 114, 114]), .lit (.int .i64 0)], .agg [.lit (.string [101, 113]), .lit (.string [114, 114, 114]), .lit (.int .i64 0)], .agg [.lit (.string [106, 109, 112]), .lit (.string [116, 45, 45]), .lit (.int .i64 1)], .agg [.lit (.string [106, 122]), .lit (.string [114, 116, 45]), .lit (.int .i64 1)], .agg [.lit (.string [106, 110, 122]), .lit (.string [114, 116, 45]), .lit (.int .i64 1)], .agg [.lit (.string [106, 98, 97, 100]), .lit (.string [116, 45, 45]), .lit (.int .i64 1)], .agg [.lit (.string [99, 97, 108, 108]), .lit (.string [116, 45, 45]), .lit (.int .i64 1)], .agg [.lit (.string [114, 101, 116]), .lit (.string [45, 45, 45]), .lit (.int .i64 1)], .agg [.lit (.string [108, 111, 97, 100]), .lit (.string [114, 114, 45]), .lit (.int .i64 0)], .agg [.lit (.string [115, 116, 111, 114, 101]), .lit (.string [114, 114, 45]), .lit (.int .i64 0)], .agg [.lit (.string [102, 97, 105, 108]), .lit (.string [115, 45, 45]), .lit (.int .i64 5)], .agg [.lit (.string [101, 109, 105, 116]), .lit (.string [114, 45, 45]), .lit (.int .i64 4)], .agg [.lit (.string [110, 111, 119]), .lit (.string [114, 45, 45]), .lit (.int .i64 4)], .agg [.lit (.string [109, 101]), .lit (.string [114, 45, 45]), .lit (.int .i64 4)], .agg [.lit (.string [115, 112, 97, 119, 110]), .lit (.string [114, 112, 114]), .lit (.int .i64 4)], .agg [.lit (.string [106, 111, 105, 110]), .lit (.string [114, 45, 45]), .lit (.int .i64 2)], .agg [.lit (.string [115, 108, 101, 101, 112]), .lit (.string [114, 45, 45]), .lit (.int .i64 2)], .agg [.lit (.string [115, 101, 110, 100]), .lit (.string [99, 114, 45]), .lit (.int .i64 2)], .agg [.lit (.string [114, 101, 99, 118]), .lit (.string [99, 114, 45]), .lit (.int .i64 2)], .agg [.lit (.string [112, 111, 105, 115, 111, 110]), .lit (.string [99, 114, 45]), .lit (.int .i64 4)], .agg [.lit (.string [101, 110, 114, 111, 108]), .lit (.string [98, 45, 45]), .lit (.int .i64 4)], .agg [.lit (.string [114, 101, 115, 105, 103, 110]), .lit (.string [98, 45, 45]), .lit (.int .i64 4)], .agg [.lit (.string [115, 121, 110, 99]), .lit (.string [98, 45, 45]), .lit (.int .i64 2)], .agg [.lit (.string [102, 97, 108, 108]), .lit (.string [107, 45, 45]), .lit (.int .i64 2)], .agg [.lit (.string [102, 108, 117, 115, 104]), .lit (.string [114, 107, 45]), .lit (.int .i64 4)], .agg [.lit (.string [97, 108, 116]), .lit (.string [114, 109, 110]), .lit (.int .i64 2)], .agg [.lit (.string [103, 105, 110]), .lit (.string [99, 114, 103]), .lit (.int .i64 3)], .agg [.lit (.string [103, 98, 97, 114]), .lit (.string [98, 45, 103]), .lit (.int .i64 3)], .agg [.lit (.string [103, 116, 105, 109, 101]), .lit (.string [114, 45, 103]), .lit (.int .i64 3)], .agg [.lit (.string [103, 115, 107, 105, 112]), .lit (.string [45, 45, 103]), .lit (.int .i64 3)], .agg [.lit (.string [112, 104, 97, 115, 101]), .lit (.string [114, 98, 45]), .lit (.int .i64 4)], .agg [.lit (.string [115, 105, 122, 101]), .lit (.string [114, 98, 45]), .lit (.int .i64 4)]]
def laid_strconv_ErrRange {H : Type} : DataW H := .iface "*errors.errorString" (.ptr (.agg [.lit (.string [118, 97, 108, 117, 101, 32, 111, 117, 116, 32, 111, 102, 32, 114, 97, 110, 103, 101])]))
def laid_strconv_ErrSyntax {H : Type} : DataW H := .iface "*errors.errorString" (.ptr (.agg [.lit (.string [105, 110, 118, 97, 108, 105, 100, 32, 115, 121, 110, 116, 97, 120])]))

/-- 'becketlaw13.FrameMakes': WHATEVER THE INPUT: true; the input reads as it did. -/
def frameMakesSpec : ChangeSpec := { name := "frameMakes", fn := fun _ => fun
  | [d1, d2] => { results := [.lit (.bool true)], args := [d1, d2] }
  | _ => none }
def frameMakesRow : OpenClaim := { program := "ytmphlhnpichonaadoor", sum := "6a54421bf3a7cdef814f68def2bdf42f834e62975e1225467db2ec7c174d5ac3", func := "becket/becketlaw13.FrameMakes", spec := "frameMakes", inPlace := ["internal/abi.NoEscape", "internal/bytealg.MakeNoZero"], unfollowed := true, recurses := true, named := ["internal/strconv.uint64pow10", "math/bits.deBruijn32tab", "math/bits.deBruijn64tab"], apart := false, laid := [("math/bits.deBruijn32tab", laid_math_bits_deBruijn32tab), ("math/bits.deBruijn64tab", laid_math_bits_deBruijn64tab), ("internal/strconv.uint64pow10", laid_internal_strconv_uint64pow10)] }
def FrameMakesSaid : Prop := frameMakesRow.holds Tryd.pinned (OpenSpec.ofChange frameMakesSpec)

/-- ITS FALSE NEIGHBOUR: 'it returns false'. Refute it at one input. -/
def frameMakesWrong : ChangeSpec := { name := "frameMakes", fn := fun _ => fun
  | [d1, d2] => { results := [.lit (.bool false)], args := [d1, d2] }
  | _ => none }
def FrameMakesWrongFalsely : Prop := frameMakesRow.holds Tryd.pinned (OpenSpec.ofChange frameMakesWrong)

/-- 'becketlaw13.FrameGoes': WHATEVER THE INPUT: true; the input reads as it did. -/
def frameGoesSpec : ChangeSpec := { name := "frameGoes", fn := fun _ => fun
  | [d1, d2] => { results := [.lit (.bool true)], args := [d1, d2] }
  | _ => none }
def frameGoesRow : OpenClaim := { program := "ytmphlhnpichonaadoor", sum := "6a54421bf3a7cdef814f68def2bdf42f834e62975e1225467db2ec7c174d5ac3", func := "becket/becketlaw13.FrameGoes", spec := "frameGoes", inPlace := ["internal/abi.NoEscape", "internal/bytealg.MakeNoZero"], unfollowed := true, recurses := true, named := ["internal/strconv.uint64pow10", "math/bits.deBruijn32tab", "math/bits.deBruijn64tab"], apart := false, laid := [("math/bits.deBruijn32tab", laid_math_bits_deBruijn32tab), ("math/bits.deBruijn64tab", laid_math_bits_deBruijn64tab), ("internal/strconv.uint64pow10", laid_internal_strconv_uint64pow10)] }
def FrameGoesSaid : Prop := frameGoesRow.holds Tryd.pinned (OpenSpec.ofChange frameGoesSpec)

/-- ITS FALSE NEIGHBOUR: 'it returns false'. Refute it at one input. -/
def frameGoesWrong : ChangeSpec := { name := "frameGoes", fn := fun _ => fun
  | [d1, d2] => { results := [.lit (.bool false)], args := [d1, d2] }
  | _ => none }
def FrameGoesWrongFalsely : Prop := frameGoesRow.holds Tryd.pinned (OpenSpec.ofChange frameGoesWrong)

/-- 'becketlaw13.FrameKeeps': WHATEVER THE INPUT: true; the input reads as it did. -/
def frameKeepsSpec : ChangeSpec := { name := "frameKeeps", fn := fun _ => fun
  | [d1, d2, d3] => { results := [.lit (.bool true)], args := [d1, d2, d3] }
  | _ => none }
def frameKeepsRow : OpenClaim := { program := "ytmphlhnpichonaadoor", sum := "6a54421bf3a7cdef814f68def2bdf42f834e62975e1225467db2ec7c174d5ac3", func := "becket/becketlaw13.FrameKeeps", spec := "frameKeeps", inPlace := ["internal/abi.NoEscape", "internal/bytealg.MakeNoZero"], unfollowed := true, recurses := true, named := ["internal/strconv.uint64pow10", "math/bits.deBruijn32tab", "math/bits.deBruijn64tab"], apart := false, laid := [("math/bits.deBruijn32tab", laid_math_bits_deBruijn32tab), ("math/bits.deBruijn64tab", laid_math_bits_deBruijn64tab), ("internal/strconv.uint64pow10", laid_internal_strconv_uint64pow10)] }
def FrameKeepsSaid : Prop := frameKeepsRow.holds Tryd.pinned (OpenSpec.ofChange frameKeepsSpec)

/-- ITS FALSE NEIGHBOUR: 'it returns false'. Refute it at one input. -/
def frameKeepsWrong : ChangeSpec := { name := "frameKeeps", fn := fun _ => fun
  | [d1, d2, d3] => { results := [.lit (.bool false)], args := [d1, d2, d3] }
  | _ => none }
def FrameKeepsWrongFalsely : Prop := frameKeepsRow.holds Tryd.pinned (OpenSpec.ofChange frameKeepsWrong)

/-- 'becketlaw13.FrameStays': WHATEVER THE INPUT: true; the input reads as it did. -/
def frameStaysSpec : ChangeSpec := { name := "frameStays", fn := fun _ => fun
  | [d1, d2, d3] => { results := [.lit (.bool true)], args := [d1, d2, d3] }
  | _ => none }
def frameStaysRow : OpenClaim := { program := "ytmphlhnpichonaadoor", sum := "6a54421bf3a7cdef814f68def2bdf42f834e62975e1225467db2ec7c174d5ac3", func := "becket/becketlaw13.FrameStays", spec := "frameStays", inPlace := ["internal/abi.NoEscape", "internal/bytealg.MakeNoZero"], unfollowed := true, recurses := true, named := ["internal/strconv.uint64pow10", "math/bits.deBruijn32tab", "math/bits.deBruijn64tab"], apart := false, laid := [("math/bits.deBruijn32tab", laid_math_bits_deBruijn32tab), ("math/bits.deBruijn64tab", laid_math_bits_deBruijn64tab), ("internal/strconv.uint64pow10", laid_internal_strconv_uint64pow10)] }
def FrameStaysSaid : Prop := frameStaysRow.holds Tryd.pinned (OpenSpec.ofChange frameStaysSpec)

/-- ITS FALSE NEIGHBOUR: 'it returns false'. Refute it at one input. -/
def frameStaysWrong : ChangeSpec := { name := "frameStays", fn := fun _ => fun
  | [d1, d2, d3] => { results := [.lit (.bool false)], args := [d1, d2, d3] }
  | _ => none }
def FrameStaysWrongFalsely : Prop := frameStaysRow.holds Tryd.pinned (OpenSpec.ofChange frameStaysWrong)

/-- 'becketlaw14.InterpSteps': WHATEVER THE INPUT: true; the input reads as it did. -/
def interpStepsSpec : ChangeSpec := { name := "interpSteps", fn := fun _ => fun
  | [d1, d2] => { results := [.lit (.bool true)], args := [d1, d2] }
  | _ => none }
def interpStepsRow : OpenClaim := { program := "ytmphlhnpichonaadoor", sum := "6a54421bf3a7cdef814f68def2bdf42f834e62975e1225467db2ec7c174d5ac3", func := "becket/becketlaw14.InterpSteps", spec := "interpSteps", inPlace := ["internal/bytealg.IndexByteString", "internal/bytealg.IndexString"], unfollowed := true, recurses := true, named := ["becket/opcode.kinds", "internal/bytealg.MaxLen"], apart := false, laid := [("becket/opcode.kinds", laid_becket_opcode_kinds)] }
def InterpStepsSaid : Prop := interpStepsRow.holds Tryd.pinned (OpenSpec.ofChange interpStepsSpec)

/-- ITS FALSE NEIGHBOUR: 'it returns false'. Refute it at one input. -/
def interpStepsWrong : ChangeSpec := { name := "interpSteps", fn := fun _ => fun
  | [d1, d2] => { results := [.lit (.bool false)], args := [d1, d2] }
  | _ => none }
def InterpStepsWrongFalsely : Prop := interpStepsRow.holds Tryd.pinned (OpenSpec.ofChange interpStepsWrong)

/-- 'becketlaw14.InterpRuns': WHATEVER THE INPUT: true; the input reads as it did. -/
def interpRunsSpec : ChangeSpec := { name := "interpRuns", fn := fun _ => fun
  | [d1, d2, d3] => { results := [.lit (.bool true)], args := [d1, d2, d3] }
  | _ => none }
def interpRunsRow : OpenClaim := { program := "ytmphlhnpichonaadoor", sum := "6a54421bf3a7cdef814f68def2bdf42f834e62975e1225467db2ec7c174d5ac3", func := "becket/becketlaw14.InterpRuns", spec := "interpRuns", inPlace := ["internal/bytealg.IndexByteString", "internal/bytealg.IndexString"], unfollowed := true, recurses := true, named := ["becket/opcode.kinds", "internal/bytealg.MaxLen"], apart := false, laid := [("becket/opcode.kinds", laid_becket_opcode_kinds)] }
def InterpRunsSaid : Prop := interpRunsRow.holds Tryd.pinned (OpenSpec.ofChange interpRunsSpec)

/-- ITS FALSE NEIGHBOUR: 'it returns false'. Refute it at one input. -/
def interpRunsWrong : ChangeSpec := { name := "interpRuns", fn := fun _ => fun
  | [d1, d2, d3] => { results := [.lit (.bool false)], args := [d1, d2, d3] }
  | _ => none }
def InterpRunsWrongFalsely : Prop := interpRunsRow.holds Tryd.pinned (OpenSpec.ofChange interpRunsWrong)

/-- 'becketlaw14.InterpOne': WHATEVER THE INPUT: true; the input reads as it did. -/
def interpOneSpec : ChangeSpec := { name := "interpOne", fn := fun _ => fun
  | [d1, d2] => { results := [.lit (.bool true)], args := [d1, d2] }
  | _ => none }
def interpOneRow : OpenClaim := { program := "ytmphlhnpichonaadoor", sum := "6a54421bf3a7cdef814f68def2bdf42f834e62975e1225467db2ec7c174d5ac3", func := "becket/becketlaw14.InterpOne", spec := "interpOne", inPlace := ["internal/bytealg.IndexByteString", "internal/bytealg.IndexString"], unfollowed := true, recurses := true, named := ["becket/opcode.kinds", "internal/bytealg.MaxLen"], apart := false, laid := [("becket/opcode.kinds", laid_becket_opcode_kinds)] }
def InterpOneSaid : Prop := interpOneRow.holds Tryd.pinned (OpenSpec.ofChange interpOneSpec)

/-- ITS FALSE NEIGHBOUR: 'it returns false'. Refute it at one input. -/
def interpOneWrong : ChangeSpec := { name := "interpOne", fn := fun _ => fun
  | [d1, d2] => { results := [.lit (.bool false)], args := [d1, d2] }
  | _ => none }
def InterpOneWrongFalsely : Prop := interpOneRow.holds Tryd.pinned (OpenSpec.ofChange interpOneWrong)

/-- 'becketlaw14.InterpParts': WHATEVER THE INPUT: true; the input reads as it did. -/
def interpPartsSpec : ChangeSpec := { name := "interpParts", fn := fun _ => fun
  | [d1, d2, d3] => { results := [.lit (.bool true)], args := [d1, d2, d3] }
  | _ => none }
def interpPartsRow : OpenClaim := { program := "ytmphlhnpichonaadoor", sum := "6a54421bf3a7cdef814f68def2bdf42f834e62975e1225467db2ec7c174d5ac3", func := "becket/becketlaw14.InterpParts", spec := "interpParts", inPlace := ["internal/bytealg.IndexByteString", "internal/bytealg.IndexString"], unfollowed := true, recurses := true, named := ["becket/opcode.kinds", "internal/bytealg.MaxLen"], apart := false, laid := [("becket/opcode.kinds", laid_becket_opcode_kinds)] }
def InterpPartsSaid : Prop := interpPartsRow.holds Tryd.pinned (OpenSpec.ofChange interpPartsSpec)

/-- ITS FALSE NEIGHBOUR: 'it returns false'. Refute it at one input. -/
def interpPartsWrong : ChangeSpec := { name := "interpParts", fn := fun _ => fun
  | [d1, d2, d3] => { results := [.lit (.bool false)], args := [d1, d2, d3] }
  | _ => none }
def InterpPartsWrongFalsely : Prop := interpPartsRow.holds Tryd.pinned (OpenSpec.ofChange interpPartsWrong)

/-- 'becketlaw08.WordDoes': WHATEVER THE INPUT: true; the input reads as it did. -/
def wordDoesSpec : ChangeSpec := { name := "wordDoes", fn := fun _ => fun
  | [d1, d2, d3] => { results := [.lit (.bool true)], args := [d1, d2, d3] }
  | _ => none }
def wordDoesRow : OpenClaim := { program := "ytmphlhnpichonaadoor", sum := "6a54421bf3a7cdef814f68def2bdf42f834e62975e1225467db2ec7c174d5ac3", func := "becket/becketlaw08.WordDoes", spec := "wordDoes", named := ["internal/strconv.uint64pow10", "math/bits.deBruijn32tab", "math/bits.deBruijn64tab", "strconv.ErrSyntax", "strconv.ErrRange"], apart := false, laid := [("math/bits.deBruijn32tab", laid_math_bits_deBruijn32tab), ("math/bits.deBruijn64tab", laid_math_bits_deBruijn64tab), ("internal/strconv.uint64pow10", laid_internal_strconv_uint64pow10), ("strconv.ErrRange", laid_strconv_ErrRange), ("strconv.ErrSyntax", laid_strconv_ErrSyntax)] }
def WordDoesSaid : Prop := wordDoesRow.holds Tryd.pinned (OpenSpec.ofChange wordDoesSpec)

/-- ITS FALSE NEIGHBOUR: 'it returns false'. Refute it at one input. -/
def wordDoesWrong : ChangeSpec := { name := "wordDoes", fn := fun _ => fun
  | [d1, d2, d3] => { results := [.lit (.bool false)], args := [d1, d2, d3] }
  | _ => none }
def WordDoesWrongFalsely : Prop := wordDoesRow.holds Tryd.pinned (OpenSpec.ofChange wordDoesWrong)

/-- 'becketlaw08.WordReads': WHATEVER THE INPUT: true; the input reads as it did. -/
def wordReadsSpec : ChangeSpec := { name := "wordReads", fn := fun _ => fun
  | [d] => { results := [.lit (.bool true)], args := [d] }
  | _ => none }
def wordReadsRow : OpenClaim := { program := "ytmphlhnpichonaadoor", sum := "6a54421bf3a7cdef814f68def2bdf42f834e62975e1225467db2ec7c174d5ac3", func := "becket/becketlaw08.WordReads", spec := "wordReads", named := ["internal/strconv.uint64pow10", "math/bits.deBruijn32tab", "math/bits.deBruijn64tab", "strconv.ErrSyntax", "strconv.ErrRange"], apart := false, laid := [("math/bits.deBruijn32tab", laid_math_bits_deBruijn32tab), ("math/bits.deBruijn64tab", laid_math_bits_deBruijn64tab), ("internal/strconv.uint64pow10", laid_internal_strconv_uint64pow10), ("strconv.ErrRange", laid_strconv_ErrRange), ("strconv.ErrSyntax", laid_strconv_ErrSyntax)] }
def WordReadsSaid : Prop := wordReadsRow.holds Tryd.pinned (OpenSpec.ofChange wordReadsSpec)

/-- ITS FALSE NEIGHBOUR: 'it returns false'. Refute it at one input. -/
def wordReadsWrong : ChangeSpec := { name := "wordReads", fn := fun _ => fun
  | [d] => { results := [.lit (.bool false)], args := [d] }
  | _ => none }
def WordReadsWrongFalsely : Prop := wordReadsRow.holds Tryd.pinned (OpenSpec.ofChange wordReadsWrong)

/-- 'becketlaw08.WordLaws': WHATEVER THE INPUT: true; the input reads as it did. -/
def wordLawsSpec : ChangeSpec := { name := "wordLaws", fn := fun _ => fun
  | [d1, d2] => { results := [.lit (.bool true)], args := [d1, d2] }
  | _ => none }
def wordLawsRow : OpenClaim := { program := "ytmphlhnpichonaadoor", sum := "6a54421bf3a7cdef814f68def2bdf42f834e62975e1225467db2ec7c174d5ac3", func := "becket/becketlaw08.WordLaws", spec := "wordLaws", named := ["internal/strconv.uint64pow10", "math/bits.deBruijn32tab", "math/bits.deBruijn64tab", "strconv.ErrSyntax", "strconv.ErrRange"], apart := false, laid := [("math/bits.deBruijn32tab", laid_math_bits_deBruijn32tab), ("math/bits.deBruijn64tab", laid_math_bits_deBruijn64tab), ("internal/strconv.uint64pow10", laid_internal_strconv_uint64pow10), ("strconv.ErrRange", laid_strconv_ErrRange), ("strconv.ErrSyntax", laid_strconv_ErrSyntax)] }
def WordLawsSaid : Prop := wordLawsRow.holds Tryd.pinned (OpenSpec.ofChange wordLawsSpec)

/-- ITS FALSE NEIGHBOUR: 'it returns false'. Refute it at one input. -/
def wordLawsWrong : ChangeSpec := { name := "wordLaws", fn := fun _ => fun
  | [d1, d2] => { results := [.lit (.bool false)], args := [d1, d2] }
  | _ => none }
def WordLawsWrongFalsely : Prop := wordLawsRow.holds Tryd.pinned (OpenSpec.ofChange wordLawsWrong)

/-- 'becketlaw08.WordOne': WHATEVER THE INPUT: true; the input reads as it did. -/
def wordOneSpec : ChangeSpec := { name := "wordOne", fn := fun _ => fun
  | [d] => { results := [.lit (.bool true)], args := [d] }
  | _ => none }
def wordOneRow : OpenClaim := { program := "ytmphlhnpichonaadoor", sum := "6a54421bf3a7cdef814f68def2bdf42f834e62975e1225467db2ec7c174d5ac3", func := "becket/becketlaw08.WordOne", spec := "wordOne", named := ["internal/strconv.uint64pow10", "math/bits.deBruijn32tab", "math/bits.deBruijn64tab", "strconv.ErrSyntax", "strconv.ErrRange"], apart := false, laid := [("math/bits.deBruijn32tab", laid_math_bits_deBruijn32tab), ("math/bits.deBruijn64tab", laid_math_bits_deBruijn64tab), ("internal/strconv.uint64pow10", laid_internal_strconv_uint64pow10), ("strconv.ErrRange", laid_strconv_ErrRange), ("strconv.ErrSyntax", laid_strconv_ErrSyntax)] }
def WordOneSaid : Prop := wordOneRow.holds Tryd.pinned (OpenSpec.ofChange wordOneSpec)

/-- ITS FALSE NEIGHBOUR: 'it returns false'. Refute it at one input. -/
def wordOneWrong : ChangeSpec := { name := "wordOne", fn := fun _ => fun
  | [d] => { results := [.lit (.bool false)], args := [d] }
  | _ => none }
def WordOneWrongFalsely : Prop := wordOneRow.holds Tryd.pinned (OpenSpec.ofChange wordOneWrong)

/- THE SECOND FORM. 'bulk': how many values and letters a reading holds, each counted each time it is reached (what is shared counts as often as it is met; a slice's spare places count too). A statement '..UptoSaid' is the law's where the arguments, and the package variables that the reading takes, are together of bulk at most 1048576: NARROWER than '..Said'. Prove '..Said' where nothing that the law and all that it calls make is longer than what came in: it says more and counts as full. Else prove '..UptoSaid'. A law counts once. -/
mutual
def uptoBulk {H : Type} : DataW H → Nat
  | .lit (.string bytes) => bytes.length + 1
  | .lit _ => 1
  | .nil => 1
  | .ptr d => uptoBulk d + 1
  | .slice elems spare => uptoBulkAll elems + uptoBulkAll spare + 1
  | .agg parts => uptoBulkAll parts + 1
  | .iface _ d => uptoBulk d + 1
  | .map entries => uptoBulkEntries entries + 1
  | .held _ => 1
def uptoBulkAll {H : Type} : List (DataW H) → Nat
  | [] => 0
  | d :: r => uptoBulk d + uptoBulkAll r
def uptoBulkEntries {H : Type} : List (Lit × DataW H) → Nat
  | [] => 0
  | x :: r => uptoBulkEntry x + uptoBulkEntries r
def uptoBulkEntry {H : Type} : Lit × DataW H → Nat
  | (.string bytes, d) => bytes.length + uptoBulk d + 1
  | (_, d) => uptoBulk d + 1
 end
def uptoSmall : (H : Type) → List (DataW H) → Bool := fun _ ds => decide (uptoBulkAll ds ≤ 1048576)
def OpenSpec.upto (s : _root_.Go.ChangeSpec) : _root_.Go.OpenSpec := { _root_.Go.OpenSpec.ofChange s with cond := some uptoSmall }

/-- 'becketlaw13.FrameMakes', WHERE WHAT IT READS IS OF BULK AT MOST 1048576: true; the input reads as it did. -/
def frameMakesUptoRow : OpenClaim := { program := "ytmphlhnpichonaadoor", sum := "6a54421bf3a7cdef814f68def2bdf42f834e62975e1225467db2ec7c174d5ac3", func := "becket/becketlaw13.FrameMakes", spec := "frameMakes", inPlace := ["internal/abi.NoEscape", "internal/bytealg.MakeNoZero"], unfollowed := true, recurses := true, named := ["internal/strconv.uint64pow10", "math/bits.deBruijn32tab", "math/bits.deBruijn64tab"], apart := false, laid := [("math/bits.deBruijn32tab", laid_math_bits_deBruijn32tab), ("math/bits.deBruijn64tab", laid_math_bits_deBruijn64tab), ("internal/strconv.uint64pow10", laid_internal_strconv_uint64pow10)], narrowed := true }
def FrameMakesUptoSaid : Prop := frameMakesUptoRow.holds Tryd.pinned (OpenSpec.upto frameMakesSpec)

/-- 'becketlaw13.FrameGoes', WHERE WHAT IT READS IS OF BULK AT MOST 1048576: true; the input reads as it did. -/
def frameGoesUptoRow : OpenClaim := { program := "ytmphlhnpichonaadoor", sum := "6a54421bf3a7cdef814f68def2bdf42f834e62975e1225467db2ec7c174d5ac3", func := "becket/becketlaw13.FrameGoes", spec := "frameGoes", inPlace := ["internal/abi.NoEscape", "internal/bytealg.MakeNoZero"], unfollowed := true, recurses := true, named := ["internal/strconv.uint64pow10", "math/bits.deBruijn32tab", "math/bits.deBruijn64tab"], apart := false, laid := [("math/bits.deBruijn32tab", laid_math_bits_deBruijn32tab), ("math/bits.deBruijn64tab", laid_math_bits_deBruijn64tab), ("internal/strconv.uint64pow10", laid_internal_strconv_uint64pow10)], narrowed := true }
def FrameGoesUptoSaid : Prop := frameGoesUptoRow.holds Tryd.pinned (OpenSpec.upto frameGoesSpec)

/-- 'becketlaw13.FrameKeeps', WHERE WHAT IT READS IS OF BULK AT MOST 1048576: true; the input reads as it did. -/
def frameKeepsUptoRow : OpenClaim := { program := "ytmphlhnpichonaadoor", sum := "6a54421bf3a7cdef814f68def2bdf42f834e62975e1225467db2ec7c174d5ac3", func := "becket/becketlaw13.FrameKeeps", spec := "frameKeeps", inPlace := ["internal/abi.NoEscape", "internal/bytealg.MakeNoZero"], unfollowed := true, recurses := true, named := ["internal/strconv.uint64pow10", "math/bits.deBruijn32tab", "math/bits.deBruijn64tab"], apart := false, laid := [("math/bits.deBruijn32tab", laid_math_bits_deBruijn32tab), ("math/bits.deBruijn64tab", laid_math_bits_deBruijn64tab), ("internal/strconv.uint64pow10", laid_internal_strconv_uint64pow10)], narrowed := true }
def FrameKeepsUptoSaid : Prop := frameKeepsUptoRow.holds Tryd.pinned (OpenSpec.upto frameKeepsSpec)

/-- 'becketlaw13.FrameStays', WHERE WHAT IT READS IS OF BULK AT MOST 1048576: true; the input reads as it did. -/
def frameStaysUptoRow : OpenClaim := { program := "ytmphlhnpichonaadoor", sum := "6a54421bf3a7cdef814f68def2bdf42f834e62975e1225467db2ec7c174d5ac3", func := "becket/becketlaw13.FrameStays", spec := "frameStays", inPlace := ["internal/abi.NoEscape", "internal/bytealg.MakeNoZero"], unfollowed := true, recurses := true, named := ["internal/strconv.uint64pow10", "math/bits.deBruijn32tab", "math/bits.deBruijn64tab"], apart := false, laid := [("math/bits.deBruijn32tab", laid_math_bits_deBruijn32tab), ("math/bits.deBruijn64tab", laid_math_bits_deBruijn64tab), ("internal/strconv.uint64pow10", laid_internal_strconv_uint64pow10)], narrowed := true }
def FrameStaysUptoSaid : Prop := frameStaysUptoRow.holds Tryd.pinned (OpenSpec.upto frameStaysSpec)

/-- 'becketlaw14.InterpSteps', WHERE WHAT IT READS IS OF BULK AT MOST 1048576: true; the input reads as it did. -/
def interpStepsUptoRow : OpenClaim := { program := "ytmphlhnpichonaadoor", sum := "6a54421bf3a7cdef814f68def2bdf42f834e62975e1225467db2ec7c174d5ac3", func := "becket/becketlaw14.InterpSteps", spec := "interpSteps", inPlace := ["internal/bytealg.IndexByteString", "internal/bytealg.IndexString"], unfollowed := true, recurses := true, named := ["becket/opcode.kinds", "internal/bytealg.MaxLen"], apart := false, laid := [("becket/opcode.kinds", laid_becket_opcode_kinds)], narrowed := true }
def InterpStepsUptoSaid : Prop := interpStepsUptoRow.holds Tryd.pinned (OpenSpec.upto interpStepsSpec)

/-- 'becketlaw14.InterpRuns', WHERE WHAT IT READS IS OF BULK AT MOST 1048576: true; the input reads as it did. -/
def interpRunsUptoRow : OpenClaim := { program := "ytmphlhnpichonaadoor", sum := "6a54421bf3a7cdef814f68def2bdf42f834e62975e1225467db2ec7c174d5ac3", func := "becket/becketlaw14.InterpRuns", spec := "interpRuns", inPlace := ["internal/bytealg.IndexByteString", "internal/bytealg.IndexString"], unfollowed := true, recurses := true, named := ["becket/opcode.kinds", "internal/bytealg.MaxLen"], apart := false, laid := [("becket/opcode.kinds", laid_becket_opcode_kinds)], narrowed := true }
def InterpRunsUptoSaid : Prop := interpRunsUptoRow.holds Tryd.pinned (OpenSpec.upto interpRunsSpec)

/-- 'becketlaw14.InterpOne', WHERE WHAT IT READS IS OF BULK AT MOST 1048576: true; the input reads as it did. -/
def interpOneUptoRow : OpenClaim := { program := "ytmphlhnpichonaadoor", sum := "6a54421bf3a7cdef814f68def2bdf42f834e62975e1225467db2ec7c174d5ac3", func := "becket/becketlaw14.InterpOne", spec := "interpOne", inPlace := ["internal/bytealg.IndexByteString", "internal/bytealg.IndexString"], unfollowed := true, recurses := true, named := ["becket/opcode.kinds", "internal/bytealg.MaxLen"], apart := false, laid := [("becket/opcode.kinds", laid_becket_opcode_kinds)], narrowed := true }
def InterpOneUptoSaid : Prop := interpOneUptoRow.holds Tryd.pinned (OpenSpec.upto interpOneSpec)

/-- 'becketlaw14.InterpParts', WHERE WHAT IT READS IS OF BULK AT MOST 1048576: true; the input reads as it did. -/
def interpPartsUptoRow : OpenClaim := { program := "ytmphlhnpichonaadoor", sum := "6a54421bf3a7cdef814f68def2bdf42f834e62975e1225467db2ec7c174d5ac3", func := "becket/becketlaw14.InterpParts", spec := "interpParts", inPlace := ["internal/bytealg.IndexByteString", "internal/bytealg.IndexString"], unfollowed := true, recurses := true, named := ["becket/opcode.kinds", "internal/bytealg.MaxLen"], apart := false, laid := [("becket/opcode.kinds", laid_becket_opcode_kinds)], narrowed := true }
def InterpPartsUptoSaid : Prop := interpPartsUptoRow.holds Tryd.pinned (OpenSpec.upto interpPartsSpec)

/-- 'becketlaw08.WordDoes', WHERE WHAT IT READS IS OF BULK AT MOST 1048576: true; the input reads as it did. -/
def wordDoesUptoRow : OpenClaim := { program := "ytmphlhnpichonaadoor", sum := "6a54421bf3a7cdef814f68def2bdf42f834e62975e1225467db2ec7c174d5ac3", func := "becket/becketlaw08.WordDoes", spec := "wordDoes", named := ["internal/strconv.uint64pow10", "math/bits.deBruijn32tab", "math/bits.deBruijn64tab", "strconv.ErrSyntax", "strconv.ErrRange"], apart := false, laid := [("math/bits.deBruijn32tab", laid_math_bits_deBruijn32tab), ("math/bits.deBruijn64tab", laid_math_bits_deBruijn64tab), ("internal/strconv.uint64pow10", laid_internal_strconv_uint64pow10), ("strconv.ErrRange", laid_strconv_ErrRange), ("strconv.ErrSyntax", laid_strconv_ErrSyntax)], narrowed := true }
def WordDoesUptoSaid : Prop := wordDoesUptoRow.holds Tryd.pinned (OpenSpec.upto wordDoesSpec)

/-- 'becketlaw08.WordReads', WHERE WHAT IT READS IS OF BULK AT MOST 1048576: true; the input reads as it did. -/
def wordReadsUptoRow : OpenClaim := { program := "ytmphlhnpichonaadoor", sum := "6a54421bf3a7cdef814f68def2bdf42f834e62975e1225467db2ec7c174d5ac3", func := "becket/becketlaw08.WordReads", spec := "wordReads", named := ["internal/strconv.uint64pow10", "math/bits.deBruijn32tab", "math/bits.deBruijn64tab", "strconv.ErrSyntax", "strconv.ErrRange"], apart := false, laid := [("math/bits.deBruijn32tab", laid_math_bits_deBruijn32tab), ("math/bits.deBruijn64tab", laid_math_bits_deBruijn64tab), ("internal/strconv.uint64pow10", laid_internal_strconv_uint64pow10), ("strconv.ErrRange", laid_strconv_ErrRange), ("strconv.ErrSyntax", laid_strconv_ErrSyntax)], narrowed := true }
def WordReadsUptoSaid : Prop := wordReadsUptoRow.holds Tryd.pinned (OpenSpec.upto wordReadsSpec)

/-- 'becketlaw08.WordLaws', WHERE WHAT IT READS IS OF BULK AT MOST 1048576: true; the input reads as it did. -/
def wordLawsUptoRow : OpenClaim := { program := "ytmphlhnpichonaadoor", sum := "6a54421bf3a7cdef814f68def2bdf42f834e62975e1225467db2ec7c174d5ac3", func := "becket/becketlaw08.WordLaws", spec := "wordLaws", named := ["internal/strconv.uint64pow10", "math/bits.deBruijn32tab", "math/bits.deBruijn64tab", "strconv.ErrSyntax", "strconv.ErrRange"], apart := false, laid := [("math/bits.deBruijn32tab", laid_math_bits_deBruijn32tab), ("math/bits.deBruijn64tab", laid_math_bits_deBruijn64tab), ("internal/strconv.uint64pow10", laid_internal_strconv_uint64pow10), ("strconv.ErrRange", laid_strconv_ErrRange), ("strconv.ErrSyntax", laid_strconv_ErrSyntax)], narrowed := true }
def WordLawsUptoSaid : Prop := wordLawsUptoRow.holds Tryd.pinned (OpenSpec.upto wordLawsSpec)

/-- 'becketlaw08.WordOne', WHERE WHAT IT READS IS OF BULK AT MOST 1048576: true; the input reads as it did. -/
def wordOneUptoRow : OpenClaim := { program := "ytmphlhnpichonaadoor", sum := "6a54421bf3a7cdef814f68def2bdf42f834e62975e1225467db2ec7c174d5ac3", func := "becket/becketlaw08.WordOne", spec := "wordOne", named := ["internal/strconv.uint64pow10", "math/bits.deBruijn32tab", "math/bits.deBruijn64tab", "strconv.ErrSyntax", "strconv.ErrRange"], apart := false, laid := [("math/bits.deBruijn32tab", laid_math_bits_deBruijn32tab), ("math/bits.deBruijn64tab", laid_math_bits_deBruijn64tab), ("internal/strconv.uint64pow10", laid_internal_strconv_uint64pow10), ("strconv.ErrRange", laid_strconv_ErrRange), ("strconv.ErrSyntax", laid_strconv_ErrSyntax)], narrowed := true }
def WordOneUptoSaid : Prop := wordOneUptoRow.holds Tryd.pinned (OpenSpec.upto wordOneSpec)

end Rows
end Go.Proofs.YtmphlhnpichonaaDoor
