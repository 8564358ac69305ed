/-
  NARROWER THAN 'FOR EVERY INPUT', by the rows' own cells (each row's printed sentence says how): SnapBegins: laid · SnapTells: laid · SnapFresh: laid.
  DERIVED. THE GIVEN ROWS OF THIS SEAT. 3 by the template 'for every input the law returns true; each argument reads behind the call as it read before'; 0 by the template 'total and deterministic' (their statements: YtlcomipbinfooaaGreatDoorTotals.lean).
  GIVEN WITH THE SEED: the statements are not yours to turn. If you find one false, say at which input.
  Laid BY PROGRAM, IN A SANDBOX (cutbox-rows.mjs): the forced cells as the released guide's own fill.sh prints them over the translation 02fd6ec1ab942c40… (all of the seat's roots in one cut). By AI agents, Wed Nov 11 2026. No macro, syntax, notation, axiom, sorry.
-/
import Derived.Test.YtlcomipbinfooaaGreatDoorChecked
import GoSem.Claim
import GoSem.ClaimJoined
import GoSem.ClaimMapViews
import Derived.JoinedTies
import Derived.KernelRfl
namespace Go.Proofs.YtlcomipbinfooaaGreatDoor
/- THE CELL 'sum', in the pinned program and in every row, IS THE sha256 OF THE DUMP (.gsa) THAT YtlcomipbinfooaaGreatDoorProg.lean LOADS. Nothing in Lean hashes anything: it is a label: what it is worth is what the hold of that sum in a sandbox is worth. -/
noncomputable def Tryz.pinned : Pinned := { name := "ytlcomipbinfooaagreatdoor", sum := "02fd6ec1ab942c40facd50acabfdcad898ef26e2a17b986d8a1c808be1f5a84c", checked := Tryz.checked }
namespace Rows
def none {H : Type} : Left H := { results := [], args := [] }

/- WHAT THE LISTED PACKAGE-LEVEL VARIABLES READ AS WHEN THE CALL BEGINS. Each datum BY PROGRAM (the guide's laid-datum.mjs) off the statement by which the dump's own 'gosem.cut.vars' lays the variable. In a bare row this is a premise. The card (YtlcomipbinfooaaGreatDoorCards.lean) ties it to the program's text. -/
def laid_becket_opcode_kinds {H : Type} : DataW H := .agg [.agg [.lit (.string [110, 111, 112]), .lit (.string [45, 45, 45]), .lit (.int .i64 0)], .agg [.lit (.string [104, 97, 108, 116]), .lit (.string [45, 45, 45]), .lit (.int .i64 5)], .agg [.lit (.string [109, 111, 118]), .lit (.string [114, 114, 45]), .lit (.int .i64 0)], .agg [.lit (.string [115, 101, 116]), .lit (.string [114, 105, 106]), .lit (.int .i64 0)], .agg [.lit (.string [97, 100, 100]), .lit (.string [114, 114, 114]), .lit (.int .i64 0)], .agg [.lit (.string [115, 117, 98]), .lit (.string [114, 114, 114]), .lit (.int .i64 0)], .agg [.lit (.string [109, 117, 108]), .lit (.string [114, 114, 114]), .lit (.int .i64 0)], .agg [.lit (.string [100, 105, 118]), .lit (.string [114, 114, 114]), .lit (.int .i64 0)], .agg [.lit (.string [114, 101, 109]), .lit (.string [114, 114, 114]), .lit (.int .i64 0)], .agg [.lit (.string [97, 110, 100]), .lit (.string [114, 114, 114]), .lit (.int .i64 0)], .agg [.lit (.string [111, 114]), .lit (.string [114, 114, 114]), .lit (.int .i64 0)], .agg [.lit (.string [120, 111, 114]), .lit (.string [114, 114, 114]), .lit (.int .i64 0)], .agg [.lit (.string [115, 104, 108]), .lit (.string [114, 114, 114]), .lit (.int .i64 0)], .agg [.lit (.string [115, 104, 114]), .lit (.string [114, 114, 114]), .lit (.int .i64 0)], .agg [.lit (.string [110, 111, 116]), .lit (.string [114, 114, 45]), .lit (.int .i64 0)], .agg [.lit (.string [110, 101, 103]), .lit (.string [114, 114, 45]), .lit (.int .i64 0)], .agg [.lit (.string [108, 116]), .lit (.string [114, 114, 114]), .lit (.int .i64 0)], .agg [.lit (.string [101, 113]), .lit (.string [114, 114, 114]), .lit (.int .i64 0)], .agg [.lit (.string [106, 109, 112]), .lit (.string [116, 45, 45]), .lit (.int .i64 1)], .agg [.lit (.string [106, 122]), .lit (.string [114, 116, 45]), .lit (.int .i64 1)], .agg [.lit (.string [106, 110, 122]), .lit (.string [114, 116, 45]), .lit (.int .i64 1)], .agg [.lit (.string [106, 98, 97, 100]), .lit (.string [116, 45, 45]), .lit (.int .i64 1)], .agg [.lit (.string [99, 97, 108, 108]), .lit (.string [116, 45, 45]), .lit (.int .i64 1)], .agg [.lit (.string [114, 101, 116]), .lit (.string [45, 45, 45]), .lit (.int .i64 1)], .agg [.lit (.string [108, 111, 97, 100]), .lit (.string [114, 114, 45]), .lit (.int .i64 0)], .agg [.lit (.string [115, 116, 111, 114, 101]), .lit (.string [114, 114, 45]), .lit (.int .i64 0)], .agg [.lit (.string [102, 97, 105, 108]), .lit (.string [115, 45, 45]), .lit (.int .i64 5)], .agg [.lit (.string [101, 109, 105, 116]), .lit (.string [114, 45, 45]), .lit (.int .i64 4)], .agg [.lit (.string [110, 111, 119]), .lit (.string [114, 45, 45]), .lit (.int .i64 4)], .agg [.lit (.string [109, 101]), .lit (.string [114, 45, 45]), .lit (.int .i64 4)], .agg [.lit (.string [115, 112, 97, 119, 110]), .lit (.string [114, 112, 114]), .lit (.int .i64 4)], .agg [.lit (.string [106, 111, 105, 110]), .lit (.string [114, 45, 45]), .lit (.int .i64 2)], .agg [.lit (.string [115, 108, 101, 101, 112]), .lit (.string [114, 45, 45]), .lit (.int .i64 2)], .agg [.lit (.string [115, 101, 110, 100]), .lit (.string [99, 114, 45]), .lit (.int .i64 2)], .agg [.lit (.string [114, 101, 99, 118]), .lit (.string [99, 114, 45]), .lit (.int .i64 2)], .agg [.lit (.string [112, 111, 105, 115, 111, 110]), .lit (.string [99, 114, 45]), .lit (.int .i64 4)], .agg [.lit (.string [101, 110, 114, 111, 108]), .lit (.string [98, 45, 45]), .lit (.int .i64 4)], .agg [.lit (.string [114, 101, 115, 105, 103, 110]), .lit (.string [98, 45, 45]), .lit (.int .i64 4)], .agg [.lit (.string [115, 121, 110, 99]), .lit (.string [98, 45, 45]), .lit (.int .i64 2)], .agg [.lit (.string [102, 97, 108, 108]), .lit (.string [107, 45, 45]), .lit (.int .i64 2)], .agg [.lit (.string [102, 108, 117, 115, 104]), .lit (.string [114, 107, 45]), .lit (.int .i64 4)], .agg [.lit (.string [97, 108, 116]), .lit (.string [114, 109, 110]), .lit (.int .i64 2)], .agg [.lit (.string [103, 105, 110]), .lit (.string [99, 114, 103]), .lit (.int .i64 3)], .agg [.lit (.string [103, 98, 97, 114]), .lit (.string [98, 45, 103]), .lit (.int .i64 3)], .agg [.lit (.string [103, 116, 105, 109, 101]), .lit (.string [114, 45, 103]), .lit (.int .i64 3)], .agg [.lit (.string [103, 115, 107, 105, 112]), .lit (.string [45, 45, 103]), .lit (.int .i64 3)], .agg [.lit (.string [112, 104, 97, 115, 101]), .lit (.string [114, 98, 45]), .lit (.int .i64 4)], .agg [.lit (.string [115, 105, 122, 101]), .lit (.string [114, 98, 45]), .lit (.int .i64 4)]]
def laid_math_bits_deBruijn32tab {H : Type} : DataW H := .agg [.lit (.int .u8 0), .lit (.int .u8 1), .lit (.int .u8 28), .lit (.int .u8 2), .lit (.int .u8 29), .lit (.int .u8 14), .lit (.int .u8 24), .lit (.int .u8 3), .lit (.int .u8 30), .lit (.int .u8 22), .lit (.int .u8 20), .lit (.int .u8 15), .lit (.int .u8 25), .lit (.int .u8 17), .lit (.int .u8 4), .lit (.int .u8 8), .lit (.int .u8 31), .lit (.int .u8 27), .lit (.int .u8 13), .lit (.int .u8 23), .lit (.int .u8 21), .lit (.int .u8 19), .lit (.int .u8 16), .lit (.int .u8 7), .lit (.int .u8 26), .lit (.int .u8 12), .lit (.int .u8 18), .lit (.int .u8 6), .lit (.int .u8 11), .lit (.int .u8 5), .lit (.int .u8 10), .lit (.int .u8 9)]
def laid_math_bits_deBruijn64tab {H : Type} : DataW H := .agg [.lit (.int .u8 0), .lit (.int .u8 1), .lit (.int .u8 56), .lit (.int .u8 2), .lit (.int .u8 57), .lit (.int .u8 49), .lit (.int .u8 28), .lit (.int .u8 3), .lit (.int .u8 61), .lit (.int .u8 58), .lit (.int .u8 42), .lit (.int .u8 50), .lit (.int .u8 38), .lit (.int .u8 29), .lit (.int .u8 17), .lit (.int .u8 4), .lit (.int .u8 62), .lit (.int .u8 47), .lit (.int .u8 59), .lit (.int .u8 36), .lit (.int .u8 45), .lit (.int .u8 43), .lit (.int .u8 51), .lit (.int .u8 22), .lit (.int .u8 53), .lit (.int .u8 39), .lit (.int .u8 33), .lit (.int .u8 30), .lit (.int .u8 24), .lit (.int .u8 18), .lit (.int .u8 12), .lit (.int .u8 5), .lit (.int .u8 63), .lit (.int .u8 55), .lit (.int .u8 48), .lit (.int .u8 27), .lit (.int .u8 60), .lit (.int .u8 41), .lit (.int .u8 37), .lit (.int .u8 16), .lit (.int .u8 46), .lit (.int .u8 35), .lit (.int .u8 44), .lit (.int .u8 21), .lit (.int .u8 52), .lit (.int .u8 32), .lit (.int .u8 23), .lit (.int .u8 11), .lit (.int .u8 54), .lit (.int .u8 26), .lit (.int .u8 40), .lit (.int .u8 15), .lit (.int .u8 34), .lit (.int .u8 20), .lit (.int .u8 31), .lit (.int .u8 10), .lit (.int .u8 25), .lit (.int .u8 14), .lit (.int .u8 19), .lit (.int .u8 9), .lit (.int .u8 13), .lit (.int .u8 8), .lit (.int .u8 7), .lit (.int .u8 6)]
def laid_internal_strconv_uint64pow10 {H : Type} : DataW H := .agg [.lit (.int .u64 1), .lit (.int .u64 10), .lit (.int .u64 100), .lit (.int .u64 1000), .lit (.int .u64 10000), .lit (.int .u64 100000), .lit (.int .u64 1000000), .lit (.int .u64 10000000), .lit (.int .u64 100000000), .lit (.int .u64 1000000000), .lit (.int .u64 10000000000), .lit (.int .u64 100000000000), .lit (.int .u64 1000000000000), .lit (.int .u64 10000000000000), .lit (.int .u64 100000000000000), .lit (.int .u64 1000000000000000), .lit (.int .u64 10000000000000000), .lit (.int .u64 100000000000000000), .lit (.int .u64 1000000000000000000), .lit (.int .u64 10000000000000000000)]
def laid_becket_roll_everybody {H : Type} : DataW H := .agg [.lit (.int .u64 65535), .lit (.int .u64 0), .lit (.int .u64 0), .lit (.int .u64 0)]

/-- 'becketlaw36.SnapBegins': WHATEVER THE INPUT: true; the input reads as it did. -/
def snapBeginsSpec : ChangeSpec := { name := "snapBegins", fn := fun _ => fun
  | [d] => { results := [.lit (.bool true)], args := [d] }
  | _ => none }
def snapBeginsRow : OpenClaim := { program := "ytlcomipbinfooaagreatdoor", sum := "02fd6ec1ab942c40facd50acabfdcad898ef26e2a17b986d8a1c808be1f5a84c", func := "becket/becketlaw36.SnapBegins", spec := "snapBegins", inPlace := ["internal/bytealg.IndexByteString", "internal/abi.NoEscape", "internal/bytealg.MakeNoZero"], unfollowed := true, recurses := true, named := ["becket/opcode.kinds", "becket/roll.everybody", "math/bits.deBruijn64tab", "internal/strconv.uint64pow10", "math/bits.deBruijn32tab"], apart := false, laid := [("becket/opcode.kinds", laid_becket_opcode_kinds), ("math/bits.deBruijn32tab", laid_math_bits_deBruijn32tab), ("math/bits.deBruijn64tab", laid_math_bits_deBruijn64tab), ("internal/strconv.uint64pow10", laid_internal_strconv_uint64pow10), ("becket/roll.everybody", laid_becket_roll_everybody)] }
def SnapBeginsSaid : Prop := snapBeginsRow.holds Tryz.pinned (OpenSpec.ofChange snapBeginsSpec)

/-- ITS FALSE NEIGHBOUR: 'it returns false'. Refute it at one input. -/
def snapBeginsWrong : ChangeSpec := { name := "snapBegins", fn := fun _ => fun
  | [d] => { results := [.lit (.bool false)], args := [d] }
  | _ => none }
def SnapBeginsWrongFalsely : Prop := snapBeginsRow.holds Tryz.pinned (OpenSpec.ofChange snapBeginsWrong)

/-- 'becketlaw36.SnapTells': WHATEVER THE INPUT: true; the input reads as it did. -/
def snapTellsSpec : ChangeSpec := { name := "snapTells", fn := fun _ => fun
  | [d1, d2] => { results := [.lit (.bool true)], args := [d1, d2] }
  | _ => none }
def snapTellsRow : OpenClaim := { program := "ytlcomipbinfooaagreatdoor", sum := "02fd6ec1ab942c40facd50acabfdcad898ef26e2a17b986d8a1c808be1f5a84c", func := "becket/becketlaw36.SnapTells", spec := "snapTells", inPlace := ["internal/bytealg.IndexByteString", "internal/abi.NoEscape", "internal/bytealg.MakeNoZero"], unfollowed := true, recurses := true, named := ["becket/opcode.kinds", "becket/roll.everybody", "math/bits.deBruijn64tab", "internal/strconv.uint64pow10", "math/bits.deBruijn32tab"], apart := false, laid := [("becket/opcode.kinds", laid_becket_opcode_kinds), ("math/bits.deBruijn32tab", laid_math_bits_deBruijn32tab), ("math/bits.deBruijn64tab", laid_math_bits_deBruijn64tab), ("internal/strconv.uint64pow10", laid_internal_strconv_uint64pow10), ("becket/roll.everybody", laid_becket_roll_everybody)] }
def SnapTellsSaid : Prop := snapTellsRow.holds Tryz.pinned (OpenSpec.ofChange snapTellsSpec)

/-- ITS FALSE NEIGHBOUR: 'it returns false'. Refute it at one input. -/
def snapTellsWrong : ChangeSpec := { name := "snapTells", fn := fun _ => fun
  | [d1, d2] => { results := [.lit (.bool false)], args := [d1, d2] }
  | _ => none }
def SnapTellsWrongFalsely : Prop := snapTellsRow.holds Tryz.pinned (OpenSpec.ofChange snapTellsWrong)

/-- 'becketlaw36.SnapFresh': WHATEVER THE INPUT: true; the input reads as it did. -/
def snapFreshSpec : ChangeSpec := { name := "snapFresh", fn := fun _ => fun
  | [d] => { results := [.lit (.bool true)], args := [d] }
  | _ => none }
def snapFreshRow : OpenClaim := { program := "ytlcomipbinfooaagreatdoor", sum := "02fd6ec1ab942c40facd50acabfdcad898ef26e2a17b986d8a1c808be1f5a84c", func := "becket/becketlaw36.SnapFresh", spec := "snapFresh", inPlace := ["internal/bytealg.IndexByteString", "internal/abi.NoEscape", "internal/bytealg.MakeNoZero"], unfollowed := true, recurses := true, named := ["becket/opcode.kinds", "becket/roll.everybody", "math/bits.deBruijn64tab", "internal/strconv.uint64pow10", "math/bits.deBruijn32tab"], apart := false, laid := [("becket/opcode.kinds", laid_becket_opcode_kinds), ("math/bits.deBruijn32tab", laid_math_bits_deBruijn32tab), ("math/bits.deBruijn64tab", laid_math_bits_deBruijn64tab), ("internal/strconv.uint64pow10", laid_internal_strconv_uint64pow10), ("becket/roll.everybody", laid_becket_roll_everybody)] }
def SnapFreshSaid : Prop := snapFreshRow.holds Tryz.pinned (OpenSpec.ofChange snapFreshSpec)

/-- ITS FALSE NEIGHBOUR: 'it returns false'. Refute it at one input. -/
def snapFreshWrong : ChangeSpec := { name := "snapFresh", fn := fun _ => fun
  | [d] => { results := [.lit (.bool false)], args := [d] }
  | _ => none }
def SnapFreshWrongFalsely : Prop := snapFreshRow.holds Tryz.pinned (OpenSpec.ofChange snapFreshWrong)

/- THE SECOND FORM. 'bulk': how many values and letters a reading holds, each counted each time it is reached (what is shared counts as often as it is met; a slice's spare places count too). A statement '..UptoSaid' is the law's where the arguments, and the package variables that the reading takes, are together of bulk at most 1048576: NARROWER than '..Said'. Prove '..Said' where nothing that the law and all that it calls make is longer than what came in: it says more and counts as full. Else prove '..UptoSaid'. A law counts once. -/
mutual
def uptoBulk {H : Type} : DataW H → Nat
  | .lit (.string bytes) => bytes.length + 1
  | .lit _ => 1
  | .nil => 1
  | .ptr d => uptoBulk d + 1
  | .slice elems spare => uptoBulkAll elems + uptoBulkAll spare + 1
  | .agg parts => uptoBulkAll parts + 1
  | .iface _ d => uptoBulk d + 1
  | .map entries => uptoBulkEntries entries + 1
  | .held _ => 1
def uptoBulkAll {H : Type} : List (DataW H) → Nat
  | [] => 0
  | d :: r => uptoBulk d + uptoBulkAll r
def uptoBulkEntries {H : Type} : List (Lit × DataW H) → Nat
  | [] => 0
  | x :: r => uptoBulkEntry x + uptoBulkEntries r
def uptoBulkEntry {H : Type} : Lit × DataW H → Nat
  | (.string bytes, d) => bytes.length + uptoBulk d + 1
  | (_, d) => uptoBulk d + 1
 end
def uptoSmall : (H : Type) → List (DataW H) → Bool := fun _ ds => decide (uptoBulkAll ds ≤ 1048576)
def OpenSpec.upto (s : _root_.Go.ChangeSpec) : _root_.Go.OpenSpec := { _root_.Go.OpenSpec.ofChange s with cond := some uptoSmall }

/-- 'becketlaw36.SnapBegins', WHERE WHAT IT READS IS OF BULK AT MOST 1048576: true; the input reads as it did. -/
def snapBeginsUptoRow : OpenClaim := { program := "ytlcomipbinfooaagreatdoor", sum := "02fd6ec1ab942c40facd50acabfdcad898ef26e2a17b986d8a1c808be1f5a84c", func := "becket/becketlaw36.SnapBegins", spec := "snapBegins", inPlace := ["internal/bytealg.IndexByteString", "internal/abi.NoEscape", "internal/bytealg.MakeNoZero"], unfollowed := true, recurses := true, named := ["becket/opcode.kinds", "becket/roll.everybody", "math/bits.deBruijn64tab", "internal/strconv.uint64pow10", "math/bits.deBruijn32tab"], apart := false, laid := [("becket/opcode.kinds", laid_becket_opcode_kinds), ("math/bits.deBruijn32tab", laid_math_bits_deBruijn32tab), ("math/bits.deBruijn64tab", laid_math_bits_deBruijn64tab), ("internal/strconv.uint64pow10", laid_internal_strconv_uint64pow10), ("becket/roll.everybody", laid_becket_roll_everybody)], narrowed := true }
def SnapBeginsUptoSaid : Prop := snapBeginsUptoRow.holds Tryz.pinned (OpenSpec.upto snapBeginsSpec)

/-- 'becketlaw36.SnapTells', WHERE WHAT IT READS IS OF BULK AT MOST 1048576: true; the input reads as it did. -/
def snapTellsUptoRow : OpenClaim := { program := "ytlcomipbinfooaagreatdoor", sum := "02fd6ec1ab942c40facd50acabfdcad898ef26e2a17b986d8a1c808be1f5a84c", func := "becket/becketlaw36.SnapTells", spec := "snapTells", inPlace := ["internal/bytealg.IndexByteString", "internal/abi.NoEscape", "internal/bytealg.MakeNoZero"], unfollowed := true, recurses := true, named := ["becket/opcode.kinds", "becket/roll.everybody", "math/bits.deBruijn64tab", "internal/strconv.uint64pow10", "math/bits.deBruijn32tab"], apart := false, laid := [("becket/opcode.kinds", laid_becket_opcode_kinds), ("math/bits.deBruijn32tab", laid_math_bits_deBruijn32tab), ("math/bits.deBruijn64tab", laid_math_bits_deBruijn64tab), ("internal/strconv.uint64pow10", laid_internal_strconv_uint64pow10), ("becket/roll.everybody", laid_becket_roll_everybody)], narrowed := true }
def SnapTellsUptoSaid : Prop := snapTellsUptoRow.holds Tryz.pinned (OpenSpec.upto snapTellsSpec)

/-- 'becketlaw36.SnapFresh', WHERE WHAT IT READS IS OF BULK AT MOST 1048576: true; the input reads as it did. -/
def snapFreshUptoRow : OpenClaim := { program := "ytlcomipbinfooaagreatdoor", sum := "02fd6ec1ab942c40facd50acabfdcad898ef26e2a17b986d8a1c808be1f5a84c", func := "becket/becketlaw36.SnapFresh", spec := "snapFresh", inPlace := ["internal/bytealg.IndexByteString", "internal/abi.NoEscape", "internal/bytealg.MakeNoZero"], unfollowed := true, recurses := true, named := ["becket/opcode.kinds", "becket/roll.everybody", "math/bits.deBruijn64tab", "internal/strconv.uint64pow10", "math/bits.deBruijn32tab"], apart := false, laid := [("becket/opcode.kinds", laid_becket_opcode_kinds), ("math/bits.deBruijn32tab", laid_math_bits_deBruijn32tab), ("math/bits.deBruijn64tab", laid_math_bits_deBruijn64tab), ("internal/strconv.uint64pow10", laid_internal_strconv_uint64pow10), ("becket/roll.everybody", laid_becket_roll_everybody)], narrowed := true }
def SnapFreshUptoSaid : Prop := snapFreshUptoRow.holds Tryz.pinned (OpenSpec.upto snapFreshSpec)

end Rows
end Go.Proofs.YtlcomipbinfooaaGreatDoor
