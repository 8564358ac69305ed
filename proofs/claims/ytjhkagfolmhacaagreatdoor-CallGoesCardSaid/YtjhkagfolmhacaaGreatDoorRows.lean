/-
  NARROWER THAN 'FOR EVERY INPUT', by the rows' own cells (each row's printed sentence says how): CallAsks: laid · CallAnswers: laid · CallGoes: laid.
  DERIVED. THE GIVEN ROWS OF THIS SEAT. 3 by the template 'for every input the law returns true; each argument reads behind the call as it read before'; 0 by the template 'total and deterministic' (their statements: YtjhkagfolmhacaaGreatDoorTotals.lean).
  GIVEN WITH THE SEED: the statements are not yours to turn. If you find one false, say at which input.
  Laid BY PROGRAM, IN A SANDBOX (cutbox-rows.mjs): the forced cells as the released guide's own fill.sh prints them over the translation 66491df3bd1ca129… (all of the seat's roots in one cut). By AI agents, Wed Nov 11 2026. No macro, syntax, notation, axiom, sorry.
-/
import Derived.Test.YtjhkagfolmhacaaGreatDoorChecked
import GoSem.Claim
import GoSem.ClaimJoined
import GoSem.ClaimMapViews
import Derived.JoinedTies
import Derived.KernelRfl
namespace Go.Proofs.YtjhkagfolmhacaaGreatDoor
/- THE CELL 'sum', in the pinned program and in every row, IS THE sha256 OF THE DUMP (.gsa) THAT YtjhkagfolmhacaaGreatDoorProg.lean LOADS. Nothing in Lean hashes anything: it is a label: what it is worth is what the hold of that sum in a sandbox is worth. -/
noncomputable def Tryz.pinned : Pinned := { name := "ytjhkagfolmhacaagreatdoor", sum := "66491df3bd1ca1299a7af7694e9daba6111d7213fa100f15273fa7793573d40f", checked := Tryz.checked }
namespace Rows
def none {H : Type} : Left H := { results := [], args := [] }

/- WHAT THE LISTED PACKAGE-LEVEL VARIABLES READ AS WHEN THE CALL BEGINS. Each datum BY PROGRAM (the guide's laid-datum.mjs) off the statement by which the dump's own 'gosem.cut.vars' lays the variable. In a bare row this is a premise. The card (YtjhkagfolmhacaaGreatDoorCards.lean) ties it to the program's text. -/
def laid_becket_opcode_kinds {H : Type} : DataW H := .agg [.agg [.lit (.string [110, 111, 112]), .lit (.string [45, 45, 45]), .lit (.int .i64 0)], .agg [.lit (.string [104, 97, 108, 116]), .lit (.string [45, 45, 45]), .lit (.int .i64 5)], .agg [.lit (.string [109, 111, 118]), .lit (.string [114, 114, 45]), .lit (.int .i64 0)], .agg [.lit (.string [115, 101, 116]), .lit (.string [114, 105, 106]), .lit (.int .i64 0)], .agg [.lit (.string [97, 100, 100]), .lit (.string [114, 114, 114]), .lit (.int .i64 0)], .agg [.lit (.string [115, 117, 98]), .lit (.string [114, 114, 114]), .lit (.int .i64 0)], .agg [.lit (.string [109, 117, 108]), .lit (.string [114, 114, 114]), .lit (.int .i64 0)], .agg [.lit (.string [100, 105, 118]), .lit (.string [114, 114, 114]), .lit (.int .i64 0)], .agg [.lit (.string [114, 101, 109]), .lit (.string [114, 114, 114]), .lit (.int .i64 0)], .agg [.lit (.string [97, 110, 100]), .lit (.string [114, 114, 114]), .lit (.int .i64 0)], .agg [.lit (.string [111, 114]), .lit (.string [114, 114, 114]), .lit (.int .i64 0)], .agg [.lit (.string [120, 111, 114]), .lit (.string [114, 114, 114]), .lit (.int .i64 0)], .agg [.lit (.string [115, 104, 108]), .lit (.string [114, 114, 114]), .lit (.int .i64 0)], .agg [.lit (.string [115, 104, 114]), .lit (.string [114, 114, 114]), .lit (.int .i64 0)], .agg [.lit (.string [110, 111, 116]), .lit (.string [114, 114, 45]), .lit (.int .i64 0)], .agg [.lit (.string [110, 101, 103]), .lit (.string [114, 114, 45]), .lit (.int .i64 0)], .agg [.lit (.string [108, 116]), .lit (.string [114, 114, 114]), .lit (.int .i64 0)], .agg [.lit (.string [101, 113]), .lit (.string [114, 114, 114]), .lit (.int .i64 0)], .agg [.lit (.string [106, 109, 112]), .lit (.string [116, 45, 45]), .lit (.int .i64 1)], .agg [.lit (.string [106, 122]), .lit (.string [114, 116, 45]), .lit (.int .i64 1)], .agg [.lit (.string [106, 110, 122]), .lit (.string [114, 116, 45]), .lit (.int .i64 1)], .agg [.lit (.string [106, 98, 97, 100]), .lit (.string [116, 45, 45]), .lit (.int .i64 1)], .agg [.lit (.string [99, 97, 108, 108]), .lit (.string [116, 45, 45]), .lit (.int .i64 1)], .agg [.lit (.string [114, 101, 116]), .lit (.string [45, 45, 45]), .lit (.int .i64 1)], .agg [.lit (.string [108, 111, 97, 100]), .lit (.string [114, 114, 45]), .lit (.int .i64 0)], .agg [.lit (.string [115, 116, 111, 114, 101]), .lit (.string [114, 114, 45]), .lit (.int .i64 0)], .agg [.lit (.string [102, 97, 105, 108]), .lit (.string [115, 45, 45]), .lit (.int .i64 5)], .agg [.lit (.string [101, 109, 105, 116]), .lit (.string [114, 45, 45]), .lit (.int .i64 4)], .agg [.lit (.string [110, 111, 119]), .lit (.string [114, 45, 45]), .lit (.int .i64 4)], .agg [.lit (.string [109, 101]), .lit (.string [114, 45, 45]), .lit (.int .i64 4)], .agg [.lit (.string [115, 112, 97, 119, 110]), .lit (.string [114, 112, 114]), .lit (.int .i64 4)], .agg [.lit (.string [106, 111, 105, 110]), .lit (.string [114, 45, 45]), .lit (.int .i64 2)], .agg [.lit (.string [115, 108, 101, 101, 112]), .lit (.string [114, 45, 45]), .lit (.int .i64 2)], .agg [.lit (.string [115, 101, 110, 100]), .lit (.string [99, 114, 45]), .lit (.int .i64 2)], .agg [.lit (.string [114, 101, 99, 118]), .lit (.string [99, 114, 45]), .lit (.int .i64 2)], .agg [.lit (.string [112, 111, 105, 115, 111, 110]), .lit (.string [99, 114, 45]), .lit (.int .i64 4)], .agg [.lit (.string [101, 110, 114, 111, 108]), .lit (.string [98, 45, 45]), .lit (.int .i64 4)], .agg [.lit (.string [114, 101, 115, 105, 103, 110]), .lit (.string [98, 45, 45]), .lit (.int .i64 4)], .agg [.lit (.string [115, 121, 110, 99]), .lit (.string [98, 45, 45]), .lit (.int .i64 2)], .agg [.lit (.string [102, 97, 108, 108]), .lit (.string [107, 45, 45]), .lit (.int .i64 2)], .agg [.lit (.string [102, 108, 117, 115, 104]), .lit (.string [114, 107, 45]), .lit (.int .i64 4)], .agg [.lit (.string [97, 108, 116]), .lit (.string [114, 109, 110]), .lit (.int .i64 2)], .agg [.lit (.string [103, 105, 110]), .lit (.string [99, 114, 103]), .lit (.int .i64 3)], .agg [.lit (.string [103, 98, 97, 114]), .lit (.string [98, 45, 103]), .lit (.int .i64 3)], .agg [.lit (.string [103, 116, 105, 109, 101]), .lit (.string [114, 45, 103]), .lit (.int .i64 3)], .agg [.lit (.string [103, 115, 107, 105, 112]), .lit (.string [45, 45, 103]), .lit (.int .i64 3)], .agg [.lit (.string [112, 104, 97, 115, 101]), .lit (.string [114, 98, 45]), .lit (.int .i64 4)], .agg [.lit (.string [115, 105, 122, 101]), .lit (.string [114, 98, 45]), .lit (.int .i64 4)]]

/-- 'becketlaw15.CallAsks': WHATEVER THE INPUT: true; the input reads as it did. -/
def callAsksSpec : ChangeSpec := { name := "callAsks", fn := fun _ => fun
  | [d1, d2, d3] => { results := [.lit (.bool true)], args := [d1, d2, d3] }
  | _ => none }
def callAsksRow : OpenClaim := { program := "ytjhkagfolmhacaagreatdoor", sum := "66491df3bd1ca1299a7af7694e9daba6111d7213fa100f15273fa7793573d40f", func := "becket/becketlaw15.CallAsks", spec := "callAsks", inPlace := ["internal/bytealg.IndexByteString", "internal/bytealg.IndexString"], unfollowed := true, recurses := true, named := ["becket/opcode.kinds", "internal/bytealg.MaxLen"], apart := false, laid := [("becket/opcode.kinds", laid_becket_opcode_kinds)] }
def CallAsksSaid : Prop := callAsksRow.holds Tryz.pinned (OpenSpec.ofChange callAsksSpec)

/-- ITS FALSE NEIGHBOUR: 'it returns false'. Refute it at one input. -/
def callAsksWrong : ChangeSpec := { name := "callAsks", fn := fun _ => fun
  | [d1, d2, d3] => { results := [.lit (.bool false)], args := [d1, d2, d3] }
  | _ => none }
def CallAsksWrongFalsely : Prop := callAsksRow.holds Tryz.pinned (OpenSpec.ofChange callAsksWrong)

/-- 'becketlaw15.CallAnswers': WHATEVER THE INPUT: true; the input reads as it did. -/
def callAnswersSpec : ChangeSpec := { name := "callAnswers", fn := fun _ => fun
  | [d1, d2, d3] => { results := [.lit (.bool true)], args := [d1, d2, d3] }
  | _ => none }
def callAnswersRow : OpenClaim := { program := "ytjhkagfolmhacaagreatdoor", sum := "66491df3bd1ca1299a7af7694e9daba6111d7213fa100f15273fa7793573d40f", func := "becket/becketlaw15.CallAnswers", spec := "callAnswers", inPlace := ["internal/bytealg.IndexByteString", "internal/bytealg.IndexString"], unfollowed := true, recurses := true, named := ["becket/opcode.kinds", "internal/bytealg.MaxLen"], apart := false, laid := [("becket/opcode.kinds", laid_becket_opcode_kinds)] }
def CallAnswersSaid : Prop := callAnswersRow.holds Tryz.pinned (OpenSpec.ofChange callAnswersSpec)

/-- ITS FALSE NEIGHBOUR: 'it returns false'. Refute it at one input. -/
def callAnswersWrong : ChangeSpec := { name := "callAnswers", fn := fun _ => fun
  | [d1, d2, d3] => { results := [.lit (.bool false)], args := [d1, d2, d3] }
  | _ => none }
def CallAnswersWrongFalsely : Prop := callAnswersRow.holds Tryz.pinned (OpenSpec.ofChange callAnswersWrong)

/-- 'becketlaw15.CallGoes': WHATEVER THE INPUT: true; the input reads as it did. -/
def callGoesSpec : ChangeSpec := { name := "callGoes", fn := fun _ => fun
  | [d1, d2, d3] => { results := [.lit (.bool true)], args := [d1, d2, d3] }
  | _ => none }
def callGoesRow : OpenClaim := { program := "ytjhkagfolmhacaagreatdoor", sum := "66491df3bd1ca1299a7af7694e9daba6111d7213fa100f15273fa7793573d40f", func := "becket/becketlaw15.CallGoes", spec := "callGoes", inPlace := ["internal/bytealg.IndexByteString", "internal/bytealg.IndexString"], unfollowed := true, recurses := true, named := ["becket/opcode.kinds", "internal/bytealg.MaxLen"], apart := false, laid := [("becket/opcode.kinds", laid_becket_opcode_kinds)] }
def CallGoesSaid : Prop := callGoesRow.holds Tryz.pinned (OpenSpec.ofChange callGoesSpec)

/-- ITS FALSE NEIGHBOUR: 'it returns false'. Refute it at one input. -/
def callGoesWrong : ChangeSpec := { name := "callGoes", fn := fun _ => fun
  | [d1, d2, d3] => { results := [.lit (.bool false)], args := [d1, d2, d3] }
  | _ => none }
def CallGoesWrongFalsely : Prop := callGoesRow.holds Tryz.pinned (OpenSpec.ofChange callGoesWrong)

/- THE SECOND FORM. 'bulk': how many values and letters a reading holds, each counted each time it is reached (what is shared counts as often as it is met; a slice's spare places count too). A statement '..UptoSaid' is the law's where the arguments, and the package variables that the reading takes, are together of bulk at most 1048576: NARROWER than '..Said'. Prove '..Said' where nothing that the law and all that it calls make is longer than what came in: it says more and counts as full. Else prove '..UptoSaid'. A law counts once. -/
mutual
def uptoBulk {H : Type} : DataW H → Nat
  | .lit (.string bytes) => bytes.length + 1
  | .lit _ => 1
  | .nil => 1
  | .ptr d => uptoBulk d + 1
  | .slice elems spare => uptoBulkAll elems + uptoBulkAll spare + 1
  | .agg parts => uptoBulkAll parts + 1
  | .iface _ d => uptoBulk d + 1
  | .map entries => uptoBulkEntries entries + 1
  | .held _ => 1
def uptoBulkAll {H : Type} : List (DataW H) → Nat
  | [] => 0
  | d :: r => uptoBulk d + uptoBulkAll r
def uptoBulkEntries {H : Type} : List (Lit × DataW H) → Nat
  | [] => 0
  | x :: r => uptoBulkEntry x + uptoBulkEntries r
def uptoBulkEntry {H : Type} : Lit × DataW H → Nat
  | (.string bytes, d) => bytes.length + uptoBulk d + 1
  | (_, d) => uptoBulk d + 1
 end
def uptoSmall : (H : Type) → List (DataW H) → Bool := fun _ ds => decide (uptoBulkAll ds ≤ 1048576)
def OpenSpec.upto (s : _root_.Go.ChangeSpec) : _root_.Go.OpenSpec := { _root_.Go.OpenSpec.ofChange s with cond := some uptoSmall }

/-- 'becketlaw15.CallAsks', WHERE WHAT IT READS IS OF BULK AT MOST 1048576: true; the input reads as it did. -/
def callAsksUptoRow : OpenClaim := { program := "ytjhkagfolmhacaagreatdoor", sum := "66491df3bd1ca1299a7af7694e9daba6111d7213fa100f15273fa7793573d40f", func := "becket/becketlaw15.CallAsks", spec := "callAsks", inPlace := ["internal/bytealg.IndexByteString", "internal/bytealg.IndexString"], unfollowed := true, recurses := true, named := ["becket/opcode.kinds", "internal/bytealg.MaxLen"], apart := false, laid := [("becket/opcode.kinds", laid_becket_opcode_kinds)], narrowed := true }
def CallAsksUptoSaid : Prop := callAsksUptoRow.holds Tryz.pinned (OpenSpec.upto callAsksSpec)

/-- 'becketlaw15.CallAnswers', WHERE WHAT IT READS IS OF BULK AT MOST 1048576: true; the input reads as it did. -/
def callAnswersUptoRow : OpenClaim := { program := "ytjhkagfolmhacaagreatdoor", sum := "66491df3bd1ca1299a7af7694e9daba6111d7213fa100f15273fa7793573d40f", func := "becket/becketlaw15.CallAnswers", spec := "callAnswers", inPlace := ["internal/bytealg.IndexByteString", "internal/bytealg.IndexString"], unfollowed := true, recurses := true, named := ["becket/opcode.kinds", "internal/bytealg.MaxLen"], apart := false, laid := [("becket/opcode.kinds", laid_becket_opcode_kinds)], narrowed := true }
def CallAnswersUptoSaid : Prop := callAnswersUptoRow.holds Tryz.pinned (OpenSpec.upto callAnswersSpec)

/-- 'becketlaw15.CallGoes', WHERE WHAT IT READS IS OF BULK AT MOST 1048576: true; the input reads as it did. -/
def callGoesUptoRow : OpenClaim := { program := "ytjhkagfolmhacaagreatdoor", sum := "66491df3bd1ca1299a7af7694e9daba6111d7213fa100f15273fa7793573d40f", func := "becket/becketlaw15.CallGoes", spec := "callGoes", inPlace := ["internal/bytealg.IndexByteString", "internal/bytealg.IndexString"], unfollowed := true, recurses := true, named := ["becket/opcode.kinds", "internal/bytealg.MaxLen"], apart := false, laid := [("becket/opcode.kinds", laid_becket_opcode_kinds)], narrowed := true }
def CallGoesUptoSaid : Prop := callGoesUptoRow.holds Tryz.pinned (OpenSpec.upto callGoesSpec)

end Rows
end Go.Proofs.YtjhkagfolmhacaaGreatDoor
