/- The rows that list five variables: a start that fits; what the list says of the tables. -/
import Derived.Test.YtmphlhnpichonaaDoorH1
import Derived.Test.YtmphlhnpichonaaDoorRows
import Derived.ProofKit
import Derived.LaidLaws
import Derived.LaidSub
import Derived.Handed
import Derived.Lib.LaidTab
set_option maxRecDepth 100000
set_option linter.unusedVariables false
namespace Go.Proofs.YtmphlhnpichonaaDoor
open Go.ChangeShapes Go.WideShapes Go.ChangeAt Go.RowKit
theorem Tryd.own : ownKnob Tryd.prog.godebug = none := by kernel_rfl

noncomputable def low : Nat := (World.holding Tryd.prog default ⟨#[], #[], []⟩).heap.size
def synS : ByteArray := ⟨#[105, 110, 118, 97, 108, 105, 100, 32, 115, 121, 110, 116, 97, 120]⟩
def rngS : ByteArray := ⟨#[118, 97, 108, 117, 101, 32, 111, 117, 116, 32, 111, 102, 32, 114, 97, 110, 103, 101]⟩
def litCells {H : Type} : DataW H → Array Value
  | .agg l => (l.map fun | .lit x => x.toCell | _ => .int .u8 0).toArray
  | _ => #[]
def setCells (cs : Array Value) : Obj → Obj
  | .cells _ t frozen => .cells cs t frozen
  | o => o
noncomputable def laidWorld (os : Os) : World :=
  let w0 := World.holding Tryd.prog os ⟨#[.cells #[.string synS] 169, .cells #[.string rngS] 169], #[], []⟩
  { w0 with heap := ((((w0.heap.modify 1 (setCells #[.iface 167 (.pointer (some ⟨low, 0, none⟩))])).modify 2 (setCells #[.iface 167 (.pointer (some ⟨low + 1, 0, none⟩))])).modify 4 (setCells (litCells (H := Unit) Rows.laid_internal_strconv_uint64pow10))).modify 5 (setCells (litCells (H := Unit) Rows.laid_math_bits_deBruijn32tab))).modify 6 (setCells (litCells (H := Unit) Rows.laid_math_bits_deBruijn64tab)) }

theorem laid5_met (os : Os) (args : Array Value) : laidMet Tryd.prog Rows.wordDoesRow.laid ((laidWorld os).forCall (fun _ _ => 0) ⟨#[], args, []⟩).memory :=
  laidMet_of_run' 8 (by kernel_rfl) (by kernel_rfl)
theorem laid3_met (os : Os) (args : Array Value) : laidMet Tryd.prog Rows.frameMakesRow.laid ((laidWorld os).forCall (fun _ _ => 0) ⟨#[], args, []⟩).memory :=
  laidMet_of_run' 8 (by kernel_rfl) (by kernel_rfl)

namespace K
def S4 (b o : Nat) : Prop := b = 4 ∧ o < 20
theorem glob_of_tab {W : World} (h : Lib.TabIs Tryd.prog W "internal/strconv.uint64pow10" .u64 pow10) : GlobOK C1 W.heap.size W S4 ∧ ∀ b o, S4 b o → b < W.heap.size := by
  unfold Lib.TabIs World.var? at h
  rw [show Tryd.prog.globalNamed "internal/strconv.uint64pow10" = some 4 by kernel_rfl] at h
  simp only [Option.bind_some] at h
  have key : ∃ el fr, W.heap[4]? = some (.cells (pow10.map fun z => Value.int .u64 z).toArray el fr) := by
    split at h
    · rename_i cs el fr hh
      cases h
      exact ⟨el, fr, hh⟩
    · cases h
  obtain ⟨el, fr, hh⟩ := key
  have hlt : 4 < W.heap.size := (Array.getElem?_eq_some_iff.1 hh).1
  refine ⟨fun g d hg => ?_, fun b o hs => by rw [hs.1]; exact hlt⟩
  have hg' : (bif g == 4 then some (⟨.arr 20 (.int .u64), pow10⟩ : Dat) else none) = some d := hg
  cases h4 : g == 4 with
  | false => rw [h4] at hg'; cases hg'
  | true =>
    obtain rfl : g = 4 := by simpa using h4
    rw [h4] at hg'
    cases hg'
    refine ⟨hlt, pow10.map (Value.int .u64), el, fr, hh, ⟨rfl, repL_ints pow10⟩, fun j hj => ⟨rfl, ?_⟩⟩
    simpa [pow10] using hj

theorem tab_of_laid {l : List (String × DataW Unit)} {W : World} (hl : (l.filter fun x => x.1 == "internal/strconv.uint64pow10") = [("internal/strconv.uint64pow10", Lib.tabData .u64 pow10)]) (h : laidMet Tryd.prog l W) : Lib.TabIs Tryd.prog W "internal/strconv.uint64pow10" .u64 pow10 := by
  have := h.filter fun x => x.1 == "internal/strconv.uint64pow10"
  rw [hl] at this
  exact Lib.tabIs_of_head (g := 4) (t := 170) (e := 148) (n := 20) (by kernel_rfl) (by kernel_rfl) (by kernel_rfl) (by kernel_rfl) (by kernel_rfl) (by kernel_rfl) this

/-- A function of one Bool: true, and nothing of what was there is turned: what a row asks. -/
theorem calls_of {f : FuncId} {args : List AV} {us : List Value} {W : World} (hc : Contract C1 f args (.v .bool true)) (hT : Lib.TabIs Tryd.prog W "internal/strconv.uint64pow10" .u64 pow10) (hr : RepAs m0 [] W S4 args us) :
    Calls Tryd.prog f us.toArray W fun e W' => e = .returned (.bool true) ∧ Below W.heap.size W W' := by
  obtain ⟨h1, h2⟩ := glob_of_tab hT
  refine (hc.runs W S4 us h2 h1 hr).mono ?_
  rintro e W' ⟨u, S', rfl, hb, _, _, hu⟩
  rw [rep_bool] at hu
  subst hu
  exact ⟨rfl, hb⟩
end K
end Go.Proofs.YtmphlhnpichonaaDoor
