/-
  DERIVED. GIVEN WITH THE SEED: THE CARDS: each row of YtlcomipbinfooaaGreatDoorRows.lean that lists a variable, with what it lists TIED to the program's text (the seventh form; the later family's looks); each row that meets fmt, with fmt's text TOLD by the authors' own Lean function (tested against real Go, not proved from fmt's source: count such statements apart). THE CARD IS WHAT COUNTS. Prove the row's statement (the work); the ties are given (YtlcomipbinfooaaGreatDoorTie.lean); close each card by the builder's one call (the guide's Derived/Test/ToyasCard.lean, 'card_holds'). Laid BY PROGRAM, IN A SANDBOX (cutbox-door.mjs). By AI agents, Wed Nov 11 2026. No macro, syntax, notation, axiom, sorry.
-/
import Derived.Test.YtlcomipbinfooaaGreatDoorRows
import GoSem.ClaimSeven
namespace Go.Proofs.YtlcomipbinfooaaGreatDoor
namespace Rows

/-- THE TIED CARD OF 'becketlaw36.SnapBegins'. -/
def snapBeginsCard : Claim7 := { stood := { row := snapBeginsRow, standIns := [], harness := (true, "e20ae59ffef6e816d6c9951caf13e36f37f889ced839c6d6c125d92846ee3373"), looks := false }, kinds := [], alts := [], laidByText := true, laidKinds := [.data, .data, .data, .data, .data], laidTests := true, laidLooks := .later }
def SnapBeginsCardSaid : Prop := Claim7.holds Tryz.pinned (.plain (OpenSpec.ofChange snapBeginsSpec)) snapBeginsCard

/-- THE TIED CARD OF 'becketlaw36.SnapTells'. -/
def snapTellsCard : Claim7 := { stood := { row := snapTellsRow, standIns := [], harness := (true, "e20ae59ffef6e816d6c9951caf13e36f37f889ced839c6d6c125d92846ee3373"), looks := false }, kinds := [], alts := [], laidByText := true, laidKinds := [.data, .data, .data, .data, .data], laidTests := true, laidLooks := .later }
def SnapTellsCardSaid : Prop := Claim7.holds Tryz.pinned (.plain (OpenSpec.ofChange snapTellsSpec)) snapTellsCard

/-- THE TIED CARD OF 'becketlaw36.SnapFresh'. -/
def snapFreshCard : Claim7 := { stood := { row := snapFreshRow, standIns := [], harness := (true, "e20ae59ffef6e816d6c9951caf13e36f37f889ced839c6d6c125d92846ee3373"), looks := false }, kinds := [], alts := [], laidByText := true, laidKinds := [.data, .data, .data, .data, .data], laidTests := true, laidLooks := .later }
def SnapFreshCardSaid : Prop := Claim7.holds Tryz.pinned (.plain (OpenSpec.ofChange snapFreshSpec)) snapFreshCard

/-- THE SECOND FORM's CARD OF 'becketlaw36.SnapBegins'. -/
def snapBeginsUptoCard : Claim7 := { stood := { row := snapBeginsUptoRow, standIns := [], harness := (true, "e20ae59ffef6e816d6c9951caf13e36f37f889ced839c6d6c125d92846ee3373"), looks := false }, kinds := [], alts := [], laidByText := true, laidKinds := [.data, .data, .data, .data, .data], laidTests := true, laidLooks := .later }
def SnapBeginsUptoCardSaid : Prop := Claim7.holds Tryz.pinned (.plain (OpenSpec.upto snapBeginsSpec)) snapBeginsUptoCard

/-- THE SECOND FORM's CARD OF 'becketlaw36.SnapTells'. -/
def snapTellsUptoCard : Claim7 := { stood := { row := snapTellsUptoRow, standIns := [], harness := (true, "e20ae59ffef6e816d6c9951caf13e36f37f889ced839c6d6c125d92846ee3373"), looks := false }, kinds := [], alts := [], laidByText := true, laidKinds := [.data, .data, .data, .data, .data], laidTests := true, laidLooks := .later }
def SnapTellsUptoCardSaid : Prop := Claim7.holds Tryz.pinned (.plain (OpenSpec.upto snapTellsSpec)) snapTellsUptoCard

/-- THE SECOND FORM's CARD OF 'becketlaw36.SnapFresh'. -/
def snapFreshUptoCard : Claim7 := { stood := { row := snapFreshUptoRow, standIns := [], harness := (true, "e20ae59ffef6e816d6c9951caf13e36f37f889ced839c6d6c125d92846ee3373"), looks := false }, kinds := [], alts := [], laidByText := true, laidKinds := [.data, .data, .data, .data, .data], laidTests := true, laidLooks := .later }
def SnapFreshUptoCardSaid : Prop := Claim7.holds Tryz.pinned (.plain (OpenSpec.upto snapFreshSpec)) snapFreshUptoCard
end Rows
end Go.Proofs.YtlcomipbinfooaaGreatDoor
