/-
  DERIVED. GIVEN WITH THE SEED: THE CARDS: each row of YtjhkagfolmhacaaGreatDoorRows.lean that lists a variable, with what it lists TIED to the program's text (the seventh form; the later family's looks); each row that meets fmt, with fmt's text TOLD by the authors' own Lean function (tested against real Go, not proved from fmt's source: count such statements apart). THE CARD IS WHAT COUNTS. Prove the row's statement (the work); the ties are given (YtjhkagfolmhacaaGreatDoorTie.lean); close each card by the builder's one call (the guide's Derived/Test/ToyasCard.lean, 'card_holds'). Laid BY PROGRAM, IN A SANDBOX (cutbox-door.mjs). By AI agents, Wed Nov 11 2026. No macro, syntax, notation, axiom, sorry.
-/
import Derived.Test.YtjhkagfolmhacaaGreatDoorRows
import GoSem.ClaimSeven
namespace Go.Proofs.YtjhkagfolmhacaaGreatDoor
namespace Rows

/-- THE TIED CARD OF 'becketlaw15.CallAsks'. -/
def callAsksCard : Claim7 := { stood := { row := callAsksRow, standIns := [], harness := (true, "30e88f5a2bd40e01ee637f17a7285a2381629646eb3b873c4151cdb4d806e85f"), looks := false }, kinds := [], alts := [], laidByText := true, laidKinds := [.data], laidTests := true, laidLooks := .later }
def CallAsksCardSaid : Prop := Claim7.holds Tryz.pinned (.plain (OpenSpec.ofChange callAsksSpec)) callAsksCard

/-- THE TIED CARD OF 'becketlaw15.CallAnswers'. -/
def callAnswersCard : Claim7 := { stood := { row := callAnswersRow, standIns := [], harness := (true, "30e88f5a2bd40e01ee637f17a7285a2381629646eb3b873c4151cdb4d806e85f"), looks := false }, kinds := [], alts := [], laidByText := true, laidKinds := [.data], laidTests := true, laidLooks := .later }
def CallAnswersCardSaid : Prop := Claim7.holds Tryz.pinned (.plain (OpenSpec.ofChange callAnswersSpec)) callAnswersCard

/-- THE TIED CARD OF 'becketlaw15.CallGoes'. -/
def callGoesCard : Claim7 := { stood := { row := callGoesRow, standIns := [], harness := (true, "30e88f5a2bd40e01ee637f17a7285a2381629646eb3b873c4151cdb4d806e85f"), looks := false }, kinds := [], alts := [], laidByText := true, laidKinds := [.data], laidTests := true, laidLooks := .later }
def CallGoesCardSaid : Prop := Claim7.holds Tryz.pinned (.plain (OpenSpec.ofChange callGoesSpec)) callGoesCard

/-- THE SECOND FORM's CARD OF 'becketlaw15.CallAsks'. -/
def callAsksUptoCard : Claim7 := { stood := { row := callAsksUptoRow, standIns := [], harness := (true, "30e88f5a2bd40e01ee637f17a7285a2381629646eb3b873c4151cdb4d806e85f"), looks := false }, kinds := [], alts := [], laidByText := true, laidKinds := [.data], laidTests := true, laidLooks := .later }
def CallAsksUptoCardSaid : Prop := Claim7.holds Tryz.pinned (.plain (OpenSpec.upto callAsksSpec)) callAsksUptoCard

/-- THE SECOND FORM's CARD OF 'becketlaw15.CallAnswers'. -/
def callAnswersUptoCard : Claim7 := { stood := { row := callAnswersUptoRow, standIns := [], harness := (true, "30e88f5a2bd40e01ee637f17a7285a2381629646eb3b873c4151cdb4d806e85f"), looks := false }, kinds := [], alts := [], laidByText := true, laidKinds := [.data], laidTests := true, laidLooks := .later }
def CallAnswersUptoCardSaid : Prop := Claim7.holds Tryz.pinned (.plain (OpenSpec.upto callAnswersSpec)) callAnswersUptoCard

/-- THE SECOND FORM's CARD OF 'becketlaw15.CallGoes'. -/
def callGoesUptoCard : Claim7 := { stood := { row := callGoesUptoRow, standIns := [], harness := (true, "30e88f5a2bd40e01ee637f17a7285a2381629646eb3b873c4151cdb4d806e85f"), looks := false }, kinds := [], alts := [], laidByText := true, laidKinds := [.data], laidTests := true, laidLooks := .later }
def CallGoesUptoCardSaid : Prop := Claim7.holds Tryz.pinned (.plain (OpenSpec.upto callGoesSpec)) callGoesUptoCard
end Rows
end Go.Proofs.YtjhkagfolmhacaaGreatDoor
