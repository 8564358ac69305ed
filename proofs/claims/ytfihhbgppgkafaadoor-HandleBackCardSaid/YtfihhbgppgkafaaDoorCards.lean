/-
  DERIVED. GIVEN WITH THE SEED: THE CARDS: each row of YtfihhbgppgkafaaDoorRows.lean that lists a variable, with what it lists TIED to the program's text (the seventh form; the later family's looks); each row that meets fmt, with fmt's text TOLD by the authors' own Lean function (tested against real Go, not proved from fmt's source: count such statements apart). THE CARD IS WHAT COUNTS. Prove the row's statement (the work); the ties are given (YtfihhbgppgkafaaDoorTie.lean); close each card by the builder's one call (the guide's Derived/Test/ToyasCard.lean, 'card_holds'). Laid BY PROGRAM, IN A SANDBOX (cutbox-door.mjs). By AI agents, Wed Nov 11 2026. No macro, syntax, notation, axiom, sorry.
-/
import Derived.Test.YtfihhbgppgkafaaDoorRows
import GoSem.ClaimSeven
namespace Go.Proofs.YtfihhbgppgkafaaDoor
namespace Rows

/-- THE TIED CARD OF 'becketlaw25.GuardTells'. -/
def guardTellsCard : Claim7 := { stood := { row := guardTellsRow, standIns := [], harness := (true, "65553c0787aa0259a1b5451a1c852170cb36523abd343e9faee317cad71d14b4"), looks := true }, kinds := [], alts := [], laidByText := true, laidKinds := [.data, .data, .data], laidTests := true, laidLooks := .later }
def GuardTellsCardSaid : Prop := Claim7.holds Tryd.pinned (.plain (OpenSpec.ofChange guardTellsSpec)) guardTellsCard

/-- THE TIED CARD OF 'becketlaw25.GuardLists'. -/
def guardListsCard : Claim7 := { stood := { row := guardListsRow, standIns := [], harness := (true, "65553c0787aa0259a1b5451a1c852170cb36523abd343e9faee317cad71d14b4"), looks := true }, kinds := [], alts := [], laidByText := true, laidKinds := [.data, .data, .data], laidTests := true, laidLooks := .later }
def GuardListsCardSaid : Prop := Claim7.holds Tryd.pinned (.plain (OpenSpec.ofChange guardListsSpec)) guardListsCard

/-- THE TIED CARD OF 'becketlaw25.GuardApart'. -/
def guardApartCard : Claim7 := { stood := { row := guardApartRow, standIns := [], harness := (true, "65553c0787aa0259a1b5451a1c852170cb36523abd343e9faee317cad71d14b4"), looks := true }, kinds := [], alts := [], laidByText := true, laidKinds := [.data, .data, .data], laidTests := true, laidLooks := .later }
def GuardApartCardSaid : Prop := Claim7.holds Tryd.pinned (.plain (OpenSpec.ofChange guardApartSpec)) guardApartCard

/-- THE TIED CARD OF 'becketlaw10.InstrTells'. -/
def instrTellsCard : Claim7 := { stood := { row := instrTellsRow, standIns := [], harness := (true, "65553c0787aa0259a1b5451a1c852170cb36523abd343e9faee317cad71d14b4"), looks := true }, kinds := [], alts := [], laidByText := true, laidKinds := [.data], laidTests := true, laidLooks := .later }
def InstrTellsCardSaid : Prop := Claim7.holds Tryd.pinned (.plain (OpenSpec.ofChange instrTellsSpec)) instrTellsCard

/-- THE TIED CARD OF 'becketlaw10.InstrReads'. -/
def instrReadsCard : Claim7 := { stood := { row := instrReadsRow, standIns := [], harness := (true, "65553c0787aa0259a1b5451a1c852170cb36523abd343e9faee317cad71d14b4"), looks := true }, kinds := [], alts := [], laidByText := true, laidKinds := [.data], laidTests := true, laidLooks := .later }
def InstrReadsCardSaid : Prop := Claim7.holds Tryd.pinned (.plain (OpenSpec.ofChange instrReadsSpec)) instrReadsCard

/-- THE TIED CARD OF 'becketlaw10.InstrBack'. -/
def instrBackCard : Claim7 := { stood := { row := instrBackRow, standIns := [], harness := (true, "65553c0787aa0259a1b5451a1c852170cb36523abd343e9faee317cad71d14b4"), looks := true }, kinds := [], alts := [], laidByText := true, laidKinds := [.data], laidTests := true, laidLooks := .later }
def InstrBackCardSaid : Prop := Claim7.holds Tryd.pinned (.plain (OpenSpec.ofChange instrBackSpec)) instrBackCard

/-- THE TIED CARD OF 'becketlaw01.HandleMakes'. -/
def handleMakesCard : Claim7 := { stood := { row := handleMakesRow, standIns := [], harness := (true, "65553c0787aa0259a1b5451a1c852170cb36523abd343e9faee317cad71d14b4"), looks := true }, kinds := [], alts := [], laidByText := true, laidKinds := [.data, .data, .data, .sentinel, .sentinel], laidTests := true, laidLooks := .later }
def HandleMakesCardSaid : Prop := Claim7.holds Tryd.pinned (.plain (OpenSpec.ofChange handleMakesSpec)) handleMakesCard

/-- THE TIED CARD OF 'becketlaw01.HandleParts'. -/
def handlePartsCard : Claim7 := { stood := { row := handlePartsRow, standIns := [], harness := (true, "65553c0787aa0259a1b5451a1c852170cb36523abd343e9faee317cad71d14b4"), looks := true }, kinds := [], alts := [], laidByText := true, laidKinds := [.data, .data, .data, .sentinel, .sentinel], laidTests := true, laidLooks := .later }
def HandlePartsCardSaid : Prop := Claim7.holds Tryd.pinned (.plain (OpenSpec.ofChange handlePartsSpec)) handlePartsCard

/-- THE TIED CARD OF 'becketlaw01.HandleReads'. -/
def handleReadsCard : Claim7 := { stood := { row := handleReadsRow, standIns := [], harness := (true, "65553c0787aa0259a1b5451a1c852170cb36523abd343e9faee317cad71d14b4"), looks := true }, kinds := [], alts := [], laidByText := true, laidKinds := [.data, .data, .data, .sentinel, .sentinel], laidTests := true, laidLooks := .later }
def HandleReadsCardSaid : Prop := Claim7.holds Tryd.pinned (.plain (OpenSpec.ofChange handleReadsSpec)) handleReadsCard

/-- THE TIED CARD OF 'becketlaw01.HandleBack'. -/
def handleBackCard : Claim7 := { stood := { row := handleBackRow, standIns := [], harness := (true, "65553c0787aa0259a1b5451a1c852170cb36523abd343e9faee317cad71d14b4"), looks := true }, kinds := [], alts := [], laidByText := true, laidKinds := [.data, .data, .data, .sentinel, .sentinel], laidTests := true, laidLooks := .later }
def HandleBackCardSaid : Prop := Claim7.holds Tryd.pinned (.plain (OpenSpec.ofChange handleBackSpec)) handleBackCard

/-- THE TIED CARD OF 'becketlaw12.ProgTells'. -/
def progTellsCard : Claim7 := { stood := { row := progTellsRow, standIns := [], harness := (true, "65553c0787aa0259a1b5451a1c852170cb36523abd343e9faee317cad71d14b4"), looks := true }, kinds := [], alts := [], laidByText := true, laidKinds := [.data], laidTests := true, laidLooks := .later }
def ProgTellsCardSaid : Prop := Claim7.holds Tryd.pinned (.plain (OpenSpec.ofChange progTellsSpec)) progTellsCard

/-- THE TIED CARD OF 'becketlaw12.ProgReads'. -/
def progReadsCard : Claim7 := { stood := { row := progReadsRow, standIns := [], harness := (true, "65553c0787aa0259a1b5451a1c852170cb36523abd343e9faee317cad71d14b4"), looks := true }, kinds := [], alts := [], laidByText := true, laidKinds := [.data], laidTests := true, laidLooks := .later }
def ProgReadsCardSaid : Prop := Claim7.holds Tryd.pinned (.plain (OpenSpec.ofChange progReadsSpec)) progReadsCard

/-- THE SECOND FORM's CARD OF 'becketlaw25.GuardTells'. -/
def guardTellsUptoCard : Claim7 := { stood := { row := guardTellsUptoRow, standIns := [], harness := (true, "65553c0787aa0259a1b5451a1c852170cb36523abd343e9faee317cad71d14b4"), looks := true }, kinds := [], alts := [], laidByText := true, laidKinds := [.data, .data, .data], laidTests := true, laidLooks := .later }
def GuardTellsUptoCardSaid : Prop := Claim7.holds Tryd.pinned (.plain (OpenSpec.upto guardTellsSpec)) guardTellsUptoCard

/-- THE SECOND FORM's CARD OF 'becketlaw25.GuardLists'. -/
def guardListsUptoCard : Claim7 := { stood := { row := guardListsUptoRow, standIns := [], harness := (true, "65553c0787aa0259a1b5451a1c852170cb36523abd343e9faee317cad71d14b4"), looks := true }, kinds := [], alts := [], laidByText := true, laidKinds := [.data, .data, .data], laidTests := true, laidLooks := .later }
def GuardListsUptoCardSaid : Prop := Claim7.holds Tryd.pinned (.plain (OpenSpec.upto guardListsSpec)) guardListsUptoCard

/-- THE SECOND FORM's CARD OF 'becketlaw25.GuardApart'. -/
def guardApartUptoCard : Claim7 := { stood := { row := guardApartUptoRow, standIns := [], harness := (true, "65553c0787aa0259a1b5451a1c852170cb36523abd343e9faee317cad71d14b4"), looks := true }, kinds := [], alts := [], laidByText := true, laidKinds := [.data, .data, .data], laidTests := true, laidLooks := .later }
def GuardApartUptoCardSaid : Prop := Claim7.holds Tryd.pinned (.plain (OpenSpec.upto guardApartSpec)) guardApartUptoCard

/-- THE SECOND FORM's CARD OF 'becketlaw10.InstrTells'. -/
def instrTellsUptoCard : Claim7 := { stood := { row := instrTellsUptoRow, standIns := [], harness := (true, "65553c0787aa0259a1b5451a1c852170cb36523abd343e9faee317cad71d14b4"), looks := true }, kinds := [], alts := [], laidByText := true, laidKinds := [.data], laidTests := true, laidLooks := .later }
def InstrTellsUptoCardSaid : Prop := Claim7.holds Tryd.pinned (.plain (OpenSpec.upto instrTellsSpec)) instrTellsUptoCard

/-- THE SECOND FORM's CARD OF 'becketlaw10.InstrReads'. -/
def instrReadsUptoCard : Claim7 := { stood := { row := instrReadsUptoRow, standIns := [], harness := (true, "65553c0787aa0259a1b5451a1c852170cb36523abd343e9faee317cad71d14b4"), looks := true }, kinds := [], alts := [], laidByText := true, laidKinds := [.data], laidTests := true, laidLooks := .later }
def InstrReadsUptoCardSaid : Prop := Claim7.holds Tryd.pinned (.plain (OpenSpec.upto instrReadsSpec)) instrReadsUptoCard

/-- THE SECOND FORM's CARD OF 'becketlaw10.InstrBack'. -/
def instrBackUptoCard : Claim7 := { stood := { row := instrBackUptoRow, standIns := [], harness := (true, "65553c0787aa0259a1b5451a1c852170cb36523abd343e9faee317cad71d14b4"), looks := true }, kinds := [], alts := [], laidByText := true, laidKinds := [.data], laidTests := true, laidLooks := .later }
def InstrBackUptoCardSaid : Prop := Claim7.holds Tryd.pinned (.plain (OpenSpec.upto instrBackSpec)) instrBackUptoCard

/-- THE SECOND FORM's CARD OF 'becketlaw01.HandleMakes'. -/
def handleMakesUptoCard : Claim7 := { stood := { row := handleMakesUptoRow, standIns := [], harness := (true, "65553c0787aa0259a1b5451a1c852170cb36523abd343e9faee317cad71d14b4"), looks := true }, kinds := [], alts := [], laidByText := true, laidKinds := [.data, .data, .data, .sentinel, .sentinel], laidTests := true, laidLooks := .later }
def HandleMakesUptoCardSaid : Prop := Claim7.holds Tryd.pinned (.plain (OpenSpec.upto handleMakesSpec)) handleMakesUptoCard

/-- THE SECOND FORM's CARD OF 'becketlaw01.HandleParts'. -/
def handlePartsUptoCard : Claim7 := { stood := { row := handlePartsUptoRow, standIns := [], harness := (true, "65553c0787aa0259a1b5451a1c852170cb36523abd343e9faee317cad71d14b4"), looks := true }, kinds := [], alts := [], laidByText := true, laidKinds := [.data, .data, .data, .sentinel, .sentinel], laidTests := true, laidLooks := .later }
def HandlePartsUptoCardSaid : Prop := Claim7.holds Tryd.pinned (.plain (OpenSpec.upto handlePartsSpec)) handlePartsUptoCard

/-- THE SECOND FORM's CARD OF 'becketlaw01.HandleReads'. -/
def handleReadsUptoCard : Claim7 := { stood := { row := handleReadsUptoRow, standIns := [], harness := (true, "65553c0787aa0259a1b5451a1c852170cb36523abd343e9faee317cad71d14b4"), looks := true }, kinds := [], alts := [], laidByText := true, laidKinds := [.data, .data, .data, .sentinel, .sentinel], laidTests := true, laidLooks := .later }
def HandleReadsUptoCardSaid : Prop := Claim7.holds Tryd.pinned (.plain (OpenSpec.upto handleReadsSpec)) handleReadsUptoCard

/-- THE SECOND FORM's CARD OF 'becketlaw01.HandleBack'. -/
def handleBackUptoCard : Claim7 := { stood := { row := handleBackUptoRow, standIns := [], harness := (true, "65553c0787aa0259a1b5451a1c852170cb36523abd343e9faee317cad71d14b4"), looks := true }, kinds := [], alts := [], laidByText := true, laidKinds := [.data, .data, .data, .sentinel, .sentinel], laidTests := true, laidLooks := .later }
def HandleBackUptoCardSaid : Prop := Claim7.holds Tryd.pinned (.plain (OpenSpec.upto handleBackSpec)) handleBackUptoCard

/-- THE SECOND FORM's CARD OF 'becketlaw12.ProgTells'. -/
def progTellsUptoCard : Claim7 := { stood := { row := progTellsUptoRow, standIns := [], harness := (true, "65553c0787aa0259a1b5451a1c852170cb36523abd343e9faee317cad71d14b4"), looks := true }, kinds := [], alts := [], laidByText := true, laidKinds := [.data], laidTests := true, laidLooks := .later }
def ProgTellsUptoCardSaid : Prop := Claim7.holds Tryd.pinned (.plain (OpenSpec.upto progTellsSpec)) progTellsUptoCard

/-- THE SECOND FORM's CARD OF 'becketlaw12.ProgReads'. -/
def progReadsUptoCard : Claim7 := { stood := { row := progReadsUptoRow, standIns := [], harness := (true, "65553c0787aa0259a1b5451a1c852170cb36523abd343e9faee317cad71d14b4"), looks := true }, kinds := [], alts := [], laidByText := true, laidKinds := [.data], laidTests := true, laidLooks := .later }
def ProgReadsUptoCardSaid : Prop := Claim7.holds Tryd.pinned (.plain (OpenSpec.upto progReadsSpec)) progReadsUptoCard
end Rows
end Go.Proofs.YtfihhbgppgkafaaDoor
