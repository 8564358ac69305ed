/-
  DERIVED. GIVEN WITH THE SEED: THE CARDS: each row of YtmphlhnpichonaaDoorRows.lean that lists a variable, with what it lists TIED to the program's text (the seventh form; the later family's looks); each row that meets fmt, with fmt's text TOLD by the authors' own Lean function (tested against real Go, not proved from fmt's source: count such statements apart). THE CARD IS WHAT COUNTS. Prove the row's statement (the work); the ties are given (YtmphlhnpichonaaDoorTie.lean); close each card by the builder's one call (the guide's Derived/Test/ToyasCard.lean, 'card_holds'). Laid BY PROGRAM, IN A SANDBOX (cutbox-door.mjs). By AI agents, Wed Nov 11 2026. No macro, syntax, notation, axiom, sorry.
-/
import Derived.Test.YtmphlhnpichonaaDoorRows
import GoSem.ClaimSeven
namespace Go.Proofs.YtmphlhnpichonaaDoor
namespace Rows

/-- THE TIED CARD OF 'becketlaw13.FrameMakes'. -/
def frameMakesCard : Claim7 := { stood := { row := frameMakesRow, standIns := [], harness := (true, "265dcfd7eea6bb8902f22a2b7c6c59498b0a466ccb1b3fada40dbccc0cc4ec17"), looks := true }, kinds := [], alts := [], laidByText := true, laidKinds := [.data, .data, .data], laidTests := true, laidLooks := .later }
def FrameMakesCardSaid : Prop := Claim7.holds Tryd.pinned (.plain (OpenSpec.ofChange frameMakesSpec)) frameMakesCard

/-- THE TIED CARD OF 'becketlaw13.FrameGoes'. -/
def frameGoesCard : Claim7 := { stood := { row := frameGoesRow, standIns := [], harness := (true, "265dcfd7eea6bb8902f22a2b7c6c59498b0a466ccb1b3fada40dbccc0cc4ec17"), looks := true }, kinds := [], alts := [], laidByText := true, laidKinds := [.data, .data, .data], laidTests := true, laidLooks := .later }
def FrameGoesCardSaid : Prop := Claim7.holds Tryd.pinned (.plain (OpenSpec.ofChange frameGoesSpec)) frameGoesCard

/-- THE TIED CARD OF 'becketlaw13.FrameKeeps'. -/
def frameKeepsCard : Claim7 := { stood := { row := frameKeepsRow, standIns := [], harness := (true, "265dcfd7eea6bb8902f22a2b7c6c59498b0a466ccb1b3fada40dbccc0cc4ec17"), looks := true }, kinds := [], alts := [], laidByText := true, laidKinds := [.data, .data, .data], laidTests := true, laidLooks := .later }
def FrameKeepsCardSaid : Prop := Claim7.holds Tryd.pinned (.plain (OpenSpec.ofChange frameKeepsSpec)) frameKeepsCard

/-- THE TIED CARD OF 'becketlaw13.FrameStays'. -/
def frameStaysCard : Claim7 := { stood := { row := frameStaysRow, standIns := [], harness := (true, "265dcfd7eea6bb8902f22a2b7c6c59498b0a466ccb1b3fada40dbccc0cc4ec17"), looks := true }, kinds := [], alts := [], laidByText := true, laidKinds := [.data, .data, .data], laidTests := true, laidLooks := .later }
def FrameStaysCardSaid : Prop := Claim7.holds Tryd.pinned (.plain (OpenSpec.ofChange frameStaysSpec)) frameStaysCard

/-- THE TIED CARD OF 'becketlaw14.InterpSteps'. -/
def interpStepsCard : Claim7 := { stood := { row := interpStepsRow, standIns := [], harness := (true, "265dcfd7eea6bb8902f22a2b7c6c59498b0a466ccb1b3fada40dbccc0cc4ec17"), looks := true }, kinds := [], alts := [], laidByText := true, laidKinds := [.data], laidTests := true, laidLooks := .later }
def InterpStepsCardSaid : Prop := Claim7.holds Tryd.pinned (.plain (OpenSpec.ofChange interpStepsSpec)) interpStepsCard

/-- THE TIED CARD OF 'becketlaw14.InterpRuns'. -/
def interpRunsCard : Claim7 := { stood := { row := interpRunsRow, standIns := [], harness := (true, "265dcfd7eea6bb8902f22a2b7c6c59498b0a466ccb1b3fada40dbccc0cc4ec17"), looks := true }, kinds := [], alts := [], laidByText := true, laidKinds := [.data], laidTests := true, laidLooks := .later }
def InterpRunsCardSaid : Prop := Claim7.holds Tryd.pinned (.plain (OpenSpec.ofChange interpRunsSpec)) interpRunsCard

/-- THE TIED CARD OF 'becketlaw14.InterpOne'. -/
def interpOneCard : Claim7 := { stood := { row := interpOneRow, standIns := [], harness := (true, "265dcfd7eea6bb8902f22a2b7c6c59498b0a466ccb1b3fada40dbccc0cc4ec17"), looks := true }, kinds := [], alts := [], laidByText := true, laidKinds := [.data], laidTests := true, laidLooks := .later }
def InterpOneCardSaid : Prop := Claim7.holds Tryd.pinned (.plain (OpenSpec.ofChange interpOneSpec)) interpOneCard

/-- THE TIED CARD OF 'becketlaw14.InterpParts'. -/
def interpPartsCard : Claim7 := { stood := { row := interpPartsRow, standIns := [], harness := (true, "265dcfd7eea6bb8902f22a2b7c6c59498b0a466ccb1b3fada40dbccc0cc4ec17"), looks := true }, kinds := [], alts := [], laidByText := true, laidKinds := [.data], laidTests := true, laidLooks := .later }
def InterpPartsCardSaid : Prop := Claim7.holds Tryd.pinned (.plain (OpenSpec.ofChange interpPartsSpec)) interpPartsCard

/-- THE TIED CARD OF 'becketlaw08.WordDoes'. -/
def wordDoesCard : Claim7 := { stood := { row := wordDoesRow, standIns := [], harness := (true, "265dcfd7eea6bb8902f22a2b7c6c59498b0a466ccb1b3fada40dbccc0cc4ec17"), looks := true }, kinds := [], alts := [], laidByText := true, laidKinds := [.data, .data, .data, .sentinel, .sentinel], laidTests := true, laidLooks := .later }
def WordDoesCardSaid : Prop := Claim7.holds Tryd.pinned (.plain (OpenSpec.ofChange wordDoesSpec)) wordDoesCard

/-- THE TIED CARD OF 'becketlaw08.WordReads'. -/
def wordReadsCard : Claim7 := { stood := { row := wordReadsRow, standIns := [], harness := (true, "265dcfd7eea6bb8902f22a2b7c6c59498b0a466ccb1b3fada40dbccc0cc4ec17"), looks := true }, kinds := [], alts := [], laidByText := true, laidKinds := [.data, .data, .data, .sentinel, .sentinel], laidTests := true, laidLooks := .later }
def WordReadsCardSaid : Prop := Claim7.holds Tryd.pinned (.plain (OpenSpec.ofChange wordReadsSpec)) wordReadsCard

/-- THE TIED CARD OF 'becketlaw08.WordLaws'. -/
def wordLawsCard : Claim7 := { stood := { row := wordLawsRow, standIns := [], harness := (true, "265dcfd7eea6bb8902f22a2b7c6c59498b0a466ccb1b3fada40dbccc0cc4ec17"), looks := true }, kinds := [], alts := [], laidByText := true, laidKinds := [.data, .data, .data, .sentinel, .sentinel], laidTests := true, laidLooks := .later }
def WordLawsCardSaid : Prop := Claim7.holds Tryd.pinned (.plain (OpenSpec.ofChange wordLawsSpec)) wordLawsCard

/-- THE TIED CARD OF 'becketlaw08.WordOne'. -/
def wordOneCard : Claim7 := { stood := { row := wordOneRow, standIns := [], harness := (true, "265dcfd7eea6bb8902f22a2b7c6c59498b0a466ccb1b3fada40dbccc0cc4ec17"), looks := true }, kinds := [], alts := [], laidByText := true, laidKinds := [.data, .data, .data, .sentinel, .sentinel], laidTests := true, laidLooks := .later }
def WordOneCardSaid : Prop := Claim7.holds Tryd.pinned (.plain (OpenSpec.ofChange wordOneSpec)) wordOneCard

/-- THE SECOND FORM's CARD OF 'becketlaw13.FrameMakes'. -/
def frameMakesUptoCard : Claim7 := { stood := { row := frameMakesUptoRow, standIns := [], harness := (true, "265dcfd7eea6bb8902f22a2b7c6c59498b0a466ccb1b3fada40dbccc0cc4ec17"), looks := true }, kinds := [], alts := [], laidByText := true, laidKinds := [.data, .data, .data], laidTests := true, laidLooks := .later }
def FrameMakesUptoCardSaid : Prop := Claim7.holds Tryd.pinned (.plain (OpenSpec.upto frameMakesSpec)) frameMakesUptoCard

/-- THE SECOND FORM's CARD OF 'becketlaw13.FrameGoes'. -/
def frameGoesUptoCard : Claim7 := { stood := { row := frameGoesUptoRow, standIns := [], harness := (true, "265dcfd7eea6bb8902f22a2b7c6c59498b0a466ccb1b3fada40dbccc0cc4ec17"), looks := true }, kinds := [], alts := [], laidByText := true, laidKinds := [.data, .data, .data], laidTests := true, laidLooks := .later }
def FrameGoesUptoCardSaid : Prop := Claim7.holds Tryd.pinned (.plain (OpenSpec.upto frameGoesSpec)) frameGoesUptoCard

/-- THE SECOND FORM's CARD OF 'becketlaw13.FrameKeeps'. -/
def frameKeepsUptoCard : Claim7 := { stood := { row := frameKeepsUptoRow, standIns := [], harness := (true, "265dcfd7eea6bb8902f22a2b7c6c59498b0a466ccb1b3fada40dbccc0cc4ec17"), looks := true }, kinds := [], alts := [], laidByText := true, laidKinds := [.data, .data, .data], laidTests := true, laidLooks := .later }
def FrameKeepsUptoCardSaid : Prop := Claim7.holds Tryd.pinned (.plain (OpenSpec.upto frameKeepsSpec)) frameKeepsUptoCard

/-- THE SECOND FORM's CARD OF 'becketlaw13.FrameStays'. -/
def frameStaysUptoCard : Claim7 := { stood := { row := frameStaysUptoRow, standIns := [], harness := (true, "265dcfd7eea6bb8902f22a2b7c6c59498b0a466ccb1b3fada40dbccc0cc4ec17"), looks := true }, kinds := [], alts := [], laidByText := true, laidKinds := [.data, .data, .data], laidTests := true, laidLooks := .later }
def FrameStaysUptoCardSaid : Prop := Claim7.holds Tryd.pinned (.plain (OpenSpec.upto frameStaysSpec)) frameStaysUptoCard

/-- THE SECOND FORM's CARD OF 'becketlaw14.InterpSteps'. -/
def interpStepsUptoCard : Claim7 := { stood := { row := interpStepsUptoRow, standIns := [], harness := (true, "265dcfd7eea6bb8902f22a2b7c6c59498b0a466ccb1b3fada40dbccc0cc4ec17"), looks := true }, kinds := [], alts := [], laidByText := true, laidKinds := [.data], laidTests := true, laidLooks := .later }
def InterpStepsUptoCardSaid : Prop := Claim7.holds Tryd.pinned (.plain (OpenSpec.upto interpStepsSpec)) interpStepsUptoCard

/-- THE SECOND FORM's CARD OF 'becketlaw14.InterpRuns'. -/
def interpRunsUptoCard : Claim7 := { stood := { row := interpRunsUptoRow, standIns := [], harness := (true, "265dcfd7eea6bb8902f22a2b7c6c59498b0a466ccb1b3fada40dbccc0cc4ec17"), looks := true }, kinds := [], alts := [], laidByText := true, laidKinds := [.data], laidTests := true, laidLooks := .later }
def InterpRunsUptoCardSaid : Prop := Claim7.holds Tryd.pinned (.plain (OpenSpec.upto interpRunsSpec)) interpRunsUptoCard

/-- THE SECOND FORM's CARD OF 'becketlaw14.InterpOne'. -/
def interpOneUptoCard : Claim7 := { stood := { row := interpOneUptoRow, standIns := [], harness := (true, "265dcfd7eea6bb8902f22a2b7c6c59498b0a466ccb1b3fada40dbccc0cc4ec17"), looks := true }, kinds := [], alts := [], laidByText := true, laidKinds := [.data], laidTests := true, laidLooks := .later }
def InterpOneUptoCardSaid : Prop := Claim7.holds Tryd.pinned (.plain (OpenSpec.upto interpOneSpec)) interpOneUptoCard

/-- THE SECOND FORM's CARD OF 'becketlaw14.InterpParts'. -/
def interpPartsUptoCard : Claim7 := { stood := { row := interpPartsUptoRow, standIns := [], harness := (true, "265dcfd7eea6bb8902f22a2b7c6c59498b0a466ccb1b3fada40dbccc0cc4ec17"), looks := true }, kinds := [], alts := [], laidByText := true, laidKinds := [.data], laidTests := true, laidLooks := .later }
def InterpPartsUptoCardSaid : Prop := Claim7.holds Tryd.pinned (.plain (OpenSpec.upto interpPartsSpec)) interpPartsUptoCard

/-- THE SECOND FORM's CARD OF 'becketlaw08.WordDoes'. -/
def wordDoesUptoCard : Claim7 := { stood := { row := wordDoesUptoRow, standIns := [], harness := (true, "265dcfd7eea6bb8902f22a2b7c6c59498b0a466ccb1b3fada40dbccc0cc4ec17"), looks := true }, kinds := [], alts := [], laidByText := true, laidKinds := [.data, .data, .data, .sentinel, .sentinel], laidTests := true, laidLooks := .later }
def WordDoesUptoCardSaid : Prop := Claim7.holds Tryd.pinned (.plain (OpenSpec.upto wordDoesSpec)) wordDoesUptoCard

/-- THE SECOND FORM's CARD OF 'becketlaw08.WordReads'. -/
def wordReadsUptoCard : Claim7 := { stood := { row := wordReadsUptoRow, standIns := [], harness := (true, "265dcfd7eea6bb8902f22a2b7c6c59498b0a466ccb1b3fada40dbccc0cc4ec17"), looks := true }, kinds := [], alts := [], laidByText := true, laidKinds := [.data, .data, .data, .sentinel, .sentinel], laidTests := true, laidLooks := .later }
def WordReadsUptoCardSaid : Prop := Claim7.holds Tryd.pinned (.plain (OpenSpec.upto wordReadsSpec)) wordReadsUptoCard

/-- THE SECOND FORM's CARD OF 'becketlaw08.WordLaws'. -/
def wordLawsUptoCard : Claim7 := { stood := { row := wordLawsUptoRow, standIns := [], harness := (true, "265dcfd7eea6bb8902f22a2b7c6c59498b0a466ccb1b3fada40dbccc0cc4ec17"), looks := true }, kinds := [], alts := [], laidByText := true, laidKinds := [.data, .data, .data, .sentinel, .sentinel], laidTests := true, laidLooks := .later }
def WordLawsUptoCardSaid : Prop := Claim7.holds Tryd.pinned (.plain (OpenSpec.upto wordLawsSpec)) wordLawsUptoCard

/-- THE SECOND FORM's CARD OF 'becketlaw08.WordOne'. -/
def wordOneUptoCard : Claim7 := { stood := { row := wordOneUptoRow, standIns := [], harness := (true, "265dcfd7eea6bb8902f22a2b7c6c59498b0a466ccb1b3fada40dbccc0cc4ec17"), looks := true }, kinds := [], alts := [], laidByText := true, laidKinds := [.data, .data, .data, .sentinel, .sentinel], laidTests := true, laidLooks := .later }
def WordOneUptoCardSaid : Prop := Claim7.holds Tryd.pinned (.plain (OpenSpec.upto wordOneSpec)) wordOneUptoCard
end Rows
end Go.Proofs.YtmphlhnpichonaaDoor
