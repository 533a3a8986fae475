/-
  DERIVED. GIVEN WITH THE SEED: THE CARDS: each row of YtfjlpfjpidikjaaGreatDoorRows.lean that lists a variable, with what it lists TIED to the program's text (the seventh form; the later family's looks); each row that meets fmt, with fmt's text TOLD by the authors' own Lean function (tested against real Go, not proved from fmt's source: count such statements apart). THE CARD IS WHAT COUNTS. Prove the row's statement (the work); the ties are given (YtfjlpfjpidikjaaGreatDoorTie.lean); close each card by the builder's one call (the guide's Derived/Test/ToyasCard.lean, 'card_holds'). Laid BY PROGRAM, IN A SANDBOX (cutbox-door.mjs). By AI agents, Wed Nov 11 2026. No macro, syntax, notation, axiom, sorry.
-/
import Derived.Test.YtfjlpfjpidikjaaGreatDoorRows
import GoSem.ClaimSeven
namespace Go.Proofs.YtfjlpfjpidikjaaGreatDoor
namespace Rows

/-- THE TIED CARD OF 'bellwetherlaw40.LinesWrites'. -/
def linesWritesCard : Claim7 := { stood := { row := linesWritesRow, standIns := [], harness := (true, "4d4e083784b445be0e1b3e8632275866b2ee9c5542230fc5593fb23fe7d38275"), looks := false }, kinds := [], alts := [], laidByText := true, laidKinds := [.data, .data, .data, .data, .pinned], laidTests := true, laidLooks := .later }
def LinesWritesCardSaid : Prop := Claim7.holds Tryz.pinned (.plain (OpenSpec.ofChange linesWritesSpec)) linesWritesCard

/-- THE TIED CARD OF 'bellwetherlaw40.LinesReads'. -/
def linesReadsCard : Claim7 := { stood := { row := linesReadsRow, standIns := [], harness := (true, "4d4e083784b445be0e1b3e8632275866b2ee9c5542230fc5593fb23fe7d38275"), looks := false }, kinds := [], alts := [], laidByText := true, laidKinds := [.data, .data, .data, .data, .pinned], laidTests := true, laidLooks := .later }
def LinesReadsCardSaid : Prop := Claim7.holds Tryz.pinned (.plain (OpenSpec.ofChange linesReadsSpec)) linesReadsCard

/-- THE TIED CARD OF 'bellwetherlaw40.LinesBack'. -/
def linesBackCard : Claim7 := { stood := { row := linesBackRow, standIns := [], harness := (true, "4d4e083784b445be0e1b3e8632275866b2ee9c5542230fc5593fb23fe7d38275"), looks := false }, kinds := [], alts := [], laidByText := true, laidKinds := [.data, .data, .data, .data, .pinned], laidTests := true, laidLooks := .later }
def LinesBackCardSaid : Prop := Claim7.holds Tryz.pinned (.plain (OpenSpec.ofChange linesBackSpec)) linesBackCard

/-- THE TIED CARD OF 'bellwetherlaw40.LinesOnly'. -/
def linesOnlyCard : Claim7 := { stood := { row := linesOnlyRow, standIns := [], harness := (true, "4d4e083784b445be0e1b3e8632275866b2ee9c5542230fc5593fb23fe7d38275"), looks := false }, kinds := [], alts := [], laidByText := true, laidKinds := [.data, .data, .data, .data, .pinned], laidTests := true, laidLooks := .later }
def LinesOnlyCardSaid : Prop := Claim7.holds Tryz.pinned (.plain (OpenSpec.ofChange linesOnlySpec)) linesOnlyCard

/-- THE TIED CARD OF 'bellwetherlaw40.LinesWords'. -/
def linesWordsCard : Claim7 := { stood := { row := linesWordsRow, standIns := [], harness := (true, "4d4e083784b445be0e1b3e8632275866b2ee9c5542230fc5593fb23fe7d38275"), looks := false }, kinds := [], alts := [], laidByText := true, laidKinds := [.data, .data, .data, .data, .pinned], laidTests := true, laidLooks := .later }
def LinesWordsCardSaid : Prop := Claim7.holds Tryz.pinned (.plain (OpenSpec.ofChange linesWordsSpec)) linesWordsCard

/-- THE SECOND FORM's CARD OF 'bellwetherlaw40.LinesWrites'. -/
def linesWritesUptoCard : Claim7 := { stood := { row := linesWritesUptoRow, standIns := [], harness := (true, "4d4e083784b445be0e1b3e8632275866b2ee9c5542230fc5593fb23fe7d38275"), looks := false }, kinds := [], alts := [], laidByText := true, laidKinds := [.data, .data, .data, .data, .pinned], laidTests := true, laidLooks := .later }
def LinesWritesUptoCardSaid : Prop := Claim7.holds Tryz.pinned (.plain (OpenSpec.upto linesWritesSpec)) linesWritesUptoCard

/-- THE SECOND FORM's CARD OF 'bellwetherlaw40.LinesReads'. -/
def linesReadsUptoCard : Claim7 := { stood := { row := linesReadsUptoRow, standIns := [], harness := (true, "4d4e083784b445be0e1b3e8632275866b2ee9c5542230fc5593fb23fe7d38275"), looks := false }, kinds := [], alts := [], laidByText := true, laidKinds := [.data, .data, .data, .data, .pinned], laidTests := true, laidLooks := .later }
def LinesReadsUptoCardSaid : Prop := Claim7.holds Tryz.pinned (.plain (OpenSpec.upto linesReadsSpec)) linesReadsUptoCard

/-- THE SECOND FORM's CARD OF 'bellwetherlaw40.LinesBack'. -/
def linesBackUptoCard : Claim7 := { stood := { row := linesBackUptoRow, standIns := [], harness := (true, "4d4e083784b445be0e1b3e8632275866b2ee9c5542230fc5593fb23fe7d38275"), looks := false }, kinds := [], alts := [], laidByText := true, laidKinds := [.data, .data, .data, .data, .pinned], laidTests := true, laidLooks := .later }
def LinesBackUptoCardSaid : Prop := Claim7.holds Tryz.pinned (.plain (OpenSpec.upto linesBackSpec)) linesBackUptoCard

/-- THE SECOND FORM's CARD OF 'bellwetherlaw40.LinesOnly'. -/
def linesOnlyUptoCard : Claim7 := { stood := { row := linesOnlyUptoRow, standIns := [], harness := (true, "4d4e083784b445be0e1b3e8632275866b2ee9c5542230fc5593fb23fe7d38275"), looks := false }, kinds := [], alts := [], laidByText := true, laidKinds := [.data, .data, .data, .data, .pinned], laidTests := true, laidLooks := .later }
def LinesOnlyUptoCardSaid : Prop := Claim7.holds Tryz.pinned (.plain (OpenSpec.upto linesOnlySpec)) linesOnlyUptoCard

/-- THE SECOND FORM's CARD OF 'bellwetherlaw40.LinesWords'. -/
def linesWordsUptoCard : Claim7 := { stood := { row := linesWordsUptoRow, standIns := [], harness := (true, "4d4e083784b445be0e1b3e8632275866b2ee9c5542230fc5593fb23fe7d38275"), looks := false }, kinds := [], alts := [], laidByText := true, laidKinds := [.data, .data, .data, .data, .pinned], laidTests := true, laidLooks := .later }
def LinesWordsUptoCardSaid : Prop := Claim7.holds Tryz.pinned (.plain (OpenSpec.upto linesWordsSpec)) linesWordsUptoCard
end Rows
end Go.Proofs.YtfjlpfjpidikjaaGreatDoor
