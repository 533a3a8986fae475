/-
  DERIVED. GIVEN WITH THE SEED: THE CARDS: each row of YtchbgcbdkhbilaaDoorRows.lean that lists a variable, with what it lists TIED to the program's text (the seventh form; the later family's looks); each row that meets fmt, with fmt's text TOLD by the authors' own Lean function (tested against real Go, not proved from fmt's source: count such statements apart). THE CARD IS WHAT COUNTS. Prove the row's statement (the work); the ties are given (YtchbgcbdkhbilaaDoorTie.lean); close each card by the builder's one call (the guide's Derived/Test/ToyasCard.lean, 'card_holds'). Laid BY PROGRAM, IN A SANDBOX (cutbox-door.mjs). By AI agents, Wed Nov 11 2026. No macro, syntax, notation, axiom, sorry.
-/
import Derived.Test.YtchbgcbdkhbilaaDoorRows
import GoSem.ClaimSeven
namespace Go.Proofs.YtchbgcbdkhbilaaDoor
namespace Rows

/-- THE TIED CARD OF 'bellwetherlaw42.ShowReports'. -/
def showReportsCard : Claim7 := { stood := { row := showReportsRow, standIns := [], harness := (true, "2bec40fd4dec390147d28b8454aaad252ec57f6a946700dd23c420e59e01af08"), looks := false }, kinds := [], alts := [], laidByText := true, laidKinds := [.data, .data, .data], laidTests := true, laidLooks := .later }
def ShowReportsCardSaid : Prop := Claim7.holds Tryd.pinned (.plain (OpenSpec.ofChange showReportsSpec)) showReportsCard

/-- THE TIED CARD OF 'bellwetherlaw42.ShowRounds'. -/
def showRoundsCard : Claim7 := { stood := { row := showRoundsRow, standIns := [], harness := (true, "2bec40fd4dec390147d28b8454aaad252ec57f6a946700dd23c420e59e01af08"), looks := false }, kinds := [], alts := [], laidByText := true, laidKinds := [.data, .data, .data], laidTests := true, laidLooks := .later }
def ShowRoundsCardSaid : Prop := Claim7.holds Tryd.pinned (.plain (OpenSpec.ofChange showRoundsSpec)) showRoundsCard

/-- THE TIED CARD OF 'bellwetherlaw42.ShowApart'. -/
def showApartCard : Claim7 := { stood := { row := showApartRow, standIns := [], harness := (true, "2bec40fd4dec390147d28b8454aaad252ec57f6a946700dd23c420e59e01af08"), looks := false }, kinds := [], alts := [], laidByText := true, laidKinds := [.data, .data, .data], laidTests := true, laidLooks := .later }
def ShowApartCardSaid : Prop := Claim7.holds Tryd.pinned (.plain (OpenSpec.ofChange showApartSpec)) showApartCard

/-- THE TIED CARD OF 'bellwetherlaw42.ShowWhole'. -/
def showWholeCard : Claim7 := { stood := { row := showWholeRow, standIns := [], harness := (true, "2bec40fd4dec390147d28b8454aaad252ec57f6a946700dd23c420e59e01af08"), looks := false }, kinds := [], alts := [], laidByText := true, laidKinds := [.data, .data, .data], laidTests := true, laidLooks := .later }
def ShowWholeCardSaid : Prop := Claim7.holds Tryd.pinned (.plain (OpenSpec.ofChange showWholeSpec)) showWholeCard

/-- THE SECOND FORM's CARD OF 'bellwetherlaw42.ShowReports'. -/
def showReportsUptoCard : Claim7 := { stood := { row := showReportsUptoRow, standIns := [], harness := (true, "2bec40fd4dec390147d28b8454aaad252ec57f6a946700dd23c420e59e01af08"), looks := false }, kinds := [], alts := [], laidByText := true, laidKinds := [.data, .data, .data], laidTests := true, laidLooks := .later }
def ShowReportsUptoCardSaid : Prop := Claim7.holds Tryd.pinned (.plain (OpenSpec.upto showReportsSpec)) showReportsUptoCard

/-- THE SECOND FORM's CARD OF 'bellwetherlaw42.ShowRounds'. -/
def showRoundsUptoCard : Claim7 := { stood := { row := showRoundsUptoRow, standIns := [], harness := (true, "2bec40fd4dec390147d28b8454aaad252ec57f6a946700dd23c420e59e01af08"), looks := false }, kinds := [], alts := [], laidByText := true, laidKinds := [.data, .data, .data], laidTests := true, laidLooks := .later }
def ShowRoundsUptoCardSaid : Prop := Claim7.holds Tryd.pinned (.plain (OpenSpec.upto showRoundsSpec)) showRoundsUptoCard

/-- THE SECOND FORM's CARD OF 'bellwetherlaw42.ShowApart'. -/
def showApartUptoCard : Claim7 := { stood := { row := showApartUptoRow, standIns := [], harness := (true, "2bec40fd4dec390147d28b8454aaad252ec57f6a946700dd23c420e59e01af08"), looks := false }, kinds := [], alts := [], laidByText := true, laidKinds := [.data, .data, .data], laidTests := true, laidLooks := .later }
def ShowApartUptoCardSaid : Prop := Claim7.holds Tryd.pinned (.plain (OpenSpec.upto showApartSpec)) showApartUptoCard

/-- THE SECOND FORM's CARD OF 'bellwetherlaw42.ShowWhole'. -/
def showWholeUptoCard : Claim7 := { stood := { row := showWholeUptoRow, standIns := [], harness := (true, "2bec40fd4dec390147d28b8454aaad252ec57f6a946700dd23c420e59e01af08"), looks := false }, kinds := [], alts := [], laidByText := true, laidKinds := [.data, .data, .data], laidTests := true, laidLooks := .later }
def ShowWholeUptoCardSaid : Prop := Claim7.holds Tryd.pinned (.plain (OpenSpec.upto showWholeSpec)) showWholeUptoCard
end Rows
end Go.Proofs.YtchbgcbdkhbilaaDoor
