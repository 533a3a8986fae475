/-
  No cell of these rows narrows 'for every input' (looked for: loops, veiled, ifaces, maps, wideKeys, modest, calm, conditions, laid).
  DERIVED. THE GIVEN ROWS OF THIS SEAT. 3 by the template 'for every input the law returns true; each argument reads behind the call as it read before'; 0 by the template 'total and deterministic' (their statements: YtockahdfbagmgaaTotals.lean).
  GIVEN WITH THE SEED: the statements are not yours to turn. If you find one false, say at which input.
  Laid BY PROGRAM, IN A SANDBOX (cutbox-rows.mjs): the forced cells as the released guide's own fill.sh prints them over the translation 78837b308b6489d8… (all of the seat's roots in one cut). By AI agents, Wed Nov 11 2026. No macro, syntax, notation, axiom, sorry.
-/
import Derived.Test.YtockahdfbagmgaaChecked
import GoSem.Claim
import GoSem.ClaimJoined
import GoSem.ClaimMapViews
import Derived.JoinedTies
import Derived.KernelRfl
namespace Go.Proofs.Ytockahdfbagmgaa
/- THE CELL 'sum', in the pinned program and in every row, IS THE sha256 OF THE DUMP (.gsa) THAT YtockahdfbagmgaaProg.lean LOADS. Nothing in Lean hashes anything: it is a label: what it is worth is what the hold of that sum in a sandbox is worth. -/
noncomputable def Try.pinned : Pinned := { name := "ytockahdfbagmgaa", sum := "78837b308b6489d8138f43260e6ab0d8e2bc8a77b9c05e215d4bd2bb1350465c", checked := Try.checked }
namespace Rows
def none {H : Type} : Left H := { results := [], args := [] }

/-- 'bellwetherlaw32.NetSteps': WHATEVER THE INPUT: true; the input reads as it did. -/
def netStepsSpec : ChangeSpec := { name := "netSteps", fn := fun _ => fun
  | [d] => { results := [.lit (.bool true)], args := [d] }
  | _ => none }
def netStepsRow : OpenClaim := { program := "ytockahdfbagmgaa", sum := "78837b308b6489d8138f43260e6ab0d8e2bc8a77b9c05e215d4bd2bb1350465c", func := "bellwether/bellwetherlaw32.NetSteps", spec := "netSteps", unfollowed := true, recurses := true, apart := false }
def NetStepsSaid : Prop := netStepsRow.holds Try.pinned (OpenSpec.ofChange netStepsSpec)

/-- ITS FALSE NEIGHBOUR: 'it returns false'. Refute it at one input. -/
def netStepsWrong : ChangeSpec := { name := "netSteps", fn := fun _ => fun
  | [d] => { results := [.lit (.bool false)], args := [d] }
  | _ => none }
def NetStepsWrongFalsely : Prop := netStepsRow.holds Try.pinned (OpenSpec.ofChange netStepsWrong)

/-- 'bellwetherlaw32.NetBrings': WHATEVER THE INPUT: true; the input reads as it did. -/
def netBringsSpec : ChangeSpec := { name := "netBrings", fn := fun _ => fun
  | [d1, d2, d3] => { results := [.lit (.bool true)], args := [d1, d2, d3] }
  | _ => none }
def netBringsRow : OpenClaim := { program := "ytockahdfbagmgaa", sum := "78837b308b6489d8138f43260e6ab0d8e2bc8a77b9c05e215d4bd2bb1350465c", func := "bellwether/bellwetherlaw32.NetBrings", spec := "netBrings", unfollowed := true, recurses := true, apart := false }
def NetBringsSaid : Prop := netBringsRow.holds Try.pinned (OpenSpec.ofChange netBringsSpec)

/-- ITS FALSE NEIGHBOUR: 'it returns false'. Refute it at one input. -/
def netBringsWrong : ChangeSpec := { name := "netBrings", fn := fun _ => fun
  | [d1, d2, d3] => { results := [.lit (.bool false)], args := [d1, d2, d3] }
  | _ => none }
def NetBringsWrongFalsely : Prop := netBringsRow.holds Try.pinned (OpenSpec.ofChange netBringsWrong)

/-- 'bellwetherlaw32.NetMoves': WHATEVER THE INPUT: true; the input reads as it did. -/
def netMovesSpec : ChangeSpec := { name := "netMoves", fn := fun _ => fun
  | [d1, d2, d3] => { results := [.lit (.bool true)], args := [d1, d2, d3] }
  | _ => none }
def netMovesRow : OpenClaim := { program := "ytockahdfbagmgaa", sum := "78837b308b6489d8138f43260e6ab0d8e2bc8a77b9c05e215d4bd2bb1350465c", func := "bellwether/bellwetherlaw32.NetMoves", spec := "netMoves", unfollowed := true, recurses := true, apart := false }
def NetMovesSaid : Prop := netMovesRow.holds Try.pinned (OpenSpec.ofChange netMovesSpec)

/-- ITS FALSE NEIGHBOUR: 'it returns false'. Refute it at one input. -/
def netMovesWrong : ChangeSpec := { name := "netMoves", fn := fun _ => fun
  | [d1, d2, d3] => { results := [.lit (.bool false)], args := [d1, d2, d3] }
  | _ => none }
def NetMovesWrongFalsely : Prop := netMovesRow.holds Try.pinned (OpenSpec.ofChange netMovesWrong)

/- THE SECOND FORM. 'bulk': how many values and letters a reading holds, each counted each time it is reached (what is shared counts as often as it is met; a slice's spare places count too). A statement '..UptoSaid' is the law's where the arguments, and the package variables that the reading takes, are together of bulk at most 1048576: NARROWER than '..Said'. Prove '..Said' where nothing that the law and all that it calls make is longer than what came in: it says more and counts as full. Else prove '..UptoSaid'. A law counts once. -/
mutual
def uptoBulk {H : Type} : DataW H → Nat
  | .lit (.string bytes) => bytes.length + 1
  | .lit _ => 1
  | .nil => 1
  | .ptr d => uptoBulk d + 1
  | .slice elems spare => uptoBulkAll elems + uptoBulkAll spare + 1
  | .agg parts => uptoBulkAll parts + 1
  | .iface _ d => uptoBulk d + 1
  | .map entries => uptoBulkEntries entries + 1
  | .held _ => 1
def uptoBulkAll {H : Type} : List (DataW H) → Nat
  | [] => 0
  | d :: r => uptoBulk d + uptoBulkAll r
def uptoBulkEntries {H : Type} : List (Lit × DataW H) → Nat
  | [] => 0
  | x :: r => uptoBulkEntry x + uptoBulkEntries r
def uptoBulkEntry {H : Type} : Lit × DataW H → Nat
  | (.string bytes, d) => bytes.length + uptoBulk d + 1
  | (_, d) => uptoBulk d + 1
 end
def uptoSmall : (H : Type) → List (DataW H) → Bool := fun _ ds => decide (uptoBulkAll ds ≤ 1048576)
def OpenSpec.upto (s : _root_.Go.ChangeSpec) : _root_.Go.OpenSpec := { _root_.Go.OpenSpec.ofChange s with cond := some uptoSmall }

/-- 'bellwetherlaw32.NetSteps', WHERE WHAT IT READS IS OF BULK AT MOST 1048576: true; the input reads as it did. -/
def netStepsUptoRow : OpenClaim := { program := "ytockahdfbagmgaa", sum := "78837b308b6489d8138f43260e6ab0d8e2bc8a77b9c05e215d4bd2bb1350465c", func := "bellwether/bellwetherlaw32.NetSteps", spec := "netSteps", unfollowed := true, recurses := true, apart := false, narrowed := true }
def NetStepsUptoSaid : Prop := netStepsUptoRow.holds Try.pinned (OpenSpec.upto netStepsSpec)

/-- 'bellwetherlaw32.NetBrings', WHERE WHAT IT READS IS OF BULK AT MOST 1048576: true; the input reads as it did. -/
def netBringsUptoRow : OpenClaim := { program := "ytockahdfbagmgaa", sum := "78837b308b6489d8138f43260e6ab0d8e2bc8a77b9c05e215d4bd2bb1350465c", func := "bellwether/bellwetherlaw32.NetBrings", spec := "netBrings", unfollowed := true, recurses := true, apart := false, narrowed := true }
def NetBringsUptoSaid : Prop := netBringsUptoRow.holds Try.pinned (OpenSpec.upto netBringsSpec)

/-- 'bellwetherlaw32.NetMoves', WHERE WHAT IT READS IS OF BULK AT MOST 1048576: true; the input reads as it did. -/
def netMovesUptoRow : OpenClaim := { program := "ytockahdfbagmgaa", sum := "78837b308b6489d8138f43260e6ab0d8e2bc8a77b9c05e215d4bd2bb1350465c", func := "bellwether/bellwetherlaw32.NetMoves", spec := "netMoves", unfollowed := true, recurses := true, apart := false, narrowed := true }
def NetMovesUptoSaid : Prop := netMovesUptoRow.holds Try.pinned (OpenSpec.upto netMovesSpec)

end Rows
end Go.Proofs.Ytockahdfbagmgaa
