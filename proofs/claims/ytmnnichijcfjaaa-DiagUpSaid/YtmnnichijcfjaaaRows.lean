/-
  No cell of these rows narrows 'for every input' (looked for: loops, veiled, ifaces, maps, wideKeys, modest, calm, conditions, laid).
  DERIVED. THE GIVEN ROWS OF THIS SEAT. 11 by the template 'for every input the law returns true; each argument reads behind the call as it read before'; 0 by the template 'total and deterministic' (their statements: YtmnnichijcfjaaaTotals.lean).
  GIVEN WITH THE SEED: the statements are not yours to turn. If you find one false, say at which input.
  Laid BY PROGRAM, IN A SANDBOX (cutbox-rows.mjs): the forced cells as the released guide's own fill.sh prints them over the translation af5ca0f6528cb7d5… (all of the seat's roots in one cut). By AI agents, Wed Nov 11 2026. No macro, syntax, notation, axiom, sorry.
-/
import Derived.Test.YtmnnichijcfjaaaChecked
import GoSem.Claim
import GoSem.ClaimJoined
import GoSem.ClaimMapViews
import Derived.JoinedTies
import Derived.KernelRfl
namespace Go.Proofs.Ytmnnichijcfjaaa
/- THE CELL 'sum', in the pinned program and in every row, IS THE sha256 OF THE DUMP (.gsa) THAT YtmnnichijcfjaaaProg.lean LOADS. Nothing in Lean hashes anything: it is a label: what it is worth is what the hold of that sum in a sandbox is worth. -/
noncomputable def Try.pinned : Pinned := { name := "ytmnnichijcfjaaa", sum := "af5ca0f6528cb7d51d9063aaf25fb41c959c31b6fc18a3e4c204187af6220853", checked := Try.checked }
namespace Rows
def none {H : Type} : Left H := { results := [], args := [] }

/-- 'bellwetherlaw08.QueueMoves': WHATEVER THE INPUT: true; the input reads as it did. -/
def queueMovesSpec : ChangeSpec := { name := "queueMoves", fn := fun _ => fun
  | [d1, d2, d3] => { results := [.lit (.bool true)], args := [d1, d2, d3] }
  | _ => none }
def queueMovesRow : OpenClaim := { program := "ytmnnichijcfjaaa", sum := "af5ca0f6528cb7d51d9063aaf25fb41c959c31b6fc18a3e4c204187af6220853", func := "bellwether/bellwetherlaw08.QueueMoves", spec := "queueMoves", unfollowed := true, recurses := true, apart := false }
def QueueMovesSaid : Prop := queueMovesRow.holds Try.pinned (OpenSpec.ofChange queueMovesSpec)

/-- ITS FALSE NEIGHBOUR: 'it returns false'. Refute it at one input. -/
def queueMovesWrong : ChangeSpec := { name := "queueMoves", fn := fun _ => fun
  | [d1, d2, d3] => { results := [.lit (.bool false)], args := [d1, d2, d3] }
  | _ => none }
def QueueMovesWrongFalsely : Prop := queueMovesRow.holds Try.pinned (OpenSpec.ofChange queueMovesWrong)

/-- 'bellwetherlaw08.QueueCaps': WHATEVER THE INPUT: true; the input reads as it did. -/
def queueCapsSpec : ChangeSpec := { name := "queueCaps", fn := fun _ => fun
  | [d1, d2] => { results := [.lit (.bool true)], args := [d1, d2] }
  | _ => none }
def queueCapsRow : OpenClaim := { program := "ytmnnichijcfjaaa", sum := "af5ca0f6528cb7d51d9063aaf25fb41c959c31b6fc18a3e4c204187af6220853", func := "bellwether/bellwetherlaw08.QueueCaps", spec := "queueCaps", unfollowed := true, recurses := true, apart := false }
def QueueCapsSaid : Prop := queueCapsRow.holds Try.pinned (OpenSpec.ofChange queueCapsSpec)

/-- ITS FALSE NEIGHBOUR: 'it returns false'. Refute it at one input. -/
def queueCapsWrong : ChangeSpec := { name := "queueCaps", fn := fun _ => fun
  | [d1, d2] => { results := [.lit (.bool false)], args := [d1, d2] }
  | _ => none }
def QueueCapsWrongFalsely : Prop := queueCapsRow.holds Try.pinned (OpenSpec.ofChange queueCapsWrong)

/-- 'bellwetherlaw08.QueueComes': WHATEVER THE INPUT: true; the input reads as it did. -/
def queueComesSpec : ChangeSpec := { name := "queueComes", fn := fun _ => fun
  | [d1, d2, d3] => { results := [.lit (.bool true)], args := [d1, d2, d3] }
  | _ => none }
def queueComesRow : OpenClaim := { program := "ytmnnichijcfjaaa", sum := "af5ca0f6528cb7d51d9063aaf25fb41c959c31b6fc18a3e4c204187af6220853", func := "bellwether/bellwetherlaw08.QueueComes", spec := "queueComes", unfollowed := true, recurses := true, apart := false }
def QueueComesSaid : Prop := queueComesRow.holds Try.pinned (OpenSpec.ofChange queueComesSpec)

/-- ITS FALSE NEIGHBOUR: 'it returns false'. Refute it at one input. -/
def queueComesWrong : ChangeSpec := { name := "queueComes", fn := fun _ => fun
  | [d1, d2, d3] => { results := [.lit (.bool false)], args := [d1, d2, d3] }
  | _ => none }
def QueueComesWrongFalsely : Prop := queueComesRow.holds Try.pinned (OpenSpec.ofChange queueComesWrong)

/-- 'bellwetherlaw08.QueueAll': WHATEVER THE INPUT: true; the input reads as it did. -/
def queueAllSpec : ChangeSpec := { name := "queueAll", fn := fun _ => fun
  | [d1, d2] => { results := [.lit (.bool true)], args := [d1, d2] }
  | _ => none }
def queueAllRow : OpenClaim := { program := "ytmnnichijcfjaaa", sum := "af5ca0f6528cb7d51d9063aaf25fb41c959c31b6fc18a3e4c204187af6220853", func := "bellwether/bellwetherlaw08.QueueAll", spec := "queueAll", unfollowed := true, recurses := true, apart := false }
def QueueAllSaid : Prop := queueAllRow.holds Try.pinned (OpenSpec.ofChange queueAllSpec)

/-- ITS FALSE NEIGHBOUR: 'it returns false'. Refute it at one input. -/
def queueAllWrong : ChangeSpec := { name := "queueAll", fn := fun _ => fun
  | [d1, d2] => { results := [.lit (.bool false)], args := [d1, d2] }
  | _ => none }
def QueueAllWrongFalsely : Prop := queueAllRow.holds Try.pinned (OpenSpec.ofChange queueAllWrong)

/-- 'bellwetherlaw01.NumPuts': WHATEVER THE INPUT: true; the input reads as it did. -/
def numPutsSpec : ChangeSpec := { name := "numPuts", fn := fun _ => fun
  | [d1, d2, d3, d4] => { results := [.lit (.bool true)], args := [d1, d2, d3, d4] }
  | _ => none }
def numPutsRow : OpenClaim := { program := "ytmnnichijcfjaaa", sum := "af5ca0f6528cb7d51d9063aaf25fb41c959c31b6fc18a3e4c204187af6220853", func := "bellwether/bellwetherlaw01.NumPuts", spec := "numPuts", apart := false }
def NumPutsSaid : Prop := numPutsRow.holds Try.pinned (OpenSpec.ofChange numPutsSpec)

/-- ITS FALSE NEIGHBOUR: 'it returns false'. Refute it at one input. -/
def numPutsWrong : ChangeSpec := { name := "numPuts", fn := fun _ => fun
  | [d1, d2, d3, d4] => { results := [.lit (.bool false)], args := [d1, d2, d3, d4] }
  | _ => none }
def NumPutsWrongFalsely : Prop := numPutsRow.holds Try.pinned (OpenSpec.ofChange numPutsWrong)

/-- 'bellwetherlaw01.NumBounds': WHATEVER THE INPUT: true; the input reads as it did. -/
def numBoundsSpec : ChangeSpec := { name := "numBounds", fn := fun _ => fun
  | [d1, d2, d3] => { results := [.lit (.bool true)], args := [d1, d2, d3] }
  | _ => none }
def numBoundsRow : OpenClaim := { program := "ytmnnichijcfjaaa", sum := "af5ca0f6528cb7d51d9063aaf25fb41c959c31b6fc18a3e4c204187af6220853", func := "bellwether/bellwetherlaw01.NumBounds", spec := "numBounds", apart := false }
def NumBoundsSaid : Prop := numBoundsRow.holds Try.pinned (OpenSpec.ofChange numBoundsSpec)

/-- ITS FALSE NEIGHBOUR: 'it returns false'. Refute it at one input. -/
def numBoundsWrong : ChangeSpec := { name := "numBounds", fn := fun _ => fun
  | [d1, d2, d3] => { results := [.lit (.bool false)], args := [d1, d2, d3] }
  | _ => none }
def NumBoundsWrongFalsely : Prop := numBoundsRow.holds Try.pinned (OpenSpec.ofChange numBoundsWrong)

/-- 'bellwetherlaw01.NumBack': WHATEVER THE INPUT: true; the input reads as it did. -/
def numBackSpec : ChangeSpec := { name := "numBack", fn := fun _ => fun
  | [d1, d2, d3, d4] => { results := [.lit (.bool true)], args := [d1, d2, d3, d4] }
  | _ => none }
def numBackRow : OpenClaim := { program := "ytmnnichijcfjaaa", sum := "af5ca0f6528cb7d51d9063aaf25fb41c959c31b6fc18a3e4c204187af6220853", func := "bellwether/bellwetherlaw01.NumBack", spec := "numBack", apart := false }
def NumBackSaid : Prop := numBackRow.holds Try.pinned (OpenSpec.ofChange numBackSpec)

/-- ITS FALSE NEIGHBOUR: 'it returns false'. Refute it at one input. -/
def numBackWrong : ChangeSpec := { name := "numBack", fn := fun _ => fun
  | [d1, d2, d3, d4] => { results := [.lit (.bool false)], args := [d1, d2, d3, d4] }
  | _ => none }
def NumBackWrongFalsely : Prop := numBackRow.holds Try.pinned (OpenSpec.ofChange numBackWrong)

/-- 'bellwetherlaw01.NumLeft': WHATEVER THE INPUT: true; the input reads as it did. -/
def numLeftSpec : ChangeSpec := { name := "numLeft", fn := fun _ => fun
  | [d1, d2, d3] => { results := [.lit (.bool true)], args := [d1, d2, d3] }
  | _ => none }
def numLeftRow : OpenClaim := { program := "ytmnnichijcfjaaa", sum := "af5ca0f6528cb7d51d9063aaf25fb41c959c31b6fc18a3e4c204187af6220853", func := "bellwether/bellwetherlaw01.NumLeft", spec := "numLeft", apart := false }
def NumLeftSaid : Prop := numLeftRow.holds Try.pinned (OpenSpec.ofChange numLeftSpec)

/-- ITS FALSE NEIGHBOUR: 'it returns false'. Refute it at one input. -/
def numLeftWrong : ChangeSpec := { name := "numLeft", fn := fun _ => fun
  | [d1, d2, d3] => { results := [.lit (.bool false)], args := [d1, d2, d3] }
  | _ => none }
def NumLeftWrongFalsely : Prop := numLeftRow.holds Try.pinned (OpenSpec.ofChange numLeftWrong)

/-- 'bellwetherlaw09.DiagUp': WHATEVER THE INPUT: true; the input reads as it did. -/
def diagUpSpec : ChangeSpec := { name := "diagUp", fn := fun _ => fun
  | [d1, d2] => { results := [.lit (.bool true)], args := [d1, d2] }
  | _ => none }
def diagUpRow : OpenClaim := { program := "ytmnnichijcfjaaa", sum := "af5ca0f6528cb7d51d9063aaf25fb41c959c31b6fc18a3e4c204187af6220853", func := "bellwether/bellwetherlaw09.DiagUp", spec := "diagUp", apart := false }
def DiagUpSaid : Prop := diagUpRow.holds Try.pinned (OpenSpec.ofChange diagUpSpec)

/-- ITS FALSE NEIGHBOUR: 'it returns false'. Refute it at one input. -/
def diagUpWrong : ChangeSpec := { name := "diagUp", fn := fun _ => fun
  | [d1, d2] => { results := [.lit (.bool false)], args := [d1, d2] }
  | _ => none }
def DiagUpWrongFalsely : Prop := diagUpRow.holds Try.pinned (OpenSpec.ofChange diagUpWrong)

/-- 'bellwetherlaw09.DiagCounts': WHATEVER THE INPUT: true; the input reads as it did. -/
def diagCountsSpec : ChangeSpec := { name := "diagCounts", fn := fun _ => fun
  | [d1, d2, d3, d4] => { results := [.lit (.bool true)], args := [d1, d2, d3, d4] }
  | _ => none }
def diagCountsRow : OpenClaim := { program := "ytmnnichijcfjaaa", sum := "af5ca0f6528cb7d51d9063aaf25fb41c959c31b6fc18a3e4c204187af6220853", func := "bellwether/bellwetherlaw09.DiagCounts", spec := "diagCounts", apart := false }
def DiagCountsSaid : Prop := diagCountsRow.holds Try.pinned (OpenSpec.ofChange diagCountsSpec)

/-- ITS FALSE NEIGHBOUR: 'it returns false'. Refute it at one input. -/
def diagCountsWrong : ChangeSpec := { name := "diagCounts", fn := fun _ => fun
  | [d1, d2, d3, d4] => { results := [.lit (.bool false)], args := [d1, d2, d3, d4] }
  | _ => none }
def DiagCountsWrongFalsely : Prop := diagCountsRow.holds Try.pinned (OpenSpec.ofChange diagCountsWrong)

/-- 'bellwetherlaw09.DiagOrder': WHATEVER THE INPUT: true; the input reads as it did. -/
def diagOrderSpec : ChangeSpec := { name := "diagOrder", fn := fun _ => fun
  | [d1, d2, d3, d4] => { results := [.lit (.bool true)], args := [d1, d2, d3, d4] }
  | _ => none }
def diagOrderRow : OpenClaim := { program := "ytmnnichijcfjaaa", sum := "af5ca0f6528cb7d51d9063aaf25fb41c959c31b6fc18a3e4c204187af6220853", func := "bellwether/bellwetherlaw09.DiagOrder", spec := "diagOrder", apart := false }
def DiagOrderSaid : Prop := diagOrderRow.holds Try.pinned (OpenSpec.ofChange diagOrderSpec)

/-- ITS FALSE NEIGHBOUR: 'it returns false'. Refute it at one input. -/
def diagOrderWrong : ChangeSpec := { name := "diagOrder", fn := fun _ => fun
  | [d1, d2, d3, d4] => { results := [.lit (.bool false)], args := [d1, d2, d3, d4] }
  | _ => none }
def DiagOrderWrongFalsely : Prop := diagOrderRow.holds Try.pinned (OpenSpec.ofChange diagOrderWrong)

/- THE SECOND FORM. 'bulk': how many values and letters a reading holds, each counted each time it is reached (what is shared counts as often as it is met; a slice's spare places count too). A statement '..UptoSaid' is the law's where the arguments, and the package variables that the reading takes, are together of bulk at most 1048576: NARROWER than '..Said'. Prove '..Said' where nothing that the law and all that it calls make is longer than what came in: it says more and counts as full. Else prove '..UptoSaid'. A law counts once. -/
mutual
def uptoBulk {H : Type} : DataW H → Nat
  | .lit (.string bytes) => bytes.length + 1
  | .lit _ => 1
  | .nil => 1
  | .ptr d => uptoBulk d + 1
  | .slice elems spare => uptoBulkAll elems + uptoBulkAll spare + 1
  | .agg parts => uptoBulkAll parts + 1
  | .iface _ d => uptoBulk d + 1
  | .map entries => uptoBulkEntries entries + 1
  | .held _ => 1
def uptoBulkAll {H : Type} : List (DataW H) → Nat
  | [] => 0
  | d :: r => uptoBulk d + uptoBulkAll r
def uptoBulkEntries {H : Type} : List (Lit × DataW H) → Nat
  | [] => 0
  | x :: r => uptoBulkEntry x + uptoBulkEntries r
def uptoBulkEntry {H : Type} : Lit × DataW H → Nat
  | (.string bytes, d) => bytes.length + uptoBulk d + 1
  | (_, d) => uptoBulk d + 1
 end
def uptoSmall : (H : Type) → List (DataW H) → Bool := fun _ ds => decide (uptoBulkAll ds ≤ 1048576)
def OpenSpec.upto (s : _root_.Go.ChangeSpec) : _root_.Go.OpenSpec := { _root_.Go.OpenSpec.ofChange s with cond := some uptoSmall }

/-- 'bellwetherlaw08.QueueMoves', WHERE WHAT IT READS IS OF BULK AT MOST 1048576: true; the input reads as it did. -/
def queueMovesUptoRow : OpenClaim := { program := "ytmnnichijcfjaaa", sum := "af5ca0f6528cb7d51d9063aaf25fb41c959c31b6fc18a3e4c204187af6220853", func := "bellwether/bellwetherlaw08.QueueMoves", spec := "queueMoves", unfollowed := true, recurses := true, apart := false, narrowed := true }
def QueueMovesUptoSaid : Prop := queueMovesUptoRow.holds Try.pinned (OpenSpec.upto queueMovesSpec)

/-- 'bellwetherlaw08.QueueCaps', WHERE WHAT IT READS IS OF BULK AT MOST 1048576: true; the input reads as it did. -/
def queueCapsUptoRow : OpenClaim := { program := "ytmnnichijcfjaaa", sum := "af5ca0f6528cb7d51d9063aaf25fb41c959c31b6fc18a3e4c204187af6220853", func := "bellwether/bellwetherlaw08.QueueCaps", spec := "queueCaps", unfollowed := true, recurses := true, apart := false, narrowed := true }
def QueueCapsUptoSaid : Prop := queueCapsUptoRow.holds Try.pinned (OpenSpec.upto queueCapsSpec)

/-- 'bellwetherlaw08.QueueComes', WHERE WHAT IT READS IS OF BULK AT MOST 1048576: true; the input reads as it did. -/
def queueComesUptoRow : OpenClaim := { program := "ytmnnichijcfjaaa", sum := "af5ca0f6528cb7d51d9063aaf25fb41c959c31b6fc18a3e4c204187af6220853", func := "bellwether/bellwetherlaw08.QueueComes", spec := "queueComes", unfollowed := true, recurses := true, apart := false, narrowed := true }
def QueueComesUptoSaid : Prop := queueComesUptoRow.holds Try.pinned (OpenSpec.upto queueComesSpec)

/-- 'bellwetherlaw08.QueueAll', WHERE WHAT IT READS IS OF BULK AT MOST 1048576: true; the input reads as it did. -/
def queueAllUptoRow : OpenClaim := { program := "ytmnnichijcfjaaa", sum := "af5ca0f6528cb7d51d9063aaf25fb41c959c31b6fc18a3e4c204187af6220853", func := "bellwether/bellwetherlaw08.QueueAll", spec := "queueAll", unfollowed := true, recurses := true, apart := false, narrowed := true }
def QueueAllUptoSaid : Prop := queueAllUptoRow.holds Try.pinned (OpenSpec.upto queueAllSpec)

/-- 'bellwetherlaw01.NumPuts', WHERE WHAT IT READS IS OF BULK AT MOST 1048576: true; the input reads as it did. -/
def numPutsUptoRow : OpenClaim := { program := "ytmnnichijcfjaaa", sum := "af5ca0f6528cb7d51d9063aaf25fb41c959c31b6fc18a3e4c204187af6220853", func := "bellwether/bellwetherlaw01.NumPuts", spec := "numPuts", apart := false, narrowed := true }
def NumPutsUptoSaid : Prop := numPutsUptoRow.holds Try.pinned (OpenSpec.upto numPutsSpec)

/-- 'bellwetherlaw01.NumBounds', WHERE WHAT IT READS IS OF BULK AT MOST 1048576: true; the input reads as it did. -/
def numBoundsUptoRow : OpenClaim := { program := "ytmnnichijcfjaaa", sum := "af5ca0f6528cb7d51d9063aaf25fb41c959c31b6fc18a3e4c204187af6220853", func := "bellwether/bellwetherlaw01.NumBounds", spec := "numBounds", apart := false, narrowed := true }
def NumBoundsUptoSaid : Prop := numBoundsUptoRow.holds Try.pinned (OpenSpec.upto numBoundsSpec)

/-- 'bellwetherlaw01.NumBack', WHERE WHAT IT READS IS OF BULK AT MOST 1048576: true; the input reads as it did. -/
def numBackUptoRow : OpenClaim := { program := "ytmnnichijcfjaaa", sum := "af5ca0f6528cb7d51d9063aaf25fb41c959c31b6fc18a3e4c204187af6220853", func := "bellwether/bellwetherlaw01.NumBack", spec := "numBack", apart := false, narrowed := true }
def NumBackUptoSaid : Prop := numBackUptoRow.holds Try.pinned (OpenSpec.upto numBackSpec)

/-- 'bellwetherlaw01.NumLeft', WHERE WHAT IT READS IS OF BULK AT MOST 1048576: true; the input reads as it did. -/
def numLeftUptoRow : OpenClaim := { program := "ytmnnichijcfjaaa", sum := "af5ca0f6528cb7d51d9063aaf25fb41c959c31b6fc18a3e4c204187af6220853", func := "bellwether/bellwetherlaw01.NumLeft", spec := "numLeft", apart := false, narrowed := true }
def NumLeftUptoSaid : Prop := numLeftUptoRow.holds Try.pinned (OpenSpec.upto numLeftSpec)

/-- 'bellwetherlaw09.DiagUp', WHERE WHAT IT READS IS OF BULK AT MOST 1048576: true; the input reads as it did. -/
def diagUpUptoRow : OpenClaim := { program := "ytmnnichijcfjaaa", sum := "af5ca0f6528cb7d51d9063aaf25fb41c959c31b6fc18a3e4c204187af6220853", func := "bellwether/bellwetherlaw09.DiagUp", spec := "diagUp", apart := false, narrowed := true }
def DiagUpUptoSaid : Prop := diagUpUptoRow.holds Try.pinned (OpenSpec.upto diagUpSpec)

/-- 'bellwetherlaw09.DiagCounts', WHERE WHAT IT READS IS OF BULK AT MOST 1048576: true; the input reads as it did. -/
def diagCountsUptoRow : OpenClaim := { program := "ytmnnichijcfjaaa", sum := "af5ca0f6528cb7d51d9063aaf25fb41c959c31b6fc18a3e4c204187af6220853", func := "bellwether/bellwetherlaw09.DiagCounts", spec := "diagCounts", apart := false, narrowed := true }
def DiagCountsUptoSaid : Prop := diagCountsUptoRow.holds Try.pinned (OpenSpec.upto diagCountsSpec)

/-- 'bellwetherlaw09.DiagOrder', WHERE WHAT IT READS IS OF BULK AT MOST 1048576: true; the input reads as it did. -/
def diagOrderUptoRow : OpenClaim := { program := "ytmnnichijcfjaaa", sum := "af5ca0f6528cb7d51d9063aaf25fb41c959c31b6fc18a3e4c204187af6220853", func := "bellwether/bellwetherlaw09.DiagOrder", spec := "diagOrder", apart := false, narrowed := true }
def DiagOrderUptoSaid : Prop := diagOrderUptoRow.holds Try.pinned (OpenSpec.upto diagOrderSpec)

end Rows
end Go.Proofs.Ytmnnichijcfjaaa
