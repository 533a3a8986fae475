/-
  No cell of these rows narrows 'for every input' (looked for: loops, veiled, ifaces, maps, wideKeys, modest, calm, conditions, laid).
  DERIVED. THE GIVEN ROWS OF THIS SEAT. 4 by the template 'for every input the law returns true; each argument reads behind the call as it read before'; 0 by the template 'total and deterministic' (their statements: YtaoijbibmcgdaaaGreatTotals.lean).
  GIVEN WITH THE SEED: the statements are not yours to turn. If you find one false, say at which input.
  Laid BY PROGRAM, IN A SANDBOX (cutbox-rows.mjs): the forced cells as the released guide's own fill.sh prints them over the translation fb243d256ecd5a14… (all of the seat's roots in one cut). By AI agents, Wed Nov 11 2026. No macro, syntax, notation, axiom, sorry.
-/
import Derived.Test.YtaoijbibmcgdaaaGreatChecked
import GoSem.Claim
import GoSem.ClaimJoined
import GoSem.ClaimMapViews
import Derived.JoinedTies
import Derived.KernelRfl
namespace Go.Proofs.YtaoijbibmcgdaaaGreat
/- THE CELL 'sum', in the pinned program and in every row, IS THE sha256 OF THE DUMP (.gsa) THAT YtaoijbibmcgdaaaGreatProg.lean LOADS. Nothing in Lean hashes anything: it is a label: what it is worth is what the hold of that sum in a sandbox is worth. -/
noncomputable def Tryz.pinned : Pinned := { name := "ytaoijbibmcgdaaagreat", sum := "fb243d256ecd5a146a47ecaa248a122f7ba2701e596bb582f0277dc3c048f0ee", checked := Tryz.checked }
namespace Rows
def none {H : Type} : Left H := { results := [], args := [] }

/-- 'bellwetherlaw39.JudgeSays': WHATEVER THE INPUT: true; the input reads as it did. -/
def judgeSaysSpec : ChangeSpec := { name := "judgeSays", fn := fun _ => fun
  | [d1, d2] => { results := [.lit (.bool true)], args := [d1, d2] }
  | _ => none }
def judgeSaysRow : OpenClaim := { program := "ytaoijbibmcgdaaagreat", sum := "fb243d256ecd5a146a47ecaa248a122f7ba2701e596bb582f0277dc3c048f0ee", func := "bellwether/bellwetherlaw39.JudgeSays", spec := "judgeSays", inPlace := ["internal/abi.NoEscape", "internal/bytealg.MakeNoZero"], unfollowed := true, recurses := true, apart := false }
def JudgeSaysSaid : Prop := judgeSaysRow.holds Tryz.pinned (OpenSpec.ofChange judgeSaysSpec)

/-- ITS FALSE NEIGHBOUR: 'it returns false'. Refute it at one input. -/
def judgeSaysWrong : ChangeSpec := { name := "judgeSays", fn := fun _ => fun
  | [d1, d2] => { results := [.lit (.bool false)], args := [d1, d2] }
  | _ => none }
def JudgeSaysWrongFalsely : Prop := judgeSaysRow.holds Tryz.pinned (OpenSpec.ofChange judgeSaysWrong)

/-- 'bellwetherlaw39.JudgeRounds': WHATEVER THE INPUT: true; the input reads as it did. -/
def judgeRoundsSpec : ChangeSpec := { name := "judgeRounds", fn := fun _ => fun
  | [d1, d2, d3, d4] => { results := [.lit (.bool true)], args := [d1, d2, d3, d4] }
  | _ => none }
def judgeRoundsRow : OpenClaim := { program := "ytaoijbibmcgdaaagreat", sum := "fb243d256ecd5a146a47ecaa248a122f7ba2701e596bb582f0277dc3c048f0ee", func := "bellwether/bellwetherlaw39.JudgeRounds", spec := "judgeRounds", inPlace := ["internal/abi.NoEscape", "internal/bytealg.MakeNoZero"], unfollowed := true, recurses := true, apart := false }
def JudgeRoundsSaid : Prop := judgeRoundsRow.holds Tryz.pinned (OpenSpec.ofChange judgeRoundsSpec)

/-- ITS FALSE NEIGHBOUR: 'it returns false'. Refute it at one input. -/
def judgeRoundsWrong : ChangeSpec := { name := "judgeRounds", fn := fun _ => fun
  | [d1, d2, d3, d4] => { results := [.lit (.bool false)], args := [d1, d2, d3, d4] }
  | _ => none }
def JudgeRoundsWrongFalsely : Prop := judgeRoundsRow.holds Tryz.pinned (OpenSpec.ofChange judgeRoundsWrong)

/-- 'bellwetherlaw39.JudgePulses': WHATEVER THE INPUT: true; the input reads as it did. -/
def judgePulsesSpec : ChangeSpec := { name := "judgePulses", fn := fun _ => fun
  | [d1, d2, d3, d4] => { results := [.lit (.bool true)], args := [d1, d2, d3, d4] }
  | _ => none }
def judgePulsesRow : OpenClaim := { program := "ytaoijbibmcgdaaagreat", sum := "fb243d256ecd5a146a47ecaa248a122f7ba2701e596bb582f0277dc3c048f0ee", func := "bellwether/bellwetherlaw39.JudgePulses", spec := "judgePulses", inPlace := ["internal/abi.NoEscape", "internal/bytealg.MakeNoZero"], unfollowed := true, recurses := true, apart := false }
def JudgePulsesSaid : Prop := judgePulsesRow.holds Tryz.pinned (OpenSpec.ofChange judgePulsesSpec)

/-- ITS FALSE NEIGHBOUR: 'it returns false'. Refute it at one input. -/
def judgePulsesWrong : ChangeSpec := { name := "judgePulses", fn := fun _ => fun
  | [d1, d2, d3, d4] => { results := [.lit (.bool false)], args := [d1, d2, d3, d4] }
  | _ => none }
def JudgePulsesWrongFalsely : Prop := judgePulsesRow.holds Tryz.pinned (OpenSpec.ofChange judgePulsesWrong)

/-- 'bellwetherlaw39.JudgeTexts': WHATEVER THE INPUT: true; the input reads as it did. -/
def judgeTextsSpec : ChangeSpec := { name := "judgeTexts", fn := fun _ => fun
  | [d1, d2, d3, d4] => { results := [.lit (.bool true)], args := [d1, d2, d3, d4] }
  | _ => none }
def judgeTextsRow : OpenClaim := { program := "ytaoijbibmcgdaaagreat", sum := "fb243d256ecd5a146a47ecaa248a122f7ba2701e596bb582f0277dc3c048f0ee", func := "bellwether/bellwetherlaw39.JudgeTexts", spec := "judgeTexts", inPlace := ["internal/abi.NoEscape", "internal/bytealg.MakeNoZero"], unfollowed := true, recurses := true, apart := false }
def JudgeTextsSaid : Prop := judgeTextsRow.holds Tryz.pinned (OpenSpec.ofChange judgeTextsSpec)

/-- ITS FALSE NEIGHBOUR: 'it returns false'. Refute it at one input. -/
def judgeTextsWrong : ChangeSpec := { name := "judgeTexts", fn := fun _ => fun
  | [d1, d2, d3, d4] => { results := [.lit (.bool false)], args := [d1, d2, d3, d4] }
  | _ => none }
def JudgeTextsWrongFalsely : Prop := judgeTextsRow.holds Tryz.pinned (OpenSpec.ofChange judgeTextsWrong)

/- THE SECOND FORM. 'bulk': how many values and letters a reading holds, each counted each time it is reached (what is shared counts as often as it is met; a slice's spare places count too). A statement '..UptoSaid' is the law's where the arguments, and the package variables that the reading takes, are together of bulk at most 1048576: NARROWER than '..Said'. Prove '..Said' where nothing that the law and all that it calls make is longer than what came in: it says more and counts as full. Else prove '..UptoSaid'. A law counts once. -/
mutual
def uptoBulk {H : Type} : DataW H → Nat
  | .lit (.string bytes) => bytes.length + 1
  | .lit _ => 1
  | .nil => 1
  | .ptr d => uptoBulk d + 1
  | .slice elems spare => uptoBulkAll elems + uptoBulkAll spare + 1
  | .agg parts => uptoBulkAll parts + 1
  | .iface _ d => uptoBulk d + 1
  | .map entries => uptoBulkEntries entries + 1
  | .held _ => 1
def uptoBulkAll {H : Type} : List (DataW H) → Nat
  | [] => 0
  | d :: r => uptoBulk d + uptoBulkAll r
def uptoBulkEntries {H : Type} : List (Lit × DataW H) → Nat
  | [] => 0
  | x :: r => uptoBulkEntry x + uptoBulkEntries r
def uptoBulkEntry {H : Type} : Lit × DataW H → Nat
  | (.string bytes, d) => bytes.length + uptoBulk d + 1
  | (_, d) => uptoBulk d + 1
 end
def uptoSmall : (H : Type) → List (DataW H) → Bool := fun _ ds => decide (uptoBulkAll ds ≤ 1048576)
def OpenSpec.upto (s : _root_.Go.ChangeSpec) : _root_.Go.OpenSpec := { _root_.Go.OpenSpec.ofChange s with cond := some uptoSmall }

/-- 'bellwetherlaw39.JudgeSays', WHERE WHAT IT READS IS OF BULK AT MOST 1048576: true; the input reads as it did. -/
def judgeSaysUptoRow : OpenClaim := { program := "ytaoijbibmcgdaaagreat", sum := "fb243d256ecd5a146a47ecaa248a122f7ba2701e596bb582f0277dc3c048f0ee", func := "bellwether/bellwetherlaw39.JudgeSays", spec := "judgeSays", inPlace := ["internal/abi.NoEscape", "internal/bytealg.MakeNoZero"], unfollowed := true, recurses := true, apart := false, narrowed := true }
def JudgeSaysUptoSaid : Prop := judgeSaysUptoRow.holds Tryz.pinned (OpenSpec.upto judgeSaysSpec)

/-- 'bellwetherlaw39.JudgeRounds', WHERE WHAT IT READS IS OF BULK AT MOST 1048576: true; the input reads as it did. -/
def judgeRoundsUptoRow : OpenClaim := { program := "ytaoijbibmcgdaaagreat", sum := "fb243d256ecd5a146a47ecaa248a122f7ba2701e596bb582f0277dc3c048f0ee", func := "bellwether/bellwetherlaw39.JudgeRounds", spec := "judgeRounds", inPlace := ["internal/abi.NoEscape", "internal/bytealg.MakeNoZero"], unfollowed := true, recurses := true, apart := false, narrowed := true }
def JudgeRoundsUptoSaid : Prop := judgeRoundsUptoRow.holds Tryz.pinned (OpenSpec.upto judgeRoundsSpec)

/-- 'bellwetherlaw39.JudgePulses', WHERE WHAT IT READS IS OF BULK AT MOST 1048576: true; the input reads as it did. -/
def judgePulsesUptoRow : OpenClaim := { program := "ytaoijbibmcgdaaagreat", sum := "fb243d256ecd5a146a47ecaa248a122f7ba2701e596bb582f0277dc3c048f0ee", func := "bellwether/bellwetherlaw39.JudgePulses", spec := "judgePulses", inPlace := ["internal/abi.NoEscape", "internal/bytealg.MakeNoZero"], unfollowed := true, recurses := true, apart := false, narrowed := true }
def JudgePulsesUptoSaid : Prop := judgePulsesUptoRow.holds Tryz.pinned (OpenSpec.upto judgePulsesSpec)

/-- 'bellwetherlaw39.JudgeTexts', WHERE WHAT IT READS IS OF BULK AT MOST 1048576: true; the input reads as it did. -/
def judgeTextsUptoRow : OpenClaim := { program := "ytaoijbibmcgdaaagreat", sum := "fb243d256ecd5a146a47ecaa248a122f7ba2701e596bb582f0277dc3c048f0ee", func := "bellwether/bellwetherlaw39.JudgeTexts", spec := "judgeTexts", inPlace := ["internal/abi.NoEscape", "internal/bytealg.MakeNoZero"], unfollowed := true, recurses := true, apart := false, narrowed := true }
def JudgeTextsUptoSaid : Prop := judgeTextsUptoRow.holds Tryz.pinned (OpenSpec.upto judgeTextsSpec)

end Rows
end Go.Proofs.YtaoijbibmcgdaaaGreat
