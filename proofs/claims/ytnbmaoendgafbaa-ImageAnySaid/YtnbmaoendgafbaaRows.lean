/-
  No cell of these rows narrows 'for every input' (looked for: loops, veiled, ifaces, maps, wideKeys, modest, calm, conditions, laid).
  DERIVED. THE GIVEN ROWS OF THIS SEAT. 6 by the template 'for every input the law returns true; each argument reads behind the call as it read before'; 0 by the template 'total and deterministic' (their statements: YtnbmaoendgafbaaTotals.lean).
  GIVEN WITH THE SEED: the statements are not yours to turn. If you find one false, say at which input.
  Laid BY PROGRAM, IN A SANDBOX (cutbox-rows.mjs): the forced cells as the released guide's own fill.sh prints them over the translation 9611de6425f2c81f… (all of the seat's roots in one cut). By AI agents, Wed Nov 11 2026. No macro, syntax, notation, axiom, sorry.
-/
import Derived.Test.YtnbmaoendgafbaaChecked
import GoSem.Claim
import GoSem.ClaimJoined
import GoSem.ClaimMapViews
import Derived.JoinedTies
import Derived.KernelRfl
namespace Go.Proofs.Ytnbmaoendgafbaa
/- THE CELL 'sum', in the pinned program and in every row, IS THE sha256 OF THE DUMP (.gsa) THAT YtnbmaoendgafbaaProg.lean LOADS. Nothing in Lean hashes anything: it is a label: what it is worth is what the hold of that sum in a sandbox is worth. -/
noncomputable def Try.pinned : Pinned := { name := "ytnbmaoendgafbaa", sum := "9611de6425f2c81f4f1250db74cd7d198a631cb1a007e4831c6d0e0c1e1e586b", checked := Try.checked }
namespace Rows
def none {H : Type} : Left H := { results := [], args := [] }

/-- 'bellwetherlaw28.MemMends': WHATEVER THE INPUT: true; the input reads as it did. -/
def memMendsSpec : ChangeSpec := { name := "memMends", fn := fun _ => fun
  | [d1, d2, d3] => { results := [.lit (.bool true)], args := [d1, d2, d3] }
  | _ => none }
def memMendsRow : OpenClaim := { program := "ytnbmaoendgafbaa", sum := "9611de6425f2c81f4f1250db74cd7d198a631cb1a007e4831c6d0e0c1e1e586b", func := "bellwether/bellwetherlaw28.MemMends", spec := "memMends", inPlace := ["internal/abi.NoEscape", "internal/bytealg.MakeNoZero"], unfollowed := true, recurses := true, apart := false }
def MemMendsSaid : Prop := memMendsRow.holds Try.pinned (OpenSpec.ofChange memMendsSpec)

/-- ITS FALSE NEIGHBOUR: 'it returns false'. Refute it at one input. -/
def memMendsWrong : ChangeSpec := { name := "memMends", fn := fun _ => fun
  | [d1, d2, d3] => { results := [.lit (.bool false)], args := [d1, d2, d3] }
  | _ => none }
def MemMendsWrongFalsely : Prop := memMendsRow.holds Try.pinned (OpenSpec.ofChange memMendsWrong)

/-- 'bellwetherlaw28.MemWell': WHATEVER THE INPUT: true; the input reads as it did. -/
def memWellSpec : ChangeSpec := { name := "memWell", fn := fun _ => fun
  | [d1, d2, d3] => { results := [.lit (.bool true)], args := [d1, d2, d3] }
  | _ => none }
def memWellRow : OpenClaim := { program := "ytnbmaoendgafbaa", sum := "9611de6425f2c81f4f1250db74cd7d198a631cb1a007e4831c6d0e0c1e1e586b", func := "bellwether/bellwetherlaw28.MemWell", spec := "memWell", inPlace := ["internal/abi.NoEscape", "internal/bytealg.MakeNoZero"], unfollowed := true, recurses := true, apart := false }
def MemWellSaid : Prop := memWellRow.holds Try.pinned (OpenSpec.ofChange memWellSpec)

/-- ITS FALSE NEIGHBOUR: 'it returns false'. Refute it at one input. -/
def memWellWrong : ChangeSpec := { name := "memWell", fn := fun _ => fun
  | [d1, d2, d3] => { results := [.lit (.bool false)], args := [d1, d2, d3] }
  | _ => none }
def MemWellWrongFalsely : Prop := memWellRow.holds Try.pinned (OpenSpec.ofChange memWellWrong)

/-- 'bellwetherlaw28.MemTwice': WHATEVER THE INPUT: true; the input reads as it did. -/
def memTwiceSpec : ChangeSpec := { name := "memTwice", fn := fun _ => fun
  | [d1, d2, d3] => { results := [.lit (.bool true)], args := [d1, d2, d3] }
  | _ => none }
def memTwiceRow : OpenClaim := { program := "ytnbmaoendgafbaa", sum := "9611de6425f2c81f4f1250db74cd7d198a631cb1a007e4831c6d0e0c1e1e586b", func := "bellwether/bellwetherlaw28.MemTwice", spec := "memTwice", inPlace := ["internal/abi.NoEscape", "internal/bytealg.MakeNoZero"], unfollowed := true, recurses := true, apart := false }
def MemTwiceSaid : Prop := memTwiceRow.holds Try.pinned (OpenSpec.ofChange memTwiceSpec)

/-- ITS FALSE NEIGHBOUR: 'it returns false'. Refute it at one input. -/
def memTwiceWrong : ChangeSpec := { name := "memTwice", fn := fun _ => fun
  | [d1, d2, d3] => { results := [.lit (.bool false)], args := [d1, d2, d3] }
  | _ => none }
def MemTwiceWrongFalsely : Prop := memTwiceRow.holds Try.pinned (OpenSpec.ofChange memTwiceWrong)

/-- 'bellwetherlaw28.MemCaps': WHATEVER THE INPUT: true; the input reads as it did. -/
def memCapsSpec : ChangeSpec := { name := "memCaps", fn := fun _ => fun
  | [d1, d2] => { results := [.lit (.bool true)], args := [d1, d2] }
  | _ => none }
def memCapsRow : OpenClaim := { program := "ytnbmaoendgafbaa", sum := "9611de6425f2c81f4f1250db74cd7d198a631cb1a007e4831c6d0e0c1e1e586b", func := "bellwether/bellwetherlaw28.MemCaps", spec := "memCaps", inPlace := ["internal/abi.NoEscape", "internal/bytealg.MakeNoZero"], unfollowed := true, recurses := true, apart := false }
def MemCapsSaid : Prop := memCapsRow.holds Try.pinned (OpenSpec.ofChange memCapsSpec)

/-- ITS FALSE NEIGHBOUR: 'it returns false'. Refute it at one input. -/
def memCapsWrong : ChangeSpec := { name := "memCaps", fn := fun _ => fun
  | [d1, d2] => { results := [.lit (.bool false)], args := [d1, d2] }
  | _ => none }
def MemCapsWrongFalsely : Prop := memCapsRow.holds Try.pinned (OpenSpec.ofChange memCapsWrong)

/-- 'bellwetherlaw29.ImageBack': WHATEVER THE INPUT: true; the input reads as it did. -/
def imageBackSpec : ChangeSpec := { name := "imageBack", fn := fun _ => fun
  | [d1, d2] => { results := [.lit (.bool true)], args := [d1, d2] }
  | _ => none }
def imageBackRow : OpenClaim := { program := "ytnbmaoendgafbaa", sum := "9611de6425f2c81f4f1250db74cd7d198a631cb1a007e4831c6d0e0c1e1e586b", func := "bellwether/bellwetherlaw29.ImageBack", spec := "imageBack", inPlace := ["internal/abi.NoEscape", "internal/bytealg.MakeNoZero"], unfollowed := true, recurses := true, apart := false }
def ImageBackSaid : Prop := imageBackRow.holds Try.pinned (OpenSpec.ofChange imageBackSpec)

/-- ITS FALSE NEIGHBOUR: 'it returns false'. Refute it at one input. -/
def imageBackWrong : ChangeSpec := { name := "imageBack", fn := fun _ => fun
  | [d1, d2] => { results := [.lit (.bool false)], args := [d1, d2] }
  | _ => none }
def ImageBackWrongFalsely : Prop := imageBackRow.holds Try.pinned (OpenSpec.ofChange imageBackWrong)

/-- 'bellwetherlaw29.ImageAny': WHATEVER THE INPUT: true; the input reads as it did. -/
def imageAnySpec : ChangeSpec := { name := "imageAny", fn := fun _ => fun
  | [d1, d2, d3] => { results := [.lit (.bool true)], args := [d1, d2, d3] }
  | _ => none }
def imageAnyRow : OpenClaim := { program := "ytnbmaoendgafbaa", sum := "9611de6425f2c81f4f1250db74cd7d198a631cb1a007e4831c6d0e0c1e1e586b", func := "bellwether/bellwetherlaw29.ImageAny", spec := "imageAny", inPlace := ["internal/abi.NoEscape", "internal/bytealg.MakeNoZero"], unfollowed := true, recurses := true, apart := false }
def ImageAnySaid : Prop := imageAnyRow.holds Try.pinned (OpenSpec.ofChange imageAnySpec)

/-- ITS FALSE NEIGHBOUR: 'it returns false'. Refute it at one input. -/
def imageAnyWrong : ChangeSpec := { name := "imageAny", fn := fun _ => fun
  | [d1, d2, d3] => { results := [.lit (.bool false)], args := [d1, d2, d3] }
  | _ => none }
def ImageAnyWrongFalsely : Prop := imageAnyRow.holds Try.pinned (OpenSpec.ofChange imageAnyWrong)

/- THE SECOND FORM. 'bulk': how many values and letters a reading holds, each counted each time it is reached (what is shared counts as often as it is met; a slice's spare places count too). A statement '..UptoSaid' is the law's where the arguments, and the package variables that the reading takes, are together of bulk at most 1048576: NARROWER than '..Said'. Prove '..Said' where nothing that the law and all that it calls make is longer than what came in: it says more and counts as full. Else prove '..UptoSaid'. A law counts once. -/
mutual
def uptoBulk {H : Type} : DataW H → Nat
  | .lit (.string bytes) => bytes.length + 1
  | .lit _ => 1
  | .nil => 1
  | .ptr d => uptoBulk d + 1
  | .slice elems spare => uptoBulkAll elems + uptoBulkAll spare + 1
  | .agg parts => uptoBulkAll parts + 1
  | .iface _ d => uptoBulk d + 1
  | .map entries => uptoBulkEntries entries + 1
  | .held _ => 1
def uptoBulkAll {H : Type} : List (DataW H) → Nat
  | [] => 0
  | d :: r => uptoBulk d + uptoBulkAll r
def uptoBulkEntries {H : Type} : List (Lit × DataW H) → Nat
  | [] => 0
  | x :: r => uptoBulkEntry x + uptoBulkEntries r
def uptoBulkEntry {H : Type} : Lit × DataW H → Nat
  | (.string bytes, d) => bytes.length + uptoBulk d + 1
  | (_, d) => uptoBulk d + 1
 end
def uptoSmall : (H : Type) → List (DataW H) → Bool := fun _ ds => decide (uptoBulkAll ds ≤ 1048576)
def OpenSpec.upto (s : _root_.Go.ChangeSpec) : _root_.Go.OpenSpec := { _root_.Go.OpenSpec.ofChange s with cond := some uptoSmall }

/-- 'bellwetherlaw28.MemMends', WHERE WHAT IT READS IS OF BULK AT MOST 1048576: true; the input reads as it did. -/
def memMendsUptoRow : OpenClaim := { program := "ytnbmaoendgafbaa", sum := "9611de6425f2c81f4f1250db74cd7d198a631cb1a007e4831c6d0e0c1e1e586b", func := "bellwether/bellwetherlaw28.MemMends", spec := "memMends", inPlace := ["internal/abi.NoEscape", "internal/bytealg.MakeNoZero"], unfollowed := true, recurses := true, apart := false, narrowed := true }
def MemMendsUptoSaid : Prop := memMendsUptoRow.holds Try.pinned (OpenSpec.upto memMendsSpec)

/-- 'bellwetherlaw28.MemWell', WHERE WHAT IT READS IS OF BULK AT MOST 1048576: true; the input reads as it did. -/
def memWellUptoRow : OpenClaim := { program := "ytnbmaoendgafbaa", sum := "9611de6425f2c81f4f1250db74cd7d198a631cb1a007e4831c6d0e0c1e1e586b", func := "bellwether/bellwetherlaw28.MemWell", spec := "memWell", inPlace := ["internal/abi.NoEscape", "internal/bytealg.MakeNoZero"], unfollowed := true, recurses := true, apart := false, narrowed := true }
def MemWellUptoSaid : Prop := memWellUptoRow.holds Try.pinned (OpenSpec.upto memWellSpec)

/-- 'bellwetherlaw28.MemTwice', WHERE WHAT IT READS IS OF BULK AT MOST 1048576: true; the input reads as it did. -/
def memTwiceUptoRow : OpenClaim := { program := "ytnbmaoendgafbaa", sum := "9611de6425f2c81f4f1250db74cd7d198a631cb1a007e4831c6d0e0c1e1e586b", func := "bellwether/bellwetherlaw28.MemTwice", spec := "memTwice", inPlace := ["internal/abi.NoEscape", "internal/bytealg.MakeNoZero"], unfollowed := true, recurses := true, apart := false, narrowed := true }
def MemTwiceUptoSaid : Prop := memTwiceUptoRow.holds Try.pinned (OpenSpec.upto memTwiceSpec)

/-- 'bellwetherlaw28.MemCaps', WHERE WHAT IT READS IS OF BULK AT MOST 1048576: true; the input reads as it did. -/
def memCapsUptoRow : OpenClaim := { program := "ytnbmaoendgafbaa", sum := "9611de6425f2c81f4f1250db74cd7d198a631cb1a007e4831c6d0e0c1e1e586b", func := "bellwether/bellwetherlaw28.MemCaps", spec := "memCaps", inPlace := ["internal/abi.NoEscape", "internal/bytealg.MakeNoZero"], unfollowed := true, recurses := true, apart := false, narrowed := true }
def MemCapsUptoSaid : Prop := memCapsUptoRow.holds Try.pinned (OpenSpec.upto memCapsSpec)

/-- 'bellwetherlaw29.ImageBack', WHERE WHAT IT READS IS OF BULK AT MOST 1048576: true; the input reads as it did. -/
def imageBackUptoRow : OpenClaim := { program := "ytnbmaoendgafbaa", sum := "9611de6425f2c81f4f1250db74cd7d198a631cb1a007e4831c6d0e0c1e1e586b", func := "bellwether/bellwetherlaw29.ImageBack", spec := "imageBack", inPlace := ["internal/abi.NoEscape", "internal/bytealg.MakeNoZero"], unfollowed := true, recurses := true, apart := false, narrowed := true }
def ImageBackUptoSaid : Prop := imageBackUptoRow.holds Try.pinned (OpenSpec.upto imageBackSpec)

/-- 'bellwetherlaw29.ImageAny', WHERE WHAT IT READS IS OF BULK AT MOST 1048576: true; the input reads as it did. -/
def imageAnyUptoRow : OpenClaim := { program := "ytnbmaoendgafbaa", sum := "9611de6425f2c81f4f1250db74cd7d198a631cb1a007e4831c6d0e0c1e1e586b", func := "bellwether/bellwetherlaw29.ImageAny", spec := "imageAny", inPlace := ["internal/abi.NoEscape", "internal/bytealg.MakeNoZero"], unfollowed := true, recurses := true, apart := false, narrowed := true }
def ImageAnyUptoSaid : Prop := imageAnyUptoRow.holds Try.pinned (OpenSpec.upto imageAnySpec)

end Rows
end Go.Proofs.Ytnbmaoendgafbaa
