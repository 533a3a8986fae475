/-
  NetMoves: the row, out of what the evaluated function gives. For every input.
-/
import Derived.Test.YtockahdfbagmgaaRows
import Derived.Test.YtockahdfbagmgaaNet
import Derived.WalkKit
import Derived.ProofKit
import Derived.OpenShut
import Derived.SizedLaws
set_option linter.unusedVariables false
set_option maxRecDepth 100000
namespace Go.Proofs.Ytockahdfbagmgaa.netMoves
open Go.Proofs.PF
theorem own : ownKnob Try.prog.godebug = none := by kernel_rfl
theorem lifted (os : Os) (started : os.Started) (H : Type) (enc : TypeId × Value → H) :
    ReturnsInHanded {} Try.checked os 5 .any (Rows.netMovesSpec.pre6 enc Try.prog Try.f5 Rows.netMovesRow.domain false) (Rows.netMovesSpec.post enc Try.prog Try.f5 false true false false) := by
  refine returnsInHanded_of_change_sized (C := Try.checked) own started (by kernel_rfl) Try.func5
    (ChangeSpec.witness6 (enc := enc) (C := Try.checked) false ⟨#[], #[.agg #[.int .i64 0, .slice none 0 0], .agg #[.int .i64 0, .int .i64 0, .int .i64 0, .string ByteArray.empty], .slice none 0 0], []⟩ 8 (by kernel_rfl) (by kernel_rfl) (by kernel_rfl) (by kernel_rfl)) ?_
  intro W base args ds gs before hval hW _ _ _
  exact contract_true (L := [([.i .i64, .l [.l [.i .i64, .i .i64, .s] true, .i .i64] true], true), ([.i .i64, .i .i64, .i .i64, .s], true), ([.l [.i .i64] false], false)]) (n := 12) (tb := 4) (lookF_ok fs_ok) xe_ok (by kernel_rfl) rfl rfl Try.underlying4 (by kernel_rfl) (by kernel_rfl)
    (fun ds h => match ds, h with | [_, _, _], _ => rfl) NetMoves_law W base args ds gs before hval hW
theorem over : Rows.netMovesRow.holds Try.pinned (OpenSpec.ofChange Rows.netMovesSpec) :=
  OpenClaim.holds_of_wide 5 Try.f5 rfl rfl rfl rfl rfl rfl rfl ⟨rfl, rfl, rfl, rfl, rfl⟩ rfl rfl rfl rfl rfl (by kernel_rfl) Try.func5 (by kernel_rfl)
    (of_decide_eq_true (by kernel_rfl)) (by unfold Func.isWrapper; first | (rw [if_pos (by decide +kernel)]; kernel_rfl) | (rw [if_neg (by decide +kernel)]; exact ⟨rfl, rfl⟩))
    (fun os started H enc _ => lifted os started H enc)
theorem proved : Rows.NetMovesSaid := over
end Go.Proofs.Ytockahdfbagmgaa.netMoves
namespace Go.Proofs.Ytockahdfbagmgaa
/-- The row, under a short name, for the claim. -/
theorem netMoves_holds : Rows.NetMovesSaid := netMoves.proved
end Go.Proofs.Ytockahdfbagmgaa
