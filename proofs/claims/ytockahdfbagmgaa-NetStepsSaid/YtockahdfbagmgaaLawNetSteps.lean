/-
  NetSteps: the row, out of what the evaluated function gives. For every input.
-/
import Derived.Test.YtockahdfbagmgaaRows
import Derived.Test.YtockahdfbagmgaaNet
import Derived.WalkKit
import Derived.ProofKit
import Derived.OpenShut
import Derived.SizedLaws
set_option linter.unusedVariables false
set_option maxRecDepth 100000
namespace Go.Proofs.Ytockahdfbagmgaa.netSteps
open Go.Proofs.PF
theorem own : ownKnob Try.prog.godebug = none := by kernel_rfl
theorem lifted (os : Os) (started : os.Started) (H : Type) (enc : TypeId × Value → H) :
    ReturnsInHanded {} Try.checked os 3 .any (Rows.netStepsSpec.pre6 enc Try.prog Try.f3 Rows.netStepsRow.domain false) (Rows.netStepsSpec.post enc Try.prog Try.f3 false true false false) := by
  refine returnsInHanded_of_change_sized (C := Try.checked) own started (by kernel_rfl) Try.func3
    (ChangeSpec.witness6 (enc := enc) (C := Try.checked) false ⟨#[], #[.agg #[.int .i64 0, .slice none 0 0]], []⟩ 8 (by kernel_rfl) (by kernel_rfl) (by kernel_rfl) (by kernel_rfl)) ?_
  intro W base args ds gs before hval hW _ _ _
  exact contract_true (L := [([.i .i64, .l [.l [.i .i64, .i .i64, .s] true, .i .i64] true], true)]) (n := 12) (tb := 4) (lookF_ok fs_ok) xe_ok (by kernel_rfl) rfl rfl Try.underlying4 (by kernel_rfl) (by kernel_rfl)
    (fun ds h => match ds, h with | [_], _ => rfl) NetSteps_law W base args ds gs before hval hW
theorem over : Rows.netStepsRow.holds Try.pinned (OpenSpec.ofChange Rows.netStepsSpec) :=
  OpenClaim.holds_of_wide 3 Try.f3 rfl rfl rfl rfl rfl rfl rfl ⟨rfl, rfl, rfl, rfl, rfl⟩ rfl rfl rfl rfl rfl (by kernel_rfl) Try.func3 (by kernel_rfl)
    (of_decide_eq_true (by kernel_rfl)) (by unfold Func.isWrapper; first | (rw [if_pos (by decide +kernel)]; kernel_rfl) | (rw [if_neg (by decide +kernel)]; exact ⟨rfl, rfl⟩))
    (fun os started H enc _ => lifted os started H enc)
theorem proved : Rows.NetStepsSaid := over
end Go.Proofs.Ytockahdfbagmgaa.netSteps
namespace Go.Proofs.Ytockahdfbagmgaa
/-- The row, under a short name, for the claim. -/
theorem netSteps_holds : Rows.NetStepsSaid := netSteps.proved
end Go.Proofs.Ytockahdfbagmgaa
