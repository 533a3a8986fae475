/-
  NetBrings: the row, out of what the evaluated function gives. For every input.
-/
import Derived.Test.YtockahdfbagmgaaRows
import Derived.Test.YtockahdfbagmgaaNet
import Derived.WalkKit
import Derived.ProofKit
import Derived.OpenShut
import Derived.SizedLaws
set_option linter.unusedVariables false
set_option maxRecDepth 100000
namespace Go.Proofs.Ytockahdfbagmgaa.netBrings
open Go.Proofs.PF
theorem own : ownKnob Try.prog.godebug = none := by kernel_rfl
theorem lifted (os : Os) (started : os.Started) (H : Type) (enc : TypeId × Value → H) :
    ReturnsInHanded {} Try.checked os 4 .any (Rows.netBringsSpec.pre6 enc Try.prog Try.f4 Rows.netBringsRow.domain false) (Rows.netBringsSpec.post enc Try.prog Try.f4 false true false false) := by
  refine returnsInHanded_of_change_sized (C := Try.checked) own started (by kernel_rfl) Try.func4
    (ChangeSpec.witness6 (enc := enc) (C := Try.checked) false ⟨#[], #[.agg #[.int .i64 0, .slice none 0 0], .int .i64 0, .slice none 0 0], []⟩ 8 (by kernel_rfl) (by kernel_rfl) (by kernel_rfl) (by kernel_rfl)) ?_
  intro W base args ds gs before hval hW _ _ _
  exact contract_true (L := [([.i .i64, .l [.l [.i .i64, .i .i64, .s] true, .i .i64] true], true), ([.i .i64], false), ([.l [.i .i64] false], false)]) (n := 12) (tb := 4) (lookF_ok fs_ok) xe_ok (by kernel_rfl) rfl rfl Try.underlying4 (by kernel_rfl) (by kernel_rfl)
    (fun ds h => match ds, h with | [_, _, _], _ => rfl) NetBrings_law W base args ds gs before hval hW
theorem over : Rows.netBringsRow.holds Try.pinned (OpenSpec.ofChange Rows.netBringsSpec) :=
  OpenClaim.holds_of_wide 4 Try.f4 rfl rfl rfl rfl rfl rfl rfl ⟨rfl, rfl, rfl, rfl, rfl⟩ rfl rfl rfl rfl rfl (by kernel_rfl) Try.func4 (by kernel_rfl)
    (of_decide_eq_true (by kernel_rfl)) (by unfold Func.isWrapper; first | (rw [if_pos (by decide +kernel)]; kernel_rfl) | (rw [if_neg (by decide +kernel)]; exact ⟨rfl, rfl⟩))
    (fun os started H enc _ => lifted os started H enc)
theorem proved : Rows.NetBringsSaid := over
end Go.Proofs.Ytockahdfbagmgaa.netBrings
namespace Go.Proofs.Ytockahdfbagmgaa
/-- The row, under a short name, for the claim. -/
theorem netBrings_holds : Rows.NetBringsSaid := netBrings.proved
end Go.Proofs.Ytockahdfbagmgaa
