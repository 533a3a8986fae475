/-
  DiagUp: the row, out of what the evaluated function gives. For every input.
-/
import Derived.Test.YtmnnichijcfjaaaRows
import Derived.Test.YtmnnichijcfjaaaDiag2
import Derived.WalkKit
import Derived.ProofKit
import Derived.OpenShut
import Derived.SizedLaws
set_option linter.unusedVariables false
set_option maxRecDepth 100000
namespace Go.Proofs.Ytmnnichijcfjaaa.diagUp
open Go.Proofs.PF
theorem own : ownKnob Try.prog.godebug = none := by kernel_rfl
theorem lifted (os : Os) (started : os.Started) (H : Type) (enc : TypeId × Value → H) :
    ReturnsInHanded {} Try.checked os 11 .any (Rows.diagUpSpec.pre6 enc Try.prog Try.f11 Rows.diagUpRow.domain false) (Rows.diagUpSpec.post enc Try.prog Try.f11 false true false false) := by
  refine returnsInHanded_of_change_sized (C := Try.checked) own started (by kernel_rfl) Try.func11
    (ChangeSpec.witness6 (enc := enc) (C := Try.checked) false ⟨#[], #[.agg #[.int .i64 0, .int .i64 0, .int .i64 0, .int .i64 0, .int .i64 0, .int .i64 0], .int .i64 0], []⟩ 8 (by kernel_rfl) (by kernel_rfl) (by kernel_rfl) (by kernel_rfl)) ?_
  intro W base args ds gs before hval hW _ _ _
  exact contract_true (L := [([.i .i64, .i .i64, .i .i64, .i .i64, .i .i64, .i .i64], true), ([.i .i64], false)]) (n := 12) (tb := 4) (lookF_ok fs_ok) noExt_ok (by kernel_rfl) rfl rfl Try.underlying4 (by kernel_rfl) (by kernel_rfl)
    (fun ds h => match ds, h with | [_, _], _ => rfl) DiagUp_law W base args ds gs before hval hW
theorem over : Rows.diagUpRow.holds Try.pinned (OpenSpec.ofChange Rows.diagUpSpec) :=
  OpenClaim.holds_of_wide 11 Try.f11 rfl rfl rfl rfl rfl rfl rfl ⟨rfl, rfl, rfl, rfl, rfl⟩ rfl rfl rfl rfl rfl (by kernel_rfl) Try.func11 (by kernel_rfl)
    (of_decide_eq_true (by kernel_rfl)) (by unfold Func.isWrapper; first | (rw [if_pos (by decide +kernel)]; kernel_rfl) | (rw [if_neg (by decide +kernel)]; exact ⟨rfl, rfl⟩))
    (fun os started H enc _ => lifted os started H enc)
theorem proved : Rows.DiagUpSaid := over
end Go.Proofs.Ytmnnichijcfjaaa.diagUp
namespace Go.Proofs.Ytmnnichijcfjaaa
/-- The row, under a short name, for the claim. -/
theorem diagUp_holds : Rows.DiagUpSaid := diagUp.proved
end Go.Proofs.Ytmnnichijcfjaaa
