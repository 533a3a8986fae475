/-
  ImageAny: the row, out of what the evaluated function gives. For every input.
-/
import Derived.Test.YtnbmaoendgafbaaRows
import Derived.Test.YtnbmaoendgafbaaImg
import Derived.WalkKit
import Derived.ProofKit
import Derived.OpenShut
import Derived.SizedLaws
set_option linter.unusedVariables false
set_option maxRecDepth 100000
namespace Go.Proofs.Ytnbmaoendgafbaa.imageAny
open Go.Proofs.PF
theorem own : ownKnob Try.prog.godebug = none := by kernel_rfl
theorem lifted (os : Os) (started : os.Started) (H : Type) (enc : TypeId × Value → H) :
    ReturnsInHanded {} Try.checked os 8 .any (Rows.imageAnySpec.pre6 enc Try.prog Try.f8 Rows.imageAnyRow.domain false) (Rows.imageAnySpec.post enc Try.prog Try.f8 false true false false) := by
  refine returnsInHanded_of_change_sized (C := Try.checked) own started (by kernel_rfl) Try.func8
    (ChangeSpec.witness6 (enc := enc) (C := Try.checked) false ⟨#[], #[.agg #[.int .i64 0, .int .i64 0, .int .i64 0, .int .i64 0, .int .i64 0, .int .i64 0, .int .i64 0, .int .i64 0, .int .i64 0, .int .i64 0, .slice none 0 0], .string ByteArray.empty, .string ByteArray.empty], []⟩ 8 (by kernel_rfl) (by kernel_rfl) (by kernel_rfl) (by kernel_rfl)) ?_
  intro W base args ds gs before hval hW _ _ _
  exact contract_true (L := [([.i .i64, .i .i64, .i .i64, .i .i64, .i .i64, .i .i64, .i .i64, .i .i64, .i .i64, .i .i64, .l [.i .i64] false], true), ([.s], false), ([.s], false)]) (n := 12) (tb := 4) (lookF_ok fs_ok) xe_ok (by kernel_rfl) rfl rfl Try.underlying4 (by kernel_rfl) (by kernel_rfl)
    (fun ds h => match ds, h with | [_, _, _], _ => rfl) ImageAny_law W base args ds gs before hval hW
theorem over : Rows.imageAnyRow.holds Try.pinned (OpenSpec.ofChange Rows.imageAnySpec) :=
  OpenClaim.holds_of_wide 8 Try.f8 rfl rfl rfl rfl rfl rfl rfl ⟨rfl, rfl, rfl, rfl, rfl⟩ rfl rfl rfl rfl rfl (by kernel_rfl) Try.func8 (by kernel_rfl)
    (of_decide_eq_true (by kernel_rfl)) (by unfold Func.isWrapper; first | (rw [if_pos (by decide +kernel)]; kernel_rfl) | (rw [if_neg (by decide +kernel)]; exact ⟨rfl, rfl⟩))
    (fun os started H enc _ => lifted os started H enc)
theorem proved : Rows.ImageAnySaid := over
end Go.Proofs.Ytnbmaoendgafbaa.imageAny
namespace Go.Proofs.Ytnbmaoendgafbaa
/-- The row, under a short name, for the claim. -/
theorem imageAny_holds : Rows.ImageAnySaid := imageAny.proved
end Go.Proofs.Ytnbmaoendgafbaa
