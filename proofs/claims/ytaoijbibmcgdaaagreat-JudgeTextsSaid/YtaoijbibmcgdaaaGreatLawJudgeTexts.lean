/-
  JudgeTexts: the row, out of what the evaluated function gives. For every input.
-/
import Derived.Test.YtaoijbibmcgdaaaGreatRows
import Derived.Test.YtaoijbibmcgdaaaGreatPb
import Derived.WalkKit
import Derived.ProofKit
import Derived.OpenShut
import Derived.SizedLaws
set_option linter.unusedVariables false
set_option linter.unusedSimpArgs false
set_option maxRecDepth 100000
namespace Go.Proofs.YtaoijbibmcgdaaaGreat.judgeTexts
open Go.Proofs.PF
theorem own :ownKnob Tryz.prog.godebug=none:=by kernel_rfl
theorem lifted (os:Os)(started:os.Started)(H:Type)(enc:TypeId×Value→H):
 ReturnsInHanded {} Tryz.checked os 6 .any (Rows.judgeTextsSpec.pre6 enc Tryz.prog Tryz.f6 Rows.judgeTextsRow.domain false) (Rows.judgeTextsSpec.post enc Tryz.prog Tryz.f6 false true false false):=by
 refine returnsInHanded_of_change_sized (C:=Tryz.checked) own started (by kernel_rfl) Tryz.func6
  (ChangeSpec.witness6 (enc:=enc) (C:=Tryz.checked) false ⟨#[],#[.agg #[.int .i64 0,.int .i64 0,.int .i64 0,.int .i64 0,.int .i64 0,.int .i64 0,.int .i64 0,.int .i64 0,.int .i64 0,.int .i64 0,.slice none 0 0,.slice none 0 0,.slice none 0 0,.slice none 0 0],.slice none 0 0,.int .i64 0,.int .i64 0],[]⟩ 8 (by kernel_rfl) (by kernel_rfl) (by kernel_rfl) (by kernel_rfl)) ?_
 intro W base args ds gs before hval hW _ _ _
 exact contract_true (L:=[([.i .i64,.i .i64,.i .i64,.i .i64,.i .i64,.i .i64,.i .i64,.i .i64,.i .i64,.i .i64,.l [.i .i64] false,.l [.i .i64] false,.l [.s] false,.l [.l [.i .i64] false,.l [.i .i64] false,.l [.i .i64,.i .i64,.i .i64,.s] true,.l [.i .i64,.s] true,.l [.i .i64,.i .i64,.i .i64,.s] true,.l [.i .i64,.s] true] true],true),([.l [.l [.b,.b,.i .i64,.i .i64,.s,.i .i64,.l [.i .i64,.i .i64,.i .i64,.s] true] true] false],false),([.i .i64],false),([.i .i64],false)]) (n:=12) (tb:=4) (lookF_ok fs_ok) xe_ok (by kernel_rfl) rfl rfl Tryz.underlying4 (by kernel_rfl) (by kernel_rfl)
  (fun ds h=>match ds,h with| [_,_,_,_],_=>rfl) JudgeTexts_law W base args ds gs before hval hW
theorem over :Rows.judgeTextsRow.holds Tryz.pinned (OpenSpec.ofChange Rows.judgeTextsSpec):=
 OpenClaim.holds_of_wide 6 Tryz.f6 rfl rfl rfl rfl rfl rfl rfl ⟨rfl,rfl,rfl,rfl,rfl⟩ rfl rfl rfl rfl rfl (by kernel_rfl) Tryz.func6 (by kernel_rfl)
  (of_decide_eq_true (by kernel_rfl)) (by unfold Func.isWrapper;first|(rw[if_pos (by decide+kernel)];kernel_rfl)|(rw[if_neg (by decide+kernel)];exact⟨rfl,rfl⟩))
  (fun os started H enc _=>lifted os started H enc)
theorem proved :Rows.JudgeTextsSaid:=over
end Go.Proofs.YtaoijbibmcgdaaaGreat.judgeTexts
namespace Go.Proofs.YtaoijbibmcgdaaaGreat
theorem judgeTexts_holds :Rows.JudgeTextsSaid:=judgeTexts.proved
end Go.Proofs.YtaoijbibmcgdaaaGreat
