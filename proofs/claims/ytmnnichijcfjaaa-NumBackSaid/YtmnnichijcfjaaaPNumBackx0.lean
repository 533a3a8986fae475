-- PRINTED BY print.sh 35421559b90ae4d0a3588c463048766b98c2df88dd9212a6774a882060cdf62d: not written by this session
import Derived.Test.YtmnnichijcfjaaaProg
import Derived.Below
import Derived.Deep.Draws
import Derived.Deep.AppendLies
import Derived.Maps.AppendAt
import Derived.OwnWalk
import Derived.Laws.BytesArg
import Derived.Laws.MakeOwn
import Derived.Laws.OwnMore
import Derived.Deep.OwnRows
import Derived.Tactics
import Derived.Lib.ConvBytes
import Derived.Laws.Slices
import Derived.WalkKit
import Derived.KernelRfl
import Derived.RowKit3
import Derived.Deep.LoopGhost
import Derived.Deep.QuietTactic
import Derived.BigQuiet
import Derived.WideLaws
import Derived.Deep.DeepCutAuto
import Derived.Deep.CutBlock
import Derived.Deep.RegionHeld3
import Derived.Laws.Rows
import Derived.Lib.AppendStr
import Derived.ArgAppend
import Derived.Laws.IdiomCopy
import Derived.OrdersHeld
import Derived.Laws.BitsLemmas
import Derived.RowKit
import Derived.Test.YtmnnichijcfjaaaWWords
import Derived.Test.YtmnnichijcfjaaaWLast
import Derived.Test.YtmnnichijcfjaaaWTab
import Derived.Test.YtmnnichijcfjaaaWFour
import Derived.Test.YtmnnichijcfjaaaWQPut
import Derived.Test.YtmnnichijcfjaaaWApart
import Derived.Test.YtmnnichijcfjaaaWArr
import Derived.Test.YtmnnichijcfjaaaWZeros
import Derived.Test.YtmnnichijcfjaaaWFoot
import Derived.Test.YtmnnichijcfjaaaWKept
import Derived.Test.YtmnnichijcfjaaaWShare
import Derived.Test.YtmnnichijcfjaaaWN
import Derived.Test.YtmnnichijcfjaaaWFootNe
import Derived.Test.YtmnnichijcfjaaaWAt
import Derived.Test.YtmnnichijcfjaaaWEqStruct
import Derived.Test.YtmnnichijcfjaaaWRepsOne
import Derived.Test.YtmnnichijcfjaaaWInv
import Derived.Test.YtmnnichijcfjaaaWInvWords
import Derived.Test.YtmnnichijcfjaaaWGuard
import Derived.Test.YtmnnichijcfjaaaWNEv
import Derived.Test.YtmnnichijcfjaaaWMore
namespace Go.Proofs.Ytmnnichijcfjaaa.PNumBack
open Go.RowKit Go.Proofs.YtmnnichijcfjaaaW.PrintWords Go.Proofs.YtmnnichijcfjaaaW.PrintLast Go.Proofs.YtmnnichijcfjaaaW.PrintMore
attribute [local go_sem] max2_int min2_int max_two min_two max_three min_three max_four min_four   -- for this text's walks alone
set_option linter.unusedVariables false
set_option linter.unusedSimpArgs false



def errW : Option Int → Value
  | none => .nilIface
  | some c => .iface 0 (.int .i64 c)
theorem errW_none : errW none = .nilIface := rfl
theorem errW_some (c : Int) : errW (some c) = .iface 0 (.int .i64 c) := rfl

theorem info5 : (Try.prog.info? 5).map (fun i => (i.zero, i.size, i.bytes)) = some (some (.int .u8 0), 1, 1) := by kernel_rfl
-- the values' own types

end Go.Proofs.Ytmnnichijcfjaaa.PNumBack
