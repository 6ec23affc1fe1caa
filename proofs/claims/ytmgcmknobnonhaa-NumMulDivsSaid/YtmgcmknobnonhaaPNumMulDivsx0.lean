-- PRINTED BY print.sh 35421559b90ae4d0a3588c463048766b98c2df88dd9212a6774a882060cdf62d: not written by this session
import Derived.Test.YtmgcmknobnonhaaProg
import Derived.Below
import Derived.Deep.Draws
import Derived.Deep.AppendLies
import Derived.Maps.AppendAt
import Derived.OwnWalk
import Derived.Laws.BytesArg
import Derived.Laws.MakeOwn
import Derived.Laws.OwnMore
import Derived.Deep.OwnRows
import Derived.Tactics
import Derived.Lib.ConvBytes
import Derived.Laws.Slices
import Derived.WalkKit
import Derived.KernelRfl
import Derived.RowKit3
import Derived.Deep.LoopGhost
import Derived.Deep.QuietTactic
import Derived.BigQuiet
import Derived.WideLaws
import Derived.Deep.DeepCutAuto
import Derived.Deep.CutBlock
import Derived.Deep.RegionHeld3
import Derived.Laws.Rows
import Derived.Lib.AppendStr
import Derived.ArgAppend
import Derived.Laws.IdiomCopy
import Derived.OrdersHeld
import Derived.Laws.BitsLemmas
import Derived.RowKit
import Derived.Test.YtmgcmknobnonhaaWWords
import Derived.Test.YtmgcmknobnonhaaWLast
import Derived.Test.YtmgcmknobnonhaaWTab
import Derived.Test.YtmgcmknobnonhaaWFour
import Derived.Test.YtmgcmknobnonhaaWQPut
import Derived.Test.YtmgcmknobnonhaaWApart
import Derived.Test.YtmgcmknobnonhaaWArr
import Derived.Test.YtmgcmknobnonhaaWZeros
import Derived.Test.YtmgcmknobnonhaaWFoot
import Derived.Test.YtmgcmknobnonhaaWKept
import Derived.Test.YtmgcmknobnonhaaWShare
import Derived.Test.YtmgcmknobnonhaaWN
import Derived.Test.YtmgcmknobnonhaaWFootNe
import Derived.Test.YtmgcmknobnonhaaWAt
import Derived.Test.YtmgcmknobnonhaaWEqStruct
import Derived.Test.YtmgcmknobnonhaaWRepsOne
import Derived.Test.YtmgcmknobnonhaaWInv
import Derived.Test.YtmgcmknobnonhaaWInvWords
import Derived.Test.YtmgcmknobnonhaaWGuard
import Derived.Test.YtmgcmknobnonhaaWNEv
import Derived.Test.YtmgcmknobnonhaaWMore
namespace Go.Proofs.Ytmgcmknobnonhaa.PNumMulDivs
open Go.RowKit Go.Proofs.YtmgcmknobnonhaaW.PrintWords Go.Proofs.YtmgcmknobnonhaaW.PrintLast Go.Proofs.YtmgcmknobnonhaaW.PrintMore
attribute [local go_sem] max2_int min2_int max_two min_two max_three min_three max_four min_four   -- for this text's walks alone
set_option linter.unusedVariables false
set_option linter.unusedSimpArgs false



def errW : Option Int → Value
  | none => .nilIface
  | some c => .iface 0 (.int .i64 c)
theorem errW_none : errW none = .nilIface := rfl
theorem errW_some (c : Int) : errW (some c) = .iface 0 (.int .i64 c) := rfl

theorem info3 : (Try.prog.info? 3).map (fun i => (i.zero, i.size, i.bytes)) = some (some (.int .i64 0), 1, 8) := by kernel_rfl
-- the values' own types

end Go.Proofs.Ytmgcmknobnonhaa.PNumMulDivs
