-- PRINTED BY print.sh 35421559b90ae4d0a3588c463048766b98c2df88dd9212a6774a882060cdf62d: not written by this session
import Derived.Test.YtighjodalmdapaaProg
import Derived.Below
import Derived.Deep.Draws
import Derived.Deep.AppendLies
import Derived.Maps.AppendAt
import Derived.OwnWalk
import Derived.Laws.BytesArg
import Derived.Laws.MakeOwn
import Derived.Laws.OwnMore
import Derived.Deep.OwnRows
import Derived.Tactics
import Derived.Lib.ConvBytes
import Derived.Laws.Slices
import Derived.WalkKit
import Derived.KernelRfl
import Derived.RowKit3
import Derived.Deep.LoopGhost
import Derived.Deep.QuietTactic
import Derived.BigQuiet
import Derived.WideLaws
import Derived.Deep.DeepCutAuto
import Derived.Deep.CutBlock
import Derived.Deep.RegionHeld3
import Derived.Laws.Rows
import Derived.Lib.AppendStr
import Derived.ArgAppend
import Derived.Laws.IdiomCopy
import Derived.OrdersHeld
import Derived.Laws.BitsLemmas
import Derived.RowKit
import Derived.Test.YtighjodalmdapaaWWords
import Derived.Test.YtighjodalmdapaaWLast
import Derived.Test.YtighjodalmdapaaWTab
import Derived.Test.YtighjodalmdapaaWFour
import Derived.Test.YtighjodalmdapaaWQPut
import Derived.Test.YtighjodalmdapaaWApart
import Derived.Test.YtighjodalmdapaaWArr
import Derived.Test.YtighjodalmdapaaWZeros
import Derived.Test.YtighjodalmdapaaWFoot
import Derived.Test.YtighjodalmdapaaWKept
import Derived.Test.YtighjodalmdapaaWShare
import Derived.Test.YtighjodalmdapaaWN
import Derived.Test.YtighjodalmdapaaWFootNe
import Derived.Test.YtighjodalmdapaaWAt
import Derived.Test.YtighjodalmdapaaWEqStruct
import Derived.Test.YtighjodalmdapaaWRepsOne
import Derived.Test.YtighjodalmdapaaWInv
import Derived.Test.YtighjodalmdapaaWInvWords
import Derived.Test.YtighjodalmdapaaWGuard
import Derived.Test.YtighjodalmdapaaWNEv
import Derived.Test.YtighjodalmdapaaWMore
namespace Go.Proofs.Ytighjodalmdapaa.PFnExactThen
open Go.RowKit Go.Proofs.YtighjodalmdapaaW.PrintWords Go.Proofs.YtighjodalmdapaaW.PrintLast Go.Proofs.YtighjodalmdapaaW.PrintMore
attribute [local go_sem] max2_int min2_int max_two min_two max_three min_three max_four min_four   -- for this text's walks alone
set_option linter.unusedVariables false
set_option linter.unusedSimpArgs false



def errW : Option Int → Value
  | none => .nilIface
  | some c => .iface 0 (.int .i64 c)
theorem errW_none : errW none = .nilIface := rfl
theorem errW_some (c : Int) : errW (some c) = .iface 0 (.int .i64 c) := rfl

-- the values' own types

end Go.Proofs.Ytighjodalmdapaa.PFnExactThen
