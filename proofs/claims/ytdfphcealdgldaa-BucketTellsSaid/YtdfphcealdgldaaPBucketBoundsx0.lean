-- PRINTED BY print.sh 35421559b90ae4d0a3588c463048766b98c2df88dd9212a6774a882060cdf62d: not written by this session
import Derived.Test.YtdfphcealdgldaaProg
import Derived.Below
import Derived.Deep.Draws
import Derived.Deep.AppendLies
import Derived.Maps.AppendAt
import Derived.OwnWalk
import Derived.Laws.BytesArg
import Derived.Laws.MakeOwn
import Derived.Laws.OwnMore
import Derived.Deep.OwnRows
import Derived.Tactics
import Derived.Lib.ConvBytes
import Derived.Laws.Slices
import Derived.WalkKit
import Derived.KernelRfl
import Derived.RowKit3
import Derived.Deep.LoopGhost
import Derived.Deep.QuietTactic
import Derived.BigQuiet
import Derived.WideLaws
import Derived.Deep.DeepCutAuto
import Derived.Deep.CutBlock
import Derived.Deep.RegionHeld3
import Derived.Laws.Rows
import Derived.Lib.AppendStr
import Derived.ArgAppend
import Derived.Laws.IdiomCopy
import Derived.OrdersHeld
import Derived.Laws.BitsLemmas
import Derived.RowKit
import Derived.Test.YtdfphcealdgldaaWWords
import Derived.Test.YtdfphcealdgldaaWLast
import Derived.Test.YtdfphcealdgldaaWTab
import Derived.Test.YtdfphcealdgldaaWFour
import Derived.Test.YtdfphcealdgldaaWQPut
import Derived.Test.YtdfphcealdgldaaWApart
import Derived.Test.YtdfphcealdgldaaWArr
import Derived.Test.YtdfphcealdgldaaWZeros
import Derived.Test.YtdfphcealdgldaaWFoot
import Derived.Test.YtdfphcealdgldaaWKept
import Derived.Test.YtdfphcealdgldaaWShare
import Derived.Test.YtdfphcealdgldaaWN
import Derived.Test.YtdfphcealdgldaaWFootNe
import Derived.Test.YtdfphcealdgldaaWAt
import Derived.Test.YtdfphcealdgldaaWEqStruct
import Derived.Test.YtdfphcealdgldaaWRepsOne
import Derived.Test.YtdfphcealdgldaaWInv
import Derived.Test.YtdfphcealdgldaaWInvWords
import Derived.Test.YtdfphcealdgldaaWGuard
import Derived.Test.YtdfphcealdgldaaWNEv
import Derived.Test.YtdfphcealdgldaaWMore
namespace Go.Proofs.Ytdfphcealdgldaa.PBucketBounds
open Go.RowKit Go.Proofs.YtdfphcealdgldaaW.PrintWords Go.Proofs.YtdfphcealdgldaaW.PrintLast Go.Proofs.YtdfphcealdgldaaW.PrintMore
attribute [local go_sem] max2_int min2_int max_two min_two max_three min_three max_four min_four   -- for this text's walks alone
set_option linter.unusedVariables false
set_option linter.unusedSimpArgs false



def errW : Option Int → Value
  | none => .nilIface
  | some c => .iface 0 (.int .i64 c)
theorem errW_none : errW none = .nilIface := rfl
theorem errW_some (c : Int) : errW (some c) = .iface 0 (.int .i64 c) := rfl

-- the values' own types

end Go.Proofs.Ytdfphcealdgldaa.PBucketBounds
