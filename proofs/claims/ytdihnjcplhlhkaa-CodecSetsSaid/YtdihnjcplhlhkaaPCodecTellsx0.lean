-- PRINTED BY print.sh 35421559b90ae4d0a3588c463048766b98c2df88dd9212a6774a882060cdf62d: not written by this session
import Derived.Test.YtdihnjcplhlhkaaProg
import Derived.Below
import Derived.Deep.Draws
import Derived.Deep.AppendLies
import Derived.Maps.AppendAt
import Derived.OwnWalk
import Derived.Laws.BytesArg
import Derived.Laws.MakeOwn
import Derived.Laws.OwnMore
import Derived.Deep.OwnRows
import Derived.Tactics
import Derived.Lib.ConvBytes
import Derived.Laws.Slices
import Derived.WalkKit
import Derived.KernelRfl
import Derived.RowKit3
import Derived.Deep.LoopGhost
import Derived.Deep.QuietTactic
import Derived.BigQuiet
import Derived.WideLaws
import Derived.Deep.DeepCutAuto
import Derived.Deep.CutBlock
import Derived.Deep.RegionHeld3
import Derived.Laws.Rows
import Derived.Lib.AppendStr
import Derived.ArgAppend
import Derived.Laws.IdiomCopy
import Derived.OrdersHeld
import Derived.Laws.BitsLemmas
import Derived.RowKit
import Derived.Test.YtdihnjcplhlhkaaWWords
import Derived.Test.YtdihnjcplhlhkaaWLast
import Derived.Test.YtdihnjcplhlhkaaWTab
import Derived.Test.YtdihnjcplhlhkaaWFour
import Derived.Test.YtdihnjcplhlhkaaWQPut
import Derived.Test.YtdihnjcplhlhkaaWApart
import Derived.Test.YtdihnjcplhlhkaaWArr
import Derived.Test.YtdihnjcplhlhkaaWZeros
import Derived.Test.YtdihnjcplhlhkaaWFoot
import Derived.Test.YtdihnjcplhlhkaaWKept
import Derived.Test.YtdihnjcplhlhkaaWShare
import Derived.Test.YtdihnjcplhlhkaaWN
import Derived.Test.YtdihnjcplhlhkaaWFootNe
import Derived.Test.YtdihnjcplhlhkaaWAt
import Derived.Test.YtdihnjcplhlhkaaWEqStruct
import Derived.Test.YtdihnjcplhlhkaaWRepsOne
import Derived.Test.YtdihnjcplhlhkaaWInv
import Derived.Test.YtdihnjcplhlhkaaWInvWords
import Derived.Test.YtdihnjcplhlhkaaWGuard
import Derived.Test.YtdihnjcplhlhkaaWNEv
import Derived.Test.YtdihnjcplhlhkaaWMore
namespace Go.Proofs.Ytdihnjcplhlhkaa.PCodecTells
open Go.RowKit Go.Proofs.YtdihnjcplhlhkaaW.PrintWords Go.Proofs.YtdihnjcplhlhkaaW.PrintLast Go.Proofs.YtdihnjcplhlhkaaW.PrintMore
attribute [local go_sem] max2_int min2_int max_two min_two max_three min_three max_four min_four   -- for this text's walks alone
set_option linter.unusedVariables false
set_option linter.unusedSimpArgs false



def errW : Option Int → Value
  | none => .nilIface
  | some c => .iface 0 (.int .i64 c)
theorem errW_none : errW none = .nilIface := rfl
theorem errW_some (c : Int) : errW (some c) = .iface 0 (.int .i64 c) := rfl

theorem info5 : (Try.prog.info? 5).map (fun i => (i.zero, i.size, i.bytes)) = some (some (.int .u8 0), 1, 1) := by kernel_rfl
-- the values' own types

end Go.Proofs.Ytdihnjcplhlhkaa.PCodecTells
