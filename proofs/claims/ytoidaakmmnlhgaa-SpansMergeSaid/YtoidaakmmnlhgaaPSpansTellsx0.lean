-- PRINTED BY print.sh 35421559b90ae4d0a3588c463048766b98c2df88dd9212a6774a882060cdf62d: not written by this session
import Derived.Test.YtoidaakmmnlhgaaProg
import Derived.Below
import Derived.Deep.Draws
import Derived.Deep.AppendLies
import Derived.Maps.AppendAt
import Derived.OwnWalk
import Derived.Laws.BytesArg
import Derived.Laws.MakeOwn
import Derived.Laws.OwnMore
import Derived.Deep.OwnRows
import Derived.Tactics
import Derived.Lib.ConvBytes
import Derived.Laws.Slices
import Derived.WalkKit
import Derived.KernelRfl
import Derived.RowKit3
import Derived.Deep.LoopGhost
import Derived.Deep.QuietTactic
import Derived.BigQuiet
import Derived.WideLaws
import Derived.Deep.DeepCutAuto
import Derived.Deep.CutBlock
import Derived.Deep.RegionHeld3
import Derived.Laws.Rows
import Derived.Lib.AppendStr
import Derived.ArgAppend
import Derived.Laws.IdiomCopy
import Derived.OrdersHeld
import Derived.Laws.BitsLemmas
import Derived.RowKit
import Derived.Test.YtoidaakmmnlhgaaWWords
import Derived.Test.YtoidaakmmnlhgaaWLast
import Derived.Test.YtoidaakmmnlhgaaWTab
import Derived.Test.YtoidaakmmnlhgaaWFour
import Derived.Test.YtoidaakmmnlhgaaWQPut
import Derived.Test.YtoidaakmmnlhgaaWApart
import Derived.Test.YtoidaakmmnlhgaaWArr
import Derived.Test.YtoidaakmmnlhgaaWZeros
import Derived.Test.YtoidaakmmnlhgaaWFoot
import Derived.Test.YtoidaakmmnlhgaaWKept
import Derived.Test.YtoidaakmmnlhgaaWShare
import Derived.Test.YtoidaakmmnlhgaaWN
import Derived.Test.YtoidaakmmnlhgaaWFootNe
import Derived.Test.YtoidaakmmnlhgaaWAt
import Derived.Test.YtoidaakmmnlhgaaWEqStruct
import Derived.Test.YtoidaakmmnlhgaaWRepsOne
import Derived.Test.YtoidaakmmnlhgaaWInv
import Derived.Test.YtoidaakmmnlhgaaWInvWords
import Derived.Test.YtoidaakmmnlhgaaWGuard
import Derived.Test.YtoidaakmmnlhgaaWNEv
import Derived.Test.YtoidaakmmnlhgaaWMore
namespace Go.Proofs.Ytoidaakmmnlhgaa.PSpansTells
open Go.RowKit Go.Proofs.YtoidaakmmnlhgaaW.PrintWords Go.Proofs.YtoidaakmmnlhgaaW.PrintLast Go.Proofs.YtoidaakmmnlhgaaW.PrintMore
attribute [local go_sem] max2_int min2_int max_two min_two max_three min_three max_four min_four   -- for this text's walks alone
set_option linter.unusedVariables false
set_option linter.unusedSimpArgs false



def errW : Option Int → Value
  | none => .nilIface
  | some c => .iface 0 (.int .i64 c)
theorem errW_none : errW none = .nilIface := rfl
theorem errW_some (c : Int) : errW (some c) = .iface 0 (.int .i64 c) := rfl

theorem info2 : (Try.prog.info? 2).map (fun i => (i.zero, i.size, i.bytes)) = some (some (.int .i64 0), 1, 8) := by kernel_rfl
-- the values' own types

end Go.Proofs.Ytoidaakmmnlhgaa.PSpansTells
