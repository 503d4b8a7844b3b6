/- The walk of the functions that the law reaches: laid by the kit's print, turned by wip/mend.py of this session where a function is called twice with the same arguments. -/
import Derived.Test.YtgbpomcfmcnklaaProg
import Derived.Below
import Derived.Deep.Draws
import Derived.Deep.AppendLies
import Derived.Maps.AppendAt
import Derived.OwnWalk
import Derived.Laws.BytesArg
import Derived.Laws.MakeOwn
import Derived.Laws.OwnMore
import Derived.Deep.OwnRows
import Derived.Tactics
import Derived.Lib.ConvBytes
import Derived.Laws.Slices
import Derived.WalkKit
import Derived.KernelRfl
import Derived.RowKit3
import Derived.Deep.LoopGhost
import Derived.Deep.QuietTactic
import Derived.BigQuiet
import Derived.WideLaws
import Derived.Deep.DeepCutAuto
import Derived.Deep.CutBlock
import Derived.Deep.RegionHeld3
import Derived.Laws.Rows
import Derived.Lib.AppendStr
import Derived.ArgAppend
import Derived.Laws.IdiomCopy
import Derived.OrdersHeld
import Derived.Laws.BitsLemmas
import Derived.RowKit
import Derived.Test.YtgbpomcfmcnklaaWWords
import Derived.Test.YtgbpomcfmcnklaaWLast
import Derived.Test.YtgbpomcfmcnklaaWTab
import Derived.Test.YtgbpomcfmcnklaaWFour
import Derived.Test.YtgbpomcfmcnklaaWQPut
import Derived.Test.YtgbpomcfmcnklaaWApart
import Derived.Test.YtgbpomcfmcnklaaWArr
import Derived.Test.YtgbpomcfmcnklaaWZeros
import Derived.Test.YtgbpomcfmcnklaaWFoot
import Derived.Test.YtgbpomcfmcnklaaWKept
import Derived.Test.YtgbpomcfmcnklaaWShare
import Derived.Test.YtgbpomcfmcnklaaWN
import Derived.Test.YtgbpomcfmcnklaaWFootNe
import Derived.Test.YtgbpomcfmcnklaaWAt
import Derived.Test.YtgbpomcfmcnklaaWEqStruct
import Derived.Test.YtgbpomcfmcnklaaWRepsOne
import Derived.Test.YtgbpomcfmcnklaaWInv
import Derived.Test.YtgbpomcfmcnklaaWInvWords
import Derived.Test.YtgbpomcfmcnklaaWGuard
import Derived.Test.YtgbpomcfmcnklaaWNEv
import Derived.Test.YtgbpomcfmcnklaaWMore
namespace Go.Proofs.Ytgbpomcfmcnklaa.PBitsTogether
open Go.RowKit Go.Proofs.YtgbpomcfmcnklaaW.PrintWords Go.Proofs.YtgbpomcfmcnklaaW.PrintLast Go.Proofs.YtgbpomcfmcnklaaW.PrintMore
attribute [local go_sem] max2_int min2_int max_two min_two max_three min_three max_four min_four   -- for this text's walks alone
set_option linter.unusedVariables false
set_option linter.unusedSimpArgs false



def errW : Option Int → Value
  | none => .nilIface
  | some c => .iface 0 (.int .i64 c)
theorem errW_none : errW none = .nilIface := rfl
theorem errW_some (c : Int) : errW (some c) = .iface 0 (.int .i64 c) := rfl

-- the values' own types

end Go.Proofs.Ytgbpomcfmcnklaa.PBitsTogether
