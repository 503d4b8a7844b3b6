/- The walk of the functions that the law reaches: laid by the kit's print, turned by wip/mend.py of this session where its own end does not fit. -/
import Derived.Test.YtefnfmbmabpkoaaProg
import Derived.Below
import Derived.Deep.Draws
import Derived.Deep.AppendLies
import Derived.Maps.AppendAt
import Derived.OwnWalk
import Derived.Laws.BytesArg
import Derived.Laws.MakeOwn
import Derived.Laws.OwnMore
import Derived.Deep.OwnRows
import Derived.Tactics
import Derived.Lib.ConvBytes
import Derived.Laws.Slices
import Derived.WalkKit
import Derived.KernelRfl
import Derived.RowKit3
import Derived.Deep.LoopGhost
import Derived.Deep.QuietTactic
import Derived.BigQuiet
import Derived.WideLaws
import Derived.Deep.DeepCutAuto
import Derived.Deep.CutBlock
import Derived.Deep.RegionHeld3
import Derived.Laws.Rows
import Derived.Lib.AppendStr
import Derived.ArgAppend
import Derived.Laws.IdiomCopy
import Derived.OrdersHeld
import Derived.Laws.BitsLemmas
import Derived.RowKit
import Derived.Test.YtefnfmbmabpkoaaWWords
import Derived.Test.YtefnfmbmabpkoaaWLast
import Derived.Test.YtefnfmbmabpkoaaWTab
import Derived.Test.YtefnfmbmabpkoaaWFour
import Derived.Test.YtefnfmbmabpkoaaWQPut
import Derived.Test.YtefnfmbmabpkoaaWApart
import Derived.Test.YtefnfmbmabpkoaaWArr
import Derived.Test.YtefnfmbmabpkoaaWZeros
import Derived.Test.YtefnfmbmabpkoaaWFoot
import Derived.Test.YtefnfmbmabpkoaaWKept
import Derived.Test.YtefnfmbmabpkoaaWShare
import Derived.Test.YtefnfmbmabpkoaaWN
import Derived.Test.YtefnfmbmabpkoaaWFootNe
import Derived.Test.YtefnfmbmabpkoaaWAt
import Derived.Test.YtefnfmbmabpkoaaWEqStruct
import Derived.Test.YtefnfmbmabpkoaaWRepsOne
import Derived.Test.YtefnfmbmabpkoaaWInv
import Derived.Test.YtefnfmbmabpkoaaWInvWords
import Derived.Test.YtefnfmbmabpkoaaWGuard
import Derived.Test.YtefnfmbmabpkoaaWNEv
import Derived.Test.YtefnfmbmabpkoaaWMore
namespace Go.Proofs.Ytefnfmbmabpkoaa.PMsgInfos
open Go.RowKit Go.Proofs.YtefnfmbmabpkoaaW.PrintWords Go.Proofs.YtefnfmbmabpkoaaW.PrintLast Go.Proofs.YtefnfmbmabpkoaaW.PrintMore
attribute [local go_sem] max2_int min2_int max_two min_two max_three min_three max_four min_four   -- for this text's walks alone
set_option linter.unusedVariables false
set_option linter.unusedSimpArgs false



def errW : Option Int → Value
  | none => .nilIface
  | some c => .iface 0 (.int .i64 c)
theorem errW_none : errW none = .nilIface := rfl
theorem errW_some (c : Int) : errW (some c) = .iface 0 (.int .i64 c) := rfl

-- the values' own types

end Go.Proofs.Ytefnfmbmabpkoaa.PMsgInfos
