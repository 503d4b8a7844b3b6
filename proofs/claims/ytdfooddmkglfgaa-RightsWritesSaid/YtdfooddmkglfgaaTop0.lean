/- The walks of Go functions: laid by this session's program (wip/print2.py) out of the translation. -/
import Derived.Test.YtdfooddmkglfgaaProg
import Derived.Test.YtdfooddmkglfgaaGiven
import Derived.Below
import Derived.Deep.Draws
import Derived.Deep.AppendLies
import Derived.Maps.AppendAt
import Derived.OwnWalk
import Derived.Laws.BytesArg
import Derived.Laws.MakeOwn
import Derived.Laws.OwnMore
import Derived.Deep.OwnRows
import Derived.Tactics
import Derived.Lib.ConvBytes
import Derived.Laws.Slices
import Derived.WalkKit
import Derived.KernelRfl
import Derived.RowKit3
import Derived.Deep.LoopGhost
import Derived.Deep.QuietTactic
import Derived.BigQuiet
import Derived.WideLaws
import Derived.Deep.DeepCutAuto
import Derived.Deep.CutBlock
import Derived.Deep.RegionHeld3
import Derived.Laws.Rows
import Derived.Lib.AppendStr
import Derived.ArgAppend
import Derived.Laws.IdiomCopy
import Derived.OrdersHeld
import Derived.Laws.BitsLemmas
import Derived.RowKit
import Derived.Test.YtdfooddmkglfgaaWWords
import Derived.Test.YtdfooddmkglfgaaWLast
import Derived.Test.YtdfooddmkglfgaaWTab
import Derived.Test.YtdfooddmkglfgaaWFour
import Derived.Test.YtdfooddmkglfgaaWQPut
import Derived.Test.YtdfooddmkglfgaaWApart
import Derived.Test.YtdfooddmkglfgaaWArr
import Derived.Test.YtdfooddmkglfgaaWZeros
import Derived.Test.YtdfooddmkglfgaaWFoot
import Derived.Test.YtdfooddmkglfgaaWKept
import Derived.Test.YtdfooddmkglfgaaWShare
import Derived.Test.YtdfooddmkglfgaaWN
import Derived.Test.YtdfooddmkglfgaaWFootNe
import Derived.Test.YtdfooddmkglfgaaWAt
import Derived.Test.YtdfooddmkglfgaaWEqStruct
import Derived.Test.YtdfooddmkglfgaaWRepsOne
import Derived.Test.YtdfooddmkglfgaaWInv
import Derived.Test.YtdfooddmkglfgaaWInvWords
import Derived.Test.YtdfooddmkglfgaaWGuard
import Derived.Test.YtdfooddmkglfgaaWNEv
import Derived.Test.YtdfooddmkglfgaaWMore
namespace Go.Proofs.Ytdfooddmkglfgaa.Top
open Go.Proofs.Ytdfooddmkglfgaa.Given
open Go.RowKit Go.Proofs.YtdfooddmkglfgaaW.PrintWords Go.Proofs.YtdfooddmkglfgaaW.PrintLast Go.Proofs.YtdfooddmkglfgaaW.PrintMore
attribute [local go_sem] max2_int min2_int max_two min_two max_three min_three max_four min_four   -- for this text's walks alone
set_option linter.unusedVariables false
set_option linter.unusedSimpArgs false



def errW : Option Int → Value
  | none => .nilIface
  | some c => .iface 0 (.int .i64 c)
theorem errW_none : errW none = .nilIface := rfl
theorem errW_some (c : Int) : errW (some c) = .iface 0 (.int .i64 c) := rfl

-- the values' own types

end Go.Proofs.Ytdfooddmkglfgaa.Top
