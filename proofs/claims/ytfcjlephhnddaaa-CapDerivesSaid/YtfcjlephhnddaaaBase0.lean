/- The walks of Go functions: laid by this session's program (wip/print2.py) out of the translation. -/
import Derived.Test.YtfcjlephhnddaaaProg
import Derived.Below
import Derived.Deep.Draws
import Derived.Deep.AppendLies
import Derived.Maps.AppendAt
import Derived.OwnWalk
import Derived.Laws.BytesArg
import Derived.Laws.MakeOwn
import Derived.Laws.OwnMore
import Derived.Deep.OwnRows
import Derived.Tactics
import Derived.Lib.ConvBytes
import Derived.Laws.Slices
import Derived.WalkKit
import Derived.KernelRfl
import Derived.RowKit3
import Derived.Deep.LoopGhost
import Derived.Deep.QuietTactic
import Derived.BigQuiet
import Derived.WideLaws
import Derived.Deep.DeepCutAuto
import Derived.Deep.CutBlock
import Derived.Deep.RegionHeld3
import Derived.Laws.Rows
import Derived.Lib.AppendStr
import Derived.ArgAppend
import Derived.Laws.IdiomCopy
import Derived.OrdersHeld
import Derived.Laws.BitsLemmas
import Derived.RowKit
import Derived.Test.YtfcjlephhnddaaaWWords
import Derived.Test.YtfcjlephhnddaaaWLast
import Derived.Test.YtfcjlephhnddaaaWTab
import Derived.Test.YtfcjlephhnddaaaWFour
import Derived.Test.YtfcjlephhnddaaaWQPut
import Derived.Test.YtfcjlephhnddaaaWApart
import Derived.Test.YtfcjlephhnddaaaWArr
import Derived.Test.YtfcjlephhnddaaaWZeros
import Derived.Test.YtfcjlephhnddaaaWFoot
import Derived.Test.YtfcjlephhnddaaaWKept
import Derived.Test.YtfcjlephhnddaaaWShare
import Derived.Test.YtfcjlephhnddaaaWN
import Derived.Test.YtfcjlephhnddaaaWFootNe
import Derived.Test.YtfcjlephhnddaaaWAt
import Derived.Test.YtfcjlephhnddaaaWEqStruct
import Derived.Test.YtfcjlephhnddaaaWRepsOne
import Derived.Test.YtfcjlephhnddaaaWInv
import Derived.Test.YtfcjlephhnddaaaWInvWords
import Derived.Test.YtfcjlephhnddaaaWGuard
import Derived.Test.YtfcjlephhnddaaaWNEv
import Derived.Test.YtfcjlephhnddaaaWMore
namespace Go.Proofs.Ytfcjlephhnddaaa.Base
open Go.RowKit Go.Proofs.YtfcjlephhnddaaaW.PrintWords Go.Proofs.YtfcjlephhnddaaaW.PrintLast Go.Proofs.YtfcjlephhnddaaaW.PrintMore
attribute [local go_sem] max2_int min2_int max_two min_two max_three min_three max_four min_four   -- for this text's walks alone
set_option linter.unusedVariables false
set_option linter.unusedSimpArgs false



def errW : Option Int → Value
  | none => .nilIface
  | some c => .iface 0 (.int .i64 c)
theorem errW_none : errW none = .nilIface := rfl
theorem errW_some (c : Int) : errW (some c) = .iface 0 (.int .i64 c) := rfl

-- the values' own types

end Go.Proofs.Ytfcjlephhnddaaa.Base
