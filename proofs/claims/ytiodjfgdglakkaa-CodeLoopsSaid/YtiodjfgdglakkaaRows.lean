/-
  No cell of these rows narrows 'for every input' (looked for: loops, veiled, ifaces, maps, wideKeys, modest, calm, conditions, laid).
  DERIVED. THE GIVEN ROWS OF THIS SEAT. 7 by the template 'for every input the law returns true; each argument reads behind the call as it read before'; 0 by the template 'total and deterministic' (their statements: YtiodjfgdglakkaaTotals.lean).
  GIVEN WITH THE SEED: the statements are not yours to turn. If you find one false, say at which input.
  Laid BY PROGRAM, IN A SANDBOX (cutbox-rows.mjs): the forced cells as the released guide's own fill.sh prints them over the translation 7ee12b240f959837… (all of the seat's roots in one cut). By AI agents, Wed Nov 11 2026. No macro, syntax, notation, axiom, sorry.
-/
import Derived.Test.YtiodjfgdglakkaaChecked
import GoSem.Claim
import GoSem.ClaimJoined
import GoSem.ClaimMapViews
import Derived.JoinedTies
import Derived.KernelRfl
namespace Go.Proofs.Ytiodjfgdglakkaa
/- THE CELL 'sum', in the pinned program and in every row, IS THE sha256 OF THE DUMP (.gsa) THAT YtiodjfgdglakkaaProg.lean LOADS. Nothing in Lean hashes anything: it is a label: what it is worth is what the hold of that sum in a sandbox is worth. -/
noncomputable def Try.pinned : Pinned := { name := "ytiodjfgdglakkaa", sum := "7ee12b240f959837694b17a0bc10872d9f95e5cb65ba63fdcf936d3eafe47696", checked := Try.checked }
namespace Rows
def none {H : Type} : Left H := { results := [], args := [] }

/-- 'donjonlaw23.CodeWords': WHATEVER THE INPUT: true; the input reads as it did. -/
def codeWordsSpec : ChangeSpec := { name := "codeWords", fn := fun _ => fun
  | [d1, d2] => { results := [.lit (.bool true)], args := [d1, d2] }
  | _ => none }
def codeWordsRow : OpenClaim := { program := "ytiodjfgdglakkaa", sum := "7ee12b240f959837694b17a0bc10872d9f95e5cb65ba63fdcf936d3eafe47696", func := "donjon/donjonlaw23.CodeWords", spec := "codeWords", apart := false }
def CodeWordsSaid : Prop := codeWordsRow.holds Try.pinned (OpenSpec.ofChange codeWordsSpec)

/-- ITS FALSE NEIGHBOUR: 'it returns false'. Refute it at one input. -/
def codeWordsWrong : ChangeSpec := { name := "codeWords", fn := fun _ => fun
  | [d1, d2] => { results := [.lit (.bool false)], args := [d1, d2] }
  | _ => none }
def CodeWordsWrongFalsely : Prop := codeWordsRow.holds Try.pinned (OpenSpec.ofChange codeWordsWrong)

/-- 'donjonlaw23.CodeRuns': WHATEVER THE INPUT: true; the input reads as it did. -/
def codeRunsSpec : ChangeSpec := { name := "codeRuns", fn := fun _ => fun
  | [d1, d2, d3] => { results := [.lit (.bool true)], args := [d1, d2, d3] }
  | _ => none }
def codeRunsRow : OpenClaim := { program := "ytiodjfgdglakkaa", sum := "7ee12b240f959837694b17a0bc10872d9f95e5cb65ba63fdcf936d3eafe47696", func := "donjon/donjonlaw23.CodeRuns", spec := "codeRuns", apart := false }
def CodeRunsSaid : Prop := codeRunsRow.holds Try.pinned (OpenSpec.ofChange codeRunsSpec)

/-- ITS FALSE NEIGHBOUR: 'it returns false'. Refute it at one input. -/
def codeRunsWrong : ChangeSpec := { name := "codeRuns", fn := fun _ => fun
  | [d1, d2, d3] => { results := [.lit (.bool false)], args := [d1, d2, d3] }
  | _ => none }
def CodeRunsWrongFalsely : Prop := codeRunsRow.holds Try.pinned (OpenSpec.ofChange codeRunsWrong)

/-- 'donjonlaw23.CodeBack': WHATEVER THE INPUT: true; the input reads as it did. -/
def codeBackSpec : ChangeSpec := { name := "codeBack", fn := fun _ => fun
  | [d1, d2] => { results := [.lit (.bool true)], args := [d1, d2] }
  | _ => none }
def codeBackRow : OpenClaim := { program := "ytiodjfgdglakkaa", sum := "7ee12b240f959837694b17a0bc10872d9f95e5cb65ba63fdcf936d3eafe47696", func := "donjon/donjonlaw23.CodeBack", spec := "codeBack", apart := false }
def CodeBackSaid : Prop := codeBackRow.holds Try.pinned (OpenSpec.ofChange codeBackSpec)

/-- ITS FALSE NEIGHBOUR: 'it returns false'. Refute it at one input. -/
def codeBackWrong : ChangeSpec := { name := "codeBack", fn := fun _ => fun
  | [d1, d2] => { results := [.lit (.bool false)], args := [d1, d2] }
  | _ => none }
def CodeBackWrongFalsely : Prop := codeBackRow.holds Try.pinned (OpenSpec.ofChange codeBackWrong)

/-- 'donjonlaw23.CodeOne': WHATEVER THE INPUT: true; the input reads as it did. -/
def codeOneSpec : ChangeSpec := { name := "codeOne", fn := fun _ => fun
  | [d1, d2, d3] => { results := [.lit (.bool true)], args := [d1, d2, d3] }
  | _ => none }
def codeOneRow : OpenClaim := { program := "ytiodjfgdglakkaa", sum := "7ee12b240f959837694b17a0bc10872d9f95e5cb65ba63fdcf936d3eafe47696", func := "donjon/donjonlaw23.CodeOne", spec := "codeOne", apart := false }
def CodeOneSaid : Prop := codeOneRow.holds Try.pinned (OpenSpec.ofChange codeOneSpec)

/-- ITS FALSE NEIGHBOUR: 'it returns false'. Refute it at one input. -/
def codeOneWrong : ChangeSpec := { name := "codeOne", fn := fun _ => fun
  | [d1, d2, d3] => { results := [.lit (.bool false)], args := [d1, d2, d3] }
  | _ => none }
def CodeOneWrongFalsely : Prop := codeOneRow.holds Try.pinned (OpenSpec.ofChange codeOneWrong)

/-- 'donjonlaw23.CodeLoops': WHATEVER THE INPUT: true; the input reads as it did. -/
def codeLoopsSpec : ChangeSpec := { name := "codeLoops", fn := fun _ => fun
  | [d1, d2] => { results := [.lit (.bool true)], args := [d1, d2] }
  | _ => none }
def codeLoopsRow : OpenClaim := { program := "ytiodjfgdglakkaa", sum := "7ee12b240f959837694b17a0bc10872d9f95e5cb65ba63fdcf936d3eafe47696", func := "donjon/donjonlaw23.CodeLoops", spec := "codeLoops", apart := false }
def CodeLoopsSaid : Prop := codeLoopsRow.holds Try.pinned (OpenSpec.ofChange codeLoopsSpec)

/-- ITS FALSE NEIGHBOUR: 'it returns false'. Refute it at one input. -/
def codeLoopsWrong : ChangeSpec := { name := "codeLoops", fn := fun _ => fun
  | [d1, d2] => { results := [.lit (.bool false)], args := [d1, d2] }
  | _ => none }
def CodeLoopsWrongFalsely : Prop := codeLoopsRow.holds Try.pinned (OpenSpec.ofChange codeLoopsWrong)

/-- 'donjonlaw23.CodeConsts': WHATEVER THE INPUT: true; the input reads as it did. -/
def codeConstsSpec : ChangeSpec := { name := "codeConsts", fn := fun _ => fun
  | [d1, d2] => { results := [.lit (.bool true)], args := [d1, d2] }
  | _ => none }
def codeConstsRow : OpenClaim := { program := "ytiodjfgdglakkaa", sum := "7ee12b240f959837694b17a0bc10872d9f95e5cb65ba63fdcf936d3eafe47696", func := "donjon/donjonlaw23.CodeConsts", spec := "codeConsts", apart := false }
def CodeConstsSaid : Prop := codeConstsRow.holds Try.pinned (OpenSpec.ofChange codeConstsSpec)

/-- ITS FALSE NEIGHBOUR: 'it returns false'. Refute it at one input. -/
def codeConstsWrong : ChangeSpec := { name := "codeConsts", fn := fun _ => fun
  | [d1, d2] => { results := [.lit (.bool false)], args := [d1, d2] }
  | _ => none }
def CodeConstsWrongFalsely : Prop := codeConstsRow.holds Try.pinned (OpenSpec.ofChange codeConstsWrong)

/-- 'donjonlaw23.CodeSwaps': WHATEVER THE INPUT: true; the input reads as it did. -/
def codeSwapsSpec : ChangeSpec := { name := "codeSwaps", fn := fun _ => fun
  | [d1, d2] => { results := [.lit (.bool true)], args := [d1, d2] }
  | _ => none }
def codeSwapsRow : OpenClaim := { program := "ytiodjfgdglakkaa", sum := "7ee12b240f959837694b17a0bc10872d9f95e5cb65ba63fdcf936d3eafe47696", func := "donjon/donjonlaw23.CodeSwaps", spec := "codeSwaps", apart := false }
def CodeSwapsSaid : Prop := codeSwapsRow.holds Try.pinned (OpenSpec.ofChange codeSwapsSpec)

/-- ITS FALSE NEIGHBOUR: 'it returns false'. Refute it at one input. -/
def codeSwapsWrong : ChangeSpec := { name := "codeSwaps", fn := fun _ => fun
  | [d1, d2] => { results := [.lit (.bool false)], args := [d1, d2] }
  | _ => none }
def CodeSwapsWrongFalsely : Prop := codeSwapsRow.holds Try.pinned (OpenSpec.ofChange codeSwapsWrong)

/- THE SECOND FORM. 'bulk': how many values and letters a reading holds, each counted each time it is reached (what is shared counts as often as it is met; a slice's spare places count too). A statement '..UptoSaid' is the law's where the arguments, and the package variables that the reading takes, are together of bulk at most 1048576: NARROWER than '..Said'. Prove '..Said' where nothing that the law and all that it calls make is longer than what came in: it says more and counts as full. Else prove '..UptoSaid'. A law counts once. -/
mutual
def uptoBulk {H : Type} : DataW H → Nat
  | .lit (.string bytes) => bytes.length + 1
  | .lit _ => 1
  | .nil => 1
  | .ptr d => uptoBulk d + 1
  | .slice elems spare => uptoBulkAll elems + uptoBulkAll spare + 1
  | .agg parts => uptoBulkAll parts + 1
  | .iface _ d => uptoBulk d + 1
  | .map entries => uptoBulkEntries entries + 1
  | .held _ => 1
def uptoBulkAll {H : Type} : List (DataW H) → Nat
  | [] => 0
  | d :: r => uptoBulk d + uptoBulkAll r
def uptoBulkEntries {H : Type} : List (Lit × DataW H) → Nat
  | [] => 0
  | x :: r => uptoBulkEntry x + uptoBulkEntries r
def uptoBulkEntry {H : Type} : Lit × DataW H → Nat
  | (.string bytes, d) => bytes.length + uptoBulk d + 1
  | (_, d) => uptoBulk d + 1
 end
def uptoSmall : (H : Type) → List (DataW H) → Bool := fun _ ds => decide (uptoBulkAll ds ≤ 1048576)
def OpenSpec.upto (s : _root_.Go.ChangeSpec) : _root_.Go.OpenSpec := { _root_.Go.OpenSpec.ofChange s with cond := some uptoSmall }

/-- 'donjonlaw23.CodeWords', WHERE WHAT IT READS IS OF BULK AT MOST 1048576: true; the input reads as it did. -/
def codeWordsUptoRow : OpenClaim := { program := "ytiodjfgdglakkaa", sum := "7ee12b240f959837694b17a0bc10872d9f95e5cb65ba63fdcf936d3eafe47696", func := "donjon/donjonlaw23.CodeWords", spec := "codeWords", apart := false, narrowed := true }
def CodeWordsUptoSaid : Prop := codeWordsUptoRow.holds Try.pinned (OpenSpec.upto codeWordsSpec)

/-- 'donjonlaw23.CodeRuns', WHERE WHAT IT READS IS OF BULK AT MOST 1048576: true; the input reads as it did. -/
def codeRunsUptoRow : OpenClaim := { program := "ytiodjfgdglakkaa", sum := "7ee12b240f959837694b17a0bc10872d9f95e5cb65ba63fdcf936d3eafe47696", func := "donjon/donjonlaw23.CodeRuns", spec := "codeRuns", apart := false, narrowed := true }
def CodeRunsUptoSaid : Prop := codeRunsUptoRow.holds Try.pinned (OpenSpec.upto codeRunsSpec)

/-- 'donjonlaw23.CodeBack', WHERE WHAT IT READS IS OF BULK AT MOST 1048576: true; the input reads as it did. -/
def codeBackUptoRow : OpenClaim := { program := "ytiodjfgdglakkaa", sum := "7ee12b240f959837694b17a0bc10872d9f95e5cb65ba63fdcf936d3eafe47696", func := "donjon/donjonlaw23.CodeBack", spec := "codeBack", apart := false, narrowed := true }
def CodeBackUptoSaid : Prop := codeBackUptoRow.holds Try.pinned (OpenSpec.upto codeBackSpec)

/-- 'donjonlaw23.CodeOne', WHERE WHAT IT READS IS OF BULK AT MOST 1048576: true; the input reads as it did. -/
def codeOneUptoRow : OpenClaim := { program := "ytiodjfgdglakkaa", sum := "7ee12b240f959837694b17a0bc10872d9f95e5cb65ba63fdcf936d3eafe47696", func := "donjon/donjonlaw23.CodeOne", spec := "codeOne", apart := false, narrowed := true }
def CodeOneUptoSaid : Prop := codeOneUptoRow.holds Try.pinned (OpenSpec.upto codeOneSpec)

/-- 'donjonlaw23.CodeLoops', WHERE WHAT IT READS IS OF BULK AT MOST 1048576: true; the input reads as it did. -/
def codeLoopsUptoRow : OpenClaim := { program := "ytiodjfgdglakkaa", sum := "7ee12b240f959837694b17a0bc10872d9f95e5cb65ba63fdcf936d3eafe47696", func := "donjon/donjonlaw23.CodeLoops", spec := "codeLoops", apart := false, narrowed := true }
def CodeLoopsUptoSaid : Prop := codeLoopsUptoRow.holds Try.pinned (OpenSpec.upto codeLoopsSpec)

/-- 'donjonlaw23.CodeConsts', WHERE WHAT IT READS IS OF BULK AT MOST 1048576: true; the input reads as it did. -/
def codeConstsUptoRow : OpenClaim := { program := "ytiodjfgdglakkaa", sum := "7ee12b240f959837694b17a0bc10872d9f95e5cb65ba63fdcf936d3eafe47696", func := "donjon/donjonlaw23.CodeConsts", spec := "codeConsts", apart := false, narrowed := true }
def CodeConstsUptoSaid : Prop := codeConstsUptoRow.holds Try.pinned (OpenSpec.upto codeConstsSpec)

/-- 'donjonlaw23.CodeSwaps', WHERE WHAT IT READS IS OF BULK AT MOST 1048576: true; the input reads as it did. -/
def codeSwapsUptoRow : OpenClaim := { program := "ytiodjfgdglakkaa", sum := "7ee12b240f959837694b17a0bc10872d9f95e5cb65ba63fdcf936d3eafe47696", func := "donjon/donjonlaw23.CodeSwaps", spec := "codeSwaps", apart := false, narrowed := true }
def CodeSwapsUptoSaid : Prop := codeSwapsUptoRow.holds Try.pinned (OpenSpec.upto codeSwapsSpec)

end Rows
end Go.Proofs.Ytiodjfgdglakkaa
