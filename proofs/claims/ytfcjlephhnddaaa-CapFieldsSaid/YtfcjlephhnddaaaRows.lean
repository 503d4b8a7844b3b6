/-
  No cell of these rows narrows 'for every input' (looked for: loops, veiled, ifaces, maps, wideKeys, modest, calm, conditions, laid).
  DERIVED. THE GIVEN ROWS OF THIS SEAT. 7 by the template 'for every input the law returns true; each argument reads behind the call as it read before'; 0 by the template 'total and deterministic' (their statements: YtfcjlephhnddaaaTotals.lean).
  GIVEN WITH THE SEED: the statements are not yours to turn. If you find one false, say at which input.
  Laid BY PROGRAM, IN A SANDBOX (cutbox-rows.mjs): the forced cells as the released guide's own fill.sh prints them over the translation 6b9187d1627ae8e6… (all of the seat's roots in one cut). By AI agents, Wed Nov 11 2026. No macro, syntax, notation, axiom, sorry.
-/
import Derived.Test.YtfcjlephhnddaaaChecked
import GoSem.Claim
import GoSem.ClaimJoined
import GoSem.ClaimMapViews
import Derived.JoinedTies
import Derived.KernelRfl
namespace Go.Proofs.Ytfcjlephhnddaaa
/- THE CELL 'sum', in the pinned program and in every row, IS THE sha256 OF THE DUMP (.gsa) THAT YtfcjlephhnddaaaProg.lean LOADS. Nothing in Lean hashes anything: it is a label: what it is worth is what the hold of that sum in a sandbox is worth. -/
noncomputable def Try.pinned : Pinned := { name := "ytfcjlephhnddaaa", sum := "6b9187d1627ae8e6635a069ac8a84108e34c512a55a1fadebff6cb96da69fb8a", checked := Try.checked }
namespace Rows
def none {H : Type} : Left H := { results := [], args := [] }

/-- 'donjonlaw05.CapDerives': WHATEVER THE INPUT: true; the input reads as it did. -/
def capDerivesSpec : ChangeSpec := { name := "capDerives", fn := fun _ => fun
  | [d1, d2, d3] => { results := [.lit (.bool true)], args := [d1, d2, d3] }
  | _ => none }
def capDerivesRow : OpenClaim := { program := "ytfcjlephhnddaaa", sum := "6b9187d1627ae8e6635a069ac8a84108e34c512a55a1fadebff6cb96da69fb8a", func := "donjon/donjonlaw05.CapDerives", spec := "capDerives", apart := false }
def CapDerivesSaid : Prop := capDerivesRow.holds Try.pinned (OpenSpec.ofChange capDerivesSpec)

/-- ITS FALSE NEIGHBOUR: 'it returns false'. Refute it at one input. -/
def capDerivesWrong : ChangeSpec := { name := "capDerives", fn := fun _ => fun
  | [d1, d2, d3] => { results := [.lit (.bool false)], args := [d1, d2, d3] }
  | _ => none }
def CapDerivesWrongFalsely : Prop := capDerivesRow.holds Try.pinned (OpenSpec.ofChange capDerivesWrong)

/-- 'donjonlaw05.CapWords': WHATEVER THE INPUT: true; the input reads as it did. -/
def capWordsSpec : ChangeSpec := { name := "capWords", fn := fun _ => fun
  | [d1, d2, d3] => { results := [.lit (.bool true)], args := [d1, d2, d3] }
  | _ => none }
def capWordsRow : OpenClaim := { program := "ytfcjlephhnddaaa", sum := "6b9187d1627ae8e6635a069ac8a84108e34c512a55a1fadebff6cb96da69fb8a", func := "donjon/donjonlaw05.CapWords", spec := "capWords", apart := false }
def CapWordsSaid : Prop := capWordsRow.holds Try.pinned (OpenSpec.ofChange capWordsSpec)

/-- ITS FALSE NEIGHBOUR: 'it returns false'. Refute it at one input. -/
def capWordsWrong : ChangeSpec := { name := "capWords", fn := fun _ => fun
  | [d1, d2, d3] => { results := [.lit (.bool false)], args := [d1, d2, d3] }
  | _ => none }
def CapWordsWrongFalsely : Prop := capWordsRow.holds Try.pinned (OpenSpec.ofChange capWordsWrong)

/-- 'donjonlaw05.CapBack': WHATEVER THE INPUT: true; the input reads as it did. -/
def capBackSpec : ChangeSpec := { name := "capBack", fn := fun _ => fun
  | [d1, d2, d3] => { results := [.lit (.bool true)], args := [d1, d2, d3] }
  | _ => none }
def capBackRow : OpenClaim := { program := "ytfcjlephhnddaaa", sum := "6b9187d1627ae8e6635a069ac8a84108e34c512a55a1fadebff6cb96da69fb8a", func := "donjon/donjonlaw05.CapBack", spec := "capBack", apart := false }
def CapBackSaid : Prop := capBackRow.holds Try.pinned (OpenSpec.ofChange capBackSpec)

/-- ITS FALSE NEIGHBOUR: 'it returns false'. Refute it at one input. -/
def capBackWrong : ChangeSpec := { name := "capBack", fn := fun _ => fun
  | [d1, d2, d3] => { results := [.lit (.bool false)], args := [d1, d2, d3] }
  | _ => none }
def CapBackWrongFalsely : Prop := capBackRow.holds Try.pinned (OpenSpec.ofChange capBackWrong)

/-- 'donjonlaw05.CapLess': WHATEVER THE INPUT: true; the input reads as it did. -/
def capLessSpec : ChangeSpec := { name := "capLess", fn := fun _ => fun
  | [d1, d2, d3] => { results := [.lit (.bool true)], args := [d1, d2, d3] }
  | _ => none }
def capLessRow : OpenClaim := { program := "ytfcjlephhnddaaa", sum := "6b9187d1627ae8e6635a069ac8a84108e34c512a55a1fadebff6cb96da69fb8a", func := "donjon/donjonlaw05.CapLess", spec := "capLess", apart := false }
def CapLessSaid : Prop := capLessRow.holds Try.pinned (OpenSpec.ofChange capLessSpec)

/-- ITS FALSE NEIGHBOUR: 'it returns false'. Refute it at one input. -/
def capLessWrong : ChangeSpec := { name := "capLess", fn := fun _ => fun
  | [d1, d2, d3] => { results := [.lit (.bool false)], args := [d1, d2, d3] }
  | _ => none }
def CapLessWrongFalsely : Prop := capLessRow.holds Try.pinned (OpenSpec.ofChange capLessWrong)

/-- 'donjonlaw05.CapOrder': WHATEVER THE INPUT: true; the input reads as it did. -/
def capOrderSpec : ChangeSpec := { name := "capOrder", fn := fun _ => fun
  | [d1, d2, d3] => { results := [.lit (.bool true)], args := [d1, d2, d3] }
  | _ => none }
def capOrderRow : OpenClaim := { program := "ytfcjlephhnddaaa", sum := "6b9187d1627ae8e6635a069ac8a84108e34c512a55a1fadebff6cb96da69fb8a", func := "donjon/donjonlaw05.CapOrder", spec := "capOrder", apart := false }
def CapOrderSaid : Prop := capOrderRow.holds Try.pinned (OpenSpec.ofChange capOrderSpec)

/-- ITS FALSE NEIGHBOUR: 'it returns false'. Refute it at one input. -/
def capOrderWrong : ChangeSpec := { name := "capOrder", fn := fun _ => fun
  | [d1, d2, d3] => { results := [.lit (.bool false)], args := [d1, d2, d3] }
  | _ => none }
def CapOrderWrongFalsely : Prop := capOrderRow.holds Try.pinned (OpenSpec.ofChange capOrderWrong)

/-- 'donjonlaw05.CapFields': WHATEVER THE INPUT: true; the input reads as it did. -/
def capFieldsSpec : ChangeSpec := { name := "capFields", fn := fun _ => fun
  | [d1, d2, d3, d4, d5] => { results := [.lit (.bool true)], args := [d1, d2, d3, d4, d5] }
  | _ => none }
def capFieldsRow : OpenClaim := { program := "ytfcjlephhnddaaa", sum := "6b9187d1627ae8e6635a069ac8a84108e34c512a55a1fadebff6cb96da69fb8a", func := "donjon/donjonlaw05.CapFields", spec := "capFields", apart := false }
def CapFieldsSaid : Prop := capFieldsRow.holds Try.pinned (OpenSpec.ofChange capFieldsSpec)

/-- ITS FALSE NEIGHBOUR: 'it returns false'. Refute it at one input. -/
def capFieldsWrong : ChangeSpec := { name := "capFields", fn := fun _ => fun
  | [d1, d2, d3, d4, d5] => { results := [.lit (.bool false)], args := [d1, d2, d3, d4, d5] }
  | _ => none }
def CapFieldsWrongFalsely : Prop := capFieldsRow.holds Try.pinned (OpenSpec.ofChange capFieldsWrong)

/-- 'donjonlaw05.CapBadges': WHATEVER THE INPUT: true; the input reads as it did. -/
def capBadgesSpec : ChangeSpec := { name := "capBadges", fn := fun _ => fun
  | [d1, d2, d3, d4, d5] => { results := [.lit (.bool true)], args := [d1, d2, d3, d4, d5] }
  | _ => none }
def capBadgesRow : OpenClaim := { program := "ytfcjlephhnddaaa", sum := "6b9187d1627ae8e6635a069ac8a84108e34c512a55a1fadebff6cb96da69fb8a", func := "donjon/donjonlaw05.CapBadges", spec := "capBadges", apart := false }
def CapBadgesSaid : Prop := capBadgesRow.holds Try.pinned (OpenSpec.ofChange capBadgesSpec)

/-- ITS FALSE NEIGHBOUR: 'it returns false'. Refute it at one input. -/
def capBadgesWrong : ChangeSpec := { name := "capBadges", fn := fun _ => fun
  | [d1, d2, d3, d4, d5] => { results := [.lit (.bool false)], args := [d1, d2, d3, d4, d5] }
  | _ => none }
def CapBadgesWrongFalsely : Prop := capBadgesRow.holds Try.pinned (OpenSpec.ofChange capBadgesWrong)

/- THE SECOND FORM. 'bulk': how many values and letters a reading holds, each counted each time it is reached (what is shared counts as often as it is met; a slice's spare places count too). A statement '..UptoSaid' is the law's where the arguments, and the package variables that the reading takes, are together of bulk at most 1048576: NARROWER than '..Said'. Prove '..Said' where nothing that the law and all that it calls make is longer than what came in: it says more and counts as full. Else prove '..UptoSaid'. A law counts once. -/
mutual
def uptoBulk {H : Type} : DataW H → Nat
  | .lit (.string bytes) => bytes.length + 1
  | .lit _ => 1
  | .nil => 1
  | .ptr d => uptoBulk d + 1
  | .slice elems spare => uptoBulkAll elems + uptoBulkAll spare + 1
  | .agg parts => uptoBulkAll parts + 1
  | .iface _ d => uptoBulk d + 1
  | .map entries => uptoBulkEntries entries + 1
  | .held _ => 1
def uptoBulkAll {H : Type} : List (DataW H) → Nat
  | [] => 0
  | d :: r => uptoBulk d + uptoBulkAll r
def uptoBulkEntries {H : Type} : List (Lit × DataW H) → Nat
  | [] => 0
  | x :: r => uptoBulkEntry x + uptoBulkEntries r
def uptoBulkEntry {H : Type} : Lit × DataW H → Nat
  | (.string bytes, d) => bytes.length + uptoBulk d + 1
  | (_, d) => uptoBulk d + 1
 end
def uptoSmall : (H : Type) → List (DataW H) → Bool := fun _ ds => decide (uptoBulkAll ds ≤ 1048576)
def OpenSpec.upto (s : _root_.Go.ChangeSpec) : _root_.Go.OpenSpec := { _root_.Go.OpenSpec.ofChange s with cond := some uptoSmall }

/-- 'donjonlaw05.CapDerives', WHERE WHAT IT READS IS OF BULK AT MOST 1048576: true; the input reads as it did. -/
def capDerivesUptoRow : OpenClaim := { program := "ytfcjlephhnddaaa", sum := "6b9187d1627ae8e6635a069ac8a84108e34c512a55a1fadebff6cb96da69fb8a", func := "donjon/donjonlaw05.CapDerives", spec := "capDerives", apart := false, narrowed := true }
def CapDerivesUptoSaid : Prop := capDerivesUptoRow.holds Try.pinned (OpenSpec.upto capDerivesSpec)

/-- 'donjonlaw05.CapWords', WHERE WHAT IT READS IS OF BULK AT MOST 1048576: true; the input reads as it did. -/
def capWordsUptoRow : OpenClaim := { program := "ytfcjlephhnddaaa", sum := "6b9187d1627ae8e6635a069ac8a84108e34c512a55a1fadebff6cb96da69fb8a", func := "donjon/donjonlaw05.CapWords", spec := "capWords", apart := false, narrowed := true }
def CapWordsUptoSaid : Prop := capWordsUptoRow.holds Try.pinned (OpenSpec.upto capWordsSpec)

/-- 'donjonlaw05.CapBack', WHERE WHAT IT READS IS OF BULK AT MOST 1048576: true; the input reads as it did. -/
def capBackUptoRow : OpenClaim := { program := "ytfcjlephhnddaaa", sum := "6b9187d1627ae8e6635a069ac8a84108e34c512a55a1fadebff6cb96da69fb8a", func := "donjon/donjonlaw05.CapBack", spec := "capBack", apart := false, narrowed := true }
def CapBackUptoSaid : Prop := capBackUptoRow.holds Try.pinned (OpenSpec.upto capBackSpec)

/-- 'donjonlaw05.CapLess', WHERE WHAT IT READS IS OF BULK AT MOST 1048576: true; the input reads as it did. -/
def capLessUptoRow : OpenClaim := { program := "ytfcjlephhnddaaa", sum := "6b9187d1627ae8e6635a069ac8a84108e34c512a55a1fadebff6cb96da69fb8a", func := "donjon/donjonlaw05.CapLess", spec := "capLess", apart := false, narrowed := true }
def CapLessUptoSaid : Prop := capLessUptoRow.holds Try.pinned (OpenSpec.upto capLessSpec)

/-- 'donjonlaw05.CapOrder', WHERE WHAT IT READS IS OF BULK AT MOST 1048576: true; the input reads as it did. -/
def capOrderUptoRow : OpenClaim := { program := "ytfcjlephhnddaaa", sum := "6b9187d1627ae8e6635a069ac8a84108e34c512a55a1fadebff6cb96da69fb8a", func := "donjon/donjonlaw05.CapOrder", spec := "capOrder", apart := false, narrowed := true }
def CapOrderUptoSaid : Prop := capOrderUptoRow.holds Try.pinned (OpenSpec.upto capOrderSpec)

/-- 'donjonlaw05.CapFields', WHERE WHAT IT READS IS OF BULK AT MOST 1048576: true; the input reads as it did. -/
def capFieldsUptoRow : OpenClaim := { program := "ytfcjlephhnddaaa", sum := "6b9187d1627ae8e6635a069ac8a84108e34c512a55a1fadebff6cb96da69fb8a", func := "donjon/donjonlaw05.CapFields", spec := "capFields", apart := false, narrowed := true }
def CapFieldsUptoSaid : Prop := capFieldsUptoRow.holds Try.pinned (OpenSpec.upto capFieldsSpec)

/-- 'donjonlaw05.CapBadges', WHERE WHAT IT READS IS OF BULK AT MOST 1048576: true; the input reads as it did. -/
def capBadgesUptoRow : OpenClaim := { program := "ytfcjlephhnddaaa", sum := "6b9187d1627ae8e6635a069ac8a84108e34c512a55a1fadebff6cb96da69fb8a", func := "donjon/donjonlaw05.CapBadges", spec := "capBadges", apart := false, narrowed := true }
def CapBadgesUptoSaid : Prop := capBadgesUptoRow.holds Try.pinned (OpenSpec.upto capBadgesSpec)

end Rows
end Go.Proofs.Ytfcjlephhnddaaa
