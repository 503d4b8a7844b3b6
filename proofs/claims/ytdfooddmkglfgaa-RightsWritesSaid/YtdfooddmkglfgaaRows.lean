/-
  No cell of these rows narrows 'for every input' (looked for: loops, veiled, ifaces, maps, wideKeys, modest, calm, conditions, laid).
  DERIVED. THE GIVEN ROWS OF THIS SEAT. 5 by the template 'for every input the law returns true; each argument reads behind the call as it read before'; 0 by the template 'total and deterministic' (their statements: YtdfooddmkglfgaaTotals.lean).
  GIVEN WITH THE SEED: the statements are not yours to turn. If you find one false, say at which input.
  Laid BY PROGRAM, IN A SANDBOX (cutbox-rows.mjs): the forced cells as the released guide's own fill.sh prints them over the translation e2930ac57ea1acb0… (all of the seat's roots in one cut). By AI agents, Wed Nov 11 2026. No macro, syntax, notation, axiom, sorry.
-/
import Derived.Test.YtdfooddmkglfgaaChecked
import GoSem.Claim
import GoSem.ClaimJoined
import GoSem.ClaimMapViews
import Derived.JoinedTies
import Derived.KernelRfl
namespace Go.Proofs.Ytdfooddmkglfgaa
/- THE CELL 'sum', in the pinned program and in every row, IS THE sha256 OF THE DUMP (.gsa) THAT YtdfooddmkglfgaaProg.lean LOADS. Nothing in Lean hashes anything: it is a label: what it is worth is what the hold of that sum in a sandbox is worth. -/
noncomputable def Try.pinned : Pinned := { name := "ytdfooddmkglfgaa", sum := "e2930ac57ea1acb0ddbe1d4ec1af6b4f1e4b061361e0b03cdf38bd57ecdb4b7f", checked := Try.checked }
namespace Rows
def none {H : Type} : Left H := { results := [], args := [] }

/-- 'donjonlaw04.RightsTells': WHATEVER THE INPUT: true; the input reads as it did. -/
def rightsTellsSpec : ChangeSpec := { name := "rightsTells", fn := fun _ => fun
  | [d1, d2] => { results := [.lit (.bool true)], args := [d1, d2] }
  | _ => none }
def rightsTellsRow : OpenClaim := { program := "ytdfooddmkglfgaa", sum := "e2930ac57ea1acb0ddbe1d4ec1af6b4f1e4b061361e0b03cdf38bd57ecdb4b7f", func := "donjon/donjonlaw04.RightsTells", spec := "rightsTells", apart := false }
def RightsTellsSaid : Prop := rightsTellsRow.holds Try.pinned (OpenSpec.ofChange rightsTellsSpec)

/-- ITS FALSE NEIGHBOUR: 'it returns false'. Refute it at one input. -/
def rightsTellsWrong : ChangeSpec := { name := "rightsTells", fn := fun _ => fun
  | [d1, d2] => { results := [.lit (.bool false)], args := [d1, d2] }
  | _ => none }
def RightsTellsWrongFalsely : Prop := rightsTellsRow.holds Try.pinned (OpenSpec.ofChange rightsTellsWrong)

/-- 'donjonlaw04.RightsWrites': WHATEVER THE INPUT: true; the input reads as it did. -/
def rightsWritesSpec : ChangeSpec := { name := "rightsWrites", fn := fun _ => fun
  | [d1, d2] => { results := [.lit (.bool true)], args := [d1, d2] }
  | _ => none }
def rightsWritesRow : OpenClaim := { program := "ytdfooddmkglfgaa", sum := "e2930ac57ea1acb0ddbe1d4ec1af6b4f1e4b061361e0b03cdf38bd57ecdb4b7f", func := "donjon/donjonlaw04.RightsWrites", spec := "rightsWrites", apart := false }
def RightsWritesSaid : Prop := rightsWritesRow.holds Try.pinned (OpenSpec.ofChange rightsWritesSpec)

/-- ITS FALSE NEIGHBOUR: 'it returns false'. Refute it at one input. -/
def rightsWritesWrong : ChangeSpec := { name := "rightsWrites", fn := fun _ => fun
  | [d1, d2] => { results := [.lit (.bool false)], args := [d1, d2] }
  | _ => none }
def RightsWritesWrongFalsely : Prop := rightsWritesRow.holds Try.pinned (OpenSpec.ofChange rightsWritesWrong)

/-- 'donjonlaw04.RightsMost': WHATEVER THE INPUT: true; the input reads as it did. -/
def rightsMostSpec : ChangeSpec := { name := "rightsMost", fn := fun _ => fun
  | [d1, d2, d3] => { results := [.lit (.bool true)], args := [d1, d2, d3] }
  | _ => none }
def rightsMostRow : OpenClaim := { program := "ytdfooddmkglfgaa", sum := "e2930ac57ea1acb0ddbe1d4ec1af6b4f1e4b061361e0b03cdf38bd57ecdb4b7f", func := "donjon/donjonlaw04.RightsMost", spec := "rightsMost", apart := false }
def RightsMostSaid : Prop := rightsMostRow.holds Try.pinned (OpenSpec.ofChange rightsMostSpec)

/-- ITS FALSE NEIGHBOUR: 'it returns false'. Refute it at one input. -/
def rightsMostWrong : ChangeSpec := { name := "rightsMost", fn := fun _ => fun
  | [d1, d2, d3] => { results := [.lit (.bool false)], args := [d1, d2, d3] }
  | _ => none }
def RightsMostWrongFalsely : Prop := rightsMostRow.holds Try.pinned (OpenSpec.ofChange rightsMostWrong)

/-- 'donjonlaw04.RightsBack': WHATEVER THE INPUT: true; the input reads as it did. -/
def rightsBackSpec : ChangeSpec := { name := "rightsBack", fn := fun _ => fun
  | [d1, d2] => { results := [.lit (.bool true)], args := [d1, d2] }
  | _ => none }
def rightsBackRow : OpenClaim := { program := "ytdfooddmkglfgaa", sum := "e2930ac57ea1acb0ddbe1d4ec1af6b4f1e4b061361e0b03cdf38bd57ecdb4b7f", func := "donjon/donjonlaw04.RightsBack", spec := "rightsBack", apart := false }
def RightsBackSaid : Prop := rightsBackRow.holds Try.pinned (OpenSpec.ofChange rightsBackSpec)

/-- ITS FALSE NEIGHBOUR: 'it returns false'. Refute it at one input. -/
def rightsBackWrong : ChangeSpec := { name := "rightsBack", fn := fun _ => fun
  | [d1, d2] => { results := [.lit (.bool false)], args := [d1, d2] }
  | _ => none }
def RightsBackWrongFalsely : Prop := rightsBackRow.holds Try.pinned (OpenSpec.ofChange rightsBackWrong)

/-- 'donjonlaw04.RightsOrder': WHATEVER THE INPUT: true; the input reads as it did. -/
def rightsOrderSpec : ChangeSpec := { name := "rightsOrder", fn := fun _ => fun
  | [d1, d2, d3] => { results := [.lit (.bool true)], args := [d1, d2, d3] }
  | _ => none }
def rightsOrderRow : OpenClaim := { program := "ytdfooddmkglfgaa", sum := "e2930ac57ea1acb0ddbe1d4ec1af6b4f1e4b061361e0b03cdf38bd57ecdb4b7f", func := "donjon/donjonlaw04.RightsOrder", spec := "rightsOrder", apart := false }
def RightsOrderSaid : Prop := rightsOrderRow.holds Try.pinned (OpenSpec.ofChange rightsOrderSpec)

/-- ITS FALSE NEIGHBOUR: 'it returns false'. Refute it at one input. -/
def rightsOrderWrong : ChangeSpec := { name := "rightsOrder", fn := fun _ => fun
  | [d1, d2, d3] => { results := [.lit (.bool false)], args := [d1, d2, d3] }
  | _ => none }
def RightsOrderWrongFalsely : Prop := rightsOrderRow.holds Try.pinned (OpenSpec.ofChange rightsOrderWrong)

/- THE SECOND FORM. 'bulk': how many values and letters a reading holds, each counted each time it is reached (what is shared counts as often as it is met; a slice's spare places count too). A statement '..UptoSaid' is the law's where the arguments, and the package variables that the reading takes, are together of bulk at most 1048576: NARROWER than '..Said'. Prove '..Said' where nothing that the law and all that it calls make is longer than what came in: it says more and counts as full. Else prove '..UptoSaid'. A law counts once. -/
mutual
def uptoBulk {H : Type} : DataW H → Nat
  | .lit (.string bytes) => bytes.length + 1
  | .lit _ => 1
  | .nil => 1
  | .ptr d => uptoBulk d + 1
  | .slice elems spare => uptoBulkAll elems + uptoBulkAll spare + 1
  | .agg parts => uptoBulkAll parts + 1
  | .iface _ d => uptoBulk d + 1
  | .map entries => uptoBulkEntries entries + 1
  | .held _ => 1
def uptoBulkAll {H : Type} : List (DataW H) → Nat
  | [] => 0
  | d :: r => uptoBulk d + uptoBulkAll r
def uptoBulkEntries {H : Type} : List (Lit × DataW H) → Nat
  | [] => 0
  | x :: r => uptoBulkEntry x + uptoBulkEntries r
def uptoBulkEntry {H : Type} : Lit × DataW H → Nat
  | (.string bytes, d) => bytes.length + uptoBulk d + 1
  | (_, d) => uptoBulk d + 1
 end
def uptoSmall : (H : Type) → List (DataW H) → Bool := fun _ ds => decide (uptoBulkAll ds ≤ 1048576)
def OpenSpec.upto (s : _root_.Go.ChangeSpec) : _root_.Go.OpenSpec := { _root_.Go.OpenSpec.ofChange s with cond := some uptoSmall }

/-- 'donjonlaw04.RightsTells', WHERE WHAT IT READS IS OF BULK AT MOST 1048576: true; the input reads as it did. -/
def rightsTellsUptoRow : OpenClaim := { program := "ytdfooddmkglfgaa", sum := "e2930ac57ea1acb0ddbe1d4ec1af6b4f1e4b061361e0b03cdf38bd57ecdb4b7f", func := "donjon/donjonlaw04.RightsTells", spec := "rightsTells", apart := false, narrowed := true }
def RightsTellsUptoSaid : Prop := rightsTellsUptoRow.holds Try.pinned (OpenSpec.upto rightsTellsSpec)

/-- 'donjonlaw04.RightsWrites', WHERE WHAT IT READS IS OF BULK AT MOST 1048576: true; the input reads as it did. -/
def rightsWritesUptoRow : OpenClaim := { program := "ytdfooddmkglfgaa", sum := "e2930ac57ea1acb0ddbe1d4ec1af6b4f1e4b061361e0b03cdf38bd57ecdb4b7f", func := "donjon/donjonlaw04.RightsWrites", spec := "rightsWrites", apart := false, narrowed := true }
def RightsWritesUptoSaid : Prop := rightsWritesUptoRow.holds Try.pinned (OpenSpec.upto rightsWritesSpec)

/-- 'donjonlaw04.RightsMost', WHERE WHAT IT READS IS OF BULK AT MOST 1048576: true; the input reads as it did. -/
def rightsMostUptoRow : OpenClaim := { program := "ytdfooddmkglfgaa", sum := "e2930ac57ea1acb0ddbe1d4ec1af6b4f1e4b061361e0b03cdf38bd57ecdb4b7f", func := "donjon/donjonlaw04.RightsMost", spec := "rightsMost", apart := false, narrowed := true }
def RightsMostUptoSaid : Prop := rightsMostUptoRow.holds Try.pinned (OpenSpec.upto rightsMostSpec)

/-- 'donjonlaw04.RightsBack', WHERE WHAT IT READS IS OF BULK AT MOST 1048576: true; the input reads as it did. -/
def rightsBackUptoRow : OpenClaim := { program := "ytdfooddmkglfgaa", sum := "e2930ac57ea1acb0ddbe1d4ec1af6b4f1e4b061361e0b03cdf38bd57ecdb4b7f", func := "donjon/donjonlaw04.RightsBack", spec := "rightsBack", apart := false, narrowed := true }
def RightsBackUptoSaid : Prop := rightsBackUptoRow.holds Try.pinned (OpenSpec.upto rightsBackSpec)

/-- 'donjonlaw04.RightsOrder', WHERE WHAT IT READS IS OF BULK AT MOST 1048576: true; the input reads as it did. -/
def rightsOrderUptoRow : OpenClaim := { program := "ytdfooddmkglfgaa", sum := "e2930ac57ea1acb0ddbe1d4ec1af6b4f1e4b061361e0b03cdf38bd57ecdb4b7f", func := "donjon/donjonlaw04.RightsOrder", spec := "rightsOrder", apart := false, narrowed := true }
def RightsOrderUptoSaid : Prop := rightsOrderUptoRow.holds Try.pinned (OpenSpec.upto rightsOrderSpec)

end Rows
end Go.Proofs.Ytdfooddmkglfgaa
