/-
  No cell of these rows narrows 'for every input' (looked for: loops, veiled, ifaces, maps, wideKeys, modest, calm, conditions, laid).
  DERIVED. THE GIVEN ROWS OF THIS SEAT. 4 by the template 'for every input the law returns true; each argument reads behind the call as it read before'; 0 by the template 'total and deterministic' (their statements: YtplinjjleenomaaTotals.lean).
  GIVEN WITH THE SEED: the statements are not yours to turn. If you find one false, say at which input.
  Laid BY PROGRAM, IN A SANDBOX (cutbox-rows.mjs): the forced cells as the released guide's own fill.sh prints them over the translation 1a06c45a5103aec4… (all of the seat's roots in one cut). By AI agents, Wed Nov 11 2026. No macro, syntax, notation, axiom, sorry.
-/
import Derived.Test.YtplinjjleenomaaChecked
import GoSem.Claim
import GoSem.ClaimJoined
import GoSem.ClaimMapViews
import Derived.JoinedTies
import Derived.KernelRfl
namespace Go.Proofs.Ytplinjjleenomaa
/- THE CELL 'sum', in the pinned program and in every row, IS THE sha256 OF THE DUMP (.gsa) THAT YtplinjjleenomaaProg.lean LOADS. Nothing in Lean hashes anything: it is a label: what it is worth is what the hold of that sum in a sandbox is worth. -/
noncomputable def Try.pinned : Pinned := { name := "ytplinjjleenomaa", sum := "1a06c45a5103aec4f707537a5fa8a2f320ce0431ca584b31221d0b5e5d9be51d", checked := Try.checked }
namespace Rows
def none {H : Type} : Left H := { results := [], args := [] }

/-- 'donjonlaw13.WalkPages': WHATEVER THE INPUT: true; the input reads as it did. -/
def walkPagesSpec : ChangeSpec := { name := "walkPages", fn := fun _ => fun
  | [d1, d2, d3, d4, d5] => { results := [.lit (.bool true)], args := [d1, d2, d3, d4, d5] }
  | _ => none }
def walkPagesRow : OpenClaim := { program := "ytplinjjleenomaa", sum := "1a06c45a5103aec4f707537a5fa8a2f320ce0431ca584b31221d0b5e5d9be51d", func := "donjon/donjonlaw13.WalkPages", spec := "walkPages", apart := false }
def WalkPagesSaid : Prop := walkPagesRow.holds Try.pinned (OpenSpec.ofChange walkPagesSpec)

/-- ITS FALSE NEIGHBOUR: 'it returns false'. Refute it at one input. -/
def walkPagesWrong : ChangeSpec := { name := "walkPages", fn := fun _ => fun
  | [d1, d2, d3, d4, d5] => { results := [.lit (.bool false)], args := [d1, d2, d3, d4, d5] }
  | _ => none }
def WalkPagesWrongFalsely : Prop := walkPagesRow.holds Try.pinned (OpenSpec.ofChange walkPagesWrong)

/-- 'donjonlaw13.WalkTables': WHATEVER THE INPUT: true; the input reads as it did. -/
def walkTablesSpec : ChangeSpec := { name := "walkTables", fn := fun _ => fun
  | [d1, d2, d3, d4, d5, d6] => { results := [.lit (.bool true)], args := [d1, d2, d3, d4, d5, d6] }
  | _ => none }
def walkTablesRow : OpenClaim := { program := "ytplinjjleenomaa", sum := "1a06c45a5103aec4f707537a5fa8a2f320ce0431ca584b31221d0b5e5d9be51d", func := "donjon/donjonlaw13.WalkTables", spec := "walkTables", apart := false }
def WalkTablesSaid : Prop := walkTablesRow.holds Try.pinned (OpenSpec.ofChange walkTablesSpec)

/-- ITS FALSE NEIGHBOUR: 'it returns false'. Refute it at one input. -/
def walkTablesWrong : ChangeSpec := { name := "walkTables", fn := fun _ => fun
  | [d1, d2, d3, d4, d5, d6] => { results := [.lit (.bool false)], args := [d1, d2, d3, d4, d5, d6] }
  | _ => none }
def WalkTablesWrongFalsely : Prop := walkTablesRow.holds Try.pinned (OpenSpec.ofChange walkTablesWrong)

/-- 'donjonlaw13.WalkDoes': WHATEVER THE INPUT: true; the input reads as it did. -/
def walkDoesSpec : ChangeSpec := { name := "walkDoes", fn := fun _ => fun
  | [d1, d2, d3, d4, d5] => { results := [.lit (.bool true)], args := [d1, d2, d3, d4, d5] }
  | _ => none }
def walkDoesRow : OpenClaim := { program := "ytplinjjleenomaa", sum := "1a06c45a5103aec4f707537a5fa8a2f320ce0431ca584b31221d0b5e5d9be51d", func := "donjon/donjonlaw13.WalkDoes", spec := "walkDoes", apart := false }
def WalkDoesSaid : Prop := walkDoesRow.holds Try.pinned (OpenSpec.ofChange walkDoesSpec)

/-- ITS FALSE NEIGHBOUR: 'it returns false'. Refute it at one input. -/
def walkDoesWrong : ChangeSpec := { name := "walkDoes", fn := fun _ => fun
  | [d1, d2, d3, d4, d5] => { results := [.lit (.bool false)], args := [d1, d2, d3, d4, d5] }
  | _ => none }
def WalkDoesWrongFalsely : Prop := walkDoesRow.holds Try.pinned (OpenSpec.ofChange walkDoesWrong)

/-- 'donjonlaw13.WalkStores': WHATEVER THE INPUT: true; the input reads as it did. -/
def walkStoresSpec : ChangeSpec := { name := "walkStores", fn := fun _ => fun
  | [d1, d2, d3, d4, d5] => { results := [.lit (.bool true)], args := [d1, d2, d3, d4, d5] }
  | _ => none }
def walkStoresRow : OpenClaim := { program := "ytplinjjleenomaa", sum := "1a06c45a5103aec4f707537a5fa8a2f320ce0431ca584b31221d0b5e5d9be51d", func := "donjon/donjonlaw13.WalkStores", spec := "walkStores", apart := false }
def WalkStoresSaid : Prop := walkStoresRow.holds Try.pinned (OpenSpec.ofChange walkStoresSpec)

/-- ITS FALSE NEIGHBOUR: 'it returns false'. Refute it at one input. -/
def walkStoresWrong : ChangeSpec := { name := "walkStores", fn := fun _ => fun
  | [d1, d2, d3, d4, d5] => { results := [.lit (.bool false)], args := [d1, d2, d3, d4, d5] }
  | _ => none }
def WalkStoresWrongFalsely : Prop := walkStoresRow.holds Try.pinned (OpenSpec.ofChange walkStoresWrong)

/- THE SECOND FORM. 'bulk': how many values and letters a reading holds, each counted each time it is reached (what is shared counts as often as it is met; a slice's spare places count too). A statement '..UptoSaid' is the law's where the arguments, and the package variables that the reading takes, are together of bulk at most 1048576: NARROWER than '..Said'. Prove '..Said' where nothing that the law and all that it calls make is longer than what came in: it says more and counts as full. Else prove '..UptoSaid'. A law counts once. -/
mutual
def uptoBulk {H : Type} : DataW H → Nat
  | .lit (.string bytes) => bytes.length + 1
  | .lit _ => 1
  | .nil => 1
  | .ptr d => uptoBulk d + 1
  | .slice elems spare => uptoBulkAll elems + uptoBulkAll spare + 1
  | .agg parts => uptoBulkAll parts + 1
  | .iface _ d => uptoBulk d + 1
  | .map entries => uptoBulkEntries entries + 1
  | .held _ => 1
def uptoBulkAll {H : Type} : List (DataW H) → Nat
  | [] => 0
  | d :: r => uptoBulk d + uptoBulkAll r
def uptoBulkEntries {H : Type} : List (Lit × DataW H) → Nat
  | [] => 0
  | x :: r => uptoBulkEntry x + uptoBulkEntries r
def uptoBulkEntry {H : Type} : Lit × DataW H → Nat
  | (.string bytes, d) => bytes.length + uptoBulk d + 1
  | (_, d) => uptoBulk d + 1
 end
def uptoSmall : (H : Type) → List (DataW H) → Bool := fun _ ds => decide (uptoBulkAll ds ≤ 1048576)
def OpenSpec.upto (s : _root_.Go.ChangeSpec) : _root_.Go.OpenSpec := { _root_.Go.OpenSpec.ofChange s with cond := some uptoSmall }

/-- 'donjonlaw13.WalkPages', WHERE WHAT IT READS IS OF BULK AT MOST 1048576: true; the input reads as it did. -/
def walkPagesUptoRow : OpenClaim := { program := "ytplinjjleenomaa", sum := "1a06c45a5103aec4f707537a5fa8a2f320ce0431ca584b31221d0b5e5d9be51d", func := "donjon/donjonlaw13.WalkPages", spec := "walkPages", apart := false, narrowed := true }
def WalkPagesUptoSaid : Prop := walkPagesUptoRow.holds Try.pinned (OpenSpec.upto walkPagesSpec)

/-- 'donjonlaw13.WalkTables', WHERE WHAT IT READS IS OF BULK AT MOST 1048576: true; the input reads as it did. -/
def walkTablesUptoRow : OpenClaim := { program := "ytplinjjleenomaa", sum := "1a06c45a5103aec4f707537a5fa8a2f320ce0431ca584b31221d0b5e5d9be51d", func := "donjon/donjonlaw13.WalkTables", spec := "walkTables", apart := false, narrowed := true }
def WalkTablesUptoSaid : Prop := walkTablesUptoRow.holds Try.pinned (OpenSpec.upto walkTablesSpec)

/-- 'donjonlaw13.WalkDoes', WHERE WHAT IT READS IS OF BULK AT MOST 1048576: true; the input reads as it did. -/
def walkDoesUptoRow : OpenClaim := { program := "ytplinjjleenomaa", sum := "1a06c45a5103aec4f707537a5fa8a2f320ce0431ca584b31221d0b5e5d9be51d", func := "donjon/donjonlaw13.WalkDoes", spec := "walkDoes", apart := false, narrowed := true }
def WalkDoesUptoSaid : Prop := walkDoesUptoRow.holds Try.pinned (OpenSpec.upto walkDoesSpec)

/-- 'donjonlaw13.WalkStores', WHERE WHAT IT READS IS OF BULK AT MOST 1048576: true; the input reads as it did. -/
def walkStoresUptoRow : OpenClaim := { program := "ytplinjjleenomaa", sum := "1a06c45a5103aec4f707537a5fa8a2f320ce0431ca584b31221d0b5e5d9be51d", func := "donjon/donjonlaw13.WalkStores", spec := "walkStores", apart := false, narrowed := true }
def WalkStoresUptoSaid : Prop := walkStoresUptoRow.holds Try.pinned (OpenSpec.upto walkStoresSpec)

end Rows
end Go.Proofs.Ytplinjjleenomaa
