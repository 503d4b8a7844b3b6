/-
  No cell of these rows narrows 'for every input' (looked for: loops, veiled, ifaces, maps, wideKeys, modest, calm, conditions, laid).
  DERIVED. THE GIVEN ROWS OF THIS SEAT. 4 by the template 'for every input the law returns true; each argument reads behind the call as it read before'; 0 by the template 'total and deterministic' (their statements: YtanchmbopllimaaTotals.lean).
  GIVEN WITH THE SEED: the statements are not yours to turn. If you find one false, say at which input.
  Laid BY PROGRAM, IN A SANDBOX (cutbox-rows.mjs): the forced cells as the released guide's own fill.sh prints them over the translation 3ebbc556b4e78477… (all of the seat's roots in one cut). By AI agents, Wed Nov 11 2026. No macro, syntax, notation, axiom, sorry.
-/
import Derived.Test.YtanchmbopllimaaChecked
import GoSem.Claim
import GoSem.ClaimJoined
import GoSem.ClaimMapViews
import Derived.JoinedTies
import Derived.KernelRfl
namespace Go.Proofs.Ytanchmbopllimaa
/- THE CELL 'sum', in the pinned program and in every row, IS THE sha256 OF THE DUMP (.gsa) THAT YtanchmbopllimaaProg.lean LOADS. Nothing in Lean hashes anything: it is a label: what it is worth is what the hold of that sum in a sandbox is worth. -/
noncomputable def Try.pinned : Pinned := { name := "ytanchmbopllimaa", sum := "3ebbc556b4e78477b9377eeb748fe6b2cb0e014939f168d7e3b78a0f0660e411", checked := Try.checked }
namespace Rows
def none {H : Type} : Left H := { results := [], args := [] }

/-- 'donjonlaw22.IrqKeeps': WHATEVER THE INPUT: true; the input reads as it did. -/
def irqKeepsSpec : ChangeSpec := { name := "irqKeeps", fn := fun _ => fun
  | [d] => { results := [.lit (.bool true)], args := [d] }
  | _ => none }
def irqKeepsRow : OpenClaim := { program := "ytanchmbopllimaa", sum := "3ebbc556b4e78477b9377eeb748fe6b2cb0e014939f168d7e3b78a0f0660e411", func := "donjon/donjonlaw22.IrqKeeps", spec := "irqKeeps", unfollowed := true, recurses := true, apart := false }
def IrqKeepsSaid : Prop := irqKeepsRow.holds Try.pinned (OpenSpec.ofChange irqKeepsSpec)

/-- ITS FALSE NEIGHBOUR: 'it returns false'. Refute it at one input. -/
def irqKeepsWrong : ChangeSpec := { name := "irqKeeps", fn := fun _ => fun
  | [d] => { results := [.lit (.bool false)], args := [d] }
  | _ => none }
def IrqKeepsWrongFalsely : Prop := irqKeepsRow.holds Try.pinned (OpenSpec.ofChange irqKeepsWrong)

/-- 'donjonlaw22.IrqApart': WHATEVER THE INPUT: true; the input reads as it did. -/
def irqApartSpec : ChangeSpec := { name := "irqApart", fn := fun _ => fun
  | [d1, d2, d3] => { results := [.lit (.bool true)], args := [d1, d2, d3] }
  | _ => none }
def irqApartRow : OpenClaim := { program := "ytanchmbopllimaa", sum := "3ebbc556b4e78477b9377eeb748fe6b2cb0e014939f168d7e3b78a0f0660e411", func := "donjon/donjonlaw22.IrqApart", spec := "irqApart", unfollowed := true, recurses := true, apart := false }
def IrqApartSaid : Prop := irqApartRow.holds Try.pinned (OpenSpec.ofChange irqApartSpec)

/-- ITS FALSE NEIGHBOUR: 'it returns false'. Refute it at one input. -/
def irqApartWrong : ChangeSpec := { name := "irqApart", fn := fun _ => fun
  | [d1, d2, d3] => { results := [.lit (.bool false)], args := [d1, d2, d3] }
  | _ => none }
def IrqApartWrongFalsely : Prop := irqApartRow.holds Try.pinned (OpenSpec.ofChange irqApartWrong)

/-- 'donjonlaw22.IrqOrder': WHATEVER THE INPUT: true; the input reads as it did. -/
def irqOrderSpec : ChangeSpec := { name := "irqOrder", fn := fun _ => fun
  | [d1, d2] => { results := [.lit (.bool true)], args := [d1, d2] }
  | _ => none }
def irqOrderRow : OpenClaim := { program := "ytanchmbopllimaa", sum := "3ebbc556b4e78477b9377eeb748fe6b2cb0e014939f168d7e3b78a0f0660e411", func := "donjon/donjonlaw22.IrqOrder", spec := "irqOrder", unfollowed := true, recurses := true, apart := false }
def IrqOrderSaid : Prop := irqOrderRow.holds Try.pinned (OpenSpec.ofChange irqOrderSpec)

/-- ITS FALSE NEIGHBOUR: 'it returns false'. Refute it at one input. -/
def irqOrderWrong : ChangeSpec := { name := "irqOrder", fn := fun _ => fun
  | [d1, d2] => { results := [.lit (.bool false)], args := [d1, d2] }
  | _ => none }
def IrqOrderWrongFalsely : Prop := irqOrderRow.holds Try.pinned (OpenSpec.ofChange irqOrderWrong)

/-- 'donjonlaw22.IrqDoes': WHATEVER THE INPUT: true; the input reads as it did. -/
def irqDoesSpec : ChangeSpec := { name := "irqDoes", fn := fun _ => fun
  | [d] => { results := [.lit (.bool true)], args := [d] }
  | _ => none }
def irqDoesRow : OpenClaim := { program := "ytanchmbopllimaa", sum := "3ebbc556b4e78477b9377eeb748fe6b2cb0e014939f168d7e3b78a0f0660e411", func := "donjon/donjonlaw22.IrqDoes", spec := "irqDoes", unfollowed := true, recurses := true, apart := false }
def IrqDoesSaid : Prop := irqDoesRow.holds Try.pinned (OpenSpec.ofChange irqDoesSpec)

/-- ITS FALSE NEIGHBOUR: 'it returns false'. Refute it at one input. -/
def irqDoesWrong : ChangeSpec := { name := "irqDoes", fn := fun _ => fun
  | [d] => { results := [.lit (.bool false)], args := [d] }
  | _ => none }
def IrqDoesWrongFalsely : Prop := irqDoesRow.holds Try.pinned (OpenSpec.ofChange irqDoesWrong)

/- THE SECOND FORM. 'bulk': how many values and letters a reading holds, each counted each time it is reached (what is shared counts as often as it is met; a slice's spare places count too). A statement '..UptoSaid' is the law's where the arguments, and the package variables that the reading takes, are together of bulk at most 1048576: NARROWER than '..Said'. Prove '..Said' where nothing that the law and all that it calls make is longer than what came in: it says more and counts as full. Else prove '..UptoSaid'. A law counts once. -/
mutual
def uptoBulk {H : Type} : DataW H → Nat
  | .lit (.string bytes) => bytes.length + 1
  | .lit _ => 1
  | .nil => 1
  | .ptr d => uptoBulk d + 1
  | .slice elems spare => uptoBulkAll elems + uptoBulkAll spare + 1
  | .agg parts => uptoBulkAll parts + 1
  | .iface _ d => uptoBulk d + 1
  | .map entries => uptoBulkEntries entries + 1
  | .held _ => 1
def uptoBulkAll {H : Type} : List (DataW H) → Nat
  | [] => 0
  | d :: r => uptoBulk d + uptoBulkAll r
def uptoBulkEntries {H : Type} : List (Lit × DataW H) → Nat
  | [] => 0
  | x :: r => uptoBulkEntry x + uptoBulkEntries r
def uptoBulkEntry {H : Type} : Lit × DataW H → Nat
  | (.string bytes, d) => bytes.length + uptoBulk d + 1
  | (_, d) => uptoBulk d + 1
 end
def uptoSmall : (H : Type) → List (DataW H) → Bool := fun _ ds => decide (uptoBulkAll ds ≤ 1048576)
def OpenSpec.upto (s : _root_.Go.ChangeSpec) : _root_.Go.OpenSpec := { _root_.Go.OpenSpec.ofChange s with cond := some uptoSmall }

/-- 'donjonlaw22.IrqKeeps', WHERE WHAT IT READS IS OF BULK AT MOST 1048576: true; the input reads as it did. -/
def irqKeepsUptoRow : OpenClaim := { program := "ytanchmbopllimaa", sum := "3ebbc556b4e78477b9377eeb748fe6b2cb0e014939f168d7e3b78a0f0660e411", func := "donjon/donjonlaw22.IrqKeeps", spec := "irqKeeps", unfollowed := true, recurses := true, apart := false, narrowed := true }
def IrqKeepsUptoSaid : Prop := irqKeepsUptoRow.holds Try.pinned (OpenSpec.upto irqKeepsSpec)

/-- 'donjonlaw22.IrqApart', WHERE WHAT IT READS IS OF BULK AT MOST 1048576: true; the input reads as it did. -/
def irqApartUptoRow : OpenClaim := { program := "ytanchmbopllimaa", sum := "3ebbc556b4e78477b9377eeb748fe6b2cb0e014939f168d7e3b78a0f0660e411", func := "donjon/donjonlaw22.IrqApart", spec := "irqApart", unfollowed := true, recurses := true, apart := false, narrowed := true }
def IrqApartUptoSaid : Prop := irqApartUptoRow.holds Try.pinned (OpenSpec.upto irqApartSpec)

/-- 'donjonlaw22.IrqOrder', WHERE WHAT IT READS IS OF BULK AT MOST 1048576: true; the input reads as it did. -/
def irqOrderUptoRow : OpenClaim := { program := "ytanchmbopllimaa", sum := "3ebbc556b4e78477b9377eeb748fe6b2cb0e014939f168d7e3b78a0f0660e411", func := "donjon/donjonlaw22.IrqOrder", spec := "irqOrder", unfollowed := true, recurses := true, apart := false, narrowed := true }
def IrqOrderUptoSaid : Prop := irqOrderUptoRow.holds Try.pinned (OpenSpec.upto irqOrderSpec)

/-- 'donjonlaw22.IrqDoes', WHERE WHAT IT READS IS OF BULK AT MOST 1048576: true; the input reads as it did. -/
def irqDoesUptoRow : OpenClaim := { program := "ytanchmbopllimaa", sum := "3ebbc556b4e78477b9377eeb748fe6b2cb0e014939f168d7e3b78a0f0660e411", func := "donjon/donjonlaw22.IrqDoes", spec := "irqDoes", unfollowed := true, recurses := true, apart := false, narrowed := true }
def IrqDoesUptoSaid : Prop := irqDoesUptoRow.holds Try.pinned (OpenSpec.upto irqDoesSpec)

end Rows
end Go.Proofs.Ytanchmbopllimaa
