/-
  No cell of these rows narrows 'for every input' (looked for: loops, veiled, ifaces, maps, wideKeys, modest, calm, conditions, laid).
  DERIVED. THE GIVEN ROWS OF THIS SEAT. 5 by the template 'for every input the law returns true; each argument reads behind the call as it read before'; 0 by the template 'total and deterministic' (their statements: YtmpmnjekcajlgaaTotals.lean).
  GIVEN WITH THE SEED: the statements are not yours to turn. If you find one false, say at which input.
  Laid BY PROGRAM, IN A SANDBOX (cutbox-rows.mjs): the forced cells as the released guide's own fill.sh prints them over the translation 88b28ca8123fbfc9… (all of the seat's roots in one cut). By AI agents, Wed Nov 11 2026. No macro, syntax, notation, axiom, sorry.
-/
import Derived.Test.YtmpmnjekcajlgaaChecked
import GoSem.Claim
import GoSem.ClaimJoined
import GoSem.ClaimMapViews
import Derived.JoinedTies
import Derived.KernelRfl
namespace Go.Proofs.Ytmpmnjekcajlgaa
/- THE CELL 'sum', in the pinned program and in every row, IS THE sha256 OF THE DUMP (.gsa) THAT YtmpmnjekcajlgaaProg.lean LOADS. Nothing in Lean hashes anything: it is a label: what it is worth is what the hold of that sum in a sandbox is worth. -/
noncomputable def Try.pinned : Pinned := { name := "ytmpmnjekcajlgaa", sum := "88b28ca8123fbfc96572e87f801a3c23f36735ac73ac43916f6c3ea62b683ce9", checked := Try.checked }
namespace Rows
def none {H : Type} : Left H := { results := [], args := [] }

/-- 'donjonlaw15.SpaceLists': WHATEVER THE INPUT: true; the input reads as it did. -/
def spaceListsSpec : ChangeSpec := { name := "spaceLists", fn := fun _ => fun
  | [d1, d2, d3, d4] => { results := [.lit (.bool true)], args := [d1, d2, d3, d4] }
  | _ => none }
def spaceListsRow : OpenClaim := { program := "ytmpmnjekcajlgaa", sum := "88b28ca8123fbfc96572e87f801a3c23f36735ac73ac43916f6c3ea62b683ce9", func := "donjon/donjonlaw15.SpaceLists", spec := "spaceLists", unfollowed := true, recurses := true, apart := false }
def SpaceListsSaid : Prop := spaceListsRow.holds Try.pinned (OpenSpec.ofChange spaceListsSpec)

/-- ITS FALSE NEIGHBOUR: 'it returns false'. Refute it at one input. -/
def spaceListsWrong : ChangeSpec := { name := "spaceLists", fn := fun _ => fun
  | [d1, d2, d3, d4] => { results := [.lit (.bool false)], args := [d1, d2, d3, d4] }
  | _ => none }
def SpaceListsWrongFalsely : Prop := spaceListsRow.holds Try.pinned (OpenSpec.ofChange spaceListsWrong)

/-- 'donjonlaw15.SpaceHides': WHATEVER THE INPUT: true; the input reads as it did. -/
def spaceHidesSpec : ChangeSpec := { name := "spaceHides", fn := fun _ => fun
  | [d1, d2] => { results := [.lit (.bool true)], args := [d1, d2] }
  | _ => none }
def spaceHidesRow : OpenClaim := { program := "ytmpmnjekcajlgaa", sum := "88b28ca8123fbfc96572e87f801a3c23f36735ac73ac43916f6c3ea62b683ce9", func := "donjon/donjonlaw15.SpaceHides", spec := "spaceHides", unfollowed := true, recurses := true, apart := false }
def SpaceHidesSaid : Prop := spaceHidesRow.holds Try.pinned (OpenSpec.ofChange spaceHidesSpec)

/-- ITS FALSE NEIGHBOUR: 'it returns false'. Refute it at one input. -/
def spaceHidesWrong : ChangeSpec := { name := "spaceHides", fn := fun _ => fun
  | [d1, d2] => { results := [.lit (.bool false)], args := [d1, d2] }
  | _ => none }
def SpaceHidesWrongFalsely : Prop := spaceHidesRow.holds Try.pinned (OpenSpec.ofChange spaceHidesWrong)

/-- 'donjonlaw15.SpaceLeads': WHATEVER THE INPUT: true; the input reads as it did. -/
def spaceLeadsSpec : ChangeSpec := { name := "spaceLeads", fn := fun _ => fun
  | [d1, d2, d3, d4] => { results := [.lit (.bool true)], args := [d1, d2, d3, d4] }
  | _ => none }
def spaceLeadsRow : OpenClaim := { program := "ytmpmnjekcajlgaa", sum := "88b28ca8123fbfc96572e87f801a3c23f36735ac73ac43916f6c3ea62b683ce9", func := "donjon/donjonlaw15.SpaceLeads", spec := "spaceLeads", unfollowed := true, recurses := true, apart := false }
def SpaceLeadsSaid : Prop := spaceLeadsRow.holds Try.pinned (OpenSpec.ofChange spaceLeadsSpec)

/-- ITS FALSE NEIGHBOUR: 'it returns false'. Refute it at one input. -/
def spaceLeadsWrong : ChangeSpec := { name := "spaceLeads", fn := fun _ => fun
  | [d1, d2, d3, d4] => { results := [.lit (.bool false)], args := [d1, d2, d3, d4] }
  | _ => none }
def SpaceLeadsWrongFalsely : Prop := spaceLeadsRow.holds Try.pinned (OpenSpec.ofChange spaceLeadsWrong)

/-- 'donjonlaw15.SpaceDoes': WHATEVER THE INPUT: true; the input reads as it did. -/
def spaceDoesSpec : ChangeSpec := { name := "spaceDoes", fn := fun _ => fun
  | [d1, d2, d3] => { results := [.lit (.bool true)], args := [d1, d2, d3] }
  | _ => none }
def spaceDoesRow : OpenClaim := { program := "ytmpmnjekcajlgaa", sum := "88b28ca8123fbfc96572e87f801a3c23f36735ac73ac43916f6c3ea62b683ce9", func := "donjon/donjonlaw15.SpaceDoes", spec := "spaceDoes", unfollowed := true, recurses := true, apart := false }
def SpaceDoesSaid : Prop := spaceDoesRow.holds Try.pinned (OpenSpec.ofChange spaceDoesSpec)

/-- ITS FALSE NEIGHBOUR: 'it returns false'. Refute it at one input. -/
def spaceDoesWrong : ChangeSpec := { name := "spaceDoes", fn := fun _ => fun
  | [d1, d2, d3] => { results := [.lit (.bool false)], args := [d1, d2, d3] }
  | _ => none }
def SpaceDoesWrongFalsely : Prop := spaceDoesRow.holds Try.pinned (OpenSpec.ofChange spaceDoesWrong)

/-- 'donjonlaw15.SpaceOne': WHATEVER THE INPUT: true; the input reads as it did. -/
def spaceOneSpec : ChangeSpec := { name := "spaceOne", fn := fun _ => fun
  | [d1, d2, d3] => { results := [.lit (.bool true)], args := [d1, d2, d3] }
  | _ => none }
def spaceOneRow : OpenClaim := { program := "ytmpmnjekcajlgaa", sum := "88b28ca8123fbfc96572e87f801a3c23f36735ac73ac43916f6c3ea62b683ce9", func := "donjon/donjonlaw15.SpaceOne", spec := "spaceOne", unfollowed := true, recurses := true, apart := false }
def SpaceOneSaid : Prop := spaceOneRow.holds Try.pinned (OpenSpec.ofChange spaceOneSpec)

/-- ITS FALSE NEIGHBOUR: 'it returns false'. Refute it at one input. -/
def spaceOneWrong : ChangeSpec := { name := "spaceOne", fn := fun _ => fun
  | [d1, d2, d3] => { results := [.lit (.bool false)], args := [d1, d2, d3] }
  | _ => none }
def SpaceOneWrongFalsely : Prop := spaceOneRow.holds Try.pinned (OpenSpec.ofChange spaceOneWrong)

/- THE SECOND FORM. 'bulk': how many values and letters a reading holds, each counted each time it is reached (what is shared counts as often as it is met; a slice's spare places count too). A statement '..UptoSaid' is the law's where the arguments, and the package variables that the reading takes, are together of bulk at most 1048576: NARROWER than '..Said'. Prove '..Said' where nothing that the law and all that it calls make is longer than what came in: it says more and counts as full. Else prove '..UptoSaid'. A law counts once. -/
mutual
def uptoBulk {H : Type} : DataW H → Nat
  | .lit (.string bytes) => bytes.length + 1
  | .lit _ => 1
  | .nil => 1
  | .ptr d => uptoBulk d + 1
  | .slice elems spare => uptoBulkAll elems + uptoBulkAll spare + 1
  | .agg parts => uptoBulkAll parts + 1
  | .iface _ d => uptoBulk d + 1
  | .map entries => uptoBulkEntries entries + 1
  | .held _ => 1
def uptoBulkAll {H : Type} : List (DataW H) → Nat
  | [] => 0
  | d :: r => uptoBulk d + uptoBulkAll r
def uptoBulkEntries {H : Type} : List (Lit × DataW H) → Nat
  | [] => 0
  | x :: r => uptoBulkEntry x + uptoBulkEntries r
def uptoBulkEntry {H : Type} : Lit × DataW H → Nat
  | (.string bytes, d) => bytes.length + uptoBulk d + 1
  | (_, d) => uptoBulk d + 1
 end
def uptoSmall : (H : Type) → List (DataW H) → Bool := fun _ ds => decide (uptoBulkAll ds ≤ 1048576)
def OpenSpec.upto (s : _root_.Go.ChangeSpec) : _root_.Go.OpenSpec := { _root_.Go.OpenSpec.ofChange s with cond := some uptoSmall }

/-- 'donjonlaw15.SpaceLists', WHERE WHAT IT READS IS OF BULK AT MOST 1048576: true; the input reads as it did. -/
def spaceListsUptoRow : OpenClaim := { program := "ytmpmnjekcajlgaa", sum := "88b28ca8123fbfc96572e87f801a3c23f36735ac73ac43916f6c3ea62b683ce9", func := "donjon/donjonlaw15.SpaceLists", spec := "spaceLists", unfollowed := true, recurses := true, apart := false, narrowed := true }
def SpaceListsUptoSaid : Prop := spaceListsUptoRow.holds Try.pinned (OpenSpec.upto spaceListsSpec)

/-- 'donjonlaw15.SpaceHides', WHERE WHAT IT READS IS OF BULK AT MOST 1048576: true; the input reads as it did. -/
def spaceHidesUptoRow : OpenClaim := { program := "ytmpmnjekcajlgaa", sum := "88b28ca8123fbfc96572e87f801a3c23f36735ac73ac43916f6c3ea62b683ce9", func := "donjon/donjonlaw15.SpaceHides", spec := "spaceHides", unfollowed := true, recurses := true, apart := false, narrowed := true }
def SpaceHidesUptoSaid : Prop := spaceHidesUptoRow.holds Try.pinned (OpenSpec.upto spaceHidesSpec)

/-- 'donjonlaw15.SpaceLeads', WHERE WHAT IT READS IS OF BULK AT MOST 1048576: true; the input reads as it did. -/
def spaceLeadsUptoRow : OpenClaim := { program := "ytmpmnjekcajlgaa", sum := "88b28ca8123fbfc96572e87f801a3c23f36735ac73ac43916f6c3ea62b683ce9", func := "donjon/donjonlaw15.SpaceLeads", spec := "spaceLeads", unfollowed := true, recurses := true, apart := false, narrowed := true }
def SpaceLeadsUptoSaid : Prop := spaceLeadsUptoRow.holds Try.pinned (OpenSpec.upto spaceLeadsSpec)

/-- 'donjonlaw15.SpaceDoes', WHERE WHAT IT READS IS OF BULK AT MOST 1048576: true; the input reads as it did. -/
def spaceDoesUptoRow : OpenClaim := { program := "ytmpmnjekcajlgaa", sum := "88b28ca8123fbfc96572e87f801a3c23f36735ac73ac43916f6c3ea62b683ce9", func := "donjon/donjonlaw15.SpaceDoes", spec := "spaceDoes", unfollowed := true, recurses := true, apart := false, narrowed := true }
def SpaceDoesUptoSaid : Prop := spaceDoesUptoRow.holds Try.pinned (OpenSpec.upto spaceDoesSpec)

/-- 'donjonlaw15.SpaceOne', WHERE WHAT IT READS IS OF BULK AT MOST 1048576: true; the input reads as it did. -/
def spaceOneUptoRow : OpenClaim := { program := "ytmpmnjekcajlgaa", sum := "88b28ca8123fbfc96572e87f801a3c23f36735ac73ac43916f6c3ea62b683ce9", func := "donjon/donjonlaw15.SpaceOne", spec := "spaceOne", unfollowed := true, recurses := true, apart := false, narrowed := true }
def SpaceOneUptoSaid : Prop := spaceOneUptoRow.holds Try.pinned (OpenSpec.upto spaceOneSpec)

end Rows
end Go.Proofs.Ytmpmnjekcajlgaa
