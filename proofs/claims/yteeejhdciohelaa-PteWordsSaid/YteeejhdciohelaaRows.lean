/-
  No cell of these rows narrows 'for every input' (looked for: loops, veiled, ifaces, maps, wideKeys, modest, calm, conditions, laid).
  DERIVED. THE GIVEN ROWS OF THIS SEAT. 3 by the template 'for every input the law returns true; each argument reads behind the call as it read before'; 0 by the template 'total and deterministic' (their statements: YteeejhdciohelaaTotals.lean).
  GIVEN WITH THE SEED: the statements are not yours to turn. If you find one false, say at which input.
  Laid BY PROGRAM, IN A SANDBOX (cutbox-rows.mjs): the forced cells as the released guide's own fill.sh prints them over the translation 06f409f9c958fccb… (all of the seat's roots in one cut). By AI agents, Wed Nov 11 2026. No macro, syntax, notation, axiom, sorry.
-/
import Derived.Test.YteeejhdciohelaaChecked
import GoSem.Claim
import GoSem.ClaimJoined
import GoSem.ClaimMapViews
import Derived.JoinedTies
import Derived.KernelRfl
namespace Go.Proofs.Yteeejhdciohelaa
/- THE CELL 'sum', in the pinned program and in every row, IS THE sha256 OF THE DUMP (.gsa) THAT YteeejhdciohelaaProg.lean LOADS. Nothing in Lean hashes anything: it is a label: what it is worth is what the hold of that sum in a sandbox is worth. -/
noncomputable def Try.pinned : Pinned := { name := "yteeejhdciohelaa", sum := "06f409f9c958fccb2f0e98f17000d622086d879a0b118fbd31625d447da11706", checked := Try.checked }
namespace Rows
def none {H : Type} : Left H := { results := [], args := [] }

/-- 'donjonlaw12.PteWords': WHATEVER THE INPUT: true; the input reads as it did. -/
def pteWordsSpec : ChangeSpec := { name := "pteWords", fn := fun _ => fun
  | [d1, d2, d3] => { results := [.lit (.bool true)], args := [d1, d2, d3] }
  | _ => none }
def pteWordsRow : OpenClaim := { program := "yteeejhdciohelaa", sum := "06f409f9c958fccb2f0e98f17000d622086d879a0b118fbd31625d447da11706", func := "donjon/donjonlaw12.PteWords", spec := "pteWords", apart := false }
def PteWordsSaid : Prop := pteWordsRow.holds Try.pinned (OpenSpec.ofChange pteWordsSpec)

/-- ITS FALSE NEIGHBOUR: 'it returns false'. Refute it at one input. -/
def pteWordsWrong : ChangeSpec := { name := "pteWords", fn := fun _ => fun
  | [d1, d2, d3] => { results := [.lit (.bool false)], args := [d1, d2, d3] }
  | _ => none }
def PteWordsWrongFalsely : Prop := pteWordsRow.holds Try.pinned (OpenSpec.ofChange pteWordsWrong)

/-- 'donjonlaw12.PteBack': WHATEVER THE INPUT: true; the input reads as it did. -/
def pteBackSpec : ChangeSpec := { name := "pteBack", fn := fun _ => fun
  | [d1, d2, d3] => { results := [.lit (.bool true)], args := [d1, d2, d3] }
  | _ => none }
def pteBackRow : OpenClaim := { program := "yteeejhdciohelaa", sum := "06f409f9c958fccb2f0e98f17000d622086d879a0b118fbd31625d447da11706", func := "donjon/donjonlaw12.PteBack", spec := "pteBack", apart := false }
def PteBackSaid : Prop := pteBackRow.holds Try.pinned (OpenSpec.ofChange pteBackSpec)

/-- ITS FALSE NEIGHBOUR: 'it returns false'. Refute it at one input. -/
def pteBackWrong : ChangeSpec := { name := "pteBack", fn := fun _ => fun
  | [d1, d2, d3] => { results := [.lit (.bool false)], args := [d1, d2, d3] }
  | _ => none }
def PteBackWrongFalsely : Prop := pteBackRow.holds Try.pinned (OpenSpec.ofChange pteBackWrong)

/-- 'donjonlaw12.PteFlags': WHATEVER THE INPUT: true; the input reads as it did. -/
def pteFlagsSpec : ChangeSpec := { name := "pteFlags", fn := fun _ => fun
  | [d1, d2] => { results := [.lit (.bool true)], args := [d1, d2] }
  | _ => none }
def pteFlagsRow : OpenClaim := { program := "yteeejhdciohelaa", sum := "06f409f9c958fccb2f0e98f17000d622086d879a0b118fbd31625d447da11706", func := "donjon/donjonlaw12.PteFlags", spec := "pteFlags", apart := false }
def PteFlagsSaid : Prop := pteFlagsRow.holds Try.pinned (OpenSpec.ofChange pteFlagsSpec)

/-- ITS FALSE NEIGHBOUR: 'it returns false'. Refute it at one input. -/
def pteFlagsWrong : ChangeSpec := { name := "pteFlags", fn := fun _ => fun
  | [d1, d2] => { results := [.lit (.bool false)], args := [d1, d2] }
  | _ => none }
def PteFlagsWrongFalsely : Prop := pteFlagsRow.holds Try.pinned (OpenSpec.ofChange pteFlagsWrong)

/- THE SECOND FORM. 'bulk': how many values and letters a reading holds, each counted each time it is reached (what is shared counts as often as it is met; a slice's spare places count too). A statement '..UptoSaid' is the law's where the arguments, and the package variables that the reading takes, are together of bulk at most 1048576: NARROWER than '..Said'. Prove '..Said' where nothing that the law and all that it calls make is longer than what came in: it says more and counts as full. Else prove '..UptoSaid'. A law counts once. -/
mutual
def uptoBulk {H : Type} : DataW H → Nat
  | .lit (.string bytes) => bytes.length + 1
  | .lit _ => 1
  | .nil => 1
  | .ptr d => uptoBulk d + 1
  | .slice elems spare => uptoBulkAll elems + uptoBulkAll spare + 1
  | .agg parts => uptoBulkAll parts + 1
  | .iface _ d => uptoBulk d + 1
  | .map entries => uptoBulkEntries entries + 1
  | .held _ => 1
def uptoBulkAll {H : Type} : List (DataW H) → Nat
  | [] => 0
  | d :: r => uptoBulk d + uptoBulkAll r
def uptoBulkEntries {H : Type} : List (Lit × DataW H) → Nat
  | [] => 0
  | x :: r => uptoBulkEntry x + uptoBulkEntries r
def uptoBulkEntry {H : Type} : Lit × DataW H → Nat
  | (.string bytes, d) => bytes.length + uptoBulk d + 1
  | (_, d) => uptoBulk d + 1
 end
def uptoSmall : (H : Type) → List (DataW H) → Bool := fun _ ds => decide (uptoBulkAll ds ≤ 1048576)
def OpenSpec.upto (s : _root_.Go.ChangeSpec) : _root_.Go.OpenSpec := { _root_.Go.OpenSpec.ofChange s with cond := some uptoSmall }

/-- 'donjonlaw12.PteWords', WHERE WHAT IT READS IS OF BULK AT MOST 1048576: true; the input reads as it did. -/
def pteWordsUptoRow : OpenClaim := { program := "yteeejhdciohelaa", sum := "06f409f9c958fccb2f0e98f17000d622086d879a0b118fbd31625d447da11706", func := "donjon/donjonlaw12.PteWords", spec := "pteWords", apart := false, narrowed := true }
def PteWordsUptoSaid : Prop := pteWordsUptoRow.holds Try.pinned (OpenSpec.upto pteWordsSpec)

/-- 'donjonlaw12.PteBack', WHERE WHAT IT READS IS OF BULK AT MOST 1048576: true; the input reads as it did. -/
def pteBackUptoRow : OpenClaim := { program := "yteeejhdciohelaa", sum := "06f409f9c958fccb2f0e98f17000d622086d879a0b118fbd31625d447da11706", func := "donjon/donjonlaw12.PteBack", spec := "pteBack", apart := false, narrowed := true }
def PteBackUptoSaid : Prop := pteBackUptoRow.holds Try.pinned (OpenSpec.upto pteBackSpec)

/-- 'donjonlaw12.PteFlags', WHERE WHAT IT READS IS OF BULK AT MOST 1048576: true; the input reads as it did. -/
def pteFlagsUptoRow : OpenClaim := { program := "yteeejhdciohelaa", sum := "06f409f9c958fccb2f0e98f17000d622086d879a0b118fbd31625d447da11706", func := "donjon/donjonlaw12.PteFlags", spec := "pteFlags", apart := false, narrowed := true }
def PteFlagsUptoSaid : Prop := pteFlagsUptoRow.holds Try.pinned (OpenSpec.upto pteFlagsSpec)

end Rows
end Go.Proofs.Yteeejhdciohelaa
