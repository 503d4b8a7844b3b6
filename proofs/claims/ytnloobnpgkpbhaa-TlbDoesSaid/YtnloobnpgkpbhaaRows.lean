/-
  No cell of these rows narrows 'for every input' (looked for: loops, veiled, ifaces, maps, wideKeys, modest, calm, conditions, laid).
  DERIVED. THE GIVEN ROWS OF THIS SEAT. 5 by the template 'for every input the law returns true; each argument reads behind the call as it read before'; 0 by the template 'total and deterministic' (their statements: YtnloobnpgkpbhaaTotals.lean).
  GIVEN WITH THE SEED: the statements are not yours to turn. If you find one false, say at which input.
  Laid BY PROGRAM, IN A SANDBOX (cutbox-rows.mjs): the forced cells as the released guide's own fill.sh prints them over the translation b225f258cdec71cc… (all of the seat's roots in one cut). By AI agents, Wed Nov 11 2026. No macro, syntax, notation, axiom, sorry.
-/
import Derived.Test.YtnloobnpgkpbhaaChecked
import GoSem.Claim
import GoSem.ClaimJoined
import GoSem.ClaimMapViews
import Derived.JoinedTies
import Derived.KernelRfl
namespace Go.Proofs.Ytnloobnpgkpbhaa
/- THE CELL 'sum', in the pinned program and in every row, IS THE sha256 OF THE DUMP (.gsa) THAT YtnloobnpgkpbhaaProg.lean LOADS. Nothing in Lean hashes anything: it is a label: what it is worth is what the hold of that sum in a sandbox is worth. -/
noncomputable def Try.pinned : Pinned := { name := "ytnloobnpgkpbhaa", sum := "b225f258cdec71cc02f47b6b5d678f18b66a026d2ba5d409ad9321d87db5845f", checked := Try.checked }
namespace Rows
def none {H : Type} : Left H := { results := [], args := [] }

/-- 'donjonlaw14.TlbYoungest': WHATEVER THE INPUT: true; the input reads as it did. -/
def tlbYoungestSpec : ChangeSpec := { name := "tlbYoungest", fn := fun _ => fun
  | [d1, d2] => { results := [.lit (.bool true)], args := [d1, d2] }
  | _ => none }
def tlbYoungestRow : OpenClaim := { program := "ytnloobnpgkpbhaa", sum := "b225f258cdec71cc02f47b6b5d678f18b66a026d2ba5d409ad9321d87db5845f", func := "donjon/donjonlaw14.TlbYoungest", spec := "tlbYoungest", unfollowed := true, recurses := true, apart := false }
def TlbYoungestSaid : Prop := tlbYoungestRow.holds Try.pinned (OpenSpec.ofChange tlbYoungestSpec)

/-- ITS FALSE NEIGHBOUR: 'it returns false'. Refute it at one input. -/
def tlbYoungestWrong : ChangeSpec := { name := "tlbYoungest", fn := fun _ => fun
  | [d1, d2] => { results := [.lit (.bool false)], args := [d1, d2] }
  | _ => none }
def TlbYoungestWrongFalsely : Prop := tlbYoungestRow.holds Try.pinned (OpenSpec.ofChange tlbYoungestWrong)

/-- 'donjonlaw14.TlbFlushes': WHATEVER THE INPUT: true; the input reads as it did. -/
def tlbFlushesSpec : ChangeSpec := { name := "tlbFlushes", fn := fun _ => fun
  | [d1, d2, d3] => { results := [.lit (.bool true)], args := [d1, d2, d3] }
  | _ => none }
def tlbFlushesRow : OpenClaim := { program := "ytnloobnpgkpbhaa", sum := "b225f258cdec71cc02f47b6b5d678f18b66a026d2ba5d409ad9321d87db5845f", func := "donjon/donjonlaw14.TlbFlushes", spec := "tlbFlushes", unfollowed := true, recurses := true, apart := false }
def TlbFlushesSaid : Prop := tlbFlushesRow.holds Try.pinned (OpenSpec.ofChange tlbFlushesSpec)

/-- ITS FALSE NEIGHBOUR: 'it returns false'. Refute it at one input. -/
def tlbFlushesWrong : ChangeSpec := { name := "tlbFlushes", fn := fun _ => fun
  | [d1, d2, d3] => { results := [.lit (.bool false)], args := [d1, d2, d3] }
  | _ => none }
def TlbFlushesWrongFalsely : Prop := tlbFlushesRow.holds Try.pinned (OpenSpec.ofChange tlbFlushesWrong)

/-- 'donjonlaw14.TlbDoes': WHATEVER THE INPUT: true; the input reads as it did. -/
def tlbDoesSpec : ChangeSpec := { name := "tlbDoes", fn := fun _ => fun
  | [d1, d2, d3] => { results := [.lit (.bool true)], args := [d1, d2, d3] }
  | _ => none }
def tlbDoesRow : OpenClaim := { program := "ytnloobnpgkpbhaa", sum := "b225f258cdec71cc02f47b6b5d678f18b66a026d2ba5d409ad9321d87db5845f", func := "donjon/donjonlaw14.TlbDoes", spec := "tlbDoes", unfollowed := true, recurses := true, apart := false }
def TlbDoesSaid : Prop := tlbDoesRow.holds Try.pinned (OpenSpec.ofChange tlbDoesSpec)

/-- ITS FALSE NEIGHBOUR: 'it returns false'. Refute it at one input. -/
def tlbDoesWrong : ChangeSpec := { name := "tlbDoes", fn := fun _ => fun
  | [d1, d2, d3] => { results := [.lit (.bool false)], args := [d1, d2, d3] }
  | _ => none }
def TlbDoesWrongFalsely : Prop := tlbDoesRow.holds Try.pinned (OpenSpec.ofChange tlbDoesWrong)

/-- 'donjonlaw14.TlbTrue': WHATEVER THE INPUT: true; the input reads as it did. -/
def tlbTrueSpec : ChangeSpec := { name := "tlbTrue", fn := fun _ => fun
  | [d1, d2, d3, d4] => { results := [.lit (.bool true)], args := [d1, d2, d3, d4] }
  | _ => none }
def tlbTrueRow : OpenClaim := { program := "ytnloobnpgkpbhaa", sum := "b225f258cdec71cc02f47b6b5d678f18b66a026d2ba5d409ad9321d87db5845f", func := "donjon/donjonlaw14.TlbTrue", spec := "tlbTrue", unfollowed := true, recurses := true, apart := false }
def TlbTrueSaid : Prop := tlbTrueRow.holds Try.pinned (OpenSpec.ofChange tlbTrueSpec)

/-- ITS FALSE NEIGHBOUR: 'it returns false'. Refute it at one input. -/
def tlbTrueWrong : ChangeSpec := { name := "tlbTrue", fn := fun _ => fun
  | [d1, d2, d3, d4] => { results := [.lit (.bool false)], args := [d1, d2, d3, d4] }
  | _ => none }
def TlbTrueWrongFalsely : Prop := tlbTrueRow.holds Try.pinned (OpenSpec.ofChange tlbTrueWrong)

/-- 'donjonlaw14.TlbDrops': WHATEVER THE INPUT: true; the input reads as it did. -/
def tlbDropsSpec : ChangeSpec := { name := "tlbDrops", fn := fun _ => fun
  | [d1, d2, d3, d4] => { results := [.lit (.bool true)], args := [d1, d2, d3, d4] }
  | _ => none }
def tlbDropsRow : OpenClaim := { program := "ytnloobnpgkpbhaa", sum := "b225f258cdec71cc02f47b6b5d678f18b66a026d2ba5d409ad9321d87db5845f", func := "donjon/donjonlaw14.TlbDrops", spec := "tlbDrops", unfollowed := true, recurses := true, apart := false }
def TlbDropsSaid : Prop := tlbDropsRow.holds Try.pinned (OpenSpec.ofChange tlbDropsSpec)

/-- ITS FALSE NEIGHBOUR: 'it returns false'. Refute it at one input. -/
def tlbDropsWrong : ChangeSpec := { name := "tlbDrops", fn := fun _ => fun
  | [d1, d2, d3, d4] => { results := [.lit (.bool false)], args := [d1, d2, d3, d4] }
  | _ => none }
def TlbDropsWrongFalsely : Prop := tlbDropsRow.holds Try.pinned (OpenSpec.ofChange tlbDropsWrong)

/- THE SECOND FORM. 'bulk': how many values and letters a reading holds, each counted each time it is reached (what is shared counts as often as it is met; a slice's spare places count too). A statement '..UptoSaid' is the law's where the arguments, and the package variables that the reading takes, are together of bulk at most 1048576: NARROWER than '..Said'. Prove '..Said' where nothing that the law and all that it calls make is longer than what came in: it says more and counts as full. Else prove '..UptoSaid'. A law counts once. -/
mutual
def uptoBulk {H : Type} : DataW H → Nat
  | .lit (.string bytes) => bytes.length + 1
  | .lit _ => 1
  | .nil => 1
  | .ptr d => uptoBulk d + 1
  | .slice elems spare => uptoBulkAll elems + uptoBulkAll spare + 1
  | .agg parts => uptoBulkAll parts + 1
  | .iface _ d => uptoBulk d + 1
  | .map entries => uptoBulkEntries entries + 1
  | .held _ => 1
def uptoBulkAll {H : Type} : List (DataW H) → Nat
  | [] => 0
  | d :: r => uptoBulk d + uptoBulkAll r
def uptoBulkEntries {H : Type} : List (Lit × DataW H) → Nat
  | [] => 0
  | x :: r => uptoBulkEntry x + uptoBulkEntries r
def uptoBulkEntry {H : Type} : Lit × DataW H → Nat
  | (.string bytes, d) => bytes.length + uptoBulk d + 1
  | (_, d) => uptoBulk d + 1
 end
def uptoSmall : (H : Type) → List (DataW H) → Bool := fun _ ds => decide (uptoBulkAll ds ≤ 1048576)
def OpenSpec.upto (s : _root_.Go.ChangeSpec) : _root_.Go.OpenSpec := { _root_.Go.OpenSpec.ofChange s with cond := some uptoSmall }

/-- 'donjonlaw14.TlbYoungest', WHERE WHAT IT READS IS OF BULK AT MOST 1048576: true; the input reads as it did. -/
def tlbYoungestUptoRow : OpenClaim := { program := "ytnloobnpgkpbhaa", sum := "b225f258cdec71cc02f47b6b5d678f18b66a026d2ba5d409ad9321d87db5845f", func := "donjon/donjonlaw14.TlbYoungest", spec := "tlbYoungest", unfollowed := true, recurses := true, apart := false, narrowed := true }
def TlbYoungestUptoSaid : Prop := tlbYoungestUptoRow.holds Try.pinned (OpenSpec.upto tlbYoungestSpec)

/-- 'donjonlaw14.TlbFlushes', WHERE WHAT IT READS IS OF BULK AT MOST 1048576: true; the input reads as it did. -/
def tlbFlushesUptoRow : OpenClaim := { program := "ytnloobnpgkpbhaa", sum := "b225f258cdec71cc02f47b6b5d678f18b66a026d2ba5d409ad9321d87db5845f", func := "donjon/donjonlaw14.TlbFlushes", spec := "tlbFlushes", unfollowed := true, recurses := true, apart := false, narrowed := true }
def TlbFlushesUptoSaid : Prop := tlbFlushesUptoRow.holds Try.pinned (OpenSpec.upto tlbFlushesSpec)

/-- 'donjonlaw14.TlbDoes', WHERE WHAT IT READS IS OF BULK AT MOST 1048576: true; the input reads as it did. -/
def tlbDoesUptoRow : OpenClaim := { program := "ytnloobnpgkpbhaa", sum := "b225f258cdec71cc02f47b6b5d678f18b66a026d2ba5d409ad9321d87db5845f", func := "donjon/donjonlaw14.TlbDoes", spec := "tlbDoes", unfollowed := true, recurses := true, apart := false, narrowed := true }
def TlbDoesUptoSaid : Prop := tlbDoesUptoRow.holds Try.pinned (OpenSpec.upto tlbDoesSpec)

/-- 'donjonlaw14.TlbTrue', WHERE WHAT IT READS IS OF BULK AT MOST 1048576: true; the input reads as it did. -/
def tlbTrueUptoRow : OpenClaim := { program := "ytnloobnpgkpbhaa", sum := "b225f258cdec71cc02f47b6b5d678f18b66a026d2ba5d409ad9321d87db5845f", func := "donjon/donjonlaw14.TlbTrue", spec := "tlbTrue", unfollowed := true, recurses := true, apart := false, narrowed := true }
def TlbTrueUptoSaid : Prop := tlbTrueUptoRow.holds Try.pinned (OpenSpec.upto tlbTrueSpec)

/-- 'donjonlaw14.TlbDrops', WHERE WHAT IT READS IS OF BULK AT MOST 1048576: true; the input reads as it did. -/
def tlbDropsUptoRow : OpenClaim := { program := "ytnloobnpgkpbhaa", sum := "b225f258cdec71cc02f47b6b5d678f18b66a026d2ba5d409ad9321d87db5845f", func := "donjon/donjonlaw14.TlbDrops", spec := "tlbDrops", unfollowed := true, recurses := true, apart := false, narrowed := true }
def TlbDropsUptoSaid : Prop := tlbDropsUptoRow.holds Try.pinned (OpenSpec.upto tlbDropsSpec)

end Rows
end Go.Proofs.Ytnloobnpgkpbhaa
