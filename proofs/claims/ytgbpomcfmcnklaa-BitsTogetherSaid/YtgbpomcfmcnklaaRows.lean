/-
  No cell of these rows narrows 'for every input' (looked for: loops, veiled, ifaces, maps, wideKeys, modest, calm, conditions, laid).
  DERIVED. THE GIVEN ROWS OF THIS SEAT. 8 by the template 'for every input the law returns true; each argument reads behind the call as it read before'; 0 by the template 'total and deterministic' (their statements: YtgbpomcfmcnklaaTotals.lean).
  GIVEN WITH THE SEED: the statements are not yours to turn. If you find one false, say at which input.
  Laid BY PROGRAM, IN A SANDBOX (cutbox-rows.mjs): the forced cells as the released guide's own fill.sh prints them over the translation 508e5b7b5bc86959… (all of the seat's roots in one cut). By AI agents, Wed Nov 11 2026. No macro, syntax, notation, axiom, sorry.
-/
import Derived.Test.YtgbpomcfmcnklaaChecked
import GoSem.Claim
import GoSem.ClaimJoined
import GoSem.ClaimMapViews
import Derived.JoinedTies
import Derived.KernelRfl
namespace Go.Proofs.Ytgbpomcfmcnklaa
/- THE CELL 'sum', in the pinned program and in every row, IS THE sha256 OF THE DUMP (.gsa) THAT YtgbpomcfmcnklaaProg.lean LOADS. Nothing in Lean hashes anything: it is a label: what it is worth is what the hold of that sum in a sandbox is worth. -/
noncomputable def Try.pinned : Pinned := { name := "ytgbpomcfmcnklaa", sum := "508e5b7b5bc869594d55784c92e1a00cf6d57333e5668d99d48b0ad41ad6536a", checked := Try.checked }
namespace Rows
def none {H : Type} : Left H := { results := [], args := [] }

/-- 'donjonlaw01.BitsUps': WHATEVER THE INPUT: true; the input reads as it did. -/
def bitsUpsSpec : ChangeSpec := { name := "bitsUps", fn := fun _ => fun
  | [d1, d2] => { results := [.lit (.bool true)], args := [d1, d2] }
  | _ => none }
def bitsUpsRow : OpenClaim := { program := "ytgbpomcfmcnklaa", sum := "508e5b7b5bc869594d55784c92e1a00cf6d57333e5668d99d48b0ad41ad6536a", func := "donjon/donjonlaw01.BitsUps", spec := "bitsUps", apart := false }
def BitsUpsSaid : Prop := bitsUpsRow.holds Try.pinned (OpenSpec.ofChange bitsUpsSpec)

/-- ITS FALSE NEIGHBOUR: 'it returns false'. Refute it at one input. -/
def bitsUpsWrong : ChangeSpec := { name := "bitsUps", fn := fun _ => fun
  | [d1, d2] => { results := [.lit (.bool false)], args := [d1, d2] }
  | _ => none }
def BitsUpsWrongFalsely : Prop := bitsUpsRow.holds Try.pinned (OpenSpec.ofChange bitsUpsWrong)

/-- 'donjonlaw01.BitsFields': WHATEVER THE INPUT: true; the input reads as it did. -/
def bitsFieldsSpec : ChangeSpec := { name := "bitsFields", fn := fun _ => fun
  | [d1, d2, d3, d4] => { results := [.lit (.bool true)], args := [d1, d2, d3, d4] }
  | _ => none }
def bitsFieldsRow : OpenClaim := { program := "ytgbpomcfmcnklaa", sum := "508e5b7b5bc869594d55784c92e1a00cf6d57333e5668d99d48b0ad41ad6536a", func := "donjon/donjonlaw01.BitsFields", spec := "bitsFields", apart := false }
def BitsFieldsSaid : Prop := bitsFieldsRow.holds Try.pinned (OpenSpec.ofChange bitsFieldsSpec)

/-- ITS FALSE NEIGHBOUR: 'it returns false'. Refute it at one input. -/
def bitsFieldsWrong : ChangeSpec := { name := "bitsFields", fn := fun _ => fun
  | [d1, d2, d3, d4] => { results := [.lit (.bool false)], args := [d1, d2, d3, d4] }
  | _ => none }
def BitsFieldsWrongFalsely : Prop := bitsFieldsRow.holds Try.pinned (OpenSpec.ofChange bitsFieldsWrong)

/-- 'donjonlaw01.BitsCounts': WHATEVER THE INPUT: true; the input reads as it did. -/
def bitsCountsSpec : ChangeSpec := { name := "bitsCounts", fn := fun _ => fun
  | [d] => { results := [.lit (.bool true)], args := [d] }
  | _ => none }
def bitsCountsRow : OpenClaim := { program := "ytgbpomcfmcnklaa", sum := "508e5b7b5bc869594d55784c92e1a00cf6d57333e5668d99d48b0ad41ad6536a", func := "donjon/donjonlaw01.BitsCounts", spec := "bitsCounts", apart := false }
def BitsCountsSaid : Prop := bitsCountsRow.holds Try.pinned (OpenSpec.ofChange bitsCountsSpec)

/-- ITS FALSE NEIGHBOUR: 'it returns false'. Refute it at one input. -/
def bitsCountsWrong : ChangeSpec := { name := "bitsCounts", fn := fun _ => fun
  | [d] => { results := [.lit (.bool false)], args := [d] }
  | _ => none }
def BitsCountsWrongFalsely : Prop := bitsCountsRow.holds Try.pinned (OpenSpec.ofChange bitsCountsWrong)

/-- 'donjonlaw01.BitsBack': WHATEVER THE INPUT: true; the input reads as it did. -/
def bitsBackSpec : ChangeSpec := { name := "bitsBack", fn := fun _ => fun
  | [d1, d2, d3, d4] => { results := [.lit (.bool true)], args := [d1, d2, d3, d4] }
  | _ => none }
def bitsBackRow : OpenClaim := { program := "ytgbpomcfmcnklaa", sum := "508e5b7b5bc869594d55784c92e1a00cf6d57333e5668d99d48b0ad41ad6536a", func := "donjon/donjonlaw01.BitsBack", spec := "bitsBack", apart := false }
def BitsBackSaid : Prop := bitsBackRow.holds Try.pinned (OpenSpec.ofChange bitsBackSpec)

/-- ITS FALSE NEIGHBOUR: 'it returns false'. Refute it at one input. -/
def bitsBackWrong : ChangeSpec := { name := "bitsBack", fn := fun _ => fun
  | [d1, d2, d3, d4] => { results := [.lit (.bool false)], args := [d1, d2, d3, d4] }
  | _ => none }
def BitsBackWrongFalsely : Prop := bitsBackRow.holds Try.pinned (OpenSpec.ofChange bitsBackWrong)

/-- 'donjonlaw01.BitsMultiples': WHATEVER THE INPUT: true; the input reads as it did. -/
def bitsMultiplesSpec : ChangeSpec := { name := "bitsMultiples", fn := fun _ => fun
  | [d1, d2] => { results := [.lit (.bool true)], args := [d1, d2] }
  | _ => none }
def bitsMultiplesRow : OpenClaim := { program := "ytgbpomcfmcnklaa", sum := "508e5b7b5bc869594d55784c92e1a00cf6d57333e5668d99d48b0ad41ad6536a", func := "donjon/donjonlaw01.BitsMultiples", spec := "bitsMultiples", apart := false }
def BitsMultiplesSaid : Prop := bitsMultiplesRow.holds Try.pinned (OpenSpec.ofChange bitsMultiplesSpec)

/-- ITS FALSE NEIGHBOUR: 'it returns false'. Refute it at one input. -/
def bitsMultiplesWrong : ChangeSpec := { name := "bitsMultiples", fn := fun _ => fun
  | [d1, d2] => { results := [.lit (.bool false)], args := [d1, d2] }
  | _ => none }
def BitsMultiplesWrongFalsely : Prop := bitsMultiplesRow.holds Try.pinned (OpenSpec.ofChange bitsMultiplesWrong)

/-- 'donjonlaw01.BitsTogether': WHATEVER THE INPUT: true; the input reads as it did. -/
def bitsTogetherSpec : ChangeSpec := { name := "bitsTogether", fn := fun _ => fun
  | [d1, d2] => { results := [.lit (.bool true)], args := [d1, d2] }
  | _ => none }
def bitsTogetherRow : OpenClaim := { program := "ytgbpomcfmcnklaa", sum := "508e5b7b5bc869594d55784c92e1a00cf6d57333e5668d99d48b0ad41ad6536a", func := "donjon/donjonlaw01.BitsTogether", spec := "bitsTogether", apart := false }
def BitsTogetherSaid : Prop := bitsTogetherRow.holds Try.pinned (OpenSpec.ofChange bitsTogetherSpec)

/-- ITS FALSE NEIGHBOUR: 'it returns false'. Refute it at one input. -/
def bitsTogetherWrong : ChangeSpec := { name := "bitsTogether", fn := fun _ => fun
  | [d1, d2] => { results := [.lit (.bool false)], args := [d1, d2] }
  | _ => none }
def BitsTogetherWrongFalsely : Prop := bitsTogetherRow.holds Try.pinned (OpenSpec.ofChange bitsTogetherWrong)

/-- 'donjonlaw01.BitsEnds': WHATEVER THE INPUT: true; the input reads as it did. -/
def bitsEndsSpec : ChangeSpec := { name := "bitsEnds", fn := fun _ => fun
  | [d] => { results := [.lit (.bool true)], args := [d] }
  | _ => none }
def bitsEndsRow : OpenClaim := { program := "ytgbpomcfmcnklaa", sum := "508e5b7b5bc869594d55784c92e1a00cf6d57333e5668d99d48b0ad41ad6536a", func := "donjon/donjonlaw01.BitsEnds", spec := "bitsEnds", apart := false }
def BitsEndsSaid : Prop := bitsEndsRow.holds Try.pinned (OpenSpec.ofChange bitsEndsSpec)

/-- ITS FALSE NEIGHBOUR: 'it returns false'. Refute it at one input. -/
def bitsEndsWrong : ChangeSpec := { name := "bitsEnds", fn := fun _ => fun
  | [d] => { results := [.lit (.bool false)], args := [d] }
  | _ => none }
def BitsEndsWrongFalsely : Prop := bitsEndsRow.holds Try.pinned (OpenSpec.ofChange bitsEndsWrong)

/-- 'donjonlaw01.BitsApart': WHATEVER THE INPUT: true; the input reads as it did. -/
def bitsApartSpec : ChangeSpec := { name := "bitsApart", fn := fun _ => fun
  | [d1, d2, d3, d4, d5] => { results := [.lit (.bool true)], args := [d1, d2, d3, d4, d5] }
  | _ => none }
def bitsApartRow : OpenClaim := { program := "ytgbpomcfmcnklaa", sum := "508e5b7b5bc869594d55784c92e1a00cf6d57333e5668d99d48b0ad41ad6536a", func := "donjon/donjonlaw01.BitsApart", spec := "bitsApart", apart := false }
def BitsApartSaid : Prop := bitsApartRow.holds Try.pinned (OpenSpec.ofChange bitsApartSpec)

/-- ITS FALSE NEIGHBOUR: 'it returns false'. Refute it at one input. -/
def bitsApartWrong : ChangeSpec := { name := "bitsApart", fn := fun _ => fun
  | [d1, d2, d3, d4, d5] => { results := [.lit (.bool false)], args := [d1, d2, d3, d4, d5] }
  | _ => none }
def BitsApartWrongFalsely : Prop := bitsApartRow.holds Try.pinned (OpenSpec.ofChange bitsApartWrong)

/- THE SECOND FORM. 'bulk': how many values and letters a reading holds, each counted each time it is reached (what is shared counts as often as it is met; a slice's spare places count too). A statement '..UptoSaid' is the law's where the arguments, and the package variables that the reading takes, are together of bulk at most 1048576: NARROWER than '..Said'. Prove '..Said' where nothing that the law and all that it calls make is longer than what came in: it says more and counts as full. Else prove '..UptoSaid'. A law counts once. -/
mutual
def uptoBulk {H : Type} : DataW H → Nat
  | .lit (.string bytes) => bytes.length + 1
  | .lit _ => 1
  | .nil => 1
  | .ptr d => uptoBulk d + 1
  | .slice elems spare => uptoBulkAll elems + uptoBulkAll spare + 1
  | .agg parts => uptoBulkAll parts + 1
  | .iface _ d => uptoBulk d + 1
  | .map entries => uptoBulkEntries entries + 1
  | .held _ => 1
def uptoBulkAll {H : Type} : List (DataW H) → Nat
  | [] => 0
  | d :: r => uptoBulk d + uptoBulkAll r
def uptoBulkEntries {H : Type} : List (Lit × DataW H) → Nat
  | [] => 0
  | x :: r => uptoBulkEntry x + uptoBulkEntries r
def uptoBulkEntry {H : Type} : Lit × DataW H → Nat
  | (.string bytes, d) => bytes.length + uptoBulk d + 1
  | (_, d) => uptoBulk d + 1
 end
def uptoSmall : (H : Type) → List (DataW H) → Bool := fun _ ds => decide (uptoBulkAll ds ≤ 1048576)
def OpenSpec.upto (s : _root_.Go.ChangeSpec) : _root_.Go.OpenSpec := { _root_.Go.OpenSpec.ofChange s with cond := some uptoSmall }

/-- 'donjonlaw01.BitsUps', WHERE WHAT IT READS IS OF BULK AT MOST 1048576: true; the input reads as it did. -/
def bitsUpsUptoRow : OpenClaim := { program := "ytgbpomcfmcnklaa", sum := "508e5b7b5bc869594d55784c92e1a00cf6d57333e5668d99d48b0ad41ad6536a", func := "donjon/donjonlaw01.BitsUps", spec := "bitsUps", apart := false, narrowed := true }
def BitsUpsUptoSaid : Prop := bitsUpsUptoRow.holds Try.pinned (OpenSpec.upto bitsUpsSpec)

/-- 'donjonlaw01.BitsFields', WHERE WHAT IT READS IS OF BULK AT MOST 1048576: true; the input reads as it did. -/
def bitsFieldsUptoRow : OpenClaim := { program := "ytgbpomcfmcnklaa", sum := "508e5b7b5bc869594d55784c92e1a00cf6d57333e5668d99d48b0ad41ad6536a", func := "donjon/donjonlaw01.BitsFields", spec := "bitsFields", apart := false, narrowed := true }
def BitsFieldsUptoSaid : Prop := bitsFieldsUptoRow.holds Try.pinned (OpenSpec.upto bitsFieldsSpec)

/-- 'donjonlaw01.BitsCounts', WHERE WHAT IT READS IS OF BULK AT MOST 1048576: true; the input reads as it did. -/
def bitsCountsUptoRow : OpenClaim := { program := "ytgbpomcfmcnklaa", sum := "508e5b7b5bc869594d55784c92e1a00cf6d57333e5668d99d48b0ad41ad6536a", func := "donjon/donjonlaw01.BitsCounts", spec := "bitsCounts", apart := false, narrowed := true }
def BitsCountsUptoSaid : Prop := bitsCountsUptoRow.holds Try.pinned (OpenSpec.upto bitsCountsSpec)

/-- 'donjonlaw01.BitsBack', WHERE WHAT IT READS IS OF BULK AT MOST 1048576: true; the input reads as it did. -/
def bitsBackUptoRow : OpenClaim := { program := "ytgbpomcfmcnklaa", sum := "508e5b7b5bc869594d55784c92e1a00cf6d57333e5668d99d48b0ad41ad6536a", func := "donjon/donjonlaw01.BitsBack", spec := "bitsBack", apart := false, narrowed := true }
def BitsBackUptoSaid : Prop := bitsBackUptoRow.holds Try.pinned (OpenSpec.upto bitsBackSpec)

/-- 'donjonlaw01.BitsMultiples', WHERE WHAT IT READS IS OF BULK AT MOST 1048576: true; the input reads as it did. -/
def bitsMultiplesUptoRow : OpenClaim := { program := "ytgbpomcfmcnklaa", sum := "508e5b7b5bc869594d55784c92e1a00cf6d57333e5668d99d48b0ad41ad6536a", func := "donjon/donjonlaw01.BitsMultiples", spec := "bitsMultiples", apart := false, narrowed := true }
def BitsMultiplesUptoSaid : Prop := bitsMultiplesUptoRow.holds Try.pinned (OpenSpec.upto bitsMultiplesSpec)

/-- 'donjonlaw01.BitsTogether', WHERE WHAT IT READS IS OF BULK AT MOST 1048576: true; the input reads as it did. -/
def bitsTogetherUptoRow : OpenClaim := { program := "ytgbpomcfmcnklaa", sum := "508e5b7b5bc869594d55784c92e1a00cf6d57333e5668d99d48b0ad41ad6536a", func := "donjon/donjonlaw01.BitsTogether", spec := "bitsTogether", apart := false, narrowed := true }
def BitsTogetherUptoSaid : Prop := bitsTogetherUptoRow.holds Try.pinned (OpenSpec.upto bitsTogetherSpec)

/-- 'donjonlaw01.BitsEnds', WHERE WHAT IT READS IS OF BULK AT MOST 1048576: true; the input reads as it did. -/
def bitsEndsUptoRow : OpenClaim := { program := "ytgbpomcfmcnklaa", sum := "508e5b7b5bc869594d55784c92e1a00cf6d57333e5668d99d48b0ad41ad6536a", func := "donjon/donjonlaw01.BitsEnds", spec := "bitsEnds", apart := false, narrowed := true }
def BitsEndsUptoSaid : Prop := bitsEndsUptoRow.holds Try.pinned (OpenSpec.upto bitsEndsSpec)

/-- 'donjonlaw01.BitsApart', WHERE WHAT IT READS IS OF BULK AT MOST 1048576: true; the input reads as it did. -/
def bitsApartUptoRow : OpenClaim := { program := "ytgbpomcfmcnklaa", sum := "508e5b7b5bc869594d55784c92e1a00cf6d57333e5668d99d48b0ad41ad6536a", func := "donjon/donjonlaw01.BitsApart", spec := "bitsApart", apart := false, narrowed := true }
def BitsApartUptoSaid : Prop := bitsApartUptoRow.holds Try.pinned (OpenSpec.upto bitsApartSpec)

end Rows
end Go.Proofs.Ytgbpomcfmcnklaa
