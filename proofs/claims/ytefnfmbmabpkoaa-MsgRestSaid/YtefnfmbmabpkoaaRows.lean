/-
  No cell of these rows narrows 'for every input' (looked for: loops, veiled, ifaces, maps, wideKeys, modest, calm, conditions, laid).
  DERIVED. THE GIVEN ROWS OF THIS SEAT. 6 by the template 'for every input the law returns true; each argument reads behind the call as it read before'; 0 by the template 'total and deterministic' (their statements: YtefnfmbmabpkoaaTotals.lean).
  GIVEN WITH THE SEED: the statements are not yours to turn. If you find one false, say at which input.
  Laid BY PROGRAM, IN A SANDBOX (cutbox-rows.mjs): the forced cells as the released guide's own fill.sh prints them over the translation 6041c6d8ae6793d2… (all of the seat's roots in one cut). By AI agents, Wed Nov 11 2026. No macro, syntax, notation, axiom, sorry.
-/
import Derived.Test.YtefnfmbmabpkoaaChecked
import GoSem.Claim
import GoSem.ClaimJoined
import GoSem.ClaimMapViews
import Derived.JoinedTies
import Derived.KernelRfl
namespace Go.Proofs.Ytefnfmbmabpkoaa
/- THE CELL 'sum', in the pinned program and in every row, IS THE sha256 OF THE DUMP (.gsa) THAT YtefnfmbmabpkoaaProg.lean LOADS. Nothing in Lean hashes anything: it is a label: what it is worth is what the hold of that sum in a sandbox is worth. -/
noncomputable def Try.pinned : Pinned := { name := "ytefnfmbmabpkoaa", sum := "6041c6d8ae6793d277d00445d2b4d864bf047f8f8b21e137a62ae732a39346ed", checked := Try.checked }
namespace Rows
def none {H : Type} : Left H := { results := [], args := [] }

/-- 'donjonlaw16.MsgInfos': WHATEVER THE INPUT: true; the input reads as it did. -/
def msgInfosSpec : ChangeSpec := { name := "msgInfos", fn := fun _ => fun
  | [d1, d2] => { results := [.lit (.bool true)], args := [d1, d2] }
  | _ => none }
def msgInfosRow : OpenClaim := { program := "ytefnfmbmabpkoaa", sum := "6041c6d8ae6793d277d00445d2b4d864bf047f8f8b21e137a62ae732a39346ed", func := "donjon/donjonlaw16.MsgInfos", spec := "msgInfos", apart := false }
def MsgInfosSaid : Prop := msgInfosRow.holds Try.pinned (OpenSpec.ofChange msgInfosSpec)

/-- ITS FALSE NEIGHBOUR: 'it returns false'. Refute it at one input. -/
def msgInfosWrong : ChangeSpec := { name := "msgInfos", fn := fun _ => fun
  | [d1, d2] => { results := [.lit (.bool false)], args := [d1, d2] }
  | _ => none }
def MsgInfosWrongFalsely : Prop := msgInfosRow.holds Try.pinned (OpenSpec.ofChange msgInfosWrong)

/-- 'donjonlaw16.MsgCarries': WHATEVER THE INPUT: true; the input reads as it did. -/
def msgCarriesSpec : ChangeSpec := { name := "msgCarries", fn := fun _ => fun
  | [d1, d2, d3, d4, d5] => { results := [.lit (.bool true)], args := [d1, d2, d3, d4, d5] }
  | _ => none }
def msgCarriesRow : OpenClaim := { program := "ytefnfmbmabpkoaa", sum := "6041c6d8ae6793d277d00445d2b4d864bf047f8f8b21e137a62ae732a39346ed", func := "donjon/donjonlaw16.MsgCarries", spec := "msgCarries", apart := false }
def MsgCarriesSaid : Prop := msgCarriesRow.holds Try.pinned (OpenSpec.ofChange msgCarriesSpec)

/-- ITS FALSE NEIGHBOUR: 'it returns false'. Refute it at one input. -/
def msgCarriesWrong : ChangeSpec := { name := "msgCarries", fn := fun _ => fun
  | [d1, d2, d3, d4, d5] => { results := [.lit (.bool false)], args := [d1, d2, d3, d4, d5] }
  | _ => none }
def MsgCarriesWrongFalsely : Prop := msgCarriesRow.holds Try.pinned (OpenSpec.ofChange msgCarriesWrong)

/-- 'donjonlaw16.MsgBack': WHATEVER THE INPUT: true; the input reads as it did. -/
def msgBackSpec : ChangeSpec := { name := "msgBack", fn := fun _ => fun
  | [d1, d2] => { results := [.lit (.bool true)], args := [d1, d2] }
  | _ => none }
def msgBackRow : OpenClaim := { program := "ytefnfmbmabpkoaa", sum := "6041c6d8ae6793d277d00445d2b4d864bf047f8f8b21e137a62ae732a39346ed", func := "donjon/donjonlaw16.MsgBack", spec := "msgBack", apart := false }
def MsgBackSaid : Prop := msgBackRow.holds Try.pinned (OpenSpec.ofChange msgBackSpec)

/-- ITS FALSE NEIGHBOUR: 'it returns false'. Refute it at one input. -/
def msgBackWrong : ChangeSpec := { name := "msgBack", fn := fun _ => fun
  | [d1, d2] => { results := [.lit (.bool false)], args := [d1, d2] }
  | _ => none }
def MsgBackWrongFalsely : Prop := msgBackRow.holds Try.pinned (OpenSpec.ofChange msgBackWrong)

/-- 'donjonlaw16.MsgRest': WHATEVER THE INPUT: true; the input reads as it did. -/
def msgRestSpec : ChangeSpec := { name := "msgRest", fn := fun _ => fun
  | [d1, d2, d3, d4, d5] => { results := [.lit (.bool true)], args := [d1, d2, d3, d4, d5] }
  | _ => none }
def msgRestRow : OpenClaim := { program := "ytefnfmbmabpkoaa", sum := "6041c6d8ae6793d277d00445d2b4d864bf047f8f8b21e137a62ae732a39346ed", func := "donjon/donjonlaw16.MsgRest", spec := "msgRest", apart := false }
def MsgRestSaid : Prop := msgRestRow.holds Try.pinned (OpenSpec.ofChange msgRestSpec)

/-- ITS FALSE NEIGHBOUR: 'it returns false'. Refute it at one input. -/
def msgRestWrong : ChangeSpec := { name := "msgRest", fn := fun _ => fun
  | [d1, d2, d3, d4, d5] => { results := [.lit (.bool false)], args := [d1, d2, d3, d4, d5] }
  | _ => none }
def MsgRestWrongFalsely : Prop := msgRestRow.holds Try.pinned (OpenSpec.ofChange msgRestWrong)

/-- 'donjonlaw16.MsgAnswers': WHATEVER THE INPUT: true; the input reads as it did. -/
def msgAnswersSpec : ChangeSpec := { name := "msgAnswers", fn := fun _ => fun
  | [d1, d2, d3] => { results := [.lit (.bool true)], args := [d1, d2, d3] }
  | _ => none }
def msgAnswersRow : OpenClaim := { program := "ytefnfmbmabpkoaa", sum := "6041c6d8ae6793d277d00445d2b4d864bf047f8f8b21e137a62ae732a39346ed", func := "donjon/donjonlaw16.MsgAnswers", spec := "msgAnswers", apart := false }
def MsgAnswersSaid : Prop := msgAnswersRow.holds Try.pinned (OpenSpec.ofChange msgAnswersSpec)

/-- ITS FALSE NEIGHBOUR: 'it returns false'. Refute it at one input. -/
def msgAnswersWrong : ChangeSpec := { name := "msgAnswers", fn := fun _ => fun
  | [d1, d2, d3] => { results := [.lit (.bool false)], args := [d1, d2, d3] }
  | _ => none }
def MsgAnswersWrongFalsely : Prop := msgAnswersRow.holds Try.pinned (OpenSpec.ofChange msgAnswersWrong)

/-- 'donjonlaw16.MsgTwice': WHATEVER THE INPUT: true; the input reads as it did. -/
def msgTwiceSpec : ChangeSpec := { name := "msgTwice", fn := fun _ => fun
  | [d1, d2, d3, d4, d5, d6] => { results := [.lit (.bool true)], args := [d1, d2, d3, d4, d5, d6] }
  | _ => none }
def msgTwiceRow : OpenClaim := { program := "ytefnfmbmabpkoaa", sum := "6041c6d8ae6793d277d00445d2b4d864bf047f8f8b21e137a62ae732a39346ed", func := "donjon/donjonlaw16.MsgTwice", spec := "msgTwice", apart := false }
def MsgTwiceSaid : Prop := msgTwiceRow.holds Try.pinned (OpenSpec.ofChange msgTwiceSpec)

/-- ITS FALSE NEIGHBOUR: 'it returns false'. Refute it at one input. -/
def msgTwiceWrong : ChangeSpec := { name := "msgTwice", fn := fun _ => fun
  | [d1, d2, d3, d4, d5, d6] => { results := [.lit (.bool false)], args := [d1, d2, d3, d4, d5, d6] }
  | _ => none }
def MsgTwiceWrongFalsely : Prop := msgTwiceRow.holds Try.pinned (OpenSpec.ofChange msgTwiceWrong)

/- THE SECOND FORM. 'bulk': how many values and letters a reading holds, each counted each time it is reached (what is shared counts as often as it is met; a slice's spare places count too). A statement '..UptoSaid' is the law's where the arguments, and the package variables that the reading takes, are together of bulk at most 1048576: NARROWER than '..Said'. Prove '..Said' where nothing that the law and all that it calls make is longer than what came in: it says more and counts as full. Else prove '..UptoSaid'. A law counts once. -/
mutual
def uptoBulk {H : Type} : DataW H → Nat
  | .lit (.string bytes) => bytes.length + 1
  | .lit _ => 1
  | .nil => 1
  | .ptr d => uptoBulk d + 1
  | .slice elems spare => uptoBulkAll elems + uptoBulkAll spare + 1
  | .agg parts => uptoBulkAll parts + 1
  | .iface _ d => uptoBulk d + 1
  | .map entries => uptoBulkEntries entries + 1
  | .held _ => 1
def uptoBulkAll {H : Type} : List (DataW H) → Nat
  | [] => 0
  | d :: r => uptoBulk d + uptoBulkAll r
def uptoBulkEntries {H : Type} : List (Lit × DataW H) → Nat
  | [] => 0
  | x :: r => uptoBulkEntry x + uptoBulkEntries r
def uptoBulkEntry {H : Type} : Lit × DataW H → Nat
  | (.string bytes, d) => bytes.length + uptoBulk d + 1
  | (_, d) => uptoBulk d + 1
 end
def uptoSmall : (H : Type) → List (DataW H) → Bool := fun _ ds => decide (uptoBulkAll ds ≤ 1048576)
def OpenSpec.upto (s : _root_.Go.ChangeSpec) : _root_.Go.OpenSpec := { _root_.Go.OpenSpec.ofChange s with cond := some uptoSmall }

/-- 'donjonlaw16.MsgInfos', WHERE WHAT IT READS IS OF BULK AT MOST 1048576: true; the input reads as it did. -/
def msgInfosUptoRow : OpenClaim := { program := "ytefnfmbmabpkoaa", sum := "6041c6d8ae6793d277d00445d2b4d864bf047f8f8b21e137a62ae732a39346ed", func := "donjon/donjonlaw16.MsgInfos", spec := "msgInfos", apart := false, narrowed := true }
def MsgInfosUptoSaid : Prop := msgInfosUptoRow.holds Try.pinned (OpenSpec.upto msgInfosSpec)

/-- 'donjonlaw16.MsgCarries', WHERE WHAT IT READS IS OF BULK AT MOST 1048576: true; the input reads as it did. -/
def msgCarriesUptoRow : OpenClaim := { program := "ytefnfmbmabpkoaa", sum := "6041c6d8ae6793d277d00445d2b4d864bf047f8f8b21e137a62ae732a39346ed", func := "donjon/donjonlaw16.MsgCarries", spec := "msgCarries", apart := false, narrowed := true }
def MsgCarriesUptoSaid : Prop := msgCarriesUptoRow.holds Try.pinned (OpenSpec.upto msgCarriesSpec)

/-- 'donjonlaw16.MsgBack', WHERE WHAT IT READS IS OF BULK AT MOST 1048576: true; the input reads as it did. -/
def msgBackUptoRow : OpenClaim := { program := "ytefnfmbmabpkoaa", sum := "6041c6d8ae6793d277d00445d2b4d864bf047f8f8b21e137a62ae732a39346ed", func := "donjon/donjonlaw16.MsgBack", spec := "msgBack", apart := false, narrowed := true }
def MsgBackUptoSaid : Prop := msgBackUptoRow.holds Try.pinned (OpenSpec.upto msgBackSpec)

/-- 'donjonlaw16.MsgRest', WHERE WHAT IT READS IS OF BULK AT MOST 1048576: true; the input reads as it did. -/
def msgRestUptoRow : OpenClaim := { program := "ytefnfmbmabpkoaa", sum := "6041c6d8ae6793d277d00445d2b4d864bf047f8f8b21e137a62ae732a39346ed", func := "donjon/donjonlaw16.MsgRest", spec := "msgRest", apart := false, narrowed := true }
def MsgRestUptoSaid : Prop := msgRestUptoRow.holds Try.pinned (OpenSpec.upto msgRestSpec)

/-- 'donjonlaw16.MsgAnswers', WHERE WHAT IT READS IS OF BULK AT MOST 1048576: true; the input reads as it did. -/
def msgAnswersUptoRow : OpenClaim := { program := "ytefnfmbmabpkoaa", sum := "6041c6d8ae6793d277d00445d2b4d864bf047f8f8b21e137a62ae732a39346ed", func := "donjon/donjonlaw16.MsgAnswers", spec := "msgAnswers", apart := false, narrowed := true }
def MsgAnswersUptoSaid : Prop := msgAnswersUptoRow.holds Try.pinned (OpenSpec.upto msgAnswersSpec)

/-- 'donjonlaw16.MsgTwice', WHERE WHAT IT READS IS OF BULK AT MOST 1048576: true; the input reads as it did. -/
def msgTwiceUptoRow : OpenClaim := { program := "ytefnfmbmabpkoaa", sum := "6041c6d8ae6793d277d00445d2b4d864bf047f8f8b21e137a62ae732a39346ed", func := "donjon/donjonlaw16.MsgTwice", spec := "msgTwice", apart := false, narrowed := true }
def MsgTwiceUptoSaid : Prop := msgTwiceUptoRow.holds Try.pinned (OpenSpec.upto msgTwiceSpec)

end Rows
end Go.Proofs.Ytefnfmbmabpkoaa
