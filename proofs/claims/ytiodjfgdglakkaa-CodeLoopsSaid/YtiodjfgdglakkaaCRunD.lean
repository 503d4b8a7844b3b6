/- What comes of an instruction, in plain numbers. -/
import Derived.Test.YtiodjfgdglakkaaCRun
set_option linter.unusedVariables false
set_option linter.unusedSimpArgs false
set_option maxRecDepth 100000
namespace Go.Proofs.Ytiodjfgdglakkaa.Wlk
open Go Go.Eng Go.Proofs Go.RowKit

def wrs (op : Int) : Bool := (decide (1 ≤ op) && decide (op ≤ 10)) || decide (op = 17)
def valR (op x y m : Int) : Int :=
  if op = 1 then IntKind.u64.wrap m else if op = 2 then y else if op = 3 then IntKind.u64.wrap (x + y) else if op = 4 then IntKind.u64.wrap (x - y)
  else if op = 5 then IntKind.u64.wrap (x * y) else if op = 6 then IntKind.u64.wrap ((BitVec.ofInt 64 x &&& BitVec.ofInt 64 y).toNat : Int)
  else if op = 7 then IntKind.u64.wrap ((BitVec.ofInt 64 x ||| BitVec.ofInt 64 y).toNat : Int) else if op = 8 then IntKind.u64.wrap ((BitVec.ofInt 64 x ^^^ BitVec.ofInt 64 y).toNat : Int)
  else if op = 9 then IntKind.u64.wrap (x * 2 ^ Min.min (Int.toNat (Int.tmod y 64)) 64) else if op = 10 then Int.fdiv x (2 ^ Min.min (Int.toNat (Int.tmod y 64)) 64)
  else IntKind.u64.wrap (IntKind.u64.wrap (x * 4096) + IntKind.u64.wrap m)
def cellR (op a x y m : Int) (i : Nat) (r : Int) : Int := if wrs op = true then (if Int.toNat a = i then valR op x y m else r) else r
def nxt (pc : Int) : Int := Int.tmod (IntKind.i64.wrap (pc + 1)) 4096
def pcR (op x y m pc : Int) : Int := if op = 0 then pc else if op = 13 then m else if op = 14 then (if x = 0 then m else nxt pc) else if op = 15 then (if x < y then m else nxt pc) else nxt pc
def asksR (op : Int) : Int := if op = 0 then 4 else if op = 11 then 1 else if op = 12 then 2 else if op = 16 then 3 else 0
def atR (op y m : Int) : Int := if op = 11 then IntKind.u64.wrap (y + IntKind.u64.wrap m) else if op = 12 then IntKind.u64.wrap (y + IntKind.u64.wrap m) else 0
def regR (op a : Int) : Int := if op = 11 then a else 0
def valueR (op x m : Int) : Int := if op = 12 then x else if op = 16 then IntKind.u64.wrap m else 0

def okXY (op a m pc r0 r1 r2 r3 r4 r5 r6 r7 x y : Int) : Res :=
  ⟨.tup [.agg [.int .u64 (cellR op a x y m 0 r0), .int .u64 (cellR op a x y m 1 r1), .int .u64 (cellR op a x y m 2 r2), .int .u64 (cellR op a x y m 3 r3), .int .u64 (cellR op a x y m 4 r4), .int .u64 (cellR op a x y m 5 r5), .int .u64 (cellR op a x y m 6 r6), .int .u64 (cellR op a x y m 7 r7),
    .int .i64 (pcR op x y m pc), .int .i64 (asksR op), .int .u64 (atR op y m), .int .i64 (regR op a), .int .u64 (valueR op x m)], .c (.int .i64 0)], []⟩
def okR (op a b m r0 r1 r2 r3 r4 r5 r6 r7 pc : Int) : Res :=
  okXY op a m pc r0 r1 r2 r3 r4 r5 r6 r7 (List.getD [r0, r1, r2, r3, r4, r5, r6, r7] (Int.toNat a) 0) (List.getD [r0, r1, r2, r3, r4, r5, r6, r7] (Int.toNat b) 0)
def badR (e : Int) : Res :=
  ⟨.tup [.agg [.int .u64 0, .int .u64 0, .int .u64 0, .int .u64 0, .int .u64 0, .int .u64 0, .int .u64 0, .int .u64 0, .int .i64 0, .int .i64 0, .int .u64 0, .int .i64 0, .int .u64 0], .c (.int .i64 e)], []⟩
def place (pc : Int) : Bool := decide (0 ≤ pc) && decide (pc ≤ 4095)
def words (l : List Int) : Bool := l.all word
def effK (op a b m r0 r1 r2 r3 r4 r5 r6 r7 pc : Int) (κ : Res → Option Res) : Option Res :=
  match packOk op a b m with
  | true => match place pc with
    | true => κ (okR op a b m r0 r1 r2 r3 r4 r5 r6 r7 pc)
    | false => κ (badR 1)
  | false => κ (badR 10)
def gRun : Fun := fun args sub κ => match args, sub with
  | [.e (.agg [.int .i64 op, .int .i64 a, .int .i64 b, .int .i64 m]), .e (.agg [.int .u64 r0, .int .u64 r1, .int .u64 r2, .int .u64 r3, .int .u64 r4, .int .u64 r5, .int .u64 r6, .int .u64 r7]), .e (.c (.int .i64 pc))], [] =>
    match inI op && inI a && inI b && inI m && inI pc && words [r0, r1, r2, r3, r4, r5, r6, r7] with
    | true => effK op a b m r0 r1 r2 r3 r4 r5 r6 r7 pc κ
    | false => none
  | _, _ => none

theorem pcR14p {x y m pc : Int} (c : x = 0) : pcR 14 x y m pc = m := by simp [pcR, c]
theorem pcR14n {x y m pc : Int} (c : ¬ x = 0) : pcR 14 x y m pc = nxt pc := by simp [pcR, c]
theorem pcR15p {x y m pc : Int} (c : x < y) : pcR 15 x y m pc = m := by simp [pcR, c]
theorem pcR15n {x y m pc : Int} (c : ¬ x < y) : pcR 15 x y m pc = nxt pc := by simp [pcR, c]
theorem packOk_lits {op a b m : Int} (h : packOk op a b m = true) : 0 ≤ a ∧ a ≤ 7 ∧ 0 ≤ b ∧ b ≤ 7 ∧ 0 ≤ m ∧ m ≤ 4095 := by
  simp only [packOk, Bool.and_eq_true, decide_eq_true_eq] at h; omega
theorem packOk_op {op a b m : Int} (h : packOk op a b m = true) : 0 ≤ op ∧ op ≤ 17 := by
  simp only [packOk, Bool.and_eq_true, decide_eq_true_eq] at h; omega
theorem rd_word {l : List Int} (h : words l = true) (i : Nat) : 0 ≤ List.getD l i 0 ∧ List.getD l i 0 < 18446744073709551616 := by
  simp only [words, List.all_eq_true] at h
  rw [List.getD_eq_getElem?_getD]
  cases e : l[i]? with
  | none => simp
  | some x =>
    have := h x (List.mem_of_getElem? e)
    simp only [word, Bool.and_eq_true, decide_eq_true_eq] at this
    simpa using this
end Go.Proofs.Ytiodjfgdglakkaa.Wlk
