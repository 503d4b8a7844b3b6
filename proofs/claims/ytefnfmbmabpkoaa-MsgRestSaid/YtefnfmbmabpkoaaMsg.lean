/- Infos in words, walked. -/
import Derived.Test.YtefnfmbmabpkoaaBits
set_option linter.unusedVariables false
set_option linter.unusedSimpArgs false
set_option maxRecDepth 100000
namespace Go.Proofs.Ytefnfmbmabpkoaa.Wlk
open Go Go.Eng Go.Proofs Go.RowKit

def mE (l n : Int) : Int := if n < 0 then 1 else if n > 4 then 1 else if l < 65536 then 0 else 10
def mW (l n : Int) (c : Bool) : Int := if mE l n = 0 then n + 16 * l + (if c = true then 8 else 0) else 0
abbrev MF := Int → Int → Bool → Int
/-- Pack, the word being any function: so that it stays closed where it is not asked for. -/
def gMPackV (W : MF) (E : Int → Int → Int) : Fun := fun args sub κ => match args, sub with
  | [.e (.agg [.int .u64 l, .int .i64 n, .bool c])], [] => match word l && inI n with
    | true => κ ⟨.tup [.c (.int .u64 (W l n c)), .c (.int .i64 (E l n))], []⟩
    | false => none
  | _, _ => none
abbrev gMPack : Fun := gMPackV mW mE
abbrev GF := Int → Int → Int → Int
/-- Get, the field being any function. -/
def gGetV (G : GF) : Fun := fun args sub κ => match args, sub with
  | [.e (.c (.int .u64 w)), .e (.c (.int .i64 p)), .e (.c (.int .i64 m))], [] => match word w && fld p m with
    | true => κ ⟨.tup [.c (.int .u64 (G w p m)), .c (.int .i64 0)], []⟩
    | false => none
  | _, _ => none
theorem gGetV_eq : gGetV getI = gGet := by
  funext args sub κ
  unfold gGetV gGet
  rfl
noncomputable def sMU (W : MF) (E : Int → Int → Int) (G : GF) : Summ := sAdd (sAdd sGP 20 (gGetV G)) 9 (gMPackV W E)
theorem t_pack (l n : Int) (c : Bool) (k : Res → Option Res) : runG Try.prog sGP 100 9 [.e (.agg [.int .u64 l, .int .i64 n, .bool c])] [] k = (cond (decide (n < 0)) (k (Res.mk (AV.tup [(AE.c (AC.int (IntKind.u64) (0))), (AE.c (AC.int (IntKind.i64) (1)))]) [])) (cond (decide (n > 4)) (k (Res.mk (AV.tup [(AE.c (AC.int (IntKind.u64) (0))), (AE.c (AC.int (IntKind.i64) (1)))]) [])) (cond (word (IntKind.wrap IntKind.u64 n) && fld 4 16 && word l) (cond (putE 16 l != 0) (k (Res.mk (AV.tup [(AE.c (AC.int (IntKind.u64) (0))), (AE.c (AC.int (IntKind.i64) (putE 16 l)))]) [])) (cond (c) (k (Res.mk (AV.tup [(AE.c (AC.int (IntKind.u64) (IntKind.wrap IntKind.u64 (↑(BitVec.toNat (BitVec.ofInt 64 (putI (IntKind.wrap IntKind.u64 n) 4 16 l) ||| BitVec.ofInt 64 8)) : Int)))), (AE.c (AC.int (IntKind.i64) (0)))]) [])) (k (Res.mk (AV.tup [(AE.c (AC.int (IntKind.u64) (putI (IntKind.wrap IntKind.u64 n) 4 16 l))), (AE.c (AC.int (IntKind.i64) (0)))]) [])))) none))) := by kernel_rfl
theorem t_refPack (l n : Int) (c : Bool) (k : Res → Option Res) : runG Try.prog sNil 100 10 [.e (.agg [.int .u64 l, .int .i64 n, .bool c])] [] k = (cond (decide (n < 0)) (k (Res.mk (AV.tup [(AE.c (AC.int (IntKind.u64) (0))), (AE.c (AC.int (IntKind.i64) (1)))]) [])) (cond (decide (n > 4)) (k (Res.mk (AV.tup [(AE.c (AC.int (IntKind.u64) (0))), (AE.c (AC.int (IntKind.i64) (1)))]) [])) (cond (decide (l ≥ 65536)) (k (Res.mk (AV.tup [(AE.c (AC.int (IntKind.u64) (0))), (AE.c (AC.int (IntKind.i64) (10)))]) [])) (cond (c) (k (Res.mk (AV.tup [(AE.c (AC.int (IntKind.u64) (IntKind.wrap IntKind.u64 (IntKind.wrap IntKind.u64 (IntKind.wrap IntKind.u64 n + IntKind.wrap IntKind.u64 (16 * l)) + 8)))), (AE.c (AC.int (IntKind.i64) (0)))]) [])) (k (Res.mk (AV.tup [(AE.c (AC.int (IntKind.u64) (IntKind.wrap IntKind.u64 (IntKind.wrap IntKind.u64 n + IntKind.wrap IntKind.u64 (16 * l))))), (AE.c (AC.int (IntKind.i64) (0)))]) [])))))) := by kernel_rfl
theorem t_unpack (W : MF) (E : Int → Int → Int) (G : GF) (w : Int) (k : Res → Option Res) : runG Try.prog (sMU W E G) 100 11 [aint .u64 w] [] k = (cond (word w && fld 0 3) (cond (word w && fld 4 16) (cond (word (G w 4 16) && inI (IntKind.wrap IntKind.i64 (G w 0 3))) (cond (E (G w 4 16) (IntKind.wrap IntKind.i64 (G w 0 3)) != 0) (k (Res.mk (AV.tup [(AE.agg [(AC.int (IntKind.u64) (0)), (AC.int (IntKind.i64) (0)), (AC.bool false)]), (AE.c (AC.int (IntKind.i64) (10)))]) [])) (cond (W (G w 4 16) (IntKind.wrap IntKind.i64 (G w 0 3)) (IntKind.wrap IntKind.u64 (↑(BitVec.toNat (BitVec.ofInt 64 (Int.fdiv w 8) &&& BitVec.ofInt 64 1)) : Int) == 1) != w) (k (Res.mk (AV.tup [(AE.agg [(AC.int (IntKind.u64) (0)), (AC.int (IntKind.i64) (0)), (AC.bool false)]), (AE.c (AC.int (IntKind.i64) (10)))]) [])) (k (Res.mk (AV.tup [(AE.agg [(AC.int (IntKind.u64) (G w 4 16)), (AC.int (IntKind.i64) (IntKind.wrap IntKind.i64 (G w 0 3))), (AC.bool (IntKind.wrap IntKind.u64 (↑(BitVec.toNat (BitVec.ofInt 64 (Int.fdiv w 8) &&& BitVec.ofInt 64 1)) : Int) == 1))]), (AE.c (AC.int (IntKind.i64) (0)))]) [])))) none) none) none) := by kernel_rfl
theorem t_refUnpack (w : Int) (k : Res → Option Res) : runG Try.prog sNil 100 12 [aint .u64 w] [] k = (cond (decide (w ≥ 1048576)) (k (Res.mk (AV.tup [(AE.agg [(AC.int (IntKind.u64) (0)), (AC.int (IntKind.i64) (0)), (AC.bool false)]), (AE.c (AC.int (IntKind.i64) (10)))]) [])) (cond (decide (Int.tmod w 8 > 4)) (k (Res.mk (AV.tup [(AE.agg [(AC.int (IntKind.u64) (0)), (AC.int (IntKind.i64) (0)), (AC.bool false)]), (AE.c (AC.int (IntKind.i64) (10)))]) [])) (k (Res.mk (AV.tup [(AE.agg [(AC.int (IntKind.u64) (IntKind.wrap IntKind.u64 (Int.tdiv w 16))), (AC.int (IntKind.i64) (IntKind.wrap IntKind.i64 (Int.tmod w 8))), (AC.bool (Int.tmod (IntKind.wrap IntKind.u64 (Int.tdiv w 8)) 2 == 1))]), (AE.c (AC.int (IntKind.i64) (0)))]) [])))) := by kernel_rfl
end Go.Proofs.Ytefnfmbmabpkoaa.Wlk
