/- The loop that puts words one after the other, in three laws. -/
import Derived.Test.YtggkddpimcikaaaMemD
set_option linter.unusedVariables false
set_option linter.unusedSimpArgs false
set_option maxRecDepth 100000
namespace Go.Proofs.Ytggkddpimcikaaa.Wlk
open Go Go.Eng Go.Proofs Go.RowKit
def putsF (vn : List Int) : Nat → Nat → List Int → List Int
  | 0, _, ws => ws
  | j + 1, i, ws => if i < vn.length ∧ i < ws.length then putsF vn j (i + 1) (putW ws i (vn.getD i 0)) else ws
theorem putsF_len (vn : List Int) : ∀ j i ws, (putsF vn j i ws).length = ws.length
  | 0, _, _ => rfl
  | j + 1, i, ws => by
    simp only [putsF]
    split
    · rw [putsF_len vn j, putW_len]
    · rfl
abbrev putsH (vn : List Int) (n x : Nat) (ws : List Int) : Heap := [(false, some ⟨true, .rows [.ints .u64 vn]⟩), (true, some ⟨false, .mix [.slice ⟨2, 0, 1, 0, 0, 0, 0⟩ 1 n x true]⟩), (true, some ⟨false, .rows [.ints .u64 ws]⟩)]
noncomputable def iPMoves : LI := ⟨1, nT 4, [0, 1, 2, 3, 4, 11, 13], [0, 1, 2, 3, 11], [10]⟩
abbrev vMoves (nI p q r : Int) (vl : Nat) (i : Int) : List AV := [.e (.c (.int .i64 nI)), .e (.c (.int .i64 p)), .e (.c (.int .i64 q)), .e (.c (.int .i64 r)), .e (.c (.slice ⟨0, 0, 1, 0, 0, 0, 0⟩ 1 vl 0 false)), .e (.c (.ptr ⟨1, 0, 0, 0, 0, 0, 0⟩)), .e (.c (.int .i64 i))]
noncomputable def iPParts : LI := ⟨1, nT 5, [0, 1, 2, 7, 9], [0, 2, 7], [6]⟩
abbrev vParts (nI p : Int) (vl : Nat) (i : Int) : List AV := [.e (.c (.int .i64 nI)), .e (.c (.slice ⟨0, 0, 1, 0, 0, 0, 0⟩ 1 vl 0 false)), .e (.c (.int .i64 p)), .e (.c (.ptr ⟨1, 0, 0, 0, 0, 0, 0⟩)), .e (.c (.int .i64 i))]
noncomputable def iPZeros : LI := ⟨1, nT 6, [0, 1, 2, 3, 9, 11], [0, 2, 3, 9], [8]⟩
abbrev vZeros (nI p q : Int) (vl : Nat) (i : Int) : List AV := [.e (.c (.int .i64 nI)), .e (.c (.slice ⟨0, 0, 1, 0, 0, 0, 0⟩ 1 vl 0 false)), .e (.c (.int .i64 p)), .e (.c (.int .i64 q)), .e (.c (.ptr ⟨1, 0, 0, 0, 0, 0, 0⟩)), .e (.c (.int .i64 i))]
noncomputable def iM2 : LI := ⟨1, nT 4, [0, 1, 2, 3, 14, 16, 18], [], [10]⟩
noncomputable def iZ2 : LI := ⟨1, nT 6, [0, 2, 3, 14, 15, 17], [], [8]⟩
abbrev twoH (vn ws nw : List Int) : Heap := [(false, some ⟨true, .rows [.ints .u64 vn]⟩), (true, some ⟨false, .rows [.ints .u64 ws]⟩), (true, some ⟨false, .rows [.ints .u64 nw]⟩)]
abbrev vM2 (nI p q r : Int) (n m : Nat) (i : Int) : List AV := [.e (.c (.int .i64 nI)), .e (.c (.int .i64 p)), .e (.c (.int .i64 q)), .e (.c (.int .i64 r)), .e (.c (.slice ⟨1, 0, 1, 0, 0, 0, 0⟩ 1 n 0 true)), .e (.c (.slice ⟨2, 0, 1, 0, 0, 0, 0⟩ 1 m 0 true)), .e (.c (.int .i64 i))]
abbrev vZ2 (nI p q : Int) (n m : Nat) (i : Int) : List AV := [.e (.c (.int .i64 nI)), .e (.c (.int .i64 p)), .e (.c (.int .i64 q)), .e (.c (.slice ⟨1, 0, 1, 0, 0, 0, 0⟩ 1 n 0 true)), .e (.c (.slice ⟨2, 0, 1, 0, 0, 0, 0⟩ 1 m 0 true)), .e (.c (.int .i64 i))]
theorem t_pMoves (nI p q r i : Int) (vl n x : Nat) (vn ws : List Int) (k : HeadK) : bodyR Try.prog sL lNil iPMoves 60 (loopOf Try.prog 4 0) (vMoves nI p q r vl i) (putsH vn n x ws) k = (cond (decide (i < (↑vl : Int))) (cond (decide (i < nI)) (cond (decide (0 ≤ i) && decide (i < (↑vl : Int))) (cond (decide (0 + Int.toNat i < List.length vn)) (cond (Go.Proofs.Ytggkddpimcikaaa.Wlk.okM n ws && inI i) (k (Ex.normal) [(AV.e (AE.c (AC.int (IntKind.i64) (nI)))), (AV.e (AE.c (AC.int (IntKind.i64) (p)))), (AV.e (AE.c (AC.int (IntKind.i64) (q)))), (AV.e (AE.c (AC.int (IntKind.i64) (r)))), (AV.e (AE.c (AC.slice (Loc.mk 0 0 1 0 0 0 0) 1 (vl) 0 false))), (AV.e (AE.c (AC.ptr (Loc.mk 1 0 0 0 0 0 0)))), (AV.e (AE.c (AC.int (IntKind.i64) (IntKind.wrap IntKind.i64 (i + 1)))))] [(Prod.mk false (some (Block.mk true (Data.rows [(Col.ints (IntKind.u64) (vn))])))), (Prod.mk true (some (Block.mk false (Data.mix [(AC.slice (Loc.mk 2 0 1 0 0 0 0) 1 (n) (x) true)])))), (Prod.mk true (some (Block.mk false (Data.rows [(Col.ints (IntKind.u64) (Go.Proofs.Ytggkddpimcikaaa.Wlk.putW ws i (List.getD vn (0 + Int.toNat i) 0)))]))))]) none) none) none) (k (Ex.exit 0) [(AV.e (AE.c (AC.int (IntKind.i64) (nI)))), (AV.e (AE.c (AC.int (IntKind.i64) (p)))), (AV.e (AE.c (AC.int (IntKind.i64) (q)))), (AV.e (AE.c (AC.int (IntKind.i64) (r)))), (AV.e (AE.c (AC.ptr (Loc.mk 1 0 0 0 0 0 0))))] [(Prod.mk false (some (Block.mk true (Data.rows [(Col.ints (IntKind.u64) (vn))])))), (Prod.mk true (some (Block.mk false (Data.mix [(AC.slice (Loc.mk 2 0 1 0 0 0 0) 1 (n) (x) true)])))), (Prod.mk true (some (Block.mk false (Data.rows [(Col.ints (IntKind.u64) (ws))]))))])) (k (Ex.exit 0) [(AV.e (AE.c (AC.int (IntKind.i64) (nI)))), (AV.e (AE.c (AC.int (IntKind.i64) (p)))), (AV.e (AE.c (AC.int (IntKind.i64) (q)))), (AV.e (AE.c (AC.int (IntKind.i64) (r)))), (AV.e (AE.c (AC.ptr (Loc.mk 1 0 0 0 0 0 0))))] [(Prod.mk false (some (Block.mk true (Data.rows [(Col.ints (IntKind.u64) (vn))])))), (Prod.mk true (some (Block.mk false (Data.mix [(AC.slice (Loc.mk 2 0 1 0 0 0 0) 1 (n) (x) true)])))), (Prod.mk true (some (Block.mk false (Data.rows [(Col.ints (IntKind.u64) (ws))]))))])) := by kernel_rfl
theorem t_pParts (nI p i : Int) (vl n x : Nat) (vn ws : List Int) (k : HeadK) : bodyR Try.prog sL lNil iPParts 60 (loopOf Try.prog 5 0) (vParts nI p vl i) (putsH vn n x ws) k = (cond (decide (i < (↑vl : Int))) (cond (decide (i < nI)) (cond (decide (0 ≤ i) && decide (i < (↑vl : Int))) (cond (decide (0 + Int.toNat i < List.length vn)) (cond (Go.Proofs.Ytggkddpimcikaaa.Wlk.okM n ws && inI i) (k (Ex.normal) [(AV.e (AE.c (AC.int (IntKind.i64) (nI)))), (AV.e (AE.c (AC.slice (Loc.mk 0 0 1 0 0 0 0) 1 (vl) 0 false))), (AV.e (AE.c (AC.int (IntKind.i64) (p)))), (AV.e (AE.c (AC.ptr (Loc.mk 1 0 0 0 0 0 0)))), (AV.e (AE.c (AC.int (IntKind.i64) (IntKind.wrap IntKind.i64 (i + 1)))))] [(Prod.mk false (some (Block.mk true (Data.rows [(Col.ints (IntKind.u64) (vn))])))), (Prod.mk true (some (Block.mk false (Data.mix [(AC.slice (Loc.mk 2 0 1 0 0 0 0) 1 (n) (x) true)])))), (Prod.mk true (some (Block.mk false (Data.rows [(Col.ints (IntKind.u64) (Go.Proofs.Ytggkddpimcikaaa.Wlk.putW ws i (List.getD vn (0 + Int.toNat i) 0)))]))))]) none) none) none) (k (Ex.exit 0) [(AV.e (AE.c (AC.int (IntKind.i64) (nI)))), (AV.e (AE.c (AC.int (IntKind.i64) (p)))), (AV.e (AE.c (AC.ptr (Loc.mk 1 0 0 0 0 0 0))))] [(Prod.mk false (some (Block.mk true (Data.rows [(Col.ints (IntKind.u64) (vn))])))), (Prod.mk true (some (Block.mk false (Data.mix [(AC.slice (Loc.mk 2 0 1 0 0 0 0) 1 (n) (x) true)])))), (Prod.mk true (some (Block.mk false (Data.rows [(Col.ints (IntKind.u64) (ws))]))))])) (k (Ex.exit 0) [(AV.e (AE.c (AC.int (IntKind.i64) (nI)))), (AV.e (AE.c (AC.int (IntKind.i64) (p)))), (AV.e (AE.c (AC.ptr (Loc.mk 1 0 0 0 0 0 0))))] [(Prod.mk false (some (Block.mk true (Data.rows [(Col.ints (IntKind.u64) (vn))])))), (Prod.mk true (some (Block.mk false (Data.mix [(AC.slice (Loc.mk 2 0 1 0 0 0 0) 1 (n) (x) true)])))), (Prod.mk true (some (Block.mk false (Data.rows [(Col.ints (IntKind.u64) (ws))]))))])) := by kernel_rfl
theorem t_pZeros (nI p q i : Int) (vl n x : Nat) (vn ws : List Int) (k : HeadK) : bodyR Try.prog sL lNil iPZeros 60 (loopOf Try.prog 6 0) (vZeros nI p q vl i) (putsH vn n x ws) k = (cond (decide (i < (↑vl : Int))) (cond (decide (i < nI)) (cond (decide (0 ≤ i) && decide (i < (↑vl : Int))) (cond (decide (0 + Int.toNat i < List.length vn)) (cond (Go.Proofs.Ytggkddpimcikaaa.Wlk.okM n ws && inI i) (k (Ex.normal) [(AV.e (AE.c (AC.int (IntKind.i64) (nI)))), (AV.e (AE.c (AC.slice (Loc.mk 0 0 1 0 0 0 0) 1 (vl) 0 false))), (AV.e (AE.c (AC.int (IntKind.i64) (p)))), (AV.e (AE.c (AC.int (IntKind.i64) (q)))), (AV.e (AE.c (AC.ptr (Loc.mk 1 0 0 0 0 0 0)))), (AV.e (AE.c (AC.int (IntKind.i64) (IntKind.wrap IntKind.i64 (i + 1)))))] [(Prod.mk false (some (Block.mk true (Data.rows [(Col.ints (IntKind.u64) (vn))])))), (Prod.mk true (some (Block.mk false (Data.mix [(AC.slice (Loc.mk 2 0 1 0 0 0 0) 1 (n) (x) true)])))), (Prod.mk true (some (Block.mk false (Data.rows [(Col.ints (IntKind.u64) (Go.Proofs.Ytggkddpimcikaaa.Wlk.putW ws i (List.getD vn (0 + Int.toNat i) 0)))]))))]) none) none) none) (k (Ex.exit 0) [(AV.e (AE.c (AC.int (IntKind.i64) (nI)))), (AV.e (AE.c (AC.int (IntKind.i64) (p)))), (AV.e (AE.c (AC.int (IntKind.i64) (q)))), (AV.e (AE.c (AC.ptr (Loc.mk 1 0 0 0 0 0 0))))] [(Prod.mk false (some (Block.mk true (Data.rows [(Col.ints (IntKind.u64) (vn))])))), (Prod.mk true (some (Block.mk false (Data.mix [(AC.slice (Loc.mk 2 0 1 0 0 0 0) 1 (n) (x) true)])))), (Prod.mk true (some (Block.mk false (Data.rows [(Col.ints (IntKind.u64) (ws))]))))])) (k (Ex.exit 0) [(AV.e (AE.c (AC.int (IntKind.i64) (nI)))), (AV.e (AE.c (AC.int (IntKind.i64) (p)))), (AV.e (AE.c (AC.int (IntKind.i64) (q)))), (AV.e (AE.c (AC.ptr (Loc.mk 1 0 0 0 0 0 0))))] [(Prod.mk false (some (Block.mk true (Data.rows [(Col.ints (IntKind.u64) (vn))])))), (Prod.mk true (some (Block.mk false (Data.mix [(AC.slice (Loc.mk 2 0 1 0 0 0 0) 1 (n) (x) true)])))), (Prod.mk true (some (Block.mk false (Data.rows [(Col.ints (IntKind.u64) (ws))]))))])) := by kernel_rfl
theorem t_M2 (nI p q r i : Int) (n m : Nat) (vn ws nw : List Int) (k : HeadK) : bodyR Try.prog sL lNil iM2 60 (loopOf Try.prog 4 2) (vM2 nI p q r n m i) (twoH vn ws nw) k = (cond (decide (i < nI)) (cond (decide (0 ≤ i) && decide (i < (↑n : Int))) (cond (decide (0 + Int.toNat i < List.length ws)) (cond (decide (i ≥ p)) (cond (decide (i < IntKind.wrap IntKind.i64 (p + r))) (cond (decide (0 ≤ IntKind.wrap IntKind.i64 (IntKind.wrap IntKind.i64 (q + i) - p)) && decide (IntKind.wrap IntKind.i64 (IntKind.wrap IntKind.i64 (q + i) - p) < (↑n : Int))) (cond (decide (0 + Int.toNat (IntKind.wrap IntKind.i64 (IntKind.wrap IntKind.i64 (q + i) - p)) < List.length ws)) (cond (decide (0 ≤ i) && decide (i < (↑m : Int))) (cond (decide (0 + Int.toNat i < List.length nw)) (cond (List.getD nw (0 + Int.toNat i) 0 != List.getD ws (0 + Int.toNat (IntKind.wrap IntKind.i64 (IntKind.wrap IntKind.i64 (q + i) - p))) 0) (k (Ex.ret) [(AV.e (AE.c (AC.bool false)))] [(Prod.mk false (some (Block.mk true (Data.rows [(Col.ints (IntKind.u64) (vn))]))))]) (k (Ex.normal) [(AV.e (AE.c (AC.int (IntKind.i64) (nI)))), (AV.e (AE.c (AC.int (IntKind.i64) (p)))), (AV.e (AE.c (AC.int (IntKind.i64) (q)))), (AV.e (AE.c (AC.int (IntKind.i64) (r)))), (AV.e (AE.c (AC.slice (Loc.mk 1 0 1 0 0 0 0) 1 (n) 0 true))), (AV.e (AE.c (AC.slice (Loc.mk 2 0 1 0 0 0 0) 1 (m) 0 true))), (AV.e (AE.c (AC.int (IntKind.i64) (IntKind.wrap IntKind.i64 (i + 1)))))] [(Prod.mk false (some (Block.mk true (Data.rows [(Col.ints (IntKind.u64) (vn))])))), (Prod.mk true (some (Block.mk false (Data.rows [(Col.ints (IntKind.u64) (ws))])))), (Prod.mk true (some (Block.mk false (Data.rows [(Col.ints (IntKind.u64) (nw))]))))])) none) none) none) none) (cond (decide (0 ≤ i) && decide (i < (↑m : Int))) (cond (decide (0 + Int.toNat i < List.length nw)) (cond (List.getD nw (0 + Int.toNat i) 0 != List.getD ws (0 + Int.toNat i) 0) (k (Ex.ret) [(AV.e (AE.c (AC.bool false)))] [(Prod.mk false (some (Block.mk true (Data.rows [(Col.ints (IntKind.u64) (vn))]))))]) (k (Ex.normal) [(AV.e (AE.c (AC.int (IntKind.i64) (nI)))), (AV.e (AE.c (AC.int (IntKind.i64) (p)))), (AV.e (AE.c (AC.int (IntKind.i64) (q)))), (AV.e (AE.c (AC.int (IntKind.i64) (r)))), (AV.e (AE.c (AC.slice (Loc.mk 1 0 1 0 0 0 0) 1 (n) 0 true))), (AV.e (AE.c (AC.slice (Loc.mk 2 0 1 0 0 0 0) 1 (m) 0 true))), (AV.e (AE.c (AC.int (IntKind.i64) (IntKind.wrap IntKind.i64 (i + 1)))))] [(Prod.mk false (some (Block.mk true (Data.rows [(Col.ints (IntKind.u64) (vn))])))), (Prod.mk true (some (Block.mk false (Data.rows [(Col.ints (IntKind.u64) (ws))])))), (Prod.mk true (some (Block.mk false (Data.rows [(Col.ints (IntKind.u64) (nw))]))))])) none) none)) (cond (decide (0 ≤ i) && decide (i < (↑m : Int))) (cond (decide (0 + Int.toNat i < List.length nw)) (cond (List.getD nw (0 + Int.toNat i) 0 != List.getD ws (0 + Int.toNat i) 0) (k (Ex.ret) [(AV.e (AE.c (AC.bool false)))] [(Prod.mk false (some (Block.mk true (Data.rows [(Col.ints (IntKind.u64) (vn))]))))]) (k (Ex.normal) [(AV.e (AE.c (AC.int (IntKind.i64) (nI)))), (AV.e (AE.c (AC.int (IntKind.i64) (p)))), (AV.e (AE.c (AC.int (IntKind.i64) (q)))), (AV.e (AE.c (AC.int (IntKind.i64) (r)))), (AV.e (AE.c (AC.slice (Loc.mk 1 0 1 0 0 0 0) 1 (n) 0 true))), (AV.e (AE.c (AC.slice (Loc.mk 2 0 1 0 0 0 0) 1 (m) 0 true))), (AV.e (AE.c (AC.int (IntKind.i64) (IntKind.wrap IntKind.i64 (i + 1)))))] [(Prod.mk false (some (Block.mk true (Data.rows [(Col.ints (IntKind.u64) (vn))])))), (Prod.mk true (some (Block.mk false (Data.rows [(Col.ints (IntKind.u64) (ws))])))), (Prod.mk true (some (Block.mk false (Data.rows [(Col.ints (IntKind.u64) (nw))]))))])) none) none)) none) none) (k (Ex.exit 2) [] [(Prod.mk false (some (Block.mk true (Data.rows [(Col.ints (IntKind.u64) (vn))]))))])) := by kernel_rfl
theorem t_Z2 (nI p q i : Int) (n m : Nat) (vn ws nw : List Int) (k : HeadK) : bodyR Try.prog sL lNil iZ2 60 (loopOf Try.prog 6 2) (vZ2 nI p q n m i) (twoH vn ws nw) k = (cond (decide (i < nI)) (cond (decide (i ≥ p)) (cond (decide (i < IntKind.wrap IntKind.i64 (p + q))) (cond (decide (0 ≤ i) && decide (i < (↑m : Int))) (cond (decide (0 + Int.toNat i < List.length nw)) (cond (List.getD nw (0 + Int.toNat i) 0 != 0) (k (Ex.ret) [(AV.e (AE.c (AC.bool false)))] [(Prod.mk false (some (Block.mk true (Data.rows [(Col.ints (IntKind.u64) (vn))]))))]) (cond (!decide (i < IntKind.wrap IntKind.i64 (p + q))) (cond (decide (0 ≤ i) && decide (i < (↑m : Int))) (cond (decide (0 + Int.toNat i < List.length nw)) (cond (decide (0 ≤ i) && decide (i < (↑n : Int))) (cond (decide (0 + Int.toNat i < List.length ws)) (cond (List.getD nw (0 + Int.toNat i) 0 != List.getD ws (0 + Int.toNat i) 0) (k (Ex.ret) [(AV.e (AE.c (AC.bool false)))] [(Prod.mk false (some (Block.mk true (Data.rows [(Col.ints (IntKind.u64) (vn))]))))]) (k (Ex.normal) [(AV.e (AE.c (AC.int (IntKind.i64) (nI)))), (AV.e (AE.c (AC.int (IntKind.i64) (p)))), (AV.e (AE.c (AC.int (IntKind.i64) (q)))), (AV.e (AE.c (AC.slice (Loc.mk 1 0 1 0 0 0 0) 1 (n) 0 true))), (AV.e (AE.c (AC.slice (Loc.mk 2 0 1 0 0 0 0) 1 (m) 0 true))), (AV.e (AE.c (AC.int (IntKind.i64) (IntKind.wrap IntKind.i64 (i + 1)))))] [(Prod.mk false (some (Block.mk true (Data.rows [(Col.ints (IntKind.u64) (vn))])))), (Prod.mk true (some (Block.mk false (Data.rows [(Col.ints (IntKind.u64) (ws))])))), (Prod.mk true (some (Block.mk false (Data.rows [(Col.ints (IntKind.u64) (nw))]))))])) none) none) none) none) (k (Ex.normal) [(AV.e (AE.c (AC.int (IntKind.i64) (nI)))), (AV.e (AE.c (AC.int (IntKind.i64) (p)))), (AV.e (AE.c (AC.int (IntKind.i64) (q)))), (AV.e (AE.c (AC.slice (Loc.mk 1 0 1 0 0 0 0) 1 (n) 0 true))), (AV.e (AE.c (AC.slice (Loc.mk 2 0 1 0 0 0 0) 1 (m) 0 true))), (AV.e (AE.c (AC.int (IntKind.i64) (IntKind.wrap IntKind.i64 (i + 1)))))] [(Prod.mk false (some (Block.mk true (Data.rows [(Col.ints (IntKind.u64) (vn))])))), (Prod.mk true (some (Block.mk false (Data.rows [(Col.ints (IntKind.u64) (ws))])))), (Prod.mk true (some (Block.mk false (Data.rows [(Col.ints (IntKind.u64) (nw))]))))]))) none) none) (cond (!decide (i < IntKind.wrap IntKind.i64 (p + q))) (cond (decide (0 ≤ i) && decide (i < (↑m : Int))) (cond (decide (0 + Int.toNat i < List.length nw)) (cond (decide (0 ≤ i) && decide (i < (↑n : Int))) (cond (decide (0 + Int.toNat i < List.length ws)) (cond (List.getD nw (0 + Int.toNat i) 0 != List.getD ws (0 + Int.toNat i) 0) (k (Ex.ret) [(AV.e (AE.c (AC.bool false)))] [(Prod.mk false (some (Block.mk true (Data.rows [(Col.ints (IntKind.u64) (vn))]))))]) (k (Ex.normal) [(AV.e (AE.c (AC.int (IntKind.i64) (nI)))), (AV.e (AE.c (AC.int (IntKind.i64) (p)))), (AV.e (AE.c (AC.int (IntKind.i64) (q)))), (AV.e (AE.c (AC.slice (Loc.mk 1 0 1 0 0 0 0) 1 (n) 0 true))), (AV.e (AE.c (AC.slice (Loc.mk 2 0 1 0 0 0 0) 1 (m) 0 true))), (AV.e (AE.c (AC.int (IntKind.i64) (IntKind.wrap IntKind.i64 (i + 1)))))] [(Prod.mk false (some (Block.mk true (Data.rows [(Col.ints (IntKind.u64) (vn))])))), (Prod.mk true (some (Block.mk false (Data.rows [(Col.ints (IntKind.u64) (ws))])))), (Prod.mk true (some (Block.mk false (Data.rows [(Col.ints (IntKind.u64) (nw))]))))])) none) none) none) none) (k (Ex.normal) [(AV.e (AE.c (AC.int (IntKind.i64) (nI)))), (AV.e (AE.c (AC.int (IntKind.i64) (p)))), (AV.e (AE.c (AC.int (IntKind.i64) (q)))), (AV.e (AE.c (AC.slice (Loc.mk 1 0 1 0 0 0 0) 1 (n) 0 true))), (AV.e (AE.c (AC.slice (Loc.mk 2 0 1 0 0 0 0) 1 (m) 0 true))), (AV.e (AE.c (AC.int (IntKind.i64) (IntKind.wrap IntKind.i64 (i + 1)))))] [(Prod.mk false (some (Block.mk true (Data.rows [(Col.ints (IntKind.u64) (vn))])))), (Prod.mk true (some (Block.mk false (Data.rows [(Col.ints (IntKind.u64) (ws))])))), (Prod.mk true (some (Block.mk false (Data.rows [(Col.ints (IntKind.u64) (nw))]))))]))) (cond (decide (0 ≤ i) && decide (i < (↑m : Int))) (cond (decide (0 + Int.toNat i < List.length nw)) (cond (decide (0 ≤ i) && decide (i < (↑n : Int))) (cond (decide (0 + Int.toNat i < List.length ws)) (cond (List.getD nw (0 + Int.toNat i) 0 != List.getD ws (0 + Int.toNat i) 0) (k (Ex.ret) [(AV.e (AE.c (AC.bool false)))] [(Prod.mk false (some (Block.mk true (Data.rows [(Col.ints (IntKind.u64) (vn))]))))]) (k (Ex.normal) [(AV.e (AE.c (AC.int (IntKind.i64) (nI)))), (AV.e (AE.c (AC.int (IntKind.i64) (p)))), (AV.e (AE.c (AC.int (IntKind.i64) (q)))), (AV.e (AE.c (AC.slice (Loc.mk 1 0 1 0 0 0 0) 1 (n) 0 true))), (AV.e (AE.c (AC.slice (Loc.mk 2 0 1 0 0 0 0) 1 (m) 0 true))), (AV.e (AE.c (AC.int (IntKind.i64) (IntKind.wrap IntKind.i64 (i + 1)))))] [(Prod.mk false (some (Block.mk true (Data.rows [(Col.ints (IntKind.u64) (vn))])))), (Prod.mk true (some (Block.mk false (Data.rows [(Col.ints (IntKind.u64) (ws))])))), (Prod.mk true (some (Block.mk false (Data.rows [(Col.ints (IntKind.u64) (nw))]))))])) none) none) none) none)) (k (Ex.exit 2) [] [(Prod.mk false (some (Block.mk true (Data.rows [(Col.ints (IntKind.u64) (vn))]))))])) := by kernel_rfl
theorem loopMoves (p q r : Int) (vn : List Int) (x : Nat) (hv : vn.length < 4611686018427387904) (K : HeadK) : ∀ (j i : Nat) (ws : List Int), ws.length ≤ i + j → ws.length ≤ 65536 →
    iterR Try.prog sL lNil iPMoves 60 (loopOf Try.prog 4 0) (j + 1) (vMoves ws.length p q r vn.length i) (putsH vn ws.length x ws) K = K (.exit 0) [.e (.c (.int .i64 (ws.length : Int))), .e (.c (.int .i64 p)), .e (.c (.int .i64 q)), .e (.c (.int .i64 r)), .e (.c (.ptr ⟨1, 0, 0, 0, 0, 0, 0⟩))] (putsH vn ws.length x (putsF vn j i ws))
  | 0, i, ws, hi, h1 => by
    rw [iterR]
    refine (t_pMoves ws.length p q r i vn.length ws.length x vn ws _).trans ?_
    rw [decide_eq_false (show ¬ (i : Int) < (ws.length : Int) by omega)]
    cases decide ((i : Int) < (vn.length : Int)) <;> rfl
  | j + 1, i, ws, hi, h1 => by
    rw [iterR]
    refine (t_pMoves ws.length p q r i vn.length ws.length x vn ws _).trans ?_
    by_cases hv' : i < vn.length
    rotate_left
    · rw [decide_eq_false (show ¬ (i : Int) < (vn.length : Int) by omega)]
      simp only [putsF, hv', false_and, if_false]; rfl
    rw [decide_eq_true (show (i : Int) < (vn.length : Int) by omega)]
    by_cases hw : i < ws.length
    rotate_left
    · rw [decide_eq_false (show ¬ (i : Int) < (ws.length : Int) by omega)]
      simp only [putsF, hw, and_false, if_false]; rfl
    rw [decide_eq_true (show (i : Int) < (ws.length : Int) by omega), decide_eq_true (show (0 : Int) ≤ i by omega)]
    simp only [Int.toNat_natCast, Nat.zero_add]
    rw [decide_eq_true hv']
    have f1 : okM ws.length ws = true := by simp [okM, h1]
    have f2 : inI (i : Int) = true := by simp [inI]; omega
    rw [f1, f2]
    simp only [Bool.and_self, cond_true]
    rw [wrap_i64 (n := (i : Int) + 1) (by omega) (by omega), show (i : Int) + 1 = ((i + 1 : Nat) : Int) from by omega]
    have ih := loopMoves p q r vn x hv K j (i + 1) (putW ws i (vn.getD i 0)) (by rw [putW_len]; omega) (by rw [putW_len]; exact h1)
    simp only [putW_len] at ih
    refine ih.trans ?_
    simp only [putsF, hv', hw, and_self, if_true]
def cPMoves : HeadO := fun vs h K => match vs, h with
  | [.e (.c (.int .i64 nI)), .e (.c (.int .i64 p)), .e (.c (.int .i64 q)), .e (.c (.int .i64 r)), .e (.c (.slice ⟨0, 0, 1, 0, 0, 0, 0⟩ 1 vl 0 false)), .e (.c (.ptr ⟨1, 0, 0, 0, 0, 0, 0⟩)), .e (.c (.int .i64 i))],
    [(false, some ⟨true, .rows [.ints .u64 vn]⟩), (true, some ⟨false, .mix [.slice ⟨2, 0, 1, 0, 0, 0, 0⟩ 1 n x true]⟩), (true, some ⟨false, .rows [.ints .u64 ws]⟩)] =>
    match decide (i = 0) && decide (nI = n) && Nat.beq n ws.length && decide (ws.length ≤ 65536) && Nat.beq vl vn.length && decide (vn.length < 4611686018427387904) with
    | true => K (.exit 0) [.e (.c (.int .i64 nI)), .e (.c (.int .i64 p)), .e (.c (.int .i64 q)), .e (.c (.int .i64 r)), .e (.c (.ptr ⟨1, 0, 0, 0, 0, 0, 0⟩))] [(false, some ⟨true, .rows [.ints .u64 vn]⟩), (true, some ⟨false, .mix [.slice ⟨2, 0, 1, 0, 0, 0, 0⟩ 1 n x true]⟩), (true, some ⟨false, .rows [.ints .u64 (putsF vn ws.length 0 ws)]⟩)]
    | false => none
  | _, _ => none
theorem cPMoves_sound : HeadSound Try.prog iPMoves (loopOf Try.prog 4 0) cPMoves := by
  refine HeadSound.short (iterR_sound (F := 60) sL_ok mix lNil_ok) fun vs h K r e => ?_
  unfold cPMoves at e
  split at e
  · rename_i nI p q r vl  i vn n x ws
    split at e
    · rename_i hc
      simp only [Bool.and_eq_true, decide_eq_true_eq] at hc
      obtain ⟨⟨⟨⟨⟨rfl, rfl⟩, c2⟩, c4⟩, c6⟩, c8⟩ := hc
      have c2 := Nat.eq_of_beq_eq_true c2
      have c6 := Nat.eq_of_beq_eq_true c6
      subst c2; subst c6
      exact ⟨ws.length + 1, (loopMoves p q r vn x c8 K ws.length 0 ws (by omega) c4).trans e⟩
    · cases e
  · cases e
theorem loopParts (p : Int) (vn : List Int) (x : Nat) (hv : vn.length < 4611686018427387904) (K : HeadK) : ∀ (j i : Nat) (ws : List Int), ws.length ≤ i + j → ws.length ≤ 65536 →
    iterR Try.prog sL lNil iPParts 60 (loopOf Try.prog 5 0) (j + 1) (vParts ws.length p vn.length i) (putsH vn ws.length x ws) K = K (.exit 0) [.e (.c (.int .i64 (ws.length : Int))), .e (.c (.int .i64 p)), .e (.c (.ptr ⟨1, 0, 0, 0, 0, 0, 0⟩))] (putsH vn ws.length x (putsF vn j i ws))
  | 0, i, ws, hi, h1 => by
    rw [iterR]
    refine (t_pParts ws.length p i vn.length ws.length x vn ws _).trans ?_
    rw [decide_eq_false (show ¬ (i : Int) < (ws.length : Int) by omega)]
    cases decide ((i : Int) < (vn.length : Int)) <;> rfl
  | j + 1, i, ws, hi, h1 => by
    rw [iterR]
    refine (t_pParts ws.length p i vn.length ws.length x vn ws _).trans ?_
    by_cases hv' : i < vn.length
    rotate_left
    · rw [decide_eq_false (show ¬ (i : Int) < (vn.length : Int) by omega)]
      simp only [putsF, hv', false_and, if_false]; rfl
    rw [decide_eq_true (show (i : Int) < (vn.length : Int) by omega)]
    by_cases hw : i < ws.length
    rotate_left
    · rw [decide_eq_false (show ¬ (i : Int) < (ws.length : Int) by omega)]
      simp only [putsF, hw, and_false, if_false]; rfl
    rw [decide_eq_true (show (i : Int) < (ws.length : Int) by omega), decide_eq_true (show (0 : Int) ≤ i by omega)]
    simp only [Int.toNat_natCast, Nat.zero_add]
    rw [decide_eq_true hv']
    have f1 : okM ws.length ws = true := by simp [okM, h1]
    have f2 : inI (i : Int) = true := by simp [inI]; omega
    rw [f1, f2]
    simp only [Bool.and_self, cond_true]
    rw [wrap_i64 (n := (i : Int) + 1) (by omega) (by omega), show (i : Int) + 1 = ((i + 1 : Nat) : Int) from by omega]
    have ih := loopParts p vn x hv K j (i + 1) (putW ws i (vn.getD i 0)) (by rw [putW_len]; omega) (by rw [putW_len]; exact h1)
    simp only [putW_len] at ih
    refine ih.trans ?_
    simp only [putsF, hv', hw, and_self, if_true]
def cPParts : HeadO := fun vs h K => match vs, h with
  | [.e (.c (.int .i64 nI)), .e (.c (.slice ⟨0, 0, 1, 0, 0, 0, 0⟩ 1 vl 0 false)), .e (.c (.int .i64 p)), .e (.c (.ptr ⟨1, 0, 0, 0, 0, 0, 0⟩)), .e (.c (.int .i64 i))],
    [(false, some ⟨true, .rows [.ints .u64 vn]⟩), (true, some ⟨false, .mix [.slice ⟨2, 0, 1, 0, 0, 0, 0⟩ 1 n x true]⟩), (true, some ⟨false, .rows [.ints .u64 ws]⟩)] =>
    match decide (i = 0) && decide (nI = n) && Nat.beq n ws.length && decide (ws.length ≤ 65536) && Nat.beq vl vn.length && decide (vn.length < 4611686018427387904) with
    | true => K (.exit 0) [.e (.c (.int .i64 nI)), .e (.c (.int .i64 p)), .e (.c (.ptr ⟨1, 0, 0, 0, 0, 0, 0⟩))] [(false, some ⟨true, .rows [.ints .u64 vn]⟩), (true, some ⟨false, .mix [.slice ⟨2, 0, 1, 0, 0, 0, 0⟩ 1 n x true]⟩), (true, some ⟨false, .rows [.ints .u64 (putsF vn ws.length 0 ws)]⟩)]
    | false => none
  | _, _ => none
theorem cPParts_sound : HeadSound Try.prog iPParts (loopOf Try.prog 5 0) cPParts := by
  refine HeadSound.short (iterR_sound (F := 60) sL_ok mix lNil_ok) fun vs h K r e => ?_
  unfold cPParts at e
  split at e
  · rename_i nI vl p  i vn n x ws
    split at e
    · rename_i hc
      simp only [Bool.and_eq_true, decide_eq_true_eq] at hc
      obtain ⟨⟨⟨⟨⟨rfl, rfl⟩, c2⟩, c4⟩, c6⟩, c8⟩ := hc
      have c2 := Nat.eq_of_beq_eq_true c2
      have c6 := Nat.eq_of_beq_eq_true c6
      subst c2; subst c6
      exact ⟨ws.length + 1, (loopParts p vn x c8 K ws.length 0 ws (by omega) c4).trans e⟩
    · cases e
  · cases e
theorem loopZeros (p q : Int) (vn : List Int) (x : Nat) (hv : vn.length < 4611686018427387904) (K : HeadK) : ∀ (j i : Nat) (ws : List Int), ws.length ≤ i + j → ws.length ≤ 65536 →
    iterR Try.prog sL lNil iPZeros 60 (loopOf Try.prog 6 0) (j + 1) (vZeros ws.length p q vn.length i) (putsH vn ws.length x ws) K = K (.exit 0) [.e (.c (.int .i64 (ws.length : Int))), .e (.c (.int .i64 p)), .e (.c (.int .i64 q)), .e (.c (.ptr ⟨1, 0, 0, 0, 0, 0, 0⟩))] (putsH vn ws.length x (putsF vn j i ws))
  | 0, i, ws, hi, h1 => by
    rw [iterR]
    refine (t_pZeros ws.length p q i vn.length ws.length x vn ws _).trans ?_
    rw [decide_eq_false (show ¬ (i : Int) < (ws.length : Int) by omega)]
    cases decide ((i : Int) < (vn.length : Int)) <;> rfl
  | j + 1, i, ws, hi, h1 => by
    rw [iterR]
    refine (t_pZeros ws.length p q i vn.length ws.length x vn ws _).trans ?_
    by_cases hv' : i < vn.length
    rotate_left
    · rw [decide_eq_false (show ¬ (i : Int) < (vn.length : Int) by omega)]
      simp only [putsF, hv', false_and, if_false]; rfl
    rw [decide_eq_true (show (i : Int) < (vn.length : Int) by omega)]
    by_cases hw : i < ws.length
    rotate_left
    · rw [decide_eq_false (show ¬ (i : Int) < (ws.length : Int) by omega)]
      simp only [putsF, hw, and_false, if_false]; rfl
    rw [decide_eq_true (show (i : Int) < (ws.length : Int) by omega), decide_eq_true (show (0 : Int) ≤ i by omega)]
    simp only [Int.toNat_natCast, Nat.zero_add]
    rw [decide_eq_true hv']
    have f1 : okM ws.length ws = true := by simp [okM, h1]
    have f2 : inI (i : Int) = true := by simp [inI]; omega
    rw [f1, f2]
    simp only [Bool.and_self, cond_true]
    rw [wrap_i64 (n := (i : Int) + 1) (by omega) (by omega), show (i : Int) + 1 = ((i + 1 : Nat) : Int) from by omega]
    have ih := loopZeros p q vn x hv K j (i + 1) (putW ws i (vn.getD i 0)) (by rw [putW_len]; omega) (by rw [putW_len]; exact h1)
    simp only [putW_len] at ih
    refine ih.trans ?_
    simp only [putsF, hv', hw, and_self, if_true]
def cPZeros : HeadO := fun vs h K => match vs, h with
  | [.e (.c (.int .i64 nI)), .e (.c (.slice ⟨0, 0, 1, 0, 0, 0, 0⟩ 1 vl 0 false)), .e (.c (.int .i64 p)), .e (.c (.int .i64 q)), .e (.c (.ptr ⟨1, 0, 0, 0, 0, 0, 0⟩)), .e (.c (.int .i64 i))],
    [(false, some ⟨true, .rows [.ints .u64 vn]⟩), (true, some ⟨false, .mix [.slice ⟨2, 0, 1, 0, 0, 0, 0⟩ 1 n x true]⟩), (true, some ⟨false, .rows [.ints .u64 ws]⟩)] =>
    match decide (i = 0) && decide (nI = n) && Nat.beq n ws.length && decide (ws.length ≤ 65536) && Nat.beq vl vn.length && decide (vn.length < 4611686018427387904) with
    | true => K (.exit 0) [.e (.c (.int .i64 nI)), .e (.c (.int .i64 p)), .e (.c (.int .i64 q)), .e (.c (.ptr ⟨1, 0, 0, 0, 0, 0, 0⟩))] [(false, some ⟨true, .rows [.ints .u64 vn]⟩), (true, some ⟨false, .mix [.slice ⟨2, 0, 1, 0, 0, 0, 0⟩ 1 n x true]⟩), (true, some ⟨false, .rows [.ints .u64 (putsF vn ws.length 0 ws)]⟩)]
    | false => none
  | _, _ => none
theorem cPZeros_sound : HeadSound Try.prog iPZeros (loopOf Try.prog 6 0) cPZeros := by
  refine HeadSound.short (iterR_sound (F := 60) sL_ok mix lNil_ok) fun vs h K r e => ?_
  unfold cPZeros at e
  split at e
  · rename_i nI vl p q  i vn n x ws
    split at e
    · rename_i hc
      simp only [Bool.and_eq_true, decide_eq_true_eq] at hc
      obtain ⟨⟨⟨⟨⟨rfl, rfl⟩, c2⟩, c4⟩, c6⟩, c8⟩ := hc
      have c2 := Nat.eq_of_beq_eq_true c2
      have c6 := Nat.eq_of_beq_eq_true c6
      subst c2; subst c6
      exact ⟨ws.length + 1, (loopZeros p q vn x c8 K ws.length 0 ws (by omega) c4).trans e⟩
    · cases e
  · cases e
end Go.Proofs.Ytggkddpimcikaaa.Wlk
