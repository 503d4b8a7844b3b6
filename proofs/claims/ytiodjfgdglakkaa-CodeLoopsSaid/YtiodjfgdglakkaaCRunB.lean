/- What comes of an instruction, walked: the document. -/
import Derived.Test.YtiodjfgdglakkaaCRunD
set_option linter.unusedVariables false
set_option linter.unusedSimpArgs false
set_option maxRecDepth 100000
namespace Go.Proofs.Ytiodjfgdglakkaa.Wlk
open Go Go.Eng Go.Proofs Go.RowKit
theorem t_runB_0 (a b m r0 r1 r2 r3 r4 r5 r6 r7 pc : Int) (k : Res → Option Res) : runG Try.prog sR 100 17 [.e (.agg [.int .i64 0, .int .i64 a, .int .i64 b, .int .i64 m]), .e (.agg [.int .u64 r0, .int .u64 r1, .int .u64 r2, .int .u64 r3, .int .u64 r4, .int .u64 r5, .int .u64 r6, .int .u64 r7]), aint .i64 pc] [] k = (cond (decide (a ≥ 0)) (cond (decide (a ≤ 7)) (cond (decide (b ≥ 0)) (cond (decide (b ≤ 7)) (cond (decide (m ≥ 0)) (cond (!decide (m ≤ 4095)) (k (Res.mk (AV.tup [(AE.agg [(AC.int (IntKind.u64) (0)), (AC.int (IntKind.u64) (0)), (AC.int (IntKind.u64) (0)), (AC.int (IntKind.u64) (0)), (AC.int (IntKind.u64) (0)), (AC.int (IntKind.u64) (0)), (AC.int (IntKind.u64) (0)), (AC.int (IntKind.u64) (0)), (AC.int (IntKind.i64) (0)), (AC.int (IntKind.i64) (0)), (AC.int (IntKind.u64) (0)), (AC.int (IntKind.i64) (0)), (AC.int (IntKind.u64) (0))]), (AE.c (AC.int (IntKind.i64) (10)))]) [])) (cond (decide (pc < 0)) (k (Res.mk (AV.tup [(AE.agg [(AC.int (IntKind.u64) (0)), (AC.int (IntKind.u64) (0)), (AC.int (IntKind.u64) (0)), (AC.int (IntKind.u64) (0)), (AC.int (IntKind.u64) (0)), (AC.int (IntKind.u64) (0)), (AC.int (IntKind.u64) (0)), (AC.int (IntKind.u64) (0)), (AC.int (IntKind.i64) (0)), (AC.int (IntKind.i64) (0)), (AC.int (IntKind.u64) (0)), (AC.int (IntKind.i64) (0)), (AC.int (IntKind.u64) (0))]), (AE.c (AC.int (IntKind.i64) (1)))]) [])) (cond (decide (pc > 4095)) (k (Res.mk (AV.tup [(AE.agg [(AC.int (IntKind.u64) (0)), (AC.int (IntKind.u64) (0)), (AC.int (IntKind.u64) (0)), (AC.int (IntKind.u64) (0)), (AC.int (IntKind.u64) (0)), (AC.int (IntKind.u64) (0)), (AC.int (IntKind.u64) (0)), (AC.int (IntKind.u64) (0)), (AC.int (IntKind.i64) (0)), (AC.int (IntKind.i64) (0)), (AC.int (IntKind.u64) (0)), (AC.int (IntKind.i64) (0)), (AC.int (IntKind.u64) (0))]), (AE.c (AC.int (IntKind.i64) (1)))]) [])) (cond (decide (0 ≤ a) && decide (a < 8)) (cond (decide (Int.toNat a < List.length [r0, r1, r2, r3, r4, r5, r6, r7])) (cond (decide (0 ≤ b) && decide (b < 8)) (cond (decide (Int.toNat b < List.length [r0, r1, r2, r3, r4, r5, r6, r7])) (k (Res.mk (AV.tup [(AE.agg [(AC.int (IntKind.u64) (r0)), (AC.int (IntKind.u64) (r1)), (AC.int (IntKind.u64) (r2)), (AC.int (IntKind.u64) (r3)), (AC.int (IntKind.u64) (r4)), (AC.int (IntKind.u64) (r5)), (AC.int (IntKind.u64) (r6)), (AC.int (IntKind.u64) (r7)), (AC.int (IntKind.i64) (pc)), (AC.int (IntKind.i64) (4)), (AC.int (IntKind.u64) (0)), (AC.int (IntKind.i64) (0)), (AC.int (IntKind.u64) (0))]), (AE.c (AC.int (IntKind.i64) (0)))]) [])) none) none) none) none)))) (k (Res.mk (AV.tup [(AE.agg [(AC.int (IntKind.u64) (0)), (AC.int (IntKind.u64) (0)), (AC.int (IntKind.u64) (0)), (AC.int (IntKind.u64) (0)), (AC.int (IntKind.u64) (0)), (AC.int (IntKind.u64) (0)), (AC.int (IntKind.u64) (0)), (AC.int (IntKind.u64) (0)), (AC.int (IntKind.i64) (0)), (AC.int (IntKind.i64) (0)), (AC.int (IntKind.u64) (0)), (AC.int (IntKind.i64) (0)), (AC.int (IntKind.u64) (0))]), (AE.c (AC.int (IntKind.i64) (10)))]) []))) (k (Res.mk (AV.tup [(AE.agg [(AC.int (IntKind.u64) (0)), (AC.int (IntKind.u64) (0)), (AC.int (IntKind.u64) (0)), (AC.int (IntKind.u64) (0)), (AC.int (IntKind.u64) (0)), (AC.int (IntKind.u64) (0)), (AC.int (IntKind.u64) (0)), (AC.int (IntKind.u64) (0)), (AC.int (IntKind.i64) (0)), (AC.int (IntKind.i64) (0)), (AC.int (IntKind.u64) (0)), (AC.int (IntKind.i64) (0)), (AC.int (IntKind.u64) (0))]), (AE.c (AC.int (IntKind.i64) (10)))]) []))) (k (Res.mk (AV.tup [(AE.agg [(AC.int (IntKind.u64) (0)), (AC.int (IntKind.u64) (0)), (AC.int (IntKind.u64) (0)), (AC.int (IntKind.u64) (0)), (AC.int (IntKind.u64) (0)), (AC.int (IntKind.u64) (0)), (AC.int (IntKind.u64) (0)), (AC.int (IntKind.u64) (0)), (AC.int (IntKind.i64) (0)), (AC.int (IntKind.i64) (0)), (AC.int (IntKind.u64) (0)), (AC.int (IntKind.i64) (0)), (AC.int (IntKind.u64) (0))]), (AE.c (AC.int (IntKind.i64) (10)))]) []))) (k (Res.mk (AV.tup [(AE.agg [(AC.int (IntKind.u64) (0)), (AC.int (IntKind.u64) (0)), (AC.int (IntKind.u64) (0)), (AC.int (IntKind.u64) (0)), (AC.int (IntKind.u64) (0)), (AC.int (IntKind.u64) (0)), (AC.int (IntKind.u64) (0)), (AC.int (IntKind.u64) (0)), (AC.int (IntKind.i64) (0)), (AC.int (IntKind.i64) (0)), (AC.int (IntKind.u64) (0)), (AC.int (IntKind.i64) (0)), (AC.int (IntKind.u64) (0))]), (AE.c (AC.int (IntKind.i64) (10)))]) []))) (k (Res.mk (AV.tup [(AE.agg [(AC.int (IntKind.u64) (0)), (AC.int (IntKind.u64) (0)), (AC.int (IntKind.u64) (0)), (AC.int (IntKind.u64) (0)), (AC.int (IntKind.u64) (0)), (AC.int (IntKind.u64) (0)), (AC.int (IntKind.u64) (0)), (AC.int (IntKind.u64) (0)), (AC.int (IntKind.i64) (0)), (AC.int (IntKind.i64) (0)), (AC.int (IntKind.u64) (0)), (AC.int (IntKind.i64) (0)), (AC.int (IntKind.u64) (0))]), (AE.c (AC.int (IntKind.i64) (10)))]) []))) := by kernel_rfl
theorem t_runB_1 (a b m r0 r1 r2 r3 r4 r5 r6 r7 pc : Int) (k : Res → Option Res) : runG Try.prog sR 100 17 [.e (.agg [.int .i64 1, .int .i64 a, .int .i64 b, .int .i64 m]), .e (.agg [.int .u64 r0, .int .u64 r1, .int .u64 r2, .int .u64 r3, .int .u64 r4, .int .u64 r5, .int .u64 r6, .int .u64 r7]), aint .i64 pc] [] k = (cond (decide (a ≥ 0)) (cond (decide (a ≤ 7)) (cond (decide (b ≥ 0)) (cond (decide (b ≤ 7)) (cond (decide (m ≥ 0)) (cond (!decide (m ≤ 4095)) (k (Res.mk (AV.tup [(AE.agg [(AC.int (IntKind.u64) (0)), (AC.int (IntKind.u64) (0)), (AC.int (IntKind.u64) (0)), (AC.int (IntKind.u64) (0)), (AC.int (IntKind.u64) (0)), (AC.int (IntKind.u64) (0)), (AC.int (IntKind.u64) (0)), (AC.int (IntKind.u64) (0)), (AC.int (IntKind.i64) (0)), (AC.int (IntKind.i64) (0)), (AC.int (IntKind.u64) (0)), (AC.int (IntKind.i64) (0)), (AC.int (IntKind.u64) (0))]), (AE.c (AC.int (IntKind.i64) (10)))]) [])) (cond (decide (pc < 0)) (k (Res.mk (AV.tup [(AE.agg [(AC.int (IntKind.u64) (0)), (AC.int (IntKind.u64) (0)), (AC.int (IntKind.u64) (0)), (AC.int (IntKind.u64) (0)), (AC.int (IntKind.u64) (0)), (AC.int (IntKind.u64) (0)), (AC.int (IntKind.u64) (0)), (AC.int (IntKind.u64) (0)), (AC.int (IntKind.i64) (0)), (AC.int (IntKind.i64) (0)), (AC.int (IntKind.u64) (0)), (AC.int (IntKind.i64) (0)), (AC.int (IntKind.u64) (0))]), (AE.c (AC.int (IntKind.i64) (1)))]) [])) (cond (decide (pc > 4095)) (k (Res.mk (AV.tup [(AE.agg [(AC.int (IntKind.u64) (0)), (AC.int (IntKind.u64) (0)), (AC.int (IntKind.u64) (0)), (AC.int (IntKind.u64) (0)), (AC.int (IntKind.u64) (0)), (AC.int (IntKind.u64) (0)), (AC.int (IntKind.u64) (0)), (AC.int (IntKind.u64) (0)), (AC.int (IntKind.i64) (0)), (AC.int (IntKind.i64) (0)), (AC.int (IntKind.u64) (0)), (AC.int (IntKind.i64) (0)), (AC.int (IntKind.u64) (0))]), (AE.c (AC.int (IntKind.i64) (1)))]) [])) (cond (decide (0 ≤ a) && decide (a < 8)) (cond (decide (Int.toNat a < List.length [r0, r1, r2, r3, r4, r5, r6, r7])) (cond (decide (0 ≤ b) && decide (b < 8)) (cond (decide (Int.toNat b < List.length [r0, r1, r2, r3, r4, r5, r6, r7])) (cond (decide (0 ≤ a) && decide (a < 8)) (cond (decide (Int.toNat a < List.length [r0, r1, r2, r3, r4, r5, r6, r7]) && true) (k (Res.mk (AV.tup [(AE.agg [(AC.int (IntKind.u64) (if Int.toNat a = 0 then IntKind.wrap IntKind.u64 m else r0)), (AC.int (IntKind.u64) (if Int.toNat a = 1 then IntKind.wrap IntKind.u64 m else r1)), (AC.int (IntKind.u64) (if Int.toNat a = 2 then IntKind.wrap IntKind.u64 m else r2)), (AC.int (IntKind.u64) (if Int.toNat a = 3 then IntKind.wrap IntKind.u64 m else r3)), (AC.int (IntKind.u64) (if Int.toNat a = 4 then IntKind.wrap IntKind.u64 m else r4)), (AC.int (IntKind.u64) (if Int.toNat a = 5 then IntKind.wrap IntKind.u64 m else r5)), (AC.int (IntKind.u64) (if Int.toNat a = 6 then IntKind.wrap IntKind.u64 m else r6)), (AC.int (IntKind.u64) (if Int.toNat a = 7 then IntKind.wrap IntKind.u64 m else r7)), (AC.int (IntKind.i64) (Int.tmod (IntKind.wrap IntKind.i64 (pc + 1)) 4096)), (AC.int (IntKind.i64) (0)), (AC.int (IntKind.u64) (0)), (AC.int (IntKind.i64) (0)), (AC.int (IntKind.u64) (0))]), (AE.c (AC.int (IntKind.i64) (0)))]) [])) none) none) none) none) none) none)))) (k (Res.mk (AV.tup [(AE.agg [(AC.int (IntKind.u64) (0)), (AC.int (IntKind.u64) (0)), (AC.int (IntKind.u64) (0)), (AC.int (IntKind.u64) (0)), (AC.int (IntKind.u64) (0)), (AC.int (IntKind.u64) (0)), (AC.int (IntKind.u64) (0)), (AC.int (IntKind.u64) (0)), (AC.int (IntKind.i64) (0)), (AC.int (IntKind.i64) (0)), (AC.int (IntKind.u64) (0)), (AC.int (IntKind.i64) (0)), (AC.int (IntKind.u64) (0))]), (AE.c (AC.int (IntKind.i64) (10)))]) []))) (k (Res.mk (AV.tup [(AE.agg [(AC.int (IntKind.u64) (0)), (AC.int (IntKind.u64) (0)), (AC.int (IntKind.u64) (0)), (AC.int (IntKind.u64) (0)), (AC.int (IntKind.u64) (0)), (AC.int (IntKind.u64) (0)), (AC.int (IntKind.u64) (0)), (AC.int (IntKind.u64) (0)), (AC.int (IntKind.i64) (0)), (AC.int (IntKind.i64) (0)), (AC.int (IntKind.u64) (0)), (AC.int (IntKind.i64) (0)), (AC.int (IntKind.u64) (0))]), (AE.c (AC.int (IntKind.i64) (10)))]) []))) (k (Res.mk (AV.tup [(AE.agg [(AC.int (IntKind.u64) (0)), (AC.int (IntKind.u64) (0)), (AC.int (IntKind.u64) (0)), (AC.int (IntKind.u64) (0)), (AC.int (IntKind.u64) (0)), (AC.int (IntKind.u64) (0)), (AC.int (IntKind.u64) (0)), (AC.int (IntKind.u64) (0)), (AC.int (IntKind.i64) (0)), (AC.int (IntKind.i64) (0)), (AC.int (IntKind.u64) (0)), (AC.int (IntKind.i64) (0)), (AC.int (IntKind.u64) (0))]), (AE.c (AC.int (IntKind.i64) (10)))]) []))) (k (Res.mk (AV.tup [(AE.agg [(AC.int (IntKind.u64) (0)), (AC.int (IntKind.u64) (0)), (AC.int (IntKind.u64) (0)), (AC.int (IntKind.u64) (0)), (AC.int (IntKind.u64) (0)), (AC.int (IntKind.u64) (0)), (AC.int (IntKind.u64) (0)), (AC.int (IntKind.u64) (0)), (AC.int (IntKind.i64) (0)), (AC.int (IntKind.i64) (0)), (AC.int (IntKind.u64) (0)), (AC.int (IntKind.i64) (0)), (AC.int (IntKind.u64) (0))]), (AE.c (AC.int (IntKind.i64) (10)))]) []))) (k (Res.mk (AV.tup [(AE.agg [(AC.int (IntKind.u64) (0)), (AC.int (IntKind.u64) (0)), (AC.int (IntKind.u64) (0)), (AC.int (IntKind.u64) (0)), (AC.int (IntKind.u64) (0)), (AC.int (IntKind.u64) (0)), (AC.int (IntKind.u64) (0)), (AC.int (IntKind.u64) (0)), (AC.int (IntKind.i64) (0)), (AC.int (IntKind.i64) (0)), (AC.int (IntKind.u64) (0)), (AC.int (IntKind.i64) (0)), (AC.int (IntKind.u64) (0))]), (AE.c (AC.int (IntKind.i64) (10)))]) []))) := by kernel_rfl
theorem t_runB_2 (a b m r0 r1 r2 r3 r4 r5 r6 r7 pc : Int) (k : Res → Option Res) : runG Try.prog sR 100 17 [.e (.agg [.int .i64 2, .int .i64 a, .int .i64 b, .int .i64 m]), .e (.agg [.int .u64 r0, .int .u64 r1, .int .u64 r2, .int .u64 r3, .int .u64 r4, .int .u64 r5, .int .u64 r6, .int .u64 r7]), aint .i64 pc] [] k = (cond (decide (a ≥ 0)) (cond (decide (a ≤ 7)) (cond (decide (b ≥ 0)) (cond (decide (b ≤ 7)) (cond (decide (m ≥ 0)) (cond (!decide (m ≤ 4095)) (k (Res.mk (AV.tup [(AE.agg [(AC.int (IntKind.u64) (0)), (AC.int (IntKind.u64) (0)), (AC.int (IntKind.u64) (0)), (AC.int (IntKind.u64) (0)), (AC.int (IntKind.u64) (0)), (AC.int (IntKind.u64) (0)), (AC.int (IntKind.u64) (0)), (AC.int (IntKind.u64) (0)), (AC.int (IntKind.i64) (0)), (AC.int (IntKind.i64) (0)), (AC.int (IntKind.u64) (0)), (AC.int (IntKind.i64) (0)), (AC.int (IntKind.u64) (0))]), (AE.c (AC.int (IntKind.i64) (10)))]) [])) (cond (decide (pc < 0)) (k (Res.mk (AV.tup [(AE.agg [(AC.int (IntKind.u64) (0)), (AC.int (IntKind.u64) (0)), (AC.int (IntKind.u64) (0)), (AC.int (IntKind.u64) (0)), (AC.int (IntKind.u64) (0)), (AC.int (IntKind.u64) (0)), (AC.int (IntKind.u64) (0)), (AC.int (IntKind.u64) (0)), (AC.int (IntKind.i64) (0)), (AC.int (IntKind.i64) (0)), (AC.int (IntKind.u64) (0)), (AC.int (IntKind.i64) (0)), (AC.int (IntKind.u64) (0))]), (AE.c (AC.int (IntKind.i64) (1)))]) [])) (cond (decide (pc > 4095)) (k (Res.mk (AV.tup [(AE.agg [(AC.int (IntKind.u64) (0)), (AC.int (IntKind.u64) (0)), (AC.int (IntKind.u64) (0)), (AC.int (IntKind.u64) (0)), (AC.int (IntKind.u64) (0)), (AC.int (IntKind.u64) (0)), (AC.int (IntKind.u64) (0)), (AC.int (IntKind.u64) (0)), (AC.int (IntKind.i64) (0)), (AC.int (IntKind.i64) (0)), (AC.int (IntKind.u64) (0)), (AC.int (IntKind.i64) (0)), (AC.int (IntKind.u64) (0))]), (AE.c (AC.int (IntKind.i64) (1)))]) [])) (cond (decide (0 ≤ a) && decide (a < 8)) (cond (decide (Int.toNat a < List.length [r0, r1, r2, r3, r4, r5, r6, r7])) (cond (decide (0 ≤ b) && decide (b < 8)) (cond (decide (Int.toNat b < List.length [r0, r1, r2, r3, r4, r5, r6, r7])) (cond (decide (0 ≤ a) && decide (a < 8)) (cond (decide (Int.toNat a < List.length [r0, r1, r2, r3, r4, r5, r6, r7]) && true) (k (Res.mk (AV.tup [(AE.agg [(AC.int (IntKind.u64) (if Int.toNat a = 0 then List.getD [r0, r1, r2, r3, r4, r5, r6, r7] (Int.toNat b) 0 else r0)), (AC.int (IntKind.u64) (if Int.toNat a = 1 then List.getD [r0, r1, r2, r3, r4, r5, r6, r7] (Int.toNat b) 0 else r1)), (AC.int (IntKind.u64) (if Int.toNat a = 2 then List.getD [r0, r1, r2, r3, r4, r5, r6, r7] (Int.toNat b) 0 else r2)), (AC.int (IntKind.u64) (if Int.toNat a = 3 then List.getD [r0, r1, r2, r3, r4, r5, r6, r7] (Int.toNat b) 0 else r3)), (AC.int (IntKind.u64) (if Int.toNat a = 4 then List.getD [r0, r1, r2, r3, r4, r5, r6, r7] (Int.toNat b) 0 else r4)), (AC.int (IntKind.u64) (if Int.toNat a = 5 then List.getD [r0, r1, r2, r3, r4, r5, r6, r7] (Int.toNat b) 0 else r5)), (AC.int (IntKind.u64) (if Int.toNat a = 6 then List.getD [r0, r1, r2, r3, r4, r5, r6, r7] (Int.toNat b) 0 else r6)), (AC.int (IntKind.u64) (if Int.toNat a = 7 then List.getD [r0, r1, r2, r3, r4, r5, r6, r7] (Int.toNat b) 0 else r7)), (AC.int (IntKind.i64) (Int.tmod (IntKind.wrap IntKind.i64 (pc + 1)) 4096)), (AC.int (IntKind.i64) (0)), (AC.int (IntKind.u64) (0)), (AC.int (IntKind.i64) (0)), (AC.int (IntKind.u64) (0))]), (AE.c (AC.int (IntKind.i64) (0)))]) [])) none) none) none) none) none) none)))) (k (Res.mk (AV.tup [(AE.agg [(AC.int (IntKind.u64) (0)), (AC.int (IntKind.u64) (0)), (AC.int (IntKind.u64) (0)), (AC.int (IntKind.u64) (0)), (AC.int (IntKind.u64) (0)), (AC.int (IntKind.u64) (0)), (AC.int (IntKind.u64) (0)), (AC.int (IntKind.u64) (0)), (AC.int (IntKind.i64) (0)), (AC.int (IntKind.i64) (0)), (AC.int (IntKind.u64) (0)), (AC.int (IntKind.i64) (0)), (AC.int (IntKind.u64) (0))]), (AE.c (AC.int (IntKind.i64) (10)))]) []))) (k (Res.mk (AV.tup [(AE.agg [(AC.int (IntKind.u64) (0)), (AC.int (IntKind.u64) (0)), (AC.int (IntKind.u64) (0)), (AC.int (IntKind.u64) (0)), (AC.int (IntKind.u64) (0)), (AC.int (IntKind.u64) (0)), (AC.int (IntKind.u64) (0)), (AC.int (IntKind.u64) (0)), (AC.int (IntKind.i64) (0)), (AC.int (IntKind.i64) (0)), (AC.int (IntKind.u64) (0)), (AC.int (IntKind.i64) (0)), (AC.int (IntKind.u64) (0))]), (AE.c (AC.int (IntKind.i64) (10)))]) []))) (k (Res.mk (AV.tup [(AE.agg [(AC.int (IntKind.u64) (0)), (AC.int (IntKind.u64) (0)), (AC.int (IntKind.u64) (0)), (AC.int (IntKind.u64) (0)), (AC.int (IntKind.u64) (0)), (AC.int (IntKind.u64) (0)), (AC.int (IntKind.u64) (0)), (AC.int (IntKind.u64) (0)), (AC.int (IntKind.i64) (0)), (AC.int (IntKind.i64) (0)), (AC.int (IntKind.u64) (0)), (AC.int (IntKind.i64) (0)), (AC.int (IntKind.u64) (0))]), (AE.c (AC.int (IntKind.i64) (10)))]) []))) (k (Res.mk (AV.tup [(AE.agg [(AC.int (IntKind.u64) (0)), (AC.int (IntKind.u64) (0)), (AC.int (IntKind.u64) (0)), (AC.int (IntKind.u64) (0)), (AC.int (IntKind.u64) (0)), (AC.int (IntKind.u64) (0)), (AC.int (IntKind.u64) (0)), (AC.int (IntKind.u64) (0)), (AC.int (IntKind.i64) (0)), (AC.int (IntKind.i64) (0)), (AC.int (IntKind.u64) (0)), (AC.int (IntKind.i64) (0)), (AC.int (IntKind.u64) (0))]), (AE.c (AC.int (IntKind.i64) (10)))]) []))) (k (Res.mk (AV.tup [(AE.agg [(AC.int (IntKind.u64) (0)), (AC.int (IntKind.u64) (0)), (AC.int (IntKind.u64) (0)), (AC.int (IntKind.u64) (0)), (AC.int (IntKind.u64) (0)), (AC.int (IntKind.u64) (0)), (AC.int (IntKind.u64) (0)), (AC.int (IntKind.u64) (0)), (AC.int (IntKind.i64) (0)), (AC.int (IntKind.i64) (0)), (AC.int (IntKind.u64) (0)), (AC.int (IntKind.i64) (0)), (AC.int (IntKind.u64) (0))]), (AE.c (AC.int (IntKind.i64) (10)))]) []))) := by kernel_rfl
theorem t_runB_3 (a b m r0 r1 r2 r3 r4 r5 r6 r7 pc : Int) (k : Res → Option Res) : runG Try.prog sR 100 17 [.e (.agg [.int .i64 3, .int .i64 a, .int .i64 b, .int .i64 m]), .e (.agg [.int .u64 r0, .int .u64 r1, .int .u64 r2, .int .u64 r3, .int .u64 r4, .int .u64 r5, .int .u64 r6, .int .u64 r7]), aint .i64 pc] [] k = (cond (decide (a ≥ 0)) (cond (decide (a ≤ 7)) (cond (decide (b ≥ 0)) (cond (decide (b ≤ 7)) (cond (decide (m ≥ 0)) (cond (!decide (m ≤ 4095)) (k (Res.mk (AV.tup [(AE.agg [(AC.int (IntKind.u64) (0)), (AC.int (IntKind.u64) (0)), (AC.int (IntKind.u64) (0)), (AC.int (IntKind.u64) (0)), (AC.int (IntKind.u64) (0)), (AC.int (IntKind.u64) (0)), (AC.int (IntKind.u64) (0)), (AC.int (IntKind.u64) (0)), (AC.int (IntKind.i64) (0)), (AC.int (IntKind.i64) (0)), (AC.int (IntKind.u64) (0)), (AC.int (IntKind.i64) (0)), (AC.int (IntKind.u64) (0))]), (AE.c (AC.int (IntKind.i64) (10)))]) [])) (cond (decide (pc < 0)) (k (Res.mk (AV.tup [(AE.agg [(AC.int (IntKind.u64) (0)), (AC.int (IntKind.u64) (0)), (AC.int (IntKind.u64) (0)), (AC.int (IntKind.u64) (0)), (AC.int (IntKind.u64) (0)), (AC.int (IntKind.u64) (0)), (AC.int (IntKind.u64) (0)), (AC.int (IntKind.u64) (0)), (AC.int (IntKind.i64) (0)), (AC.int (IntKind.i64) (0)), (AC.int (IntKind.u64) (0)), (AC.int (IntKind.i64) (0)), (AC.int (IntKind.u64) (0))]), (AE.c (AC.int (IntKind.i64) (1)))]) [])) (cond (decide (pc > 4095)) (k (Res.mk (AV.tup [(AE.agg [(AC.int (IntKind.u64) (0)), (AC.int (IntKind.u64) (0)), (AC.int (IntKind.u64) (0)), (AC.int (IntKind.u64) (0)), (AC.int (IntKind.u64) (0)), (AC.int (IntKind.u64) (0)), (AC.int (IntKind.u64) (0)), (AC.int (IntKind.u64) (0)), (AC.int (IntKind.i64) (0)), (AC.int (IntKind.i64) (0)), (AC.int (IntKind.u64) (0)), (AC.int (IntKind.i64) (0)), (AC.int (IntKind.u64) (0))]), (AE.c (AC.int (IntKind.i64) (1)))]) [])) (cond (decide (0 ≤ a) && decide (a < 8)) (cond (decide (Int.toNat a < List.length [r0, r1, r2, r3, r4, r5, r6, r7])) (cond (decide (0 ≤ b) && decide (b < 8)) (cond (decide (Int.toNat b < List.length [r0, r1, r2, r3, r4, r5, r6, r7])) (cond (decide (0 ≤ a) && decide (a < 8)) (cond (decide (Int.toNat a < List.length [r0, r1, r2, r3, r4, r5, r6, r7]) && true) (k (Res.mk (AV.tup [(AE.agg [(AC.int (IntKind.u64) (if Int.toNat a = 0 then IntKind.wrap IntKind.u64 (List.getD [r0, r1, r2, r3, r4, r5, r6, r7] (Int.toNat a) 0 + List.getD [r0, r1, r2, r3, r4, r5, r6, r7] (Int.toNat b) 0) else r0)), (AC.int (IntKind.u64) (if Int.toNat a = 1 then IntKind.wrap IntKind.u64 (List.getD [r0, r1, r2, r3, r4, r5, r6, r7] (Int.toNat a) 0 + List.getD [r0, r1, r2, r3, r4, r5, r6, r7] (Int.toNat b) 0) else r1)), (AC.int (IntKind.u64) (if Int.toNat a = 2 then IntKind.wrap IntKind.u64 (List.getD [r0, r1, r2, r3, r4, r5, r6, r7] (Int.toNat a) 0 + List.getD [r0, r1, r2, r3, r4, r5, r6, r7] (Int.toNat b) 0) else r2)), (AC.int (IntKind.u64) (if Int.toNat a = 3 then IntKind.wrap IntKind.u64 (List.getD [r0, r1, r2, r3, r4, r5, r6, r7] (Int.toNat a) 0 + List.getD [r0, r1, r2, r3, r4, r5, r6, r7] (Int.toNat b) 0) else r3)), (AC.int (IntKind.u64) (if Int.toNat a = 4 then IntKind.wrap IntKind.u64 (List.getD [r0, r1, r2, r3, r4, r5, r6, r7] (Int.toNat a) 0 + List.getD [r0, r1, r2, r3, r4, r5, r6, r7] (Int.toNat b) 0) else r4)), (AC.int (IntKind.u64) (if Int.toNat a = 5 then IntKind.wrap IntKind.u64 (List.getD [r0, r1, r2, r3, r4, r5, r6, r7] (Int.toNat a) 0 + List.getD [r0, r1, r2, r3, r4, r5, r6, r7] (Int.toNat b) 0) else r5)), (AC.int (IntKind.u64) (if Int.toNat a = 6 then IntKind.wrap IntKind.u64 (List.getD [r0, r1, r2, r3, r4, r5, r6, r7] (Int.toNat a) 0 + List.getD [r0, r1, r2, r3, r4, r5, r6, r7] (Int.toNat b) 0) else r6)), (AC.int (IntKind.u64) (if Int.toNat a = 7 then IntKind.wrap IntKind.u64 (List.getD [r0, r1, r2, r3, r4, r5, r6, r7] (Int.toNat a) 0 + List.getD [r0, r1, r2, r3, r4, r5, r6, r7] (Int.toNat b) 0) else r7)), (AC.int (IntKind.i64) (Int.tmod (IntKind.wrap IntKind.i64 (pc + 1)) 4096)), (AC.int (IntKind.i64) (0)), (AC.int (IntKind.u64) (0)), (AC.int (IntKind.i64) (0)), (AC.int (IntKind.u64) (0))]), (AE.c (AC.int (IntKind.i64) (0)))]) [])) none) none) none) none) none) none)))) (k (Res.mk (AV.tup [(AE.agg [(AC.int (IntKind.u64) (0)), (AC.int (IntKind.u64) (0)), (AC.int (IntKind.u64) (0)), (AC.int (IntKind.u64) (0)), (AC.int (IntKind.u64) (0)), (AC.int (IntKind.u64) (0)), (AC.int (IntKind.u64) (0)), (AC.int (IntKind.u64) (0)), (AC.int (IntKind.i64) (0)), (AC.int (IntKind.i64) (0)), (AC.int (IntKind.u64) (0)), (AC.int (IntKind.i64) (0)), (AC.int (IntKind.u64) (0))]), (AE.c (AC.int (IntKind.i64) (10)))]) []))) (k (Res.mk (AV.tup [(AE.agg [(AC.int (IntKind.u64) (0)), (AC.int (IntKind.u64) (0)), (AC.int (IntKind.u64) (0)), (AC.int (IntKind.u64) (0)), (AC.int (IntKind.u64) (0)), (AC.int (IntKind.u64) (0)), (AC.int (IntKind.u64) (0)), (AC.int (IntKind.u64) (0)), (AC.int (IntKind.i64) (0)), (AC.int (IntKind.i64) (0)), (AC.int (IntKind.u64) (0)), (AC.int (IntKind.i64) (0)), (AC.int (IntKind.u64) (0))]), (AE.c (AC.int (IntKind.i64) (10)))]) []))) (k (Res.mk (AV.tup [(AE.agg [(AC.int (IntKind.u64) (0)), (AC.int (IntKind.u64) (0)), (AC.int (IntKind.u64) (0)), (AC.int (IntKind.u64) (0)), (AC.int (IntKind.u64) (0)), (AC.int (IntKind.u64) (0)), (AC.int (IntKind.u64) (0)), (AC.int (IntKind.u64) (0)), (AC.int (IntKind.i64) (0)), (AC.int (IntKind.i64) (0)), (AC.int (IntKind.u64) (0)), (AC.int (IntKind.i64) (0)), (AC.int (IntKind.u64) (0))]), (AE.c (AC.int (IntKind.i64) (10)))]) []))) (k (Res.mk (AV.tup [(AE.agg [(AC.int (IntKind.u64) (0)), (AC.int (IntKind.u64) (0)), (AC.int (IntKind.u64) (0)), (AC.int (IntKind.u64) (0)), (AC.int (IntKind.u64) (0)), (AC.int (IntKind.u64) (0)), (AC.int (IntKind.u64) (0)), (AC.int (IntKind.u64) (0)), (AC.int (IntKind.i64) (0)), (AC.int (IntKind.i64) (0)), (AC.int (IntKind.u64) (0)), (AC.int (IntKind.i64) (0)), (AC.int (IntKind.u64) (0))]), (AE.c (AC.int (IntKind.i64) (10)))]) []))) (k (Res.mk (AV.tup [(AE.agg [(AC.int (IntKind.u64) (0)), (AC.int (IntKind.u64) (0)), (AC.int (IntKind.u64) (0)), (AC.int (IntKind.u64) (0)), (AC.int (IntKind.u64) (0)), (AC.int (IntKind.u64) (0)), (AC.int (IntKind.u64) (0)), (AC.int (IntKind.u64) (0)), (AC.int (IntKind.i64) (0)), (AC.int (IntKind.i64) (0)), (AC.int (IntKind.u64) (0)), (AC.int (IntKind.i64) (0)), (AC.int (IntKind.u64) (0))]), (AE.c (AC.int (IntKind.i64) (10)))]) []))) := by kernel_rfl
theorem t_runB_4 (a b m r0 r1 r2 r3 r4 r5 r6 r7 pc : Int) (k : Res → Option Res) : runG Try.prog sR 100 17 [.e (.agg [.int .i64 4, .int .i64 a, .int .i64 b, .int .i64 m]), .e (.agg [.int .u64 r0, .int .u64 r1, .int .u64 r2, .int .u64 r3, .int .u64 r4, .int .u64 r5, .int .u64 r6, .int .u64 r7]), aint .i64 pc] [] k = (cond (decide (a ≥ 0)) (cond (decide (a ≤ 7)) (cond (decide (b ≥ 0)) (cond (decide (b ≤ 7)) (cond (decide (m ≥ 0)) (cond (!decide (m ≤ 4095)) (k (Res.mk (AV.tup [(AE.agg [(AC.int (IntKind.u64) (0)), (AC.int (IntKind.u64) (0)), (AC.int (IntKind.u64) (0)), (AC.int (IntKind.u64) (0)), (AC.int (IntKind.u64) (0)), (AC.int (IntKind.u64) (0)), (AC.int (IntKind.u64) (0)), (AC.int (IntKind.u64) (0)), (AC.int (IntKind.i64) (0)), (AC.int (IntKind.i64) (0)), (AC.int (IntKind.u64) (0)), (AC.int (IntKind.i64) (0)), (AC.int (IntKind.u64) (0))]), (AE.c (AC.int (IntKind.i64) (10)))]) [])) (cond (decide (pc < 0)) (k (Res.mk (AV.tup [(AE.agg [(AC.int (IntKind.u64) (0)), (AC.int (IntKind.u64) (0)), (AC.int (IntKind.u64) (0)), (AC.int (IntKind.u64) (0)), (AC.int (IntKind.u64) (0)), (AC.int (IntKind.u64) (0)), (AC.int (IntKind.u64) (0)), (AC.int (IntKind.u64) (0)), (AC.int (IntKind.i64) (0)), (AC.int (IntKind.i64) (0)), (AC.int (IntKind.u64) (0)), (AC.int (IntKind.i64) (0)), (AC.int (IntKind.u64) (0))]), (AE.c (AC.int (IntKind.i64) (1)))]) [])) (cond (decide (pc > 4095)) (k (Res.mk (AV.tup [(AE.agg [(AC.int (IntKind.u64) (0)), (AC.int (IntKind.u64) (0)), (AC.int (IntKind.u64) (0)), (AC.int (IntKind.u64) (0)), (AC.int (IntKind.u64) (0)), (AC.int (IntKind.u64) (0)), (AC.int (IntKind.u64) (0)), (AC.int (IntKind.u64) (0)), (AC.int (IntKind.i64) (0)), (AC.int (IntKind.i64) (0)), (AC.int (IntKind.u64) (0)), (AC.int (IntKind.i64) (0)), (AC.int (IntKind.u64) (0))]), (AE.c (AC.int (IntKind.i64) (1)))]) [])) (cond (decide (0 ≤ a) && decide (a < 8)) (cond (decide (Int.toNat a < List.length [r0, r1, r2, r3, r4, r5, r6, r7])) (cond (decide (0 ≤ b) && decide (b < 8)) (cond (decide (Int.toNat b < List.length [r0, r1, r2, r3, r4, r5, r6, r7])) (cond (decide (0 ≤ a) && decide (a < 8)) (cond (decide (Int.toNat a < List.length [r0, r1, r2, r3, r4, r5, r6, r7]) && true) (k (Res.mk (AV.tup [(AE.agg [(AC.int (IntKind.u64) (if Int.toNat a = 0 then IntKind.wrap IntKind.u64 (List.getD [r0, r1, r2, r3, r4, r5, r6, r7] (Int.toNat a) 0 - List.getD [r0, r1, r2, r3, r4, r5, r6, r7] (Int.toNat b) 0) else r0)), (AC.int (IntKind.u64) (if Int.toNat a = 1 then IntKind.wrap IntKind.u64 (List.getD [r0, r1, r2, r3, r4, r5, r6, r7] (Int.toNat a) 0 - List.getD [r0, r1, r2, r3, r4, r5, r6, r7] (Int.toNat b) 0) else r1)), (AC.int (IntKind.u64) (if Int.toNat a = 2 then IntKind.wrap IntKind.u64 (List.getD [r0, r1, r2, r3, r4, r5, r6, r7] (Int.toNat a) 0 - List.getD [r0, r1, r2, r3, r4, r5, r6, r7] (Int.toNat b) 0) else r2)), (AC.int (IntKind.u64) (if Int.toNat a = 3 then IntKind.wrap IntKind.u64 (List.getD [r0, r1, r2, r3, r4, r5, r6, r7] (Int.toNat a) 0 - List.getD [r0, r1, r2, r3, r4, r5, r6, r7] (Int.toNat b) 0) else r3)), (AC.int (IntKind.u64) (if Int.toNat a = 4 then IntKind.wrap IntKind.u64 (List.getD [r0, r1, r2, r3, r4, r5, r6, r7] (Int.toNat a) 0 - List.getD [r0, r1, r2, r3, r4, r5, r6, r7] (Int.toNat b) 0) else r4)), (AC.int (IntKind.u64) (if Int.toNat a = 5 then IntKind.wrap IntKind.u64 (List.getD [r0, r1, r2, r3, r4, r5, r6, r7] (Int.toNat a) 0 - List.getD [r0, r1, r2, r3, r4, r5, r6, r7] (Int.toNat b) 0) else r5)), (AC.int (IntKind.u64) (if Int.toNat a = 6 then IntKind.wrap IntKind.u64 (List.getD [r0, r1, r2, r3, r4, r5, r6, r7] (Int.toNat a) 0 - List.getD [r0, r1, r2, r3, r4, r5, r6, r7] (Int.toNat b) 0) else r6)), (AC.int (IntKind.u64) (if Int.toNat a = 7 then IntKind.wrap IntKind.u64 (List.getD [r0, r1, r2, r3, r4, r5, r6, r7] (Int.toNat a) 0 - List.getD [r0, r1, r2, r3, r4, r5, r6, r7] (Int.toNat b) 0) else r7)), (AC.int (IntKind.i64) (Int.tmod (IntKind.wrap IntKind.i64 (pc + 1)) 4096)), (AC.int (IntKind.i64) (0)), (AC.int (IntKind.u64) (0)), (AC.int (IntKind.i64) (0)), (AC.int (IntKind.u64) (0))]), (AE.c (AC.int (IntKind.i64) (0)))]) [])) none) none) none) none) none) none)))) (k (Res.mk (AV.tup [(AE.agg [(AC.int (IntKind.u64) (0)), (AC.int (IntKind.u64) (0)), (AC.int (IntKind.u64) (0)), (AC.int (IntKind.u64) (0)), (AC.int (IntKind.u64) (0)), (AC.int (IntKind.u64) (0)), (AC.int (IntKind.u64) (0)), (AC.int (IntKind.u64) (0)), (AC.int (IntKind.i64) (0)), (AC.int (IntKind.i64) (0)), (AC.int (IntKind.u64) (0)), (AC.int (IntKind.i64) (0)), (AC.int (IntKind.u64) (0))]), (AE.c (AC.int (IntKind.i64) (10)))]) []))) (k (Res.mk (AV.tup [(AE.agg [(AC.int (IntKind.u64) (0)), (AC.int (IntKind.u64) (0)), (AC.int (IntKind.u64) (0)), (AC.int (IntKind.u64) (0)), (AC.int (IntKind.u64) (0)), (AC.int (IntKind.u64) (0)), (AC.int (IntKind.u64) (0)), (AC.int (IntKind.u64) (0)), (AC.int (IntKind.i64) (0)), (AC.int (IntKind.i64) (0)), (AC.int (IntKind.u64) (0)), (AC.int (IntKind.i64) (0)), (AC.int (IntKind.u64) (0))]), (AE.c (AC.int (IntKind.i64) (10)))]) []))) (k (Res.mk (AV.tup [(AE.agg [(AC.int (IntKind.u64) (0)), (AC.int (IntKind.u64) (0)), (AC.int (IntKind.u64) (0)), (AC.int (IntKind.u64) (0)), (AC.int (IntKind.u64) (0)), (AC.int (IntKind.u64) (0)), (AC.int (IntKind.u64) (0)), (AC.int (IntKind.u64) (0)), (AC.int (IntKind.i64) (0)), (AC.int (IntKind.i64) (0)), (AC.int (IntKind.u64) (0)), (AC.int (IntKind.i64) (0)), (AC.int (IntKind.u64) (0))]), (AE.c (AC.int (IntKind.i64) (10)))]) []))) (k (Res.mk (AV.tup [(AE.agg [(AC.int (IntKind.u64) (0)), (AC.int (IntKind.u64) (0)), (AC.int (IntKind.u64) (0)), (AC.int (IntKind.u64) (0)), (AC.int (IntKind.u64) (0)), (AC.int (IntKind.u64) (0)), (AC.int (IntKind.u64) (0)), (AC.int (IntKind.u64) (0)), (AC.int (IntKind.i64) (0)), (AC.int (IntKind.i64) (0)), (AC.int (IntKind.u64) (0)), (AC.int (IntKind.i64) (0)), (AC.int (IntKind.u64) (0))]), (AE.c (AC.int (IntKind.i64) (10)))]) []))) (k (Res.mk (AV.tup [(AE.agg [(AC.int (IntKind.u64) (0)), (AC.int (IntKind.u64) (0)), (AC.int (IntKind.u64) (0)), (AC.int (IntKind.u64) (0)), (AC.int (IntKind.u64) (0)), (AC.int (IntKind.u64) (0)), (AC.int (IntKind.u64) (0)), (AC.int (IntKind.u64) (0)), (AC.int (IntKind.i64) (0)), (AC.int (IntKind.i64) (0)), (AC.int (IntKind.u64) (0)), (AC.int (IntKind.i64) (0)), (AC.int (IntKind.u64) (0))]), (AE.c (AC.int (IntKind.i64) (10)))]) []))) := by kernel_rfl
theorem t_runB_5 (a b m r0 r1 r2 r3 r4 r5 r6 r7 pc : Int) (k : Res → Option Res) : runG Try.prog sR 100 17 [.e (.agg [.int .i64 5, .int .i64 a, .int .i64 b, .int .i64 m]), .e (.agg [.int .u64 r0, .int .u64 r1, .int .u64 r2, .int .u64 r3, .int .u64 r4, .int .u64 r5, .int .u64 r6, .int .u64 r7]), aint .i64 pc] [] k = (cond (decide (a ≥ 0)) (cond (decide (a ≤ 7)) (cond (decide (b ≥ 0)) (cond (decide (b ≤ 7)) (cond (decide (m ≥ 0)) (cond (!decide (m ≤ 4095)) (k (Res.mk (AV.tup [(AE.agg [(AC.int (IntKind.u64) (0)), (AC.int (IntKind.u64) (0)), (AC.int (IntKind.u64) (0)), (AC.int (IntKind.u64) (0)), (AC.int (IntKind.u64) (0)), (AC.int (IntKind.u64) (0)), (AC.int (IntKind.u64) (0)), (AC.int (IntKind.u64) (0)), (AC.int (IntKind.i64) (0)), (AC.int (IntKind.i64) (0)), (AC.int (IntKind.u64) (0)), (AC.int (IntKind.i64) (0)), (AC.int (IntKind.u64) (0))]), (AE.c (AC.int (IntKind.i64) (10)))]) [])) (cond (decide (pc < 0)) (k (Res.mk (AV.tup [(AE.agg [(AC.int (IntKind.u64) (0)), (AC.int (IntKind.u64) (0)), (AC.int (IntKind.u64) (0)), (AC.int (IntKind.u64) (0)), (AC.int (IntKind.u64) (0)), (AC.int (IntKind.u64) (0)), (AC.int (IntKind.u64) (0)), (AC.int (IntKind.u64) (0)), (AC.int (IntKind.i64) (0)), (AC.int (IntKind.i64) (0)), (AC.int (IntKind.u64) (0)), (AC.int (IntKind.i64) (0)), (AC.int (IntKind.u64) (0))]), (AE.c (AC.int (IntKind.i64) (1)))]) [])) (cond (decide (pc > 4095)) (k (Res.mk (AV.tup [(AE.agg [(AC.int (IntKind.u64) (0)), (AC.int (IntKind.u64) (0)), (AC.int (IntKind.u64) (0)), (AC.int (IntKind.u64) (0)), (AC.int (IntKind.u64) (0)), (AC.int (IntKind.u64) (0)), (AC.int (IntKind.u64) (0)), (AC.int (IntKind.u64) (0)), (AC.int (IntKind.i64) (0)), (AC.int (IntKind.i64) (0)), (AC.int (IntKind.u64) (0)), (AC.int (IntKind.i64) (0)), (AC.int (IntKind.u64) (0))]), (AE.c (AC.int (IntKind.i64) (1)))]) [])) (cond (decide (0 ≤ a) && decide (a < 8)) (cond (decide (Int.toNat a < List.length [r0, r1, r2, r3, r4, r5, r6, r7])) (cond (decide (0 ≤ b) && decide (b < 8)) (cond (decide (Int.toNat b < List.length [r0, r1, r2, r3, r4, r5, r6, r7])) (cond (decide (0 ≤ a) && decide (a < 8)) (cond (decide (Int.toNat a < List.length [r0, r1, r2, r3, r4, r5, r6, r7]) && true) (k (Res.mk (AV.tup [(AE.agg [(AC.int (IntKind.u64) (if Int.toNat a = 0 then IntKind.wrap IntKind.u64 (List.getD [r0, r1, r2, r3, r4, r5, r6, r7] (Int.toNat a) 0 * List.getD [r0, r1, r2, r3, r4, r5, r6, r7] (Int.toNat b) 0) else r0)), (AC.int (IntKind.u64) (if Int.toNat a = 1 then IntKind.wrap IntKind.u64 (List.getD [r0, r1, r2, r3, r4, r5, r6, r7] (Int.toNat a) 0 * List.getD [r0, r1, r2, r3, r4, r5, r6, r7] (Int.toNat b) 0) else r1)), (AC.int (IntKind.u64) (if Int.toNat a = 2 then IntKind.wrap IntKind.u64 (List.getD [r0, r1, r2, r3, r4, r5, r6, r7] (Int.toNat a) 0 * List.getD [r0, r1, r2, r3, r4, r5, r6, r7] (Int.toNat b) 0) else r2)), (AC.int (IntKind.u64) (if Int.toNat a = 3 then IntKind.wrap IntKind.u64 (List.getD [r0, r1, r2, r3, r4, r5, r6, r7] (Int.toNat a) 0 * List.getD [r0, r1, r2, r3, r4, r5, r6, r7] (Int.toNat b) 0) else r3)), (AC.int (IntKind.u64) (if Int.toNat a = 4 then IntKind.wrap IntKind.u64 (List.getD [r0, r1, r2, r3, r4, r5, r6, r7] (Int.toNat a) 0 * List.getD [r0, r1, r2, r3, r4, r5, r6, r7] (Int.toNat b) 0) else r4)), (AC.int (IntKind.u64) (if Int.toNat a = 5 then IntKind.wrap IntKind.u64 (List.getD [r0, r1, r2, r3, r4, r5, r6, r7] (Int.toNat a) 0 * List.getD [r0, r1, r2, r3, r4, r5, r6, r7] (Int.toNat b) 0) else r5)), (AC.int (IntKind.u64) (if Int.toNat a = 6 then IntKind.wrap IntKind.u64 (List.getD [r0, r1, r2, r3, r4, r5, r6, r7] (Int.toNat a) 0 * List.getD [r0, r1, r2, r3, r4, r5, r6, r7] (Int.toNat b) 0) else r6)), (AC.int (IntKind.u64) (if Int.toNat a = 7 then IntKind.wrap IntKind.u64 (List.getD [r0, r1, r2, r3, r4, r5, r6, r7] (Int.toNat a) 0 * List.getD [r0, r1, r2, r3, r4, r5, r6, r7] (Int.toNat b) 0) else r7)), (AC.int (IntKind.i64) (Int.tmod (IntKind.wrap IntKind.i64 (pc + 1)) 4096)), (AC.int (IntKind.i64) (0)), (AC.int (IntKind.u64) (0)), (AC.int (IntKind.i64) (0)), (AC.int (IntKind.u64) (0))]), (AE.c (AC.int (IntKind.i64) (0)))]) [])) none) none) none) none) none) none)))) (k (Res.mk (AV.tup [(AE.agg [(AC.int (IntKind.u64) (0)), (AC.int (IntKind.u64) (0)), (AC.int (IntKind.u64) (0)), (AC.int (IntKind.u64) (0)), (AC.int (IntKind.u64) (0)), (AC.int (IntKind.u64) (0)), (AC.int (IntKind.u64) (0)), (AC.int (IntKind.u64) (0)), (AC.int (IntKind.i64) (0)), (AC.int (IntKind.i64) (0)), (AC.int (IntKind.u64) (0)), (AC.int (IntKind.i64) (0)), (AC.int (IntKind.u64) (0))]), (AE.c (AC.int (IntKind.i64) (10)))]) []))) (k (Res.mk (AV.tup [(AE.agg [(AC.int (IntKind.u64) (0)), (AC.int (IntKind.u64) (0)), (AC.int (IntKind.u64) (0)), (AC.int (IntKind.u64) (0)), (AC.int (IntKind.u64) (0)), (AC.int (IntKind.u64) (0)), (AC.int (IntKind.u64) (0)), (AC.int (IntKind.u64) (0)), (AC.int (IntKind.i64) (0)), (AC.int (IntKind.i64) (0)), (AC.int (IntKind.u64) (0)), (AC.int (IntKind.i64) (0)), (AC.int (IntKind.u64) (0))]), (AE.c (AC.int (IntKind.i64) (10)))]) []))) (k (Res.mk (AV.tup [(AE.agg [(AC.int (IntKind.u64) (0)), (AC.int (IntKind.u64) (0)), (AC.int (IntKind.u64) (0)), (AC.int (IntKind.u64) (0)), (AC.int (IntKind.u64) (0)), (AC.int (IntKind.u64) (0)), (AC.int (IntKind.u64) (0)), (AC.int (IntKind.u64) (0)), (AC.int (IntKind.i64) (0)), (AC.int (IntKind.i64) (0)), (AC.int (IntKind.u64) (0)), (AC.int (IntKind.i64) (0)), (AC.int (IntKind.u64) (0))]), (AE.c (AC.int (IntKind.i64) (10)))]) []))) (k (Res.mk (AV.tup [(AE.agg [(AC.int (IntKind.u64) (0)), (AC.int (IntKind.u64) (0)), (AC.int (IntKind.u64) (0)), (AC.int (IntKind.u64) (0)), (AC.int (IntKind.u64) (0)), (AC.int (IntKind.u64) (0)), (AC.int (IntKind.u64) (0)), (AC.int (IntKind.u64) (0)), (AC.int (IntKind.i64) (0)), (AC.int (IntKind.i64) (0)), (AC.int (IntKind.u64) (0)), (AC.int (IntKind.i64) (0)), (AC.int (IntKind.u64) (0))]), (AE.c (AC.int (IntKind.i64) (10)))]) []))) (k (Res.mk (AV.tup [(AE.agg [(AC.int (IntKind.u64) (0)), (AC.int (IntKind.u64) (0)), (AC.int (IntKind.u64) (0)), (AC.int (IntKind.u64) (0)), (AC.int (IntKind.u64) (0)), (AC.int (IntKind.u64) (0)), (AC.int (IntKind.u64) (0)), (AC.int (IntKind.u64) (0)), (AC.int (IntKind.i64) (0)), (AC.int (IntKind.i64) (0)), (AC.int (IntKind.u64) (0)), (AC.int (IntKind.i64) (0)), (AC.int (IntKind.u64) (0))]), (AE.c (AC.int (IntKind.i64) (10)))]) []))) := by kernel_rfl
theorem t_runB_6 (a b m r0 r1 r2 r3 r4 r5 r6 r7 pc : Int) (k : Res → Option Res) : runG Try.prog sR 100 17 [.e (.agg [.int .i64 6, .int .i64 a, .int .i64 b, .int .i64 m]), .e (.agg [.int .u64 r0, .int .u64 r1, .int .u64 r2, .int .u64 r3, .int .u64 r4, .int .u64 r5, .int .u64 r6, .int .u64 r7]), aint .i64 pc] [] k = (cond (decide (a ≥ 0)) (cond (decide (a ≤ 7)) (cond (decide (b ≥ 0)) (cond (decide (b ≤ 7)) (cond (decide (m ≥ 0)) (cond (!decide (m ≤ 4095)) (k (Res.mk (AV.tup [(AE.agg [(AC.int (IntKind.u64) (0)), (AC.int (IntKind.u64) (0)), (AC.int (IntKind.u64) (0)), (AC.int (IntKind.u64) (0)), (AC.int (IntKind.u64) (0)), (AC.int (IntKind.u64) (0)), (AC.int (IntKind.u64) (0)), (AC.int (IntKind.u64) (0)), (AC.int (IntKind.i64) (0)), (AC.int (IntKind.i64) (0)), (AC.int (IntKind.u64) (0)), (AC.int (IntKind.i64) (0)), (AC.int (IntKind.u64) (0))]), (AE.c (AC.int (IntKind.i64) (10)))]) [])) (cond (decide (pc < 0)) (k (Res.mk (AV.tup [(AE.agg [(AC.int (IntKind.u64) (0)), (AC.int (IntKind.u64) (0)), (AC.int (IntKind.u64) (0)), (AC.int (IntKind.u64) (0)), (AC.int (IntKind.u64) (0)), (AC.int (IntKind.u64) (0)), (AC.int (IntKind.u64) (0)), (AC.int (IntKind.u64) (0)), (AC.int (IntKind.i64) (0)), (AC.int (IntKind.i64) (0)), (AC.int (IntKind.u64) (0)), (AC.int (IntKind.i64) (0)), (AC.int (IntKind.u64) (0))]), (AE.c (AC.int (IntKind.i64) (1)))]) [])) (cond (decide (pc > 4095)) (k (Res.mk (AV.tup [(AE.agg [(AC.int (IntKind.u64) (0)), (AC.int (IntKind.u64) (0)), (AC.int (IntKind.u64) (0)), (AC.int (IntKind.u64) (0)), (AC.int (IntKind.u64) (0)), (AC.int (IntKind.u64) (0)), (AC.int (IntKind.u64) (0)), (AC.int (IntKind.u64) (0)), (AC.int (IntKind.i64) (0)), (AC.int (IntKind.i64) (0)), (AC.int (IntKind.u64) (0)), (AC.int (IntKind.i64) (0)), (AC.int (IntKind.u64) (0))]), (AE.c (AC.int (IntKind.i64) (1)))]) [])) (cond (decide (0 ≤ a) && decide (a < 8)) (cond (decide (Int.toNat a < List.length [r0, r1, r2, r3, r4, r5, r6, r7])) (cond (decide (0 ≤ b) && decide (b < 8)) (cond (decide (Int.toNat b < List.length [r0, r1, r2, r3, r4, r5, r6, r7])) (cond (decide (0 ≤ a) && decide (a < 8)) (cond (decide (Int.toNat a < List.length [r0, r1, r2, r3, r4, r5, r6, r7]) && true) (k (Res.mk (AV.tup [(AE.agg [(AC.int (IntKind.u64) (if Int.toNat a = 0 then IntKind.wrap IntKind.u64 (↑(BitVec.toNat (BitVec.ofInt 64 (List.getD [r0, r1, r2, r3, r4, r5, r6, r7] (Int.toNat a) 0) &&& BitVec.ofInt 64 (List.getD [r0, r1, r2, r3, r4, r5, r6, r7] (Int.toNat b) 0))) : Int) else r0)), (AC.int (IntKind.u64) (if Int.toNat a = 1 then IntKind.wrap IntKind.u64 (↑(BitVec.toNat (BitVec.ofInt 64 (List.getD [r0, r1, r2, r3, r4, r5, r6, r7] (Int.toNat a) 0) &&& BitVec.ofInt 64 (List.getD [r0, r1, r2, r3, r4, r5, r6, r7] (Int.toNat b) 0))) : Int) else r1)), (AC.int (IntKind.u64) (if Int.toNat a = 2 then IntKind.wrap IntKind.u64 (↑(BitVec.toNat (BitVec.ofInt 64 (List.getD [r0, r1, r2, r3, r4, r5, r6, r7] (Int.toNat a) 0) &&& BitVec.ofInt 64 (List.getD [r0, r1, r2, r3, r4, r5, r6, r7] (Int.toNat b) 0))) : Int) else r2)), (AC.int (IntKind.u64) (if Int.toNat a = 3 then IntKind.wrap IntKind.u64 (↑(BitVec.toNat (BitVec.ofInt 64 (List.getD [r0, r1, r2, r3, r4, r5, r6, r7] (Int.toNat a) 0) &&& BitVec.ofInt 64 (List.getD [r0, r1, r2, r3, r4, r5, r6, r7] (Int.toNat b) 0))) : Int) else r3)), (AC.int (IntKind.u64) (if Int.toNat a = 4 then IntKind.wrap IntKind.u64 (↑(BitVec.toNat (BitVec.ofInt 64 (List.getD [r0, r1, r2, r3, r4, r5, r6, r7] (Int.toNat a) 0) &&& BitVec.ofInt 64 (List.getD [r0, r1, r2, r3, r4, r5, r6, r7] (Int.toNat b) 0))) : Int) else r4)), (AC.int (IntKind.u64) (if Int.toNat a = 5 then IntKind.wrap IntKind.u64 (↑(BitVec.toNat (BitVec.ofInt 64 (List.getD [r0, r1, r2, r3, r4, r5, r6, r7] (Int.toNat a) 0) &&& BitVec.ofInt 64 (List.getD [r0, r1, r2, r3, r4, r5, r6, r7] (Int.toNat b) 0))) : Int) else r5)), (AC.int (IntKind.u64) (if Int.toNat a = 6 then IntKind.wrap IntKind.u64 (↑(BitVec.toNat (BitVec.ofInt 64 (List.getD [r0, r1, r2, r3, r4, r5, r6, r7] (Int.toNat a) 0) &&& BitVec.ofInt 64 (List.getD [r0, r1, r2, r3, r4, r5, r6, r7] (Int.toNat b) 0))) : Int) else r6)), (AC.int (IntKind.u64) (if Int.toNat a = 7 then IntKind.wrap IntKind.u64 (↑(BitVec.toNat (BitVec.ofInt 64 (List.getD [r0, r1, r2, r3, r4, r5, r6, r7] (Int.toNat a) 0) &&& BitVec.ofInt 64 (List.getD [r0, r1, r2, r3, r4, r5, r6, r7] (Int.toNat b) 0))) : Int) else r7)), (AC.int (IntKind.i64) (Int.tmod (IntKind.wrap IntKind.i64 (pc + 1)) 4096)), (AC.int (IntKind.i64) (0)), (AC.int (IntKind.u64) (0)), (AC.int (IntKind.i64) (0)), (AC.int (IntKind.u64) (0))]), (AE.c (AC.int (IntKind.i64) (0)))]) [])) none) none) none) none) none) none)))) (k (Res.mk (AV.tup [(AE.agg [(AC.int (IntKind.u64) (0)), (AC.int (IntKind.u64) (0)), (AC.int (IntKind.u64) (0)), (AC.int (IntKind.u64) (0)), (AC.int (IntKind.u64) (0)), (AC.int (IntKind.u64) (0)), (AC.int (IntKind.u64) (0)), (AC.int (IntKind.u64) (0)), (AC.int (IntKind.i64) (0)), (AC.int (IntKind.i64) (0)), (AC.int (IntKind.u64) (0)), (AC.int (IntKind.i64) (0)), (AC.int (IntKind.u64) (0))]), (AE.c (AC.int (IntKind.i64) (10)))]) []))) (k (Res.mk (AV.tup [(AE.agg [(AC.int (IntKind.u64) (0)), (AC.int (IntKind.u64) (0)), (AC.int (IntKind.u64) (0)), (AC.int (IntKind.u64) (0)), (AC.int (IntKind.u64) (0)), (AC.int (IntKind.u64) (0)), (AC.int (IntKind.u64) (0)), (AC.int (IntKind.u64) (0)), (AC.int (IntKind.i64) (0)), (AC.int (IntKind.i64) (0)), (AC.int (IntKind.u64) (0)), (AC.int (IntKind.i64) (0)), (AC.int (IntKind.u64) (0))]), (AE.c (AC.int (IntKind.i64) (10)))]) []))) (k (Res.mk (AV.tup [(AE.agg [(AC.int (IntKind.u64) (0)), (AC.int (IntKind.u64) (0)), (AC.int (IntKind.u64) (0)), (AC.int (IntKind.u64) (0)), (AC.int (IntKind.u64) (0)), (AC.int (IntKind.u64) (0)), (AC.int (IntKind.u64) (0)), (AC.int (IntKind.u64) (0)), (AC.int (IntKind.i64) (0)), (AC.int (IntKind.i64) (0)), (AC.int (IntKind.u64) (0)), (AC.int (IntKind.i64) (0)), (AC.int (IntKind.u64) (0))]), (AE.c (AC.int (IntKind.i64) (10)))]) []))) (k (Res.mk (AV.tup [(AE.agg [(AC.int (IntKind.u64) (0)), (AC.int (IntKind.u64) (0)), (AC.int (IntKind.u64) (0)), (AC.int (IntKind.u64) (0)), (AC.int (IntKind.u64) (0)), (AC.int (IntKind.u64) (0)), (AC.int (IntKind.u64) (0)), (AC.int (IntKind.u64) (0)), (AC.int (IntKind.i64) (0)), (AC.int (IntKind.i64) (0)), (AC.int (IntKind.u64) (0)), (AC.int (IntKind.i64) (0)), (AC.int (IntKind.u64) (0))]), (AE.c (AC.int (IntKind.i64) (10)))]) []))) (k (Res.mk (AV.tup [(AE.agg [(AC.int (IntKind.u64) (0)), (AC.int (IntKind.u64) (0)), (AC.int (IntKind.u64) (0)), (AC.int (IntKind.u64) (0)), (AC.int (IntKind.u64) (0)), (AC.int (IntKind.u64) (0)), (AC.int (IntKind.u64) (0)), (AC.int (IntKind.u64) (0)), (AC.int (IntKind.i64) (0)), (AC.int (IntKind.i64) (0)), (AC.int (IntKind.u64) (0)), (AC.int (IntKind.i64) (0)), (AC.int (IntKind.u64) (0))]), (AE.c (AC.int (IntKind.i64) (10)))]) []))) := by kernel_rfl
theorem t_runB_7 (a b m r0 r1 r2 r3 r4 r5 r6 r7 pc : Int) (k : Res → Option Res) : runG Try.prog sR 100 17 [.e (.agg [.int .i64 7, .int .i64 a, .int .i64 b, .int .i64 m]), .e (.agg [.int .u64 r0, .int .u64 r1, .int .u64 r2, .int .u64 r3, .int .u64 r4, .int .u64 r5, .int .u64 r6, .int .u64 r7]), aint .i64 pc] [] k = (cond (decide (a ≥ 0)) (cond (decide (a ≤ 7)) (cond (decide (b ≥ 0)) (cond (decide (b ≤ 7)) (cond (decide (m ≥ 0)) (cond (!decide (m ≤ 4095)) (k (Res.mk (AV.tup [(AE.agg [(AC.int (IntKind.u64) (0)), (AC.int (IntKind.u64) (0)), (AC.int (IntKind.u64) (0)), (AC.int (IntKind.u64) (0)), (AC.int (IntKind.u64) (0)), (AC.int (IntKind.u64) (0)), (AC.int (IntKind.u64) (0)), (AC.int (IntKind.u64) (0)), (AC.int (IntKind.i64) (0)), (AC.int (IntKind.i64) (0)), (AC.int (IntKind.u64) (0)), (AC.int (IntKind.i64) (0)), (AC.int (IntKind.u64) (0))]), (AE.c (AC.int (IntKind.i64) (10)))]) [])) (cond (decide (pc < 0)) (k (Res.mk (AV.tup [(AE.agg [(AC.int (IntKind.u64) (0)), (AC.int (IntKind.u64) (0)), (AC.int (IntKind.u64) (0)), (AC.int (IntKind.u64) (0)), (AC.int (IntKind.u64) (0)), (AC.int (IntKind.u64) (0)), (AC.int (IntKind.u64) (0)), (AC.int (IntKind.u64) (0)), (AC.int (IntKind.i64) (0)), (AC.int (IntKind.i64) (0)), (AC.int (IntKind.u64) (0)), (AC.int (IntKind.i64) (0)), (AC.int (IntKind.u64) (0))]), (AE.c (AC.int (IntKind.i64) (1)))]) [])) (cond (decide (pc > 4095)) (k (Res.mk (AV.tup [(AE.agg [(AC.int (IntKind.u64) (0)), (AC.int (IntKind.u64) (0)), (AC.int (IntKind.u64) (0)), (AC.int (IntKind.u64) (0)), (AC.int (IntKind.u64) (0)), (AC.int (IntKind.u64) (0)), (AC.int (IntKind.u64) (0)), (AC.int (IntKind.u64) (0)), (AC.int (IntKind.i64) (0)), (AC.int (IntKind.i64) (0)), (AC.int (IntKind.u64) (0)), (AC.int (IntKind.i64) (0)), (AC.int (IntKind.u64) (0))]), (AE.c (AC.int (IntKind.i64) (1)))]) [])) (cond (decide (0 ≤ a) && decide (a < 8)) (cond (decide (Int.toNat a < List.length [r0, r1, r2, r3, r4, r5, r6, r7])) (cond (decide (0 ≤ b) && decide (b < 8)) (cond (decide (Int.toNat b < List.length [r0, r1, r2, r3, r4, r5, r6, r7])) (cond (decide (0 ≤ a) && decide (a < 8)) (cond (decide (Int.toNat a < List.length [r0, r1, r2, r3, r4, r5, r6, r7]) && true) (k (Res.mk (AV.tup [(AE.agg [(AC.int (IntKind.u64) (if Int.toNat a = 0 then IntKind.wrap IntKind.u64 (↑(BitVec.toNat (BitVec.ofInt 64 (List.getD [r0, r1, r2, r3, r4, r5, r6, r7] (Int.toNat a) 0) ||| BitVec.ofInt 64 (List.getD [r0, r1, r2, r3, r4, r5, r6, r7] (Int.toNat b) 0))) : Int) else r0)), (AC.int (IntKind.u64) (if Int.toNat a = 1 then IntKind.wrap IntKind.u64 (↑(BitVec.toNat (BitVec.ofInt 64 (List.getD [r0, r1, r2, r3, r4, r5, r6, r7] (Int.toNat a) 0) ||| BitVec.ofInt 64 (List.getD [r0, r1, r2, r3, r4, r5, r6, r7] (Int.toNat b) 0))) : Int) else r1)), (AC.int (IntKind.u64) (if Int.toNat a = 2 then IntKind.wrap IntKind.u64 (↑(BitVec.toNat (BitVec.ofInt 64 (List.getD [r0, r1, r2, r3, r4, r5, r6, r7] (Int.toNat a) 0) ||| BitVec.ofInt 64 (List.getD [r0, r1, r2, r3, r4, r5, r6, r7] (Int.toNat b) 0))) : Int) else r2)), (AC.int (IntKind.u64) (if Int.toNat a = 3 then IntKind.wrap IntKind.u64 (↑(BitVec.toNat (BitVec.ofInt 64 (List.getD [r0, r1, r2, r3, r4, r5, r6, r7] (Int.toNat a) 0) ||| BitVec.ofInt 64 (List.getD [r0, r1, r2, r3, r4, r5, r6, r7] (Int.toNat b) 0))) : Int) else r3)), (AC.int (IntKind.u64) (if Int.toNat a = 4 then IntKind.wrap IntKind.u64 (↑(BitVec.toNat (BitVec.ofInt 64 (List.getD [r0, r1, r2, r3, r4, r5, r6, r7] (Int.toNat a) 0) ||| BitVec.ofInt 64 (List.getD [r0, r1, r2, r3, r4, r5, r6, r7] (Int.toNat b) 0))) : Int) else r4)), (AC.int (IntKind.u64) (if Int.toNat a = 5 then IntKind.wrap IntKind.u64 (↑(BitVec.toNat (BitVec.ofInt 64 (List.getD [r0, r1, r2, r3, r4, r5, r6, r7] (Int.toNat a) 0) ||| BitVec.ofInt 64 (List.getD [r0, r1, r2, r3, r4, r5, r6, r7] (Int.toNat b) 0))) : Int) else r5)), (AC.int (IntKind.u64) (if Int.toNat a = 6 then IntKind.wrap IntKind.u64 (↑(BitVec.toNat (BitVec.ofInt 64 (List.getD [r0, r1, r2, r3, r4, r5, r6, r7] (Int.toNat a) 0) ||| BitVec.ofInt 64 (List.getD [r0, r1, r2, r3, r4, r5, r6, r7] (Int.toNat b) 0))) : Int) else r6)), (AC.int (IntKind.u64) (if Int.toNat a = 7 then IntKind.wrap IntKind.u64 (↑(BitVec.toNat (BitVec.ofInt 64 (List.getD [r0, r1, r2, r3, r4, r5, r6, r7] (Int.toNat a) 0) ||| BitVec.ofInt 64 (List.getD [r0, r1, r2, r3, r4, r5, r6, r7] (Int.toNat b) 0))) : Int) else r7)), (AC.int (IntKind.i64) (Int.tmod (IntKind.wrap IntKind.i64 (pc + 1)) 4096)), (AC.int (IntKind.i64) (0)), (AC.int (IntKind.u64) (0)), (AC.int (IntKind.i64) (0)), (AC.int (IntKind.u64) (0))]), (AE.c (AC.int (IntKind.i64) (0)))]) [])) none) none) none) none) none) none)))) (k (Res.mk (AV.tup [(AE.agg [(AC.int (IntKind.u64) (0)), (AC.int (IntKind.u64) (0)), (AC.int (IntKind.u64) (0)), (AC.int (IntKind.u64) (0)), (AC.int (IntKind.u64) (0)), (AC.int (IntKind.u64) (0)), (AC.int (IntKind.u64) (0)), (AC.int (IntKind.u64) (0)), (AC.int (IntKind.i64) (0)), (AC.int (IntKind.i64) (0)), (AC.int (IntKind.u64) (0)), (AC.int (IntKind.i64) (0)), (AC.int (IntKind.u64) (0))]), (AE.c (AC.int (IntKind.i64) (10)))]) []))) (k (Res.mk (AV.tup [(AE.agg [(AC.int (IntKind.u64) (0)), (AC.int (IntKind.u64) (0)), (AC.int (IntKind.u64) (0)), (AC.int (IntKind.u64) (0)), (AC.int (IntKind.u64) (0)), (AC.int (IntKind.u64) (0)), (AC.int (IntKind.u64) (0)), (AC.int (IntKind.u64) (0)), (AC.int (IntKind.i64) (0)), (AC.int (IntKind.i64) (0)), (AC.int (IntKind.u64) (0)), (AC.int (IntKind.i64) (0)), (AC.int (IntKind.u64) (0))]), (AE.c (AC.int (IntKind.i64) (10)))]) []))) (k (Res.mk (AV.tup [(AE.agg [(AC.int (IntKind.u64) (0)), (AC.int (IntKind.u64) (0)), (AC.int (IntKind.u64) (0)), (AC.int (IntKind.u64) (0)), (AC.int (IntKind.u64) (0)), (AC.int (IntKind.u64) (0)), (AC.int (IntKind.u64) (0)), (AC.int (IntKind.u64) (0)), (AC.int (IntKind.i64) (0)), (AC.int (IntKind.i64) (0)), (AC.int (IntKind.u64) (0)), (AC.int (IntKind.i64) (0)), (AC.int (IntKind.u64) (0))]), (AE.c (AC.int (IntKind.i64) (10)))]) []))) (k (Res.mk (AV.tup [(AE.agg [(AC.int (IntKind.u64) (0)), (AC.int (IntKind.u64) (0)), (AC.int (IntKind.u64) (0)), (AC.int (IntKind.u64) (0)), (AC.int (IntKind.u64) (0)), (AC.int (IntKind.u64) (0)), (AC.int (IntKind.u64) (0)), (AC.int (IntKind.u64) (0)), (AC.int (IntKind.i64) (0)), (AC.int (IntKind.i64) (0)), (AC.int (IntKind.u64) (0)), (AC.int (IntKind.i64) (0)), (AC.int (IntKind.u64) (0))]), (AE.c (AC.int (IntKind.i64) (10)))]) []))) (k (Res.mk (AV.tup [(AE.agg [(AC.int (IntKind.u64) (0)), (AC.int (IntKind.u64) (0)), (AC.int (IntKind.u64) (0)), (AC.int (IntKind.u64) (0)), (AC.int (IntKind.u64) (0)), (AC.int (IntKind.u64) (0)), (AC.int (IntKind.u64) (0)), (AC.int (IntKind.u64) (0)), (AC.int (IntKind.i64) (0)), (AC.int (IntKind.i64) (0)), (AC.int (IntKind.u64) (0)), (AC.int (IntKind.i64) (0)), (AC.int (IntKind.u64) (0))]), (AE.c (AC.int (IntKind.i64) (10)))]) []))) := by kernel_rfl
theorem t_runB_8 (a b m r0 r1 r2 r3 r4 r5 r6 r7 pc : Int) (k : Res → Option Res) : runG Try.prog sR 100 17 [.e (.agg [.int .i64 8, .int .i64 a, .int .i64 b, .int .i64 m]), .e (.agg [.int .u64 r0, .int .u64 r1, .int .u64 r2, .int .u64 r3, .int .u64 r4, .int .u64 r5, .int .u64 r6, .int .u64 r7]), aint .i64 pc] [] k = (cond (decide (a ≥ 0)) (cond (decide (a ≤ 7)) (cond (decide (b ≥ 0)) (cond (decide (b ≤ 7)) (cond (decide (m ≥ 0)) (cond (!decide (m ≤ 4095)) (k (Res.mk (AV.tup [(AE.agg [(AC.int (IntKind.u64) (0)), (AC.int (IntKind.u64) (0)), (AC.int (IntKind.u64) (0)), (AC.int (IntKind.u64) (0)), (AC.int (IntKind.u64) (0)), (AC.int (IntKind.u64) (0)), (AC.int (IntKind.u64) (0)), (AC.int (IntKind.u64) (0)), (AC.int (IntKind.i64) (0)), (AC.int (IntKind.i64) (0)), (AC.int (IntKind.u64) (0)), (AC.int (IntKind.i64) (0)), (AC.int (IntKind.u64) (0))]), (AE.c (AC.int (IntKind.i64) (10)))]) [])) (cond (decide (pc < 0)) (k (Res.mk (AV.tup [(AE.agg [(AC.int (IntKind.u64) (0)), (AC.int (IntKind.u64) (0)), (AC.int (IntKind.u64) (0)), (AC.int (IntKind.u64) (0)), (AC.int (IntKind.u64) (0)), (AC.int (IntKind.u64) (0)), (AC.int (IntKind.u64) (0)), (AC.int (IntKind.u64) (0)), (AC.int (IntKind.i64) (0)), (AC.int (IntKind.i64) (0)), (AC.int (IntKind.u64) (0)), (AC.int (IntKind.i64) (0)), (AC.int (IntKind.u64) (0))]), (AE.c (AC.int (IntKind.i64) (1)))]) [])) (cond (decide (pc > 4095)) (k (Res.mk (AV.tup [(AE.agg [(AC.int (IntKind.u64) (0)), (AC.int (IntKind.u64) (0)), (AC.int (IntKind.u64) (0)), (AC.int (IntKind.u64) (0)), (AC.int (IntKind.u64) (0)), (AC.int (IntKind.u64) (0)), (AC.int (IntKind.u64) (0)), (AC.int (IntKind.u64) (0)), (AC.int (IntKind.i64) (0)), (AC.int (IntKind.i64) (0)), (AC.int (IntKind.u64) (0)), (AC.int (IntKind.i64) (0)), (AC.int (IntKind.u64) (0))]), (AE.c (AC.int (IntKind.i64) (1)))]) [])) (cond (decide (0 ≤ a) && decide (a < 8)) (cond (decide (Int.toNat a < List.length [r0, r1, r2, r3, r4, r5, r6, r7])) (cond (decide (0 ≤ b) && decide (b < 8)) (cond (decide (Int.toNat b < List.length [r0, r1, r2, r3, r4, r5, r6, r7])) (cond (decide (0 ≤ a) && decide (a < 8)) (cond (decide (Int.toNat a < List.length [r0, r1, r2, r3, r4, r5, r6, r7]) && true) (k (Res.mk (AV.tup [(AE.agg [(AC.int (IntKind.u64) (if Int.toNat a = 0 then IntKind.wrap IntKind.u64 (↑(BitVec.toNat (BitVec.ofInt 64 (List.getD [r0, r1, r2, r3, r4, r5, r6, r7] (Int.toNat a) 0) ^^^ BitVec.ofInt 64 (List.getD [r0, r1, r2, r3, r4, r5, r6, r7] (Int.toNat b) 0))) : Int) else r0)), (AC.int (IntKind.u64) (if Int.toNat a = 1 then IntKind.wrap IntKind.u64 (↑(BitVec.toNat (BitVec.ofInt 64 (List.getD [r0, r1, r2, r3, r4, r5, r6, r7] (Int.toNat a) 0) ^^^ BitVec.ofInt 64 (List.getD [r0, r1, r2, r3, r4, r5, r6, r7] (Int.toNat b) 0))) : Int) else r1)), (AC.int (IntKind.u64) (if Int.toNat a = 2 then IntKind.wrap IntKind.u64 (↑(BitVec.toNat (BitVec.ofInt 64 (List.getD [r0, r1, r2, r3, r4, r5, r6, r7] (Int.toNat a) 0) ^^^ BitVec.ofInt 64 (List.getD [r0, r1, r2, r3, r4, r5, r6, r7] (Int.toNat b) 0))) : Int) else r2)), (AC.int (IntKind.u64) (if Int.toNat a = 3 then IntKind.wrap IntKind.u64 (↑(BitVec.toNat (BitVec.ofInt 64 (List.getD [r0, r1, r2, r3, r4, r5, r6, r7] (Int.toNat a) 0) ^^^ BitVec.ofInt 64 (List.getD [r0, r1, r2, r3, r4, r5, r6, r7] (Int.toNat b) 0))) : Int) else r3)), (AC.int (IntKind.u64) (if Int.toNat a = 4 then IntKind.wrap IntKind.u64 (↑(BitVec.toNat (BitVec.ofInt 64 (List.getD [r0, r1, r2, r3, r4, r5, r6, r7] (Int.toNat a) 0) ^^^ BitVec.ofInt 64 (List.getD [r0, r1, r2, r3, r4, r5, r6, r7] (Int.toNat b) 0))) : Int) else r4)), (AC.int (IntKind.u64) (if Int.toNat a = 5 then IntKind.wrap IntKind.u64 (↑(BitVec.toNat (BitVec.ofInt 64 (List.getD [r0, r1, r2, r3, r4, r5, r6, r7] (Int.toNat a) 0) ^^^ BitVec.ofInt 64 (List.getD [r0, r1, r2, r3, r4, r5, r6, r7] (Int.toNat b) 0))) : Int) else r5)), (AC.int (IntKind.u64) (if Int.toNat a = 6 then IntKind.wrap IntKind.u64 (↑(BitVec.toNat (BitVec.ofInt 64 (List.getD [r0, r1, r2, r3, r4, r5, r6, r7] (Int.toNat a) 0) ^^^ BitVec.ofInt 64 (List.getD [r0, r1, r2, r3, r4, r5, r6, r7] (Int.toNat b) 0))) : Int) else r6)), (AC.int (IntKind.u64) (if Int.toNat a = 7 then IntKind.wrap IntKind.u64 (↑(BitVec.toNat (BitVec.ofInt 64 (List.getD [r0, r1, r2, r3, r4, r5, r6, r7] (Int.toNat a) 0) ^^^ BitVec.ofInt 64 (List.getD [r0, r1, r2, r3, r4, r5, r6, r7] (Int.toNat b) 0))) : Int) else r7)), (AC.int (IntKind.i64) (Int.tmod (IntKind.wrap IntKind.i64 (pc + 1)) 4096)), (AC.int (IntKind.i64) (0)), (AC.int (IntKind.u64) (0)), (AC.int (IntKind.i64) (0)), (AC.int (IntKind.u64) (0))]), (AE.c (AC.int (IntKind.i64) (0)))]) [])) none) none) none) none) none) none)))) (k (Res.mk (AV.tup [(AE.agg [(AC.int (IntKind.u64) (0)), (AC.int (IntKind.u64) (0)), (AC.int (IntKind.u64) (0)), (AC.int (IntKind.u64) (0)), (AC.int (IntKind.u64) (0)), (AC.int (IntKind.u64) (0)), (AC.int (IntKind.u64) (0)), (AC.int (IntKind.u64) (0)), (AC.int (IntKind.i64) (0)), (AC.int (IntKind.i64) (0)), (AC.int (IntKind.u64) (0)), (AC.int (IntKind.i64) (0)), (AC.int (IntKind.u64) (0))]), (AE.c (AC.int (IntKind.i64) (10)))]) []))) (k (Res.mk (AV.tup [(AE.agg [(AC.int (IntKind.u64) (0)), (AC.int (IntKind.u64) (0)), (AC.int (IntKind.u64) (0)), (AC.int (IntKind.u64) (0)), (AC.int (IntKind.u64) (0)), (AC.int (IntKind.u64) (0)), (AC.int (IntKind.u64) (0)), (AC.int (IntKind.u64) (0)), (AC.int (IntKind.i64) (0)), (AC.int (IntKind.i64) (0)), (AC.int (IntKind.u64) (0)), (AC.int (IntKind.i64) (0)), (AC.int (IntKind.u64) (0))]), (AE.c (AC.int (IntKind.i64) (10)))]) []))) (k (Res.mk (AV.tup [(AE.agg [(AC.int (IntKind.u64) (0)), (AC.int (IntKind.u64) (0)), (AC.int (IntKind.u64) (0)), (AC.int (IntKind.u64) (0)), (AC.int (IntKind.u64) (0)), (AC.int (IntKind.u64) (0)), (AC.int (IntKind.u64) (0)), (AC.int (IntKind.u64) (0)), (AC.int (IntKind.i64) (0)), (AC.int (IntKind.i64) (0)), (AC.int (IntKind.u64) (0)), (AC.int (IntKind.i64) (0)), (AC.int (IntKind.u64) (0))]), (AE.c (AC.int (IntKind.i64) (10)))]) []))) (k (Res.mk (AV.tup [(AE.agg [(AC.int (IntKind.u64) (0)), (AC.int (IntKind.u64) (0)), (AC.int (IntKind.u64) (0)), (AC.int (IntKind.u64) (0)), (AC.int (IntKind.u64) (0)), (AC.int (IntKind.u64) (0)), (AC.int (IntKind.u64) (0)), (AC.int (IntKind.u64) (0)), (AC.int (IntKind.i64) (0)), (AC.int (IntKind.i64) (0)), (AC.int (IntKind.u64) (0)), (AC.int (IntKind.i64) (0)), (AC.int (IntKind.u64) (0))]), (AE.c (AC.int (IntKind.i64) (10)))]) []))) (k (Res.mk (AV.tup [(AE.agg [(AC.int (IntKind.u64) (0)), (AC.int (IntKind.u64) (0)), (AC.int (IntKind.u64) (0)), (AC.int (IntKind.u64) (0)), (AC.int (IntKind.u64) (0)), (AC.int (IntKind.u64) (0)), (AC.int (IntKind.u64) (0)), (AC.int (IntKind.u64) (0)), (AC.int (IntKind.i64) (0)), (AC.int (IntKind.i64) (0)), (AC.int (IntKind.u64) (0)), (AC.int (IntKind.i64) (0)), (AC.int (IntKind.u64) (0))]), (AE.c (AC.int (IntKind.i64) (10)))]) []))) := by kernel_rfl
theorem t_runB_9 (a b m r0 r1 r2 r3 r4 r5 r6 r7 pc : Int) (k : Res → Option Res) : runG Try.prog sR 100 17 [.e (.agg [.int .i64 9, .int .i64 a, .int .i64 b, .int .i64 m]), .e (.agg [.int .u64 r0, .int .u64 r1, .int .u64 r2, .int .u64 r3, .int .u64 r4, .int .u64 r5, .int .u64 r6, .int .u64 r7]), aint .i64 pc] [] k = (cond (decide (a ≥ 0)) (cond (decide (a ≤ 7)) (cond (decide (b ≥ 0)) (cond (decide (b ≤ 7)) (cond (decide (m ≥ 0)) (cond (!decide (m ≤ 4095)) (k (Res.mk (AV.tup [(AE.agg [(AC.int (IntKind.u64) (0)), (AC.int (IntKind.u64) (0)), (AC.int (IntKind.u64) (0)), (AC.int (IntKind.u64) (0)), (AC.int (IntKind.u64) (0)), (AC.int (IntKind.u64) (0)), (AC.int (IntKind.u64) (0)), (AC.int (IntKind.u64) (0)), (AC.int (IntKind.i64) (0)), (AC.int (IntKind.i64) (0)), (AC.int (IntKind.u64) (0)), (AC.int (IntKind.i64) (0)), (AC.int (IntKind.u64) (0))]), (AE.c (AC.int (IntKind.i64) (10)))]) [])) (cond (decide (pc < 0)) (k (Res.mk (AV.tup [(AE.agg [(AC.int (IntKind.u64) (0)), (AC.int (IntKind.u64) (0)), (AC.int (IntKind.u64) (0)), (AC.int (IntKind.u64) (0)), (AC.int (IntKind.u64) (0)), (AC.int (IntKind.u64) (0)), (AC.int (IntKind.u64) (0)), (AC.int (IntKind.u64) (0)), (AC.int (IntKind.i64) (0)), (AC.int (IntKind.i64) (0)), (AC.int (IntKind.u64) (0)), (AC.int (IntKind.i64) (0)), (AC.int (IntKind.u64) (0))]), (AE.c (AC.int (IntKind.i64) (1)))]) [])) (cond (decide (pc > 4095)) (k (Res.mk (AV.tup [(AE.agg [(AC.int (IntKind.u64) (0)), (AC.int (IntKind.u64) (0)), (AC.int (IntKind.u64) (0)), (AC.int (IntKind.u64) (0)), (AC.int (IntKind.u64) (0)), (AC.int (IntKind.u64) (0)), (AC.int (IntKind.u64) (0)), (AC.int (IntKind.u64) (0)), (AC.int (IntKind.i64) (0)), (AC.int (IntKind.i64) (0)), (AC.int (IntKind.u64) (0)), (AC.int (IntKind.i64) (0)), (AC.int (IntKind.u64) (0))]), (AE.c (AC.int (IntKind.i64) (1)))]) [])) (cond (decide (0 ≤ a) && decide (a < 8)) (cond (decide (Int.toNat a < List.length [r0, r1, r2, r3, r4, r5, r6, r7])) (cond (decide (0 ≤ b) && decide (b < 8)) (cond (decide (Int.toNat b < List.length [r0, r1, r2, r3, r4, r5, r6, r7])) (cond (decide ¬Int.tmod (List.getD [r0, r1, r2, r3, r4, r5, r6, r7] (Int.toNat b) 0) 64 < 0) (cond (decide (0 ≤ a) && decide (a < 8)) (cond (decide (Int.toNat a < List.length [r0, r1, r2, r3, r4, r5, r6, r7]) && true) (k (Res.mk (AV.tup [(AE.agg [(AC.int (IntKind.u64) (if Int.toNat a = 0 then IntKind.wrap IntKind.u64 (List.getD [r0, r1, r2, r3, r4, r5, r6, r7] (Int.toNat a) 0 * 2 ^ Min.min (Int.toNat (Int.tmod (List.getD [r0, r1, r2, r3, r4, r5, r6, r7] (Int.toNat b) 0) 64)) 64) else r0)), (AC.int (IntKind.u64) (if Int.toNat a = 1 then IntKind.wrap IntKind.u64 (List.getD [r0, r1, r2, r3, r4, r5, r6, r7] (Int.toNat a) 0 * 2 ^ Min.min (Int.toNat (Int.tmod (List.getD [r0, r1, r2, r3, r4, r5, r6, r7] (Int.toNat b) 0) 64)) 64) else r1)), (AC.int (IntKind.u64) (if Int.toNat a = 2 then IntKind.wrap IntKind.u64 (List.getD [r0, r1, r2, r3, r4, r5, r6, r7] (Int.toNat a) 0 * 2 ^ Min.min (Int.toNat (Int.tmod (List.getD [r0, r1, r2, r3, r4, r5, r6, r7] (Int.toNat b) 0) 64)) 64) else r2)), (AC.int (IntKind.u64) (if Int.toNat a = 3 then IntKind.wrap IntKind.u64 (List.getD [r0, r1, r2, r3, r4, r5, r6, r7] (Int.toNat a) 0 * 2 ^ Min.min (Int.toNat (Int.tmod (List.getD [r0, r1, r2, r3, r4, r5, r6, r7] (Int.toNat b) 0) 64)) 64) else r3)), (AC.int (IntKind.u64) (if Int.toNat a = 4 then IntKind.wrap IntKind.u64 (List.getD [r0, r1, r2, r3, r4, r5, r6, r7] (Int.toNat a) 0 * 2 ^ Min.min (Int.toNat (Int.tmod (List.getD [r0, r1, r2, r3, r4, r5, r6, r7] (Int.toNat b) 0) 64)) 64) else r4)), (AC.int (IntKind.u64) (if Int.toNat a = 5 then IntKind.wrap IntKind.u64 (List.getD [r0, r1, r2, r3, r4, r5, r6, r7] (Int.toNat a) 0 * 2 ^ Min.min (Int.toNat (Int.tmod (List.getD [r0, r1, r2, r3, r4, r5, r6, r7] (Int.toNat b) 0) 64)) 64) else r5)), (AC.int (IntKind.u64) (if Int.toNat a = 6 then IntKind.wrap IntKind.u64 (List.getD [r0, r1, r2, r3, r4, r5, r6, r7] (Int.toNat a) 0 * 2 ^ Min.min (Int.toNat (Int.tmod (List.getD [r0, r1, r2, r3, r4, r5, r6, r7] (Int.toNat b) 0) 64)) 64) else r6)), (AC.int (IntKind.u64) (if Int.toNat a = 7 then IntKind.wrap IntKind.u64 (List.getD [r0, r1, r2, r3, r4, r5, r6, r7] (Int.toNat a) 0 * 2 ^ Min.min (Int.toNat (Int.tmod (List.getD [r0, r1, r2, r3, r4, r5, r6, r7] (Int.toNat b) 0) 64)) 64) else r7)), (AC.int (IntKind.i64) (Int.tmod (IntKind.wrap IntKind.i64 (pc + 1)) 4096)), (AC.int (IntKind.i64) (0)), (AC.int (IntKind.u64) (0)), (AC.int (IntKind.i64) (0)), (AC.int (IntKind.u64) (0))]), (AE.c (AC.int (IntKind.i64) (0)))]) [])) none) none) none) none) none) none) none)))) (k (Res.mk (AV.tup [(AE.agg [(AC.int (IntKind.u64) (0)), (AC.int (IntKind.u64) (0)), (AC.int (IntKind.u64) (0)), (AC.int (IntKind.u64) (0)), (AC.int (IntKind.u64) (0)), (AC.int (IntKind.u64) (0)), (AC.int (IntKind.u64) (0)), (AC.int (IntKind.u64) (0)), (AC.int (IntKind.i64) (0)), (AC.int (IntKind.i64) (0)), (AC.int (IntKind.u64) (0)), (AC.int (IntKind.i64) (0)), (AC.int (IntKind.u64) (0))]), (AE.c (AC.int (IntKind.i64) (10)))]) []))) (k (Res.mk (AV.tup [(AE.agg [(AC.int (IntKind.u64) (0)), (AC.int (IntKind.u64) (0)), (AC.int (IntKind.u64) (0)), (AC.int (IntKind.u64) (0)), (AC.int (IntKind.u64) (0)), (AC.int (IntKind.u64) (0)), (AC.int (IntKind.u64) (0)), (AC.int (IntKind.u64) (0)), (AC.int (IntKind.i64) (0)), (AC.int (IntKind.i64) (0)), (AC.int (IntKind.u64) (0)), (AC.int (IntKind.i64) (0)), (AC.int (IntKind.u64) (0))]), (AE.c (AC.int (IntKind.i64) (10)))]) []))) (k (Res.mk (AV.tup [(AE.agg [(AC.int (IntKind.u64) (0)), (AC.int (IntKind.u64) (0)), (AC.int (IntKind.u64) (0)), (AC.int (IntKind.u64) (0)), (AC.int (IntKind.u64) (0)), (AC.int (IntKind.u64) (0)), (AC.int (IntKind.u64) (0)), (AC.int (IntKind.u64) (0)), (AC.int (IntKind.i64) (0)), (AC.int (IntKind.i64) (0)), (AC.int (IntKind.u64) (0)), (AC.int (IntKind.i64) (0)), (AC.int (IntKind.u64) (0))]), (AE.c (AC.int (IntKind.i64) (10)))]) []))) (k (Res.mk (AV.tup [(AE.agg [(AC.int (IntKind.u64) (0)), (AC.int (IntKind.u64) (0)), (AC.int (IntKind.u64) (0)), (AC.int (IntKind.u64) (0)), (AC.int (IntKind.u64) (0)), (AC.int (IntKind.u64) (0)), (AC.int (IntKind.u64) (0)), (AC.int (IntKind.u64) (0)), (AC.int (IntKind.i64) (0)), (AC.int (IntKind.i64) (0)), (AC.int (IntKind.u64) (0)), (AC.int (IntKind.i64) (0)), (AC.int (IntKind.u64) (0))]), (AE.c (AC.int (IntKind.i64) (10)))]) []))) (k (Res.mk (AV.tup [(AE.agg [(AC.int (IntKind.u64) (0)), (AC.int (IntKind.u64) (0)), (AC.int (IntKind.u64) (0)), (AC.int (IntKind.u64) (0)), (AC.int (IntKind.u64) (0)), (AC.int (IntKind.u64) (0)), (AC.int (IntKind.u64) (0)), (AC.int (IntKind.u64) (0)), (AC.int (IntKind.i64) (0)), (AC.int (IntKind.i64) (0)), (AC.int (IntKind.u64) (0)), (AC.int (IntKind.i64) (0)), (AC.int (IntKind.u64) (0))]), (AE.c (AC.int (IntKind.i64) (10)))]) []))) := by kernel_rfl
theorem t_runB_10 (a b m r0 r1 r2 r3 r4 r5 r6 r7 pc : Int) (k : Res → Option Res) : runG Try.prog sR 100 17 [.e (.agg [.int .i64 10, .int .i64 a, .int .i64 b, .int .i64 m]), .e (.agg [.int .u64 r0, .int .u64 r1, .int .u64 r2, .int .u64 r3, .int .u64 r4, .int .u64 r5, .int .u64 r6, .int .u64 r7]), aint .i64 pc] [] k = (cond (decide (a ≥ 0)) (cond (decide (a ≤ 7)) (cond (decide (b ≥ 0)) (cond (decide (b ≤ 7)) (cond (decide (m ≥ 0)) (cond (!decide (m ≤ 4095)) (k (Res.mk (AV.tup [(AE.agg [(AC.int (IntKind.u64) (0)), (AC.int (IntKind.u64) (0)), (AC.int (IntKind.u64) (0)), (AC.int (IntKind.u64) (0)), (AC.int (IntKind.u64) (0)), (AC.int (IntKind.u64) (0)), (AC.int (IntKind.u64) (0)), (AC.int (IntKind.u64) (0)), (AC.int (IntKind.i64) (0)), (AC.int (IntKind.i64) (0)), (AC.int (IntKind.u64) (0)), (AC.int (IntKind.i64) (0)), (AC.int (IntKind.u64) (0))]), (AE.c (AC.int (IntKind.i64) (10)))]) [])) (cond (decide (pc < 0)) (k (Res.mk (AV.tup [(AE.agg [(AC.int (IntKind.u64) (0)), (AC.int (IntKind.u64) (0)), (AC.int (IntKind.u64) (0)), (AC.int (IntKind.u64) (0)), (AC.int (IntKind.u64) (0)), (AC.int (IntKind.u64) (0)), (AC.int (IntKind.u64) (0)), (AC.int (IntKind.u64) (0)), (AC.int (IntKind.i64) (0)), (AC.int (IntKind.i64) (0)), (AC.int (IntKind.u64) (0)), (AC.int (IntKind.i64) (0)), (AC.int (IntKind.u64) (0))]), (AE.c (AC.int (IntKind.i64) (1)))]) [])) (cond (decide (pc > 4095)) (k (Res.mk (AV.tup [(AE.agg [(AC.int (IntKind.u64) (0)), (AC.int (IntKind.u64) (0)), (AC.int (IntKind.u64) (0)), (AC.int (IntKind.u64) (0)), (AC.int (IntKind.u64) (0)), (AC.int (IntKind.u64) (0)), (AC.int (IntKind.u64) (0)), (AC.int (IntKind.u64) (0)), (AC.int (IntKind.i64) (0)), (AC.int (IntKind.i64) (0)), (AC.int (IntKind.u64) (0)), (AC.int (IntKind.i64) (0)), (AC.int (IntKind.u64) (0))]), (AE.c (AC.int (IntKind.i64) (1)))]) [])) (cond (decide (0 ≤ a) && decide (a < 8)) (cond (decide (Int.toNat a < List.length [r0, r1, r2, r3, r4, r5, r6, r7])) (cond (decide (0 ≤ b) && decide (b < 8)) (cond (decide (Int.toNat b < List.length [r0, r1, r2, r3, r4, r5, r6, r7])) (cond (decide ¬Int.tmod (List.getD [r0, r1, r2, r3, r4, r5, r6, r7] (Int.toNat b) 0) 64 < 0) (cond (decide (0 ≤ a) && decide (a < 8)) (cond (decide (Int.toNat a < List.length [r0, r1, r2, r3, r4, r5, r6, r7]) && true) (k (Res.mk (AV.tup [(AE.agg [(AC.int (IntKind.u64) (if Int.toNat a = 0 then Int.fdiv (List.getD [r0, r1, r2, r3, r4, r5, r6, r7] (Int.toNat a) 0) (2 ^ Min.min (Int.toNat (Int.tmod (List.getD [r0, r1, r2, r3, r4, r5, r6, r7] (Int.toNat b) 0) 64)) 64) else r0)), (AC.int (IntKind.u64) (if Int.toNat a = 1 then Int.fdiv (List.getD [r0, r1, r2, r3, r4, r5, r6, r7] (Int.toNat a) 0) (2 ^ Min.min (Int.toNat (Int.tmod (List.getD [r0, r1, r2, r3, r4, r5, r6, r7] (Int.toNat b) 0) 64)) 64) else r1)), (AC.int (IntKind.u64) (if Int.toNat a = 2 then Int.fdiv (List.getD [r0, r1, r2, r3, r4, r5, r6, r7] (Int.toNat a) 0) (2 ^ Min.min (Int.toNat (Int.tmod (List.getD [r0, r1, r2, r3, r4, r5, r6, r7] (Int.toNat b) 0) 64)) 64) else r2)), (AC.int (IntKind.u64) (if Int.toNat a = 3 then Int.fdiv (List.getD [r0, r1, r2, r3, r4, r5, r6, r7] (Int.toNat a) 0) (2 ^ Min.min (Int.toNat (Int.tmod (List.getD [r0, r1, r2, r3, r4, r5, r6, r7] (Int.toNat b) 0) 64)) 64) else r3)), (AC.int (IntKind.u64) (if Int.toNat a = 4 then Int.fdiv (List.getD [r0, r1, r2, r3, r4, r5, r6, r7] (Int.toNat a) 0) (2 ^ Min.min (Int.toNat (Int.tmod (List.getD [r0, r1, r2, r3, r4, r5, r6, r7] (Int.toNat b) 0) 64)) 64) else r4)), (AC.int (IntKind.u64) (if Int.toNat a = 5 then Int.fdiv (List.getD [r0, r1, r2, r3, r4, r5, r6, r7] (Int.toNat a) 0) (2 ^ Min.min (Int.toNat (Int.tmod (List.getD [r0, r1, r2, r3, r4, r5, r6, r7] (Int.toNat b) 0) 64)) 64) else r5)), (AC.int (IntKind.u64) (if Int.toNat a = 6 then Int.fdiv (List.getD [r0, r1, r2, r3, r4, r5, r6, r7] (Int.toNat a) 0) (2 ^ Min.min (Int.toNat (Int.tmod (List.getD [r0, r1, r2, r3, r4, r5, r6, r7] (Int.toNat b) 0) 64)) 64) else r6)), (AC.int (IntKind.u64) (if Int.toNat a = 7 then Int.fdiv (List.getD [r0, r1, r2, r3, r4, r5, r6, r7] (Int.toNat a) 0) (2 ^ Min.min (Int.toNat (Int.tmod (List.getD [r0, r1, r2, r3, r4, r5, r6, r7] (Int.toNat b) 0) 64)) 64) else r7)), (AC.int (IntKind.i64) (Int.tmod (IntKind.wrap IntKind.i64 (pc + 1)) 4096)), (AC.int (IntKind.i64) (0)), (AC.int (IntKind.u64) (0)), (AC.int (IntKind.i64) (0)), (AC.int (IntKind.u64) (0))]), (AE.c (AC.int (IntKind.i64) (0)))]) [])) none) none) none) none) none) none) none)))) (k (Res.mk (AV.tup [(AE.agg [(AC.int (IntKind.u64) (0)), (AC.int (IntKind.u64) (0)), (AC.int (IntKind.u64) (0)), (AC.int (IntKind.u64) (0)), (AC.int (IntKind.u64) (0)), (AC.int (IntKind.u64) (0)), (AC.int (IntKind.u64) (0)), (AC.int (IntKind.u64) (0)), (AC.int (IntKind.i64) (0)), (AC.int (IntKind.i64) (0)), (AC.int (IntKind.u64) (0)), (AC.int (IntKind.i64) (0)), (AC.int (IntKind.u64) (0))]), (AE.c (AC.int (IntKind.i64) (10)))]) []))) (k (Res.mk (AV.tup [(AE.agg [(AC.int (IntKind.u64) (0)), (AC.int (IntKind.u64) (0)), (AC.int (IntKind.u64) (0)), (AC.int (IntKind.u64) (0)), (AC.int (IntKind.u64) (0)), (AC.int (IntKind.u64) (0)), (AC.int (IntKind.u64) (0)), (AC.int (IntKind.u64) (0)), (AC.int (IntKind.i64) (0)), (AC.int (IntKind.i64) (0)), (AC.int (IntKind.u64) (0)), (AC.int (IntKind.i64) (0)), (AC.int (IntKind.u64) (0))]), (AE.c (AC.int (IntKind.i64) (10)))]) []))) (k (Res.mk (AV.tup [(AE.agg [(AC.int (IntKind.u64) (0)), (AC.int (IntKind.u64) (0)), (AC.int (IntKind.u64) (0)), (AC.int (IntKind.u64) (0)), (AC.int (IntKind.u64) (0)), (AC.int (IntKind.u64) (0)), (AC.int (IntKind.u64) (0)), (AC.int (IntKind.u64) (0)), (AC.int (IntKind.i64) (0)), (AC.int (IntKind.i64) (0)), (AC.int (IntKind.u64) (0)), (AC.int (IntKind.i64) (0)), (AC.int (IntKind.u64) (0))]), (AE.c (AC.int (IntKind.i64) (10)))]) []))) (k (Res.mk (AV.tup [(AE.agg [(AC.int (IntKind.u64) (0)), (AC.int (IntKind.u64) (0)), (AC.int (IntKind.u64) (0)), (AC.int (IntKind.u64) (0)), (AC.int (IntKind.u64) (0)), (AC.int (IntKind.u64) (0)), (AC.int (IntKind.u64) (0)), (AC.int (IntKind.u64) (0)), (AC.int (IntKind.i64) (0)), (AC.int (IntKind.i64) (0)), (AC.int (IntKind.u64) (0)), (AC.int (IntKind.i64) (0)), (AC.int (IntKind.u64) (0))]), (AE.c (AC.int (IntKind.i64) (10)))]) []))) (k (Res.mk (AV.tup [(AE.agg [(AC.int (IntKind.u64) (0)), (AC.int (IntKind.u64) (0)), (AC.int (IntKind.u64) (0)), (AC.int (IntKind.u64) (0)), (AC.int (IntKind.u64) (0)), (AC.int (IntKind.u64) (0)), (AC.int (IntKind.u64) (0)), (AC.int (IntKind.u64) (0)), (AC.int (IntKind.i64) (0)), (AC.int (IntKind.i64) (0)), (AC.int (IntKind.u64) (0)), (AC.int (IntKind.i64) (0)), (AC.int (IntKind.u64) (0))]), (AE.c (AC.int (IntKind.i64) (10)))]) []))) := by kernel_rfl
theorem t_runB_11 (a b m r0 r1 r2 r3 r4 r5 r6 r7 pc : Int) (k : Res → Option Res) : runG Try.prog sR 100 17 [.e (.agg [.int .i64 11, .int .i64 a, .int .i64 b, .int .i64 m]), .e (.agg [.int .u64 r0, .int .u64 r1, .int .u64 r2, .int .u64 r3, .int .u64 r4, .int .u64 r5, .int .u64 r6, .int .u64 r7]), aint .i64 pc] [] k = (cond (decide (a ≥ 0)) (cond (decide (a ≤ 7)) (cond (decide (b ≥ 0)) (cond (decide (b ≤ 7)) (cond (decide (m ≥ 0)) (cond (!decide (m ≤ 4095)) (k (Res.mk (AV.tup [(AE.agg [(AC.int (IntKind.u64) (0)), (AC.int (IntKind.u64) (0)), (AC.int (IntKind.u64) (0)), (AC.int (IntKind.u64) (0)), (AC.int (IntKind.u64) (0)), (AC.int (IntKind.u64) (0)), (AC.int (IntKind.u64) (0)), (AC.int (IntKind.u64) (0)), (AC.int (IntKind.i64) (0)), (AC.int (IntKind.i64) (0)), (AC.int (IntKind.u64) (0)), (AC.int (IntKind.i64) (0)), (AC.int (IntKind.u64) (0))]), (AE.c (AC.int (IntKind.i64) (10)))]) [])) (cond (decide (pc < 0)) (k (Res.mk (AV.tup [(AE.agg [(AC.int (IntKind.u64) (0)), (AC.int (IntKind.u64) (0)), (AC.int (IntKind.u64) (0)), (AC.int (IntKind.u64) (0)), (AC.int (IntKind.u64) (0)), (AC.int (IntKind.u64) (0)), (AC.int (IntKind.u64) (0)), (AC.int (IntKind.u64) (0)), (AC.int (IntKind.i64) (0)), (AC.int (IntKind.i64) (0)), (AC.int (IntKind.u64) (0)), (AC.int (IntKind.i64) (0)), (AC.int (IntKind.u64) (0))]), (AE.c (AC.int (IntKind.i64) (1)))]) [])) (cond (decide (pc > 4095)) (k (Res.mk (AV.tup [(AE.agg [(AC.int (IntKind.u64) (0)), (AC.int (IntKind.u64) (0)), (AC.int (IntKind.u64) (0)), (AC.int (IntKind.u64) (0)), (AC.int (IntKind.u64) (0)), (AC.int (IntKind.u64) (0)), (AC.int (IntKind.u64) (0)), (AC.int (IntKind.u64) (0)), (AC.int (IntKind.i64) (0)), (AC.int (IntKind.i64) (0)), (AC.int (IntKind.u64) (0)), (AC.int (IntKind.i64) (0)), (AC.int (IntKind.u64) (0))]), (AE.c (AC.int (IntKind.i64) (1)))]) [])) (cond (decide (0 ≤ a) && decide (a < 8)) (cond (decide (Int.toNat a < List.length [r0, r1, r2, r3, r4, r5, r6, r7])) (cond (decide (0 ≤ b) && decide (b < 8)) (cond (decide (Int.toNat b < List.length [r0, r1, r2, r3, r4, r5, r6, r7])) (k (Res.mk (AV.tup [(AE.agg [(AC.int (IntKind.u64) (r0)), (AC.int (IntKind.u64) (r1)), (AC.int (IntKind.u64) (r2)), (AC.int (IntKind.u64) (r3)), (AC.int (IntKind.u64) (r4)), (AC.int (IntKind.u64) (r5)), (AC.int (IntKind.u64) (r6)), (AC.int (IntKind.u64) (r7)), (AC.int (IntKind.i64) (Int.tmod (IntKind.wrap IntKind.i64 (pc + 1)) 4096)), (AC.int (IntKind.i64) (1)), (AC.int (IntKind.u64) (IntKind.wrap IntKind.u64 (List.getD [r0, r1, r2, r3, r4, r5, r6, r7] (Int.toNat b) 0 + IntKind.wrap IntKind.u64 m))), (AC.int (IntKind.i64) (a)), (AC.int (IntKind.u64) (0))]), (AE.c (AC.int (IntKind.i64) (0)))]) [])) none) none) none) none)))) (k (Res.mk (AV.tup [(AE.agg [(AC.int (IntKind.u64) (0)), (AC.int (IntKind.u64) (0)), (AC.int (IntKind.u64) (0)), (AC.int (IntKind.u64) (0)), (AC.int (IntKind.u64) (0)), (AC.int (IntKind.u64) (0)), (AC.int (IntKind.u64) (0)), (AC.int (IntKind.u64) (0)), (AC.int (IntKind.i64) (0)), (AC.int (IntKind.i64) (0)), (AC.int (IntKind.u64) (0)), (AC.int (IntKind.i64) (0)), (AC.int (IntKind.u64) (0))]), (AE.c (AC.int (IntKind.i64) (10)))]) []))) (k (Res.mk (AV.tup [(AE.agg [(AC.int (IntKind.u64) (0)), (AC.int (IntKind.u64) (0)), (AC.int (IntKind.u64) (0)), (AC.int (IntKind.u64) (0)), (AC.int (IntKind.u64) (0)), (AC.int (IntKind.u64) (0)), (AC.int (IntKind.u64) (0)), (AC.int (IntKind.u64) (0)), (AC.int (IntKind.i64) (0)), (AC.int (IntKind.i64) (0)), (AC.int (IntKind.u64) (0)), (AC.int (IntKind.i64) (0)), (AC.int (IntKind.u64) (0))]), (AE.c (AC.int (IntKind.i64) (10)))]) []))) (k (Res.mk (AV.tup [(AE.agg [(AC.int (IntKind.u64) (0)), (AC.int (IntKind.u64) (0)), (AC.int (IntKind.u64) (0)), (AC.int (IntKind.u64) (0)), (AC.int (IntKind.u64) (0)), (AC.int (IntKind.u64) (0)), (AC.int (IntKind.u64) (0)), (AC.int (IntKind.u64) (0)), (AC.int (IntKind.i64) (0)), (AC.int (IntKind.i64) (0)), (AC.int (IntKind.u64) (0)), (AC.int (IntKind.i64) (0)), (AC.int (IntKind.u64) (0))]), (AE.c (AC.int (IntKind.i64) (10)))]) []))) (k (Res.mk (AV.tup [(AE.agg [(AC.int (IntKind.u64) (0)), (AC.int (IntKind.u64) (0)), (AC.int (IntKind.u64) (0)), (AC.int (IntKind.u64) (0)), (AC.int (IntKind.u64) (0)), (AC.int (IntKind.u64) (0)), (AC.int (IntKind.u64) (0)), (AC.int (IntKind.u64) (0)), (AC.int (IntKind.i64) (0)), (AC.int (IntKind.i64) (0)), (AC.int (IntKind.u64) (0)), (AC.int (IntKind.i64) (0)), (AC.int (IntKind.u64) (0))]), (AE.c (AC.int (IntKind.i64) (10)))]) []))) (k (Res.mk (AV.tup [(AE.agg [(AC.int (IntKind.u64) (0)), (AC.int (IntKind.u64) (0)), (AC.int (IntKind.u64) (0)), (AC.int (IntKind.u64) (0)), (AC.int (IntKind.u64) (0)), (AC.int (IntKind.u64) (0)), (AC.int (IntKind.u64) (0)), (AC.int (IntKind.u64) (0)), (AC.int (IntKind.i64) (0)), (AC.int (IntKind.i64) (0)), (AC.int (IntKind.u64) (0)), (AC.int (IntKind.i64) (0)), (AC.int (IntKind.u64) (0))]), (AE.c (AC.int (IntKind.i64) (10)))]) []))) := by kernel_rfl
theorem t_runB_12 (a b m r0 r1 r2 r3 r4 r5 r6 r7 pc : Int) (k : Res → Option Res) : runG Try.prog sR 100 17 [.e (.agg [.int .i64 12, .int .i64 a, .int .i64 b, .int .i64 m]), .e (.agg [.int .u64 r0, .int .u64 r1, .int .u64 r2, .int .u64 r3, .int .u64 r4, .int .u64 r5, .int .u64 r6, .int .u64 r7]), aint .i64 pc] [] k = (cond (decide (a ≥ 0)) (cond (decide (a ≤ 7)) (cond (decide (b ≥ 0)) (cond (decide (b ≤ 7)) (cond (decide (m ≥ 0)) (cond (!decide (m ≤ 4095)) (k (Res.mk (AV.tup [(AE.agg [(AC.int (IntKind.u64) (0)), (AC.int (IntKind.u64) (0)), (AC.int (IntKind.u64) (0)), (AC.int (IntKind.u64) (0)), (AC.int (IntKind.u64) (0)), (AC.int (IntKind.u64) (0)), (AC.int (IntKind.u64) (0)), (AC.int (IntKind.u64) (0)), (AC.int (IntKind.i64) (0)), (AC.int (IntKind.i64) (0)), (AC.int (IntKind.u64) (0)), (AC.int (IntKind.i64) (0)), (AC.int (IntKind.u64) (0))]), (AE.c (AC.int (IntKind.i64) (10)))]) [])) (cond (decide (pc < 0)) (k (Res.mk (AV.tup [(AE.agg [(AC.int (IntKind.u64) (0)), (AC.int (IntKind.u64) (0)), (AC.int (IntKind.u64) (0)), (AC.int (IntKind.u64) (0)), (AC.int (IntKind.u64) (0)), (AC.int (IntKind.u64) (0)), (AC.int (IntKind.u64) (0)), (AC.int (IntKind.u64) (0)), (AC.int (IntKind.i64) (0)), (AC.int (IntKind.i64) (0)), (AC.int (IntKind.u64) (0)), (AC.int (IntKind.i64) (0)), (AC.int (IntKind.u64) (0))]), (AE.c (AC.int (IntKind.i64) (1)))]) [])) (cond (decide (pc > 4095)) (k (Res.mk (AV.tup [(AE.agg [(AC.int (IntKind.u64) (0)), (AC.int (IntKind.u64) (0)), (AC.int (IntKind.u64) (0)), (AC.int (IntKind.u64) (0)), (AC.int (IntKind.u64) (0)), (AC.int (IntKind.u64) (0)), (AC.int (IntKind.u64) (0)), (AC.int (IntKind.u64) (0)), (AC.int (IntKind.i64) (0)), (AC.int (IntKind.i64) (0)), (AC.int (IntKind.u64) (0)), (AC.int (IntKind.i64) (0)), (AC.int (IntKind.u64) (0))]), (AE.c (AC.int (IntKind.i64) (1)))]) [])) (cond (decide (0 ≤ a) && decide (a < 8)) (cond (decide (Int.toNat a < List.length [r0, r1, r2, r3, r4, r5, r6, r7])) (cond (decide (0 ≤ b) && decide (b < 8)) (cond (decide (Int.toNat b < List.length [r0, r1, r2, r3, r4, r5, r6, r7])) (k (Res.mk (AV.tup [(AE.agg [(AC.int (IntKind.u64) (r0)), (AC.int (IntKind.u64) (r1)), (AC.int (IntKind.u64) (r2)), (AC.int (IntKind.u64) (r3)), (AC.int (IntKind.u64) (r4)), (AC.int (IntKind.u64) (r5)), (AC.int (IntKind.u64) (r6)), (AC.int (IntKind.u64) (r7)), (AC.int (IntKind.i64) (Int.tmod (IntKind.wrap IntKind.i64 (pc + 1)) 4096)), (AC.int (IntKind.i64) (2)), (AC.int (IntKind.u64) (IntKind.wrap IntKind.u64 (List.getD [r0, r1, r2, r3, r4, r5, r6, r7] (Int.toNat b) 0 + IntKind.wrap IntKind.u64 m))), (AC.int (IntKind.i64) (0)), (AC.int (IntKind.u64) (List.getD [r0, r1, r2, r3, r4, r5, r6, r7] (Int.toNat a) 0))]), (AE.c (AC.int (IntKind.i64) (0)))]) [])) none) none) none) none)))) (k (Res.mk (AV.tup [(AE.agg [(AC.int (IntKind.u64) (0)), (AC.int (IntKind.u64) (0)), (AC.int (IntKind.u64) (0)), (AC.int (IntKind.u64) (0)), (AC.int (IntKind.u64) (0)), (AC.int (IntKind.u64) (0)), (AC.int (IntKind.u64) (0)), (AC.int (IntKind.u64) (0)), (AC.int (IntKind.i64) (0)), (AC.int (IntKind.i64) (0)), (AC.int (IntKind.u64) (0)), (AC.int (IntKind.i64) (0)), (AC.int (IntKind.u64) (0))]), (AE.c (AC.int (IntKind.i64) (10)))]) []))) (k (Res.mk (AV.tup [(AE.agg [(AC.int (IntKind.u64) (0)), (AC.int (IntKind.u64) (0)), (AC.int (IntKind.u64) (0)), (AC.int (IntKind.u64) (0)), (AC.int (IntKind.u64) (0)), (AC.int (IntKind.u64) (0)), (AC.int (IntKind.u64) (0)), (AC.int (IntKind.u64) (0)), (AC.int (IntKind.i64) (0)), (AC.int (IntKind.i64) (0)), (AC.int (IntKind.u64) (0)), (AC.int (IntKind.i64) (0)), (AC.int (IntKind.u64) (0))]), (AE.c (AC.int (IntKind.i64) (10)))]) []))) (k (Res.mk (AV.tup [(AE.agg [(AC.int (IntKind.u64) (0)), (AC.int (IntKind.u64) (0)), (AC.int (IntKind.u64) (0)), (AC.int (IntKind.u64) (0)), (AC.int (IntKind.u64) (0)), (AC.int (IntKind.u64) (0)), (AC.int (IntKind.u64) (0)), (AC.int (IntKind.u64) (0)), (AC.int (IntKind.i64) (0)), (AC.int (IntKind.i64) (0)), (AC.int (IntKind.u64) (0)), (AC.int (IntKind.i64) (0)), (AC.int (IntKind.u64) (0))]), (AE.c (AC.int (IntKind.i64) (10)))]) []))) (k (Res.mk (AV.tup [(AE.agg [(AC.int (IntKind.u64) (0)), (AC.int (IntKind.u64) (0)), (AC.int (IntKind.u64) (0)), (AC.int (IntKind.u64) (0)), (AC.int (IntKind.u64) (0)), (AC.int (IntKind.u64) (0)), (AC.int (IntKind.u64) (0)), (AC.int (IntKind.u64) (0)), (AC.int (IntKind.i64) (0)), (AC.int (IntKind.i64) (0)), (AC.int (IntKind.u64) (0)), (AC.int (IntKind.i64) (0)), (AC.int (IntKind.u64) (0))]), (AE.c (AC.int (IntKind.i64) (10)))]) []))) (k (Res.mk (AV.tup [(AE.agg [(AC.int (IntKind.u64) (0)), (AC.int (IntKind.u64) (0)), (AC.int (IntKind.u64) (0)), (AC.int (IntKind.u64) (0)), (AC.int (IntKind.u64) (0)), (AC.int (IntKind.u64) (0)), (AC.int (IntKind.u64) (0)), (AC.int (IntKind.u64) (0)), (AC.int (IntKind.i64) (0)), (AC.int (IntKind.i64) (0)), (AC.int (IntKind.u64) (0)), (AC.int (IntKind.i64) (0)), (AC.int (IntKind.u64) (0))]), (AE.c (AC.int (IntKind.i64) (10)))]) []))) := by kernel_rfl
theorem t_runB_13 (a b m r0 r1 r2 r3 r4 r5 r6 r7 pc : Int) (k : Res → Option Res) : runG Try.prog sR 100 17 [.e (.agg [.int .i64 13, .int .i64 a, .int .i64 b, .int .i64 m]), .e (.agg [.int .u64 r0, .int .u64 r1, .int .u64 r2, .int .u64 r3, .int .u64 r4, .int .u64 r5, .int .u64 r6, .int .u64 r7]), aint .i64 pc] [] k = (cond (decide (a ≥ 0)) (cond (decide (a ≤ 7)) (cond (decide (b ≥ 0)) (cond (decide (b ≤ 7)) (cond (decide (m ≥ 0)) (cond (!decide (m ≤ 4095)) (k (Res.mk (AV.tup [(AE.agg [(AC.int (IntKind.u64) (0)), (AC.int (IntKind.u64) (0)), (AC.int (IntKind.u64) (0)), (AC.int (IntKind.u64) (0)), (AC.int (IntKind.u64) (0)), (AC.int (IntKind.u64) (0)), (AC.int (IntKind.u64) (0)), (AC.int (IntKind.u64) (0)), (AC.int (IntKind.i64) (0)), (AC.int (IntKind.i64) (0)), (AC.int (IntKind.u64) (0)), (AC.int (IntKind.i64) (0)), (AC.int (IntKind.u64) (0))]), (AE.c (AC.int (IntKind.i64) (10)))]) [])) (cond (decide (pc < 0)) (k (Res.mk (AV.tup [(AE.agg [(AC.int (IntKind.u64) (0)), (AC.int (IntKind.u64) (0)), (AC.int (IntKind.u64) (0)), (AC.int (IntKind.u64) (0)), (AC.int (IntKind.u64) (0)), (AC.int (IntKind.u64) (0)), (AC.int (IntKind.u64) (0)), (AC.int (IntKind.u64) (0)), (AC.int (IntKind.i64) (0)), (AC.int (IntKind.i64) (0)), (AC.int (IntKind.u64) (0)), (AC.int (IntKind.i64) (0)), (AC.int (IntKind.u64) (0))]), (AE.c (AC.int (IntKind.i64) (1)))]) [])) (cond (decide (pc > 4095)) (k (Res.mk (AV.tup [(AE.agg [(AC.int (IntKind.u64) (0)), (AC.int (IntKind.u64) (0)), (AC.int (IntKind.u64) (0)), (AC.int (IntKind.u64) (0)), (AC.int (IntKind.u64) (0)), (AC.int (IntKind.u64) (0)), (AC.int (IntKind.u64) (0)), (AC.int (IntKind.u64) (0)), (AC.int (IntKind.i64) (0)), (AC.int (IntKind.i64) (0)), (AC.int (IntKind.u64) (0)), (AC.int (IntKind.i64) (0)), (AC.int (IntKind.u64) (0))]), (AE.c (AC.int (IntKind.i64) (1)))]) [])) (cond (decide (0 ≤ a) && decide (a < 8)) (cond (decide (Int.toNat a < List.length [r0, r1, r2, r3, r4, r5, r6, r7])) (cond (decide (0 ≤ b) && decide (b < 8)) (cond (decide (Int.toNat b < List.length [r0, r1, r2, r3, r4, r5, r6, r7])) (k (Res.mk (AV.tup [(AE.agg [(AC.int (IntKind.u64) (r0)), (AC.int (IntKind.u64) (r1)), (AC.int (IntKind.u64) (r2)), (AC.int (IntKind.u64) (r3)), (AC.int (IntKind.u64) (r4)), (AC.int (IntKind.u64) (r5)), (AC.int (IntKind.u64) (r6)), (AC.int (IntKind.u64) (r7)), (AC.int (IntKind.i64) (m)), (AC.int (IntKind.i64) (0)), (AC.int (IntKind.u64) (0)), (AC.int (IntKind.i64) (0)), (AC.int (IntKind.u64) (0))]), (AE.c (AC.int (IntKind.i64) (0)))]) [])) none) none) none) none)))) (k (Res.mk (AV.tup [(AE.agg [(AC.int (IntKind.u64) (0)), (AC.int (IntKind.u64) (0)), (AC.int (IntKind.u64) (0)), (AC.int (IntKind.u64) (0)), (AC.int (IntKind.u64) (0)), (AC.int (IntKind.u64) (0)), (AC.int (IntKind.u64) (0)), (AC.int (IntKind.u64) (0)), (AC.int (IntKind.i64) (0)), (AC.int (IntKind.i64) (0)), (AC.int (IntKind.u64) (0)), (AC.int (IntKind.i64) (0)), (AC.int (IntKind.u64) (0))]), (AE.c (AC.int (IntKind.i64) (10)))]) []))) (k (Res.mk (AV.tup [(AE.agg [(AC.int (IntKind.u64) (0)), (AC.int (IntKind.u64) (0)), (AC.int (IntKind.u64) (0)), (AC.int (IntKind.u64) (0)), (AC.int (IntKind.u64) (0)), (AC.int (IntKind.u64) (0)), (AC.int (IntKind.u64) (0)), (AC.int (IntKind.u64) (0)), (AC.int (IntKind.i64) (0)), (AC.int (IntKind.i64) (0)), (AC.int (IntKind.u64) (0)), (AC.int (IntKind.i64) (0)), (AC.int (IntKind.u64) (0))]), (AE.c (AC.int (IntKind.i64) (10)))]) []))) (k (Res.mk (AV.tup [(AE.agg [(AC.int (IntKind.u64) (0)), (AC.int (IntKind.u64) (0)), (AC.int (IntKind.u64) (0)), (AC.int (IntKind.u64) (0)), (AC.int (IntKind.u64) (0)), (AC.int (IntKind.u64) (0)), (AC.int (IntKind.u64) (0)), (AC.int (IntKind.u64) (0)), (AC.int (IntKind.i64) (0)), (AC.int (IntKind.i64) (0)), (AC.int (IntKind.u64) (0)), (AC.int (IntKind.i64) (0)), (AC.int (IntKind.u64) (0))]), (AE.c (AC.int (IntKind.i64) (10)))]) []))) (k (Res.mk (AV.tup [(AE.agg [(AC.int (IntKind.u64) (0)), (AC.int (IntKind.u64) (0)), (AC.int (IntKind.u64) (0)), (AC.int (IntKind.u64) (0)), (AC.int (IntKind.u64) (0)), (AC.int (IntKind.u64) (0)), (AC.int (IntKind.u64) (0)), (AC.int (IntKind.u64) (0)), (AC.int (IntKind.i64) (0)), (AC.int (IntKind.i64) (0)), (AC.int (IntKind.u64) (0)), (AC.int (IntKind.i64) (0)), (AC.int (IntKind.u64) (0))]), (AE.c (AC.int (IntKind.i64) (10)))]) []))) (k (Res.mk (AV.tup [(AE.agg [(AC.int (IntKind.u64) (0)), (AC.int (IntKind.u64) (0)), (AC.int (IntKind.u64) (0)), (AC.int (IntKind.u64) (0)), (AC.int (IntKind.u64) (0)), (AC.int (IntKind.u64) (0)), (AC.int (IntKind.u64) (0)), (AC.int (IntKind.u64) (0)), (AC.int (IntKind.i64) (0)), (AC.int (IntKind.i64) (0)), (AC.int (IntKind.u64) (0)), (AC.int (IntKind.i64) (0)), (AC.int (IntKind.u64) (0))]), (AE.c (AC.int (IntKind.i64) (10)))]) []))) := by kernel_rfl
theorem t_runB_14 (a b m r0 r1 r2 r3 r4 r5 r6 r7 pc : Int) (k : Res → Option Res) : runG Try.prog sR 100 17 [.e (.agg [.int .i64 14, .int .i64 a, .int .i64 b, .int .i64 m]), .e (.agg [.int .u64 r0, .int .u64 r1, .int .u64 r2, .int .u64 r3, .int .u64 r4, .int .u64 r5, .int .u64 r6, .int .u64 r7]), aint .i64 pc] [] k = (cond (decide (a ≥ 0)) (cond (decide (a ≤ 7)) (cond (decide (b ≥ 0)) (cond (decide (b ≤ 7)) (cond (decide (m ≥ 0)) (cond (!decide (m ≤ 4095)) (k (Res.mk (AV.tup [(AE.agg [(AC.int (IntKind.u64) (0)), (AC.int (IntKind.u64) (0)), (AC.int (IntKind.u64) (0)), (AC.int (IntKind.u64) (0)), (AC.int (IntKind.u64) (0)), (AC.int (IntKind.u64) (0)), (AC.int (IntKind.u64) (0)), (AC.int (IntKind.u64) (0)), (AC.int (IntKind.i64) (0)), (AC.int (IntKind.i64) (0)), (AC.int (IntKind.u64) (0)), (AC.int (IntKind.i64) (0)), (AC.int (IntKind.u64) (0))]), (AE.c (AC.int (IntKind.i64) (10)))]) [])) (cond (decide (pc < 0)) (k (Res.mk (AV.tup [(AE.agg [(AC.int (IntKind.u64) (0)), (AC.int (IntKind.u64) (0)), (AC.int (IntKind.u64) (0)), (AC.int (IntKind.u64) (0)), (AC.int (IntKind.u64) (0)), (AC.int (IntKind.u64) (0)), (AC.int (IntKind.u64) (0)), (AC.int (IntKind.u64) (0)), (AC.int (IntKind.i64) (0)), (AC.int (IntKind.i64) (0)), (AC.int (IntKind.u64) (0)), (AC.int (IntKind.i64) (0)), (AC.int (IntKind.u64) (0))]), (AE.c (AC.int (IntKind.i64) (1)))]) [])) (cond (decide (pc > 4095)) (k (Res.mk (AV.tup [(AE.agg [(AC.int (IntKind.u64) (0)), (AC.int (IntKind.u64) (0)), (AC.int (IntKind.u64) (0)), (AC.int (IntKind.u64) (0)), (AC.int (IntKind.u64) (0)), (AC.int (IntKind.u64) (0)), (AC.int (IntKind.u64) (0)), (AC.int (IntKind.u64) (0)), (AC.int (IntKind.i64) (0)), (AC.int (IntKind.i64) (0)), (AC.int (IntKind.u64) (0)), (AC.int (IntKind.i64) (0)), (AC.int (IntKind.u64) (0))]), (AE.c (AC.int (IntKind.i64) (1)))]) [])) (cond (decide (0 ≤ a) && decide (a < 8)) (cond (decide (Int.toNat a < List.length [r0, r1, r2, r3, r4, r5, r6, r7])) (cond (decide (0 ≤ b) && decide (b < 8)) (cond (decide (Int.toNat b < List.length [r0, r1, r2, r3, r4, r5, r6, r7])) (cond (List.getD [r0, r1, r2, r3, r4, r5, r6, r7] (Int.toNat a) 0 == 0) (k (Res.mk (AV.tup [(AE.agg [(AC.int (IntKind.u64) (r0)), (AC.int (IntKind.u64) (r1)), (AC.int (IntKind.u64) (r2)), (AC.int (IntKind.u64) (r3)), (AC.int (IntKind.u64) (r4)), (AC.int (IntKind.u64) (r5)), (AC.int (IntKind.u64) (r6)), (AC.int (IntKind.u64) (r7)), (AC.int (IntKind.i64) (m)), (AC.int (IntKind.i64) (0)), (AC.int (IntKind.u64) (0)), (AC.int (IntKind.i64) (0)), (AC.int (IntKind.u64) (0))]), (AE.c (AC.int (IntKind.i64) (0)))]) [])) (k (Res.mk (AV.tup [(AE.agg [(AC.int (IntKind.u64) (r0)), (AC.int (IntKind.u64) (r1)), (AC.int (IntKind.u64) (r2)), (AC.int (IntKind.u64) (r3)), (AC.int (IntKind.u64) (r4)), (AC.int (IntKind.u64) (r5)), (AC.int (IntKind.u64) (r6)), (AC.int (IntKind.u64) (r7)), (AC.int (IntKind.i64) (Int.tmod (IntKind.wrap IntKind.i64 (pc + 1)) 4096)), (AC.int (IntKind.i64) (0)), (AC.int (IntKind.u64) (0)), (AC.int (IntKind.i64) (0)), (AC.int (IntKind.u64) (0))]), (AE.c (AC.int (IntKind.i64) (0)))]) []))) none) none) none) none)))) (k (Res.mk (AV.tup [(AE.agg [(AC.int (IntKind.u64) (0)), (AC.int (IntKind.u64) (0)), (AC.int (IntKind.u64) (0)), (AC.int (IntKind.u64) (0)), (AC.int (IntKind.u64) (0)), (AC.int (IntKind.u64) (0)), (AC.int (IntKind.u64) (0)), (AC.int (IntKind.u64) (0)), (AC.int (IntKind.i64) (0)), (AC.int (IntKind.i64) (0)), (AC.int (IntKind.u64) (0)), (AC.int (IntKind.i64) (0)), (AC.int (IntKind.u64) (0))]), (AE.c (AC.int (IntKind.i64) (10)))]) []))) (k (Res.mk (AV.tup [(AE.agg [(AC.int (IntKind.u64) (0)), (AC.int (IntKind.u64) (0)), (AC.int (IntKind.u64) (0)), (AC.int (IntKind.u64) (0)), (AC.int (IntKind.u64) (0)), (AC.int (IntKind.u64) (0)), (AC.int (IntKind.u64) (0)), (AC.int (IntKind.u64) (0)), (AC.int (IntKind.i64) (0)), (AC.int (IntKind.i64) (0)), (AC.int (IntKind.u64) (0)), (AC.int (IntKind.i64) (0)), (AC.int (IntKind.u64) (0))]), (AE.c (AC.int (IntKind.i64) (10)))]) []))) (k (Res.mk (AV.tup [(AE.agg [(AC.int (IntKind.u64) (0)), (AC.int (IntKind.u64) (0)), (AC.int (IntKind.u64) (0)), (AC.int (IntKind.u64) (0)), (AC.int (IntKind.u64) (0)), (AC.int (IntKind.u64) (0)), (AC.int (IntKind.u64) (0)), (AC.int (IntKind.u64) (0)), (AC.int (IntKind.i64) (0)), (AC.int (IntKind.i64) (0)), (AC.int (IntKind.u64) (0)), (AC.int (IntKind.i64) (0)), (AC.int (IntKind.u64) (0))]), (AE.c (AC.int (IntKind.i64) (10)))]) []))) (k (Res.mk (AV.tup [(AE.agg [(AC.int (IntKind.u64) (0)), (AC.int (IntKind.u64) (0)), (AC.int (IntKind.u64) (0)), (AC.int (IntKind.u64) (0)), (AC.int (IntKind.u64) (0)), (AC.int (IntKind.u64) (0)), (AC.int (IntKind.u64) (0)), (AC.int (IntKind.u64) (0)), (AC.int (IntKind.i64) (0)), (AC.int (IntKind.i64) (0)), (AC.int (IntKind.u64) (0)), (AC.int (IntKind.i64) (0)), (AC.int (IntKind.u64) (0))]), (AE.c (AC.int (IntKind.i64) (10)))]) []))) (k (Res.mk (AV.tup [(AE.agg [(AC.int (IntKind.u64) (0)), (AC.int (IntKind.u64) (0)), (AC.int (IntKind.u64) (0)), (AC.int (IntKind.u64) (0)), (AC.int (IntKind.u64) (0)), (AC.int (IntKind.u64) (0)), (AC.int (IntKind.u64) (0)), (AC.int (IntKind.u64) (0)), (AC.int (IntKind.i64) (0)), (AC.int (IntKind.i64) (0)), (AC.int (IntKind.u64) (0)), (AC.int (IntKind.i64) (0)), (AC.int (IntKind.u64) (0))]), (AE.c (AC.int (IntKind.i64) (10)))]) []))) := by kernel_rfl
theorem t_runB_15 (a b m r0 r1 r2 r3 r4 r5 r6 r7 pc : Int) (k : Res → Option Res) : runG Try.prog sR 100 17 [.e (.agg [.int .i64 15, .int .i64 a, .int .i64 b, .int .i64 m]), .e (.agg [.int .u64 r0, .int .u64 r1, .int .u64 r2, .int .u64 r3, .int .u64 r4, .int .u64 r5, .int .u64 r6, .int .u64 r7]), aint .i64 pc] [] k = (cond (decide (a ≥ 0)) (cond (decide (a ≤ 7)) (cond (decide (b ≥ 0)) (cond (decide (b ≤ 7)) (cond (decide (m ≥ 0)) (cond (!decide (m ≤ 4095)) (k (Res.mk (AV.tup [(AE.agg [(AC.int (IntKind.u64) (0)), (AC.int (IntKind.u64) (0)), (AC.int (IntKind.u64) (0)), (AC.int (IntKind.u64) (0)), (AC.int (IntKind.u64) (0)), (AC.int (IntKind.u64) (0)), (AC.int (IntKind.u64) (0)), (AC.int (IntKind.u64) (0)), (AC.int (IntKind.i64) (0)), (AC.int (IntKind.i64) (0)), (AC.int (IntKind.u64) (0)), (AC.int (IntKind.i64) (0)), (AC.int (IntKind.u64) (0))]), (AE.c (AC.int (IntKind.i64) (10)))]) [])) (cond (decide (pc < 0)) (k (Res.mk (AV.tup [(AE.agg [(AC.int (IntKind.u64) (0)), (AC.int (IntKind.u64) (0)), (AC.int (IntKind.u64) (0)), (AC.int (IntKind.u64) (0)), (AC.int (IntKind.u64) (0)), (AC.int (IntKind.u64) (0)), (AC.int (IntKind.u64) (0)), (AC.int (IntKind.u64) (0)), (AC.int (IntKind.i64) (0)), (AC.int (IntKind.i64) (0)), (AC.int (IntKind.u64) (0)), (AC.int (IntKind.i64) (0)), (AC.int (IntKind.u64) (0))]), (AE.c (AC.int (IntKind.i64) (1)))]) [])) (cond (decide (pc > 4095)) (k (Res.mk (AV.tup [(AE.agg [(AC.int (IntKind.u64) (0)), (AC.int (IntKind.u64) (0)), (AC.int (IntKind.u64) (0)), (AC.int (IntKind.u64) (0)), (AC.int (IntKind.u64) (0)), (AC.int (IntKind.u64) (0)), (AC.int (IntKind.u64) (0)), (AC.int (IntKind.u64) (0)), (AC.int (IntKind.i64) (0)), (AC.int (IntKind.i64) (0)), (AC.int (IntKind.u64) (0)), (AC.int (IntKind.i64) (0)), (AC.int (IntKind.u64) (0))]), (AE.c (AC.int (IntKind.i64) (1)))]) [])) (cond (decide (0 ≤ a) && decide (a < 8)) (cond (decide (Int.toNat a < List.length [r0, r1, r2, r3, r4, r5, r6, r7])) (cond (decide (0 ≤ b) && decide (b < 8)) (cond (decide (Int.toNat b < List.length [r0, r1, r2, r3, r4, r5, r6, r7])) (cond (decide (List.getD [r0, r1, r2, r3, r4, r5, r6, r7] (Int.toNat a) 0 < List.getD [r0, r1, r2, r3, r4, r5, r6, r7] (Int.toNat b) 0)) (k (Res.mk (AV.tup [(AE.agg [(AC.int (IntKind.u64) (r0)), (AC.int (IntKind.u64) (r1)), (AC.int (IntKind.u64) (r2)), (AC.int (IntKind.u64) (r3)), (AC.int (IntKind.u64) (r4)), (AC.int (IntKind.u64) (r5)), (AC.int (IntKind.u64) (r6)), (AC.int (IntKind.u64) (r7)), (AC.int (IntKind.i64) (m)), (AC.int (IntKind.i64) (0)), (AC.int (IntKind.u64) (0)), (AC.int (IntKind.i64) (0)), (AC.int (IntKind.u64) (0))]), (AE.c (AC.int (IntKind.i64) (0)))]) [])) (k (Res.mk (AV.tup [(AE.agg [(AC.int (IntKind.u64) (r0)), (AC.int (IntKind.u64) (r1)), (AC.int (IntKind.u64) (r2)), (AC.int (IntKind.u64) (r3)), (AC.int (IntKind.u64) (r4)), (AC.int (IntKind.u64) (r5)), (AC.int (IntKind.u64) (r6)), (AC.int (IntKind.u64) (r7)), (AC.int (IntKind.i64) (Int.tmod (IntKind.wrap IntKind.i64 (pc + 1)) 4096)), (AC.int (IntKind.i64) (0)), (AC.int (IntKind.u64) (0)), (AC.int (IntKind.i64) (0)), (AC.int (IntKind.u64) (0))]), (AE.c (AC.int (IntKind.i64) (0)))]) []))) none) none) none) none)))) (k (Res.mk (AV.tup [(AE.agg [(AC.int (IntKind.u64) (0)), (AC.int (IntKind.u64) (0)), (AC.int (IntKind.u64) (0)), (AC.int (IntKind.u64) (0)), (AC.int (IntKind.u64) (0)), (AC.int (IntKind.u64) (0)), (AC.int (IntKind.u64) (0)), (AC.int (IntKind.u64) (0)), (AC.int (IntKind.i64) (0)), (AC.int (IntKind.i64) (0)), (AC.int (IntKind.u64) (0)), (AC.int (IntKind.i64) (0)), (AC.int (IntKind.u64) (0))]), (AE.c (AC.int (IntKind.i64) (10)))]) []))) (k (Res.mk (AV.tup [(AE.agg [(AC.int (IntKind.u64) (0)), (AC.int (IntKind.u64) (0)), (AC.int (IntKind.u64) (0)), (AC.int (IntKind.u64) (0)), (AC.int (IntKind.u64) (0)), (AC.int (IntKind.u64) (0)), (AC.int (IntKind.u64) (0)), (AC.int (IntKind.u64) (0)), (AC.int (IntKind.i64) (0)), (AC.int (IntKind.i64) (0)), (AC.int (IntKind.u64) (0)), (AC.int (IntKind.i64) (0)), (AC.int (IntKind.u64) (0))]), (AE.c (AC.int (IntKind.i64) (10)))]) []))) (k (Res.mk (AV.tup [(AE.agg [(AC.int (IntKind.u64) (0)), (AC.int (IntKind.u64) (0)), (AC.int (IntKind.u64) (0)), (AC.int (IntKind.u64) (0)), (AC.int (IntKind.u64) (0)), (AC.int (IntKind.u64) (0)), (AC.int (IntKind.u64) (0)), (AC.int (IntKind.u64) (0)), (AC.int (IntKind.i64) (0)), (AC.int (IntKind.i64) (0)), (AC.int (IntKind.u64) (0)), (AC.int (IntKind.i64) (0)), (AC.int (IntKind.u64) (0))]), (AE.c (AC.int (IntKind.i64) (10)))]) []))) (k (Res.mk (AV.tup [(AE.agg [(AC.int (IntKind.u64) (0)), (AC.int (IntKind.u64) (0)), (AC.int (IntKind.u64) (0)), (AC.int (IntKind.u64) (0)), (AC.int (IntKind.u64) (0)), (AC.int (IntKind.u64) (0)), (AC.int (IntKind.u64) (0)), (AC.int (IntKind.u64) (0)), (AC.int (IntKind.i64) (0)), (AC.int (IntKind.i64) (0)), (AC.int (IntKind.u64) (0)), (AC.int (IntKind.i64) (0)), (AC.int (IntKind.u64) (0))]), (AE.c (AC.int (IntKind.i64) (10)))]) []))) (k (Res.mk (AV.tup [(AE.agg [(AC.int (IntKind.u64) (0)), (AC.int (IntKind.u64) (0)), (AC.int (IntKind.u64) (0)), (AC.int (IntKind.u64) (0)), (AC.int (IntKind.u64) (0)), (AC.int (IntKind.u64) (0)), (AC.int (IntKind.u64) (0)), (AC.int (IntKind.u64) (0)), (AC.int (IntKind.i64) (0)), (AC.int (IntKind.i64) (0)), (AC.int (IntKind.u64) (0)), (AC.int (IntKind.i64) (0)), (AC.int (IntKind.u64) (0))]), (AE.c (AC.int (IntKind.i64) (10)))]) []))) := by kernel_rfl
theorem t_runB_16 (a b m r0 r1 r2 r3 r4 r5 r6 r7 pc : Int) (k : Res → Option Res) : runG Try.prog sR 100 17 [.e (.agg [.int .i64 16, .int .i64 a, .int .i64 b, .int .i64 m]), .e (.agg [.int .u64 r0, .int .u64 r1, .int .u64 r2, .int .u64 r3, .int .u64 r4, .int .u64 r5, .int .u64 r6, .int .u64 r7]), aint .i64 pc] [] k = (cond (decide (a ≥ 0)) (cond (decide (a ≤ 7)) (cond (decide (b ≥ 0)) (cond (decide (b ≤ 7)) (cond (decide (m ≥ 0)) (cond (!decide (m ≤ 4095)) (k (Res.mk (AV.tup [(AE.agg [(AC.int (IntKind.u64) (0)), (AC.int (IntKind.u64) (0)), (AC.int (IntKind.u64) (0)), (AC.int (IntKind.u64) (0)), (AC.int (IntKind.u64) (0)), (AC.int (IntKind.u64) (0)), (AC.int (IntKind.u64) (0)), (AC.int (IntKind.u64) (0)), (AC.int (IntKind.i64) (0)), (AC.int (IntKind.i64) (0)), (AC.int (IntKind.u64) (0)), (AC.int (IntKind.i64) (0)), (AC.int (IntKind.u64) (0))]), (AE.c (AC.int (IntKind.i64) (10)))]) [])) (cond (decide (pc < 0)) (k (Res.mk (AV.tup [(AE.agg [(AC.int (IntKind.u64) (0)), (AC.int (IntKind.u64) (0)), (AC.int (IntKind.u64) (0)), (AC.int (IntKind.u64) (0)), (AC.int (IntKind.u64) (0)), (AC.int (IntKind.u64) (0)), (AC.int (IntKind.u64) (0)), (AC.int (IntKind.u64) (0)), (AC.int (IntKind.i64) (0)), (AC.int (IntKind.i64) (0)), (AC.int (IntKind.u64) (0)), (AC.int (IntKind.i64) (0)), (AC.int (IntKind.u64) (0))]), (AE.c (AC.int (IntKind.i64) (1)))]) [])) (cond (decide (pc > 4095)) (k (Res.mk (AV.tup [(AE.agg [(AC.int (IntKind.u64) (0)), (AC.int (IntKind.u64) (0)), (AC.int (IntKind.u64) (0)), (AC.int (IntKind.u64) (0)), (AC.int (IntKind.u64) (0)), (AC.int (IntKind.u64) (0)), (AC.int (IntKind.u64) (0)), (AC.int (IntKind.u64) (0)), (AC.int (IntKind.i64) (0)), (AC.int (IntKind.i64) (0)), (AC.int (IntKind.u64) (0)), (AC.int (IntKind.i64) (0)), (AC.int (IntKind.u64) (0))]), (AE.c (AC.int (IntKind.i64) (1)))]) [])) (cond (decide (0 ≤ a) && decide (a < 8)) (cond (decide (Int.toNat a < List.length [r0, r1, r2, r3, r4, r5, r6, r7])) (cond (decide (0 ≤ b) && decide (b < 8)) (cond (decide (Int.toNat b < List.length [r0, r1, r2, r3, r4, r5, r6, r7])) (k (Res.mk (AV.tup [(AE.agg [(AC.int (IntKind.u64) (r0)), (AC.int (IntKind.u64) (r1)), (AC.int (IntKind.u64) (r2)), (AC.int (IntKind.u64) (r3)), (AC.int (IntKind.u64) (r4)), (AC.int (IntKind.u64) (r5)), (AC.int (IntKind.u64) (r6)), (AC.int (IntKind.u64) (r7)), (AC.int (IntKind.i64) (Int.tmod (IntKind.wrap IntKind.i64 (pc + 1)) 4096)), (AC.int (IntKind.i64) (3)), (AC.int (IntKind.u64) (0)), (AC.int (IntKind.i64) (0)), (AC.int (IntKind.u64) (IntKind.wrap IntKind.u64 m))]), (AE.c (AC.int (IntKind.i64) (0)))]) [])) none) none) none) none)))) (k (Res.mk (AV.tup [(AE.agg [(AC.int (IntKind.u64) (0)), (AC.int (IntKind.u64) (0)), (AC.int (IntKind.u64) (0)), (AC.int (IntKind.u64) (0)), (AC.int (IntKind.u64) (0)), (AC.int (IntKind.u64) (0)), (AC.int (IntKind.u64) (0)), (AC.int (IntKind.u64) (0)), (AC.int (IntKind.i64) (0)), (AC.int (IntKind.i64) (0)), (AC.int (IntKind.u64) (0)), (AC.int (IntKind.i64) (0)), (AC.int (IntKind.u64) (0))]), (AE.c (AC.int (IntKind.i64) (10)))]) []))) (k (Res.mk (AV.tup [(AE.agg [(AC.int (IntKind.u64) (0)), (AC.int (IntKind.u64) (0)), (AC.int (IntKind.u64) (0)), (AC.int (IntKind.u64) (0)), (AC.int (IntKind.u64) (0)), (AC.int (IntKind.u64) (0)), (AC.int (IntKind.u64) (0)), (AC.int (IntKind.u64) (0)), (AC.int (IntKind.i64) (0)), (AC.int (IntKind.i64) (0)), (AC.int (IntKind.u64) (0)), (AC.int (IntKind.i64) (0)), (AC.int (IntKind.u64) (0))]), (AE.c (AC.int (IntKind.i64) (10)))]) []))) (k (Res.mk (AV.tup [(AE.agg [(AC.int (IntKind.u64) (0)), (AC.int (IntKind.u64) (0)), (AC.int (IntKind.u64) (0)), (AC.int (IntKind.u64) (0)), (AC.int (IntKind.u64) (0)), (AC.int (IntKind.u64) (0)), (AC.int (IntKind.u64) (0)), (AC.int (IntKind.u64) (0)), (AC.int (IntKind.i64) (0)), (AC.int (IntKind.i64) (0)), (AC.int (IntKind.u64) (0)), (AC.int (IntKind.i64) (0)), (AC.int (IntKind.u64) (0))]), (AE.c (AC.int (IntKind.i64) (10)))]) []))) (k (Res.mk (AV.tup [(AE.agg [(AC.int (IntKind.u64) (0)), (AC.int (IntKind.u64) (0)), (AC.int (IntKind.u64) (0)), (AC.int (IntKind.u64) (0)), (AC.int (IntKind.u64) (0)), (AC.int (IntKind.u64) (0)), (AC.int (IntKind.u64) (0)), (AC.int (IntKind.u64) (0)), (AC.int (IntKind.i64) (0)), (AC.int (IntKind.i64) (0)), (AC.int (IntKind.u64) (0)), (AC.int (IntKind.i64) (0)), (AC.int (IntKind.u64) (0))]), (AE.c (AC.int (IntKind.i64) (10)))]) []))) (k (Res.mk (AV.tup [(AE.agg [(AC.int (IntKind.u64) (0)), (AC.int (IntKind.u64) (0)), (AC.int (IntKind.u64) (0)), (AC.int (IntKind.u64) (0)), (AC.int (IntKind.u64) (0)), (AC.int (IntKind.u64) (0)), (AC.int (IntKind.u64) (0)), (AC.int (IntKind.u64) (0)), (AC.int (IntKind.i64) (0)), (AC.int (IntKind.i64) (0)), (AC.int (IntKind.u64) (0)), (AC.int (IntKind.i64) (0)), (AC.int (IntKind.u64) (0))]), (AE.c (AC.int (IntKind.i64) (10)))]) []))) := by kernel_rfl
theorem t_runB_17 (a b m r0 r1 r2 r3 r4 r5 r6 r7 pc : Int) (k : Res → Option Res) : runG Try.prog sR 100 17 [.e (.agg [.int .i64 17, .int .i64 a, .int .i64 b, .int .i64 m]), .e (.agg [.int .u64 r0, .int .u64 r1, .int .u64 r2, .int .u64 r3, .int .u64 r4, .int .u64 r5, .int .u64 r6, .int .u64 r7]), aint .i64 pc] [] k = (cond (decide (a ≥ 0)) (cond (decide (a ≤ 7)) (cond (decide (b ≥ 0)) (cond (decide (b ≤ 7)) (cond (decide (m ≥ 0)) (cond (!decide (m ≤ 4095)) (k (Res.mk (AV.tup [(AE.agg [(AC.int (IntKind.u64) (0)), (AC.int (IntKind.u64) (0)), (AC.int (IntKind.u64) (0)), (AC.int (IntKind.u64) (0)), (AC.int (IntKind.u64) (0)), (AC.int (IntKind.u64) (0)), (AC.int (IntKind.u64) (0)), (AC.int (IntKind.u64) (0)), (AC.int (IntKind.i64) (0)), (AC.int (IntKind.i64) (0)), (AC.int (IntKind.u64) (0)), (AC.int (IntKind.i64) (0)), (AC.int (IntKind.u64) (0))]), (AE.c (AC.int (IntKind.i64) (10)))]) [])) (cond (decide (pc < 0)) (k (Res.mk (AV.tup [(AE.agg [(AC.int (IntKind.u64) (0)), (AC.int (IntKind.u64) (0)), (AC.int (IntKind.u64) (0)), (AC.int (IntKind.u64) (0)), (AC.int (IntKind.u64) (0)), (AC.int (IntKind.u64) (0)), (AC.int (IntKind.u64) (0)), (AC.int (IntKind.u64) (0)), (AC.int (IntKind.i64) (0)), (AC.int (IntKind.i64) (0)), (AC.int (IntKind.u64) (0)), (AC.int (IntKind.i64) (0)), (AC.int (IntKind.u64) (0))]), (AE.c (AC.int (IntKind.i64) (1)))]) [])) (cond (decide (pc > 4095)) (k (Res.mk (AV.tup [(AE.agg [(AC.int (IntKind.u64) (0)), (AC.int (IntKind.u64) (0)), (AC.int (IntKind.u64) (0)), (AC.int (IntKind.u64) (0)), (AC.int (IntKind.u64) (0)), (AC.int (IntKind.u64) (0)), (AC.int (IntKind.u64) (0)), (AC.int (IntKind.u64) (0)), (AC.int (IntKind.i64) (0)), (AC.int (IntKind.i64) (0)), (AC.int (IntKind.u64) (0)), (AC.int (IntKind.i64) (0)), (AC.int (IntKind.u64) (0))]), (AE.c (AC.int (IntKind.i64) (1)))]) [])) (cond (decide (0 ≤ a) && decide (a < 8)) (cond (decide (Int.toNat a < List.length [r0, r1, r2, r3, r4, r5, r6, r7])) (cond (decide (0 ≤ b) && decide (b < 8)) (cond (decide (Int.toNat b < List.length [r0, r1, r2, r3, r4, r5, r6, r7])) (cond (decide (0 ≤ a) && decide (a < 8)) (cond (decide (Int.toNat a < List.length [r0, r1, r2, r3, r4, r5, r6, r7]) && true) (k (Res.mk (AV.tup [(AE.agg [(AC.int (IntKind.u64) (if Int.toNat a = 0 then IntKind.wrap IntKind.u64 (IntKind.wrap IntKind.u64 (List.getD [r0, r1, r2, r3, r4, r5, r6, r7] (Int.toNat a) 0 * 4096) + IntKind.wrap IntKind.u64 m) else r0)), (AC.int (IntKind.u64) (if Int.toNat a = 1 then IntKind.wrap IntKind.u64 (IntKind.wrap IntKind.u64 (List.getD [r0, r1, r2, r3, r4, r5, r6, r7] (Int.toNat a) 0 * 4096) + IntKind.wrap IntKind.u64 m) else r1)), (AC.int (IntKind.u64) (if Int.toNat a = 2 then IntKind.wrap IntKind.u64 (IntKind.wrap IntKind.u64 (List.getD [r0, r1, r2, r3, r4, r5, r6, r7] (Int.toNat a) 0 * 4096) + IntKind.wrap IntKind.u64 m) else r2)), (AC.int (IntKind.u64) (if Int.toNat a = 3 then IntKind.wrap IntKind.u64 (IntKind.wrap IntKind.u64 (List.getD [r0, r1, r2, r3, r4, r5, r6, r7] (Int.toNat a) 0 * 4096) + IntKind.wrap IntKind.u64 m) else r3)), (AC.int (IntKind.u64) (if Int.toNat a = 4 then IntKind.wrap IntKind.u64 (IntKind.wrap IntKind.u64 (List.getD [r0, r1, r2, r3, r4, r5, r6, r7] (Int.toNat a) 0 * 4096) + IntKind.wrap IntKind.u64 m) else r4)), (AC.int (IntKind.u64) (if Int.toNat a = 5 then IntKind.wrap IntKind.u64 (IntKind.wrap IntKind.u64 (List.getD [r0, r1, r2, r3, r4, r5, r6, r7] (Int.toNat a) 0 * 4096) + IntKind.wrap IntKind.u64 m) else r5)), (AC.int (IntKind.u64) (if Int.toNat a = 6 then IntKind.wrap IntKind.u64 (IntKind.wrap IntKind.u64 (List.getD [r0, r1, r2, r3, r4, r5, r6, r7] (Int.toNat a) 0 * 4096) + IntKind.wrap IntKind.u64 m) else r6)), (AC.int (IntKind.u64) (if Int.toNat a = 7 then IntKind.wrap IntKind.u64 (IntKind.wrap IntKind.u64 (List.getD [r0, r1, r2, r3, r4, r5, r6, r7] (Int.toNat a) 0 * 4096) + IntKind.wrap IntKind.u64 m) else r7)), (AC.int (IntKind.i64) (Int.tmod (IntKind.wrap IntKind.i64 (pc + 1)) 4096)), (AC.int (IntKind.i64) (0)), (AC.int (IntKind.u64) (0)), (AC.int (IntKind.i64) (0)), (AC.int (IntKind.u64) (0))]), (AE.c (AC.int (IntKind.i64) (0)))]) [])) none) none) none) none) none) none)))) (k (Res.mk (AV.tup [(AE.agg [(AC.int (IntKind.u64) (0)), (AC.int (IntKind.u64) (0)), (AC.int (IntKind.u64) (0)), (AC.int (IntKind.u64) (0)), (AC.int (IntKind.u64) (0)), (AC.int (IntKind.u64) (0)), (AC.int (IntKind.u64) (0)), (AC.int (IntKind.u64) (0)), (AC.int (IntKind.i64) (0)), (AC.int (IntKind.i64) (0)), (AC.int (IntKind.u64) (0)), (AC.int (IntKind.i64) (0)), (AC.int (IntKind.u64) (0))]), (AE.c (AC.int (IntKind.i64) (10)))]) []))) (k (Res.mk (AV.tup [(AE.agg [(AC.int (IntKind.u64) (0)), (AC.int (IntKind.u64) (0)), (AC.int (IntKind.u64) (0)), (AC.int (IntKind.u64) (0)), (AC.int (IntKind.u64) (0)), (AC.int (IntKind.u64) (0)), (AC.int (IntKind.u64) (0)), (AC.int (IntKind.u64) (0)), (AC.int (IntKind.i64) (0)), (AC.int (IntKind.i64) (0)), (AC.int (IntKind.u64) (0)), (AC.int (IntKind.i64) (0)), (AC.int (IntKind.u64) (0))]), (AE.c (AC.int (IntKind.i64) (10)))]) []))) (k (Res.mk (AV.tup [(AE.agg [(AC.int (IntKind.u64) (0)), (AC.int (IntKind.u64) (0)), (AC.int (IntKind.u64) (0)), (AC.int (IntKind.u64) (0)), (AC.int (IntKind.u64) (0)), (AC.int (IntKind.u64) (0)), (AC.int (IntKind.u64) (0)), (AC.int (IntKind.u64) (0)), (AC.int (IntKind.i64) (0)), (AC.int (IntKind.i64) (0)), (AC.int (IntKind.u64) (0)), (AC.int (IntKind.i64) (0)), (AC.int (IntKind.u64) (0))]), (AE.c (AC.int (IntKind.i64) (10)))]) []))) (k (Res.mk (AV.tup [(AE.agg [(AC.int (IntKind.u64) (0)), (AC.int (IntKind.u64) (0)), (AC.int (IntKind.u64) (0)), (AC.int (IntKind.u64) (0)), (AC.int (IntKind.u64) (0)), (AC.int (IntKind.u64) (0)), (AC.int (IntKind.u64) (0)), (AC.int (IntKind.u64) (0)), (AC.int (IntKind.i64) (0)), (AC.int (IntKind.i64) (0)), (AC.int (IntKind.u64) (0)), (AC.int (IntKind.i64) (0)), (AC.int (IntKind.u64) (0))]), (AE.c (AC.int (IntKind.i64) (10)))]) []))) (k (Res.mk (AV.tup [(AE.agg [(AC.int (IntKind.u64) (0)), (AC.int (IntKind.u64) (0)), (AC.int (IntKind.u64) (0)), (AC.int (IntKind.u64) (0)), (AC.int (IntKind.u64) (0)), (AC.int (IntKind.u64) (0)), (AC.int (IntKind.u64) (0)), (AC.int (IntKind.u64) (0)), (AC.int (IntKind.i64) (0)), (AC.int (IntKind.i64) (0)), (AC.int (IntKind.u64) (0)), (AC.int (IntKind.i64) (0)), (AC.int (IntKind.u64) (0))]), (AE.c (AC.int (IntKind.i64) (10)))]) []))) := by kernel_rfl
theorem runB_0 (a b m r0 r1 r2 r3 r4 r5 r6 r7 pc : Int) (k : Res → Option Res) (h1 : inI a = true) (h2 : inI b = true) (h3 : inI m = true) (w : words [r0, r1, r2, r3, r4, r5, r6, r7] = true) : runG Try.prog sR 100 17 [.e (.agg [.int .i64 0, .int .i64 a, .int .i64 b, .int .i64 m]), .e (.agg [.int .u64 r0, .int .u64 r1, .int .u64 r2, .int .u64 r3, .int .u64 r4, .int .u64 r5, .int .u64 r6, .int .u64 r7]), aint .i64 pc] [] k = effK 0 a b m r0 r1 r2 r3 r4 r5 r6 r7 pc k := by
  refine (t_runB_0 a b m r0 r1 r2 r3 r4 r5 r6 r7 pc k).trans ?_
  by_cases ok : packOk 0 a b m = true
  · obtain ⟨a0, a1, b0, b1, m0, m1⟩ := packOk_lits ok
    rw [decide_eq_true (show a ≥ 0 from a0), decide_eq_true a1, decide_eq_true (show b ≥ 0 from b0), decide_eq_true b1, decide_eq_true (show m ≥ 0 from m0), decide_eq_true m1]
    simp only [Bool.not_true, cond_true, cond_false]
    by_cases p0 : pc < 0
    · have pl : place pc = false := by simp [place]; omega
      simp only [effK, ok, pl, decide_eq_true p0, cond_true]
      rfl
    by_cases p1 : pc > 4095
    · have pl : place pc = false := by simp [place]; omega
      simp only [effK, ok, pl, decide_eq_false p0, decide_eq_true p1, cond_true, cond_false]
      rfl
    have pl : place pc = true := by simp [place]; omega
    have A0 : decide (0 ≤ a) = true := decide_eq_true a0
    have A1 : decide (a < ((8 : Nat) : Int)) = true := decide_eq_true (by omega)
    have A2 : decide (a < 8) = true := decide_eq_true (by omega)
    have B2 : decide (b < 8) = true := decide_eq_true (by omega)
    have B0 : decide (0 ≤ b) = true := decide_eq_true b0
    have B1 : decide (b < ((8 : Nat) : Int)) = true := decide_eq_true (by omega)
    have LA : decide (Int.toNat a < List.length [r0, r1, r2, r3, r4, r5, r6, r7]) = true := decide_eq_true (by show Int.toNat a < 8; omega)
    have LB : decide (Int.toNat b < List.length [r0, r1, r2, r3, r4, r5, r6, r7]) = true := decide_eq_true (by show Int.toNat b < 8; omega)
    have SH : decide (¬ Int.tmod (List.getD [r0, r1, r2, r3, r4, r5, r6, r7] (Int.toNat b) 0) 64 < 0) = true := decide_eq_true (by rw [Int.tmod_eq_emod_of_nonneg (rd_word w _).1]; omega)
    simp only [effK, ok, pl, decide_eq_false p0, decide_eq_false p1, A0, A1, A2, B0, B1, B2, LA, LB, SH, Bool.and_self, cond_true, cond_false]
    rfl
  · have ok2 : packOk 0 a b m = false := by simpa using ok
    have bad : effK 0 a b m r0 r1 r2 r3 r4 r5 r6 r7 pc k = k (badR 10) := by simp only [effK, ok2]
    rw [bad]
    by_cases c1 : a ≥ 0
    rotate_left
    · simp only [decide_eq_false c1, Bool.not_false, cond_true, cond_false]; rfl
    by_cases c2 : a ≤ 7
    rotate_left
    · simp only [decide_eq_true c1, decide_eq_false c2, Bool.not_false, cond_true, cond_false]; rfl
    by_cases c3 : b ≥ 0
    rotate_left
    · simp only [decide_eq_true c1, decide_eq_true c2, decide_eq_false c3, Bool.not_false, cond_true, cond_false]; rfl
    by_cases c4 : b ≤ 7
    rotate_left
    · simp only [decide_eq_true c1, decide_eq_true c2, decide_eq_true c3, decide_eq_false c4, Bool.not_false, cond_true, cond_false]; rfl
    by_cases c5 : m ≥ 0
    rotate_left
    · simp only [decide_eq_true c1, decide_eq_true c2, decide_eq_true c3, decide_eq_true c4, decide_eq_false c5, Bool.not_false, cond_true, cond_false]; rfl
    by_cases c6 : m ≤ 4095
    rotate_left
    · simp only [decide_eq_true c1, decide_eq_true c2, decide_eq_true c3, decide_eq_true c4, decide_eq_true c5, decide_eq_false c6, Bool.not_false, cond_true, cond_false]; rfl
    exact absurd (by simp only [packOk, Bool.and_eq_true, decide_eq_true_eq]; omega) ok
theorem runB_1 (a b m r0 r1 r2 r3 r4 r5 r6 r7 pc : Int) (k : Res → Option Res) (h1 : inI a = true) (h2 : inI b = true) (h3 : inI m = true) (w : words [r0, r1, r2, r3, r4, r5, r6, r7] = true) : runG Try.prog sR 100 17 [.e (.agg [.int .i64 1, .int .i64 a, .int .i64 b, .int .i64 m]), .e (.agg [.int .u64 r0, .int .u64 r1, .int .u64 r2, .int .u64 r3, .int .u64 r4, .int .u64 r5, .int .u64 r6, .int .u64 r7]), aint .i64 pc] [] k = effK 1 a b m r0 r1 r2 r3 r4 r5 r6 r7 pc k := by
  refine (t_runB_1 a b m r0 r1 r2 r3 r4 r5 r6 r7 pc k).trans ?_
  by_cases ok : packOk 1 a b m = true
  · obtain ⟨a0, a1, b0, b1, m0, m1⟩ := packOk_lits ok
    rw [decide_eq_true (show a ≥ 0 from a0), decide_eq_true a1, decide_eq_true (show b ≥ 0 from b0), decide_eq_true b1, decide_eq_true (show m ≥ 0 from m0), decide_eq_true m1]
    simp only [Bool.not_true, cond_true, cond_false]
    by_cases p0 : pc < 0
    · have pl : place pc = false := by simp [place]; omega
      simp only [effK, ok, pl, decide_eq_true p0, cond_true]
      rfl
    by_cases p1 : pc > 4095
    · have pl : place pc = false := by simp [place]; omega
      simp only [effK, ok, pl, decide_eq_false p0, decide_eq_true p1, cond_true, cond_false]
      rfl
    have pl : place pc = true := by simp [place]; omega
    have A0 : decide (0 ≤ a) = true := decide_eq_true a0
    have A1 : decide (a < ((8 : Nat) : Int)) = true := decide_eq_true (by omega)
    have A2 : decide (a < 8) = true := decide_eq_true (by omega)
    have B2 : decide (b < 8) = true := decide_eq_true (by omega)
    have B0 : decide (0 ≤ b) = true := decide_eq_true b0
    have B1 : decide (b < ((8 : Nat) : Int)) = true := decide_eq_true (by omega)
    have LA : decide (Int.toNat a < List.length [r0, r1, r2, r3, r4, r5, r6, r7]) = true := decide_eq_true (by show Int.toNat a < 8; omega)
    have LB : decide (Int.toNat b < List.length [r0, r1, r2, r3, r4, r5, r6, r7]) = true := decide_eq_true (by show Int.toNat b < 8; omega)
    have SH : decide (¬ Int.tmod (List.getD [r0, r1, r2, r3, r4, r5, r6, r7] (Int.toNat b) 0) 64 < 0) = true := decide_eq_true (by rw [Int.tmod_eq_emod_of_nonneg (rd_word w _).1]; omega)
    simp only [effK, ok, pl, decide_eq_false p0, decide_eq_false p1, A0, A1, A2, B0, B1, B2, LA, LB, SH, Bool.and_self, cond_true, cond_false]
    rfl
  · have ok2 : packOk 1 a b m = false := by simpa using ok
    have bad : effK 1 a b m r0 r1 r2 r3 r4 r5 r6 r7 pc k = k (badR 10) := by simp only [effK, ok2]
    rw [bad]
    by_cases c1 : a ≥ 0
    rotate_left
    · simp only [decide_eq_false c1, Bool.not_false, cond_true, cond_false]; rfl
    by_cases c2 : a ≤ 7
    rotate_left
    · simp only [decide_eq_true c1, decide_eq_false c2, Bool.not_false, cond_true, cond_false]; rfl
    by_cases c3 : b ≥ 0
    rotate_left
    · simp only [decide_eq_true c1, decide_eq_true c2, decide_eq_false c3, Bool.not_false, cond_true, cond_false]; rfl
    by_cases c4 : b ≤ 7
    rotate_left
    · simp only [decide_eq_true c1, decide_eq_true c2, decide_eq_true c3, decide_eq_false c4, Bool.not_false, cond_true, cond_false]; rfl
    by_cases c5 : m ≥ 0
    rotate_left
    · simp only [decide_eq_true c1, decide_eq_true c2, decide_eq_true c3, decide_eq_true c4, decide_eq_false c5, Bool.not_false, cond_true, cond_false]; rfl
    by_cases c6 : m ≤ 4095
    rotate_left
    · simp only [decide_eq_true c1, decide_eq_true c2, decide_eq_true c3, decide_eq_true c4, decide_eq_true c5, decide_eq_false c6, Bool.not_false, cond_true, cond_false]; rfl
    exact absurd (by simp only [packOk, Bool.and_eq_true, decide_eq_true_eq]; omega) ok
theorem runB_2 (a b m r0 r1 r2 r3 r4 r5 r6 r7 pc : Int) (k : Res → Option Res) (h1 : inI a = true) (h2 : inI b = true) (h3 : inI m = true) (w : words [r0, r1, r2, r3, r4, r5, r6, r7] = true) : runG Try.prog sR 100 17 [.e (.agg [.int .i64 2, .int .i64 a, .int .i64 b, .int .i64 m]), .e (.agg [.int .u64 r0, .int .u64 r1, .int .u64 r2, .int .u64 r3, .int .u64 r4, .int .u64 r5, .int .u64 r6, .int .u64 r7]), aint .i64 pc] [] k = effK 2 a b m r0 r1 r2 r3 r4 r5 r6 r7 pc k := by
  refine (t_runB_2 a b m r0 r1 r2 r3 r4 r5 r6 r7 pc k).trans ?_
  by_cases ok : packOk 2 a b m = true
  · obtain ⟨a0, a1, b0, b1, m0, m1⟩ := packOk_lits ok
    rw [decide_eq_true (show a ≥ 0 from a0), decide_eq_true a1, decide_eq_true (show b ≥ 0 from b0), decide_eq_true b1, decide_eq_true (show m ≥ 0 from m0), decide_eq_true m1]
    simp only [Bool.not_true, cond_true, cond_false]
    by_cases p0 : pc < 0
    · have pl : place pc = false := by simp [place]; omega
      simp only [effK, ok, pl, decide_eq_true p0, cond_true]
      rfl
    by_cases p1 : pc > 4095
    · have pl : place pc = false := by simp [place]; omega
      simp only [effK, ok, pl, decide_eq_false p0, decide_eq_true p1, cond_true, cond_false]
      rfl
    have pl : place pc = true := by simp [place]; omega
    have A0 : decide (0 ≤ a) = true := decide_eq_true a0
    have A1 : decide (a < ((8 : Nat) : Int)) = true := decide_eq_true (by omega)
    have A2 : decide (a < 8) = true := decide_eq_true (by omega)
    have B2 : decide (b < 8) = true := decide_eq_true (by omega)
    have B0 : decide (0 ≤ b) = true := decide_eq_true b0
    have B1 : decide (b < ((8 : Nat) : Int)) = true := decide_eq_true (by omega)
    have LA : decide (Int.toNat a < List.length [r0, r1, r2, r3, r4, r5, r6, r7]) = true := decide_eq_true (by show Int.toNat a < 8; omega)
    have LB : decide (Int.toNat b < List.length [r0, r1, r2, r3, r4, r5, r6, r7]) = true := decide_eq_true (by show Int.toNat b < 8; omega)
    have SH : decide (¬ Int.tmod (List.getD [r0, r1, r2, r3, r4, r5, r6, r7] (Int.toNat b) 0) 64 < 0) = true := decide_eq_true (by rw [Int.tmod_eq_emod_of_nonneg (rd_word w _).1]; omega)
    simp only [effK, ok, pl, decide_eq_false p0, decide_eq_false p1, A0, A1, A2, B0, B1, B2, LA, LB, SH, Bool.and_self, cond_true, cond_false]
    rfl
  · have ok2 : packOk 2 a b m = false := by simpa using ok
    have bad : effK 2 a b m r0 r1 r2 r3 r4 r5 r6 r7 pc k = k (badR 10) := by simp only [effK, ok2]
    rw [bad]
    by_cases c1 : a ≥ 0
    rotate_left
    · simp only [decide_eq_false c1, Bool.not_false, cond_true, cond_false]; rfl
    by_cases c2 : a ≤ 7
    rotate_left
    · simp only [decide_eq_true c1, decide_eq_false c2, Bool.not_false, cond_true, cond_false]; rfl
    by_cases c3 : b ≥ 0
    rotate_left
    · simp only [decide_eq_true c1, decide_eq_true c2, decide_eq_false c3, Bool.not_false, cond_true, cond_false]; rfl
    by_cases c4 : b ≤ 7
    rotate_left
    · simp only [decide_eq_true c1, decide_eq_true c2, decide_eq_true c3, decide_eq_false c4, Bool.not_false, cond_true, cond_false]; rfl
    by_cases c5 : m ≥ 0
    rotate_left
    · simp only [decide_eq_true c1, decide_eq_true c2, decide_eq_true c3, decide_eq_true c4, decide_eq_false c5, Bool.not_false, cond_true, cond_false]; rfl
    by_cases c6 : m ≤ 4095
    rotate_left
    · simp only [decide_eq_true c1, decide_eq_true c2, decide_eq_true c3, decide_eq_true c4, decide_eq_true c5, decide_eq_false c6, Bool.not_false, cond_true, cond_false]; rfl
    exact absurd (by simp only [packOk, Bool.and_eq_true, decide_eq_true_eq]; omega) ok
theorem runB_3 (a b m r0 r1 r2 r3 r4 r5 r6 r7 pc : Int) (k : Res → Option Res) (h1 : inI a = true) (h2 : inI b = true) (h3 : inI m = true) (w : words [r0, r1, r2, r3, r4, r5, r6, r7] = true) : runG Try.prog sR 100 17 [.e (.agg [.int .i64 3, .int .i64 a, .int .i64 b, .int .i64 m]), .e (.agg [.int .u64 r0, .int .u64 r1, .int .u64 r2, .int .u64 r3, .int .u64 r4, .int .u64 r5, .int .u64 r6, .int .u64 r7]), aint .i64 pc] [] k = effK 3 a b m r0 r1 r2 r3 r4 r5 r6 r7 pc k := by
  refine (t_runB_3 a b m r0 r1 r2 r3 r4 r5 r6 r7 pc k).trans ?_
  by_cases ok : packOk 3 a b m = true
  · obtain ⟨a0, a1, b0, b1, m0, m1⟩ := packOk_lits ok
    rw [decide_eq_true (show a ≥ 0 from a0), decide_eq_true a1, decide_eq_true (show b ≥ 0 from b0), decide_eq_true b1, decide_eq_true (show m ≥ 0 from m0), decide_eq_true m1]
    simp only [Bool.not_true, cond_true, cond_false]
    by_cases p0 : pc < 0
    · have pl : place pc = false := by simp [place]; omega
      simp only [effK, ok, pl, decide_eq_true p0, cond_true]
      rfl
    by_cases p1 : pc > 4095
    · have pl : place pc = false := by simp [place]; omega
      simp only [effK, ok, pl, decide_eq_false p0, decide_eq_true p1, cond_true, cond_false]
      rfl
    have pl : place pc = true := by simp [place]; omega
    have A0 : decide (0 ≤ a) = true := decide_eq_true a0
    have A1 : decide (a < ((8 : Nat) : Int)) = true := decide_eq_true (by omega)
    have A2 : decide (a < 8) = true := decide_eq_true (by omega)
    have B2 : decide (b < 8) = true := decide_eq_true (by omega)
    have B0 : decide (0 ≤ b) = true := decide_eq_true b0
    have B1 : decide (b < ((8 : Nat) : Int)) = true := decide_eq_true (by omega)
    have LA : decide (Int.toNat a < List.length [r0, r1, r2, r3, r4, r5, r6, r7]) = true := decide_eq_true (by show Int.toNat a < 8; omega)
    have LB : decide (Int.toNat b < List.length [r0, r1, r2, r3, r4, r5, r6, r7]) = true := decide_eq_true (by show Int.toNat b < 8; omega)
    have SH : decide (¬ Int.tmod (List.getD [r0, r1, r2, r3, r4, r5, r6, r7] (Int.toNat b) 0) 64 < 0) = true := decide_eq_true (by rw [Int.tmod_eq_emod_of_nonneg (rd_word w _).1]; omega)
    simp only [effK, ok, pl, decide_eq_false p0, decide_eq_false p1, A0, A1, A2, B0, B1, B2, LA, LB, SH, Bool.and_self, cond_true, cond_false]
    rfl
  · have ok2 : packOk 3 a b m = false := by simpa using ok
    have bad : effK 3 a b m r0 r1 r2 r3 r4 r5 r6 r7 pc k = k (badR 10) := by simp only [effK, ok2]
    rw [bad]
    by_cases c1 : a ≥ 0
    rotate_left
    · simp only [decide_eq_false c1, Bool.not_false, cond_true, cond_false]; rfl
    by_cases c2 : a ≤ 7
    rotate_left
    · simp only [decide_eq_true c1, decide_eq_false c2, Bool.not_false, cond_true, cond_false]; rfl
    by_cases c3 : b ≥ 0
    rotate_left
    · simp only [decide_eq_true c1, decide_eq_true c2, decide_eq_false c3, Bool.not_false, cond_true, cond_false]; rfl
    by_cases c4 : b ≤ 7
    rotate_left
    · simp only [decide_eq_true c1, decide_eq_true c2, decide_eq_true c3, decide_eq_false c4, Bool.not_false, cond_true, cond_false]; rfl
    by_cases c5 : m ≥ 0
    rotate_left
    · simp only [decide_eq_true c1, decide_eq_true c2, decide_eq_true c3, decide_eq_true c4, decide_eq_false c5, Bool.not_false, cond_true, cond_false]; rfl
    by_cases c6 : m ≤ 4095
    rotate_left
    · simp only [decide_eq_true c1, decide_eq_true c2, decide_eq_true c3, decide_eq_true c4, decide_eq_true c5, decide_eq_false c6, Bool.not_false, cond_true, cond_false]; rfl
    exact absurd (by simp only [packOk, Bool.and_eq_true, decide_eq_true_eq]; omega) ok
theorem runB_4 (a b m r0 r1 r2 r3 r4 r5 r6 r7 pc : Int) (k : Res → Option Res) (h1 : inI a = true) (h2 : inI b = true) (h3 : inI m = true) (w : words [r0, r1, r2, r3, r4, r5, r6, r7] = true) : runG Try.prog sR 100 17 [.e (.agg [.int .i64 4, .int .i64 a, .int .i64 b, .int .i64 m]), .e (.agg [.int .u64 r0, .int .u64 r1, .int .u64 r2, .int .u64 r3, .int .u64 r4, .int .u64 r5, .int .u64 r6, .int .u64 r7]), aint .i64 pc] [] k = effK 4 a b m r0 r1 r2 r3 r4 r5 r6 r7 pc k := by
  refine (t_runB_4 a b m r0 r1 r2 r3 r4 r5 r6 r7 pc k).trans ?_
  by_cases ok : packOk 4 a b m = true
  · obtain ⟨a0, a1, b0, b1, m0, m1⟩ := packOk_lits ok
    rw [decide_eq_true (show a ≥ 0 from a0), decide_eq_true a1, decide_eq_true (show b ≥ 0 from b0), decide_eq_true b1, decide_eq_true (show m ≥ 0 from m0), decide_eq_true m1]
    simp only [Bool.not_true, cond_true, cond_false]
    by_cases p0 : pc < 0
    · have pl : place pc = false := by simp [place]; omega
      simp only [effK, ok, pl, decide_eq_true p0, cond_true]
      rfl
    by_cases p1 : pc > 4095
    · have pl : place pc = false := by simp [place]; omega
      simp only [effK, ok, pl, decide_eq_false p0, decide_eq_true p1, cond_true, cond_false]
      rfl
    have pl : place pc = true := by simp [place]; omega
    have A0 : decide (0 ≤ a) = true := decide_eq_true a0
    have A1 : decide (a < ((8 : Nat) : Int)) = true := decide_eq_true (by omega)
    have A2 : decide (a < 8) = true := decide_eq_true (by omega)
    have B2 : decide (b < 8) = true := decide_eq_true (by omega)
    have B0 : decide (0 ≤ b) = true := decide_eq_true b0
    have B1 : decide (b < ((8 : Nat) : Int)) = true := decide_eq_true (by omega)
    have LA : decide (Int.toNat a < List.length [r0, r1, r2, r3, r4, r5, r6, r7]) = true := decide_eq_true (by show Int.toNat a < 8; omega)
    have LB : decide (Int.toNat b < List.length [r0, r1, r2, r3, r4, r5, r6, r7]) = true := decide_eq_true (by show Int.toNat b < 8; omega)
    have SH : decide (¬ Int.tmod (List.getD [r0, r1, r2, r3, r4, r5, r6, r7] (Int.toNat b) 0) 64 < 0) = true := decide_eq_true (by rw [Int.tmod_eq_emod_of_nonneg (rd_word w _).1]; omega)
    simp only [effK, ok, pl, decide_eq_false p0, decide_eq_false p1, A0, A1, A2, B0, B1, B2, LA, LB, SH, Bool.and_self, cond_true, cond_false]
    rfl
  · have ok2 : packOk 4 a b m = false := by simpa using ok
    have bad : effK 4 a b m r0 r1 r2 r3 r4 r5 r6 r7 pc k = k (badR 10) := by simp only [effK, ok2]
    rw [bad]
    by_cases c1 : a ≥ 0
    rotate_left
    · simp only [decide_eq_false c1, Bool.not_false, cond_true, cond_false]; rfl
    by_cases c2 : a ≤ 7
    rotate_left
    · simp only [decide_eq_true c1, decide_eq_false c2, Bool.not_false, cond_true, cond_false]; rfl
    by_cases c3 : b ≥ 0
    rotate_left
    · simp only [decide_eq_true c1, decide_eq_true c2, decide_eq_false c3, Bool.not_false, cond_true, cond_false]; rfl
    by_cases c4 : b ≤ 7
    rotate_left
    · simp only [decide_eq_true c1, decide_eq_true c2, decide_eq_true c3, decide_eq_false c4, Bool.not_false, cond_true, cond_false]; rfl
    by_cases c5 : m ≥ 0
    rotate_left
    · simp only [decide_eq_true c1, decide_eq_true c2, decide_eq_true c3, decide_eq_true c4, decide_eq_false c5, Bool.not_false, cond_true, cond_false]; rfl
    by_cases c6 : m ≤ 4095
    rotate_left
    · simp only [decide_eq_true c1, decide_eq_true c2, decide_eq_true c3, decide_eq_true c4, decide_eq_true c5, decide_eq_false c6, Bool.not_false, cond_true, cond_false]; rfl
    exact absurd (by simp only [packOk, Bool.and_eq_true, decide_eq_true_eq]; omega) ok
theorem runB_5 (a b m r0 r1 r2 r3 r4 r5 r6 r7 pc : Int) (k : Res → Option Res) (h1 : inI a = true) (h2 : inI b = true) (h3 : inI m = true) (w : words [r0, r1, r2, r3, r4, r5, r6, r7] = true) : runG Try.prog sR 100 17 [.e (.agg [.int .i64 5, .int .i64 a, .int .i64 b, .int .i64 m]), .e (.agg [.int .u64 r0, .int .u64 r1, .int .u64 r2, .int .u64 r3, .int .u64 r4, .int .u64 r5, .int .u64 r6, .int .u64 r7]), aint .i64 pc] [] k = effK 5 a b m r0 r1 r2 r3 r4 r5 r6 r7 pc k := by
  refine (t_runB_5 a b m r0 r1 r2 r3 r4 r5 r6 r7 pc k).trans ?_
  by_cases ok : packOk 5 a b m = true
  · obtain ⟨a0, a1, b0, b1, m0, m1⟩ := packOk_lits ok
    rw [decide_eq_true (show a ≥ 0 from a0), decide_eq_true a1, decide_eq_true (show b ≥ 0 from b0), decide_eq_true b1, decide_eq_true (show m ≥ 0 from m0), decide_eq_true m1]
    simp only [Bool.not_true, cond_true, cond_false]
    by_cases p0 : pc < 0
    · have pl : place pc = false := by simp [place]; omega
      simp only [effK, ok, pl, decide_eq_true p0, cond_true]
      rfl
    by_cases p1 : pc > 4095
    · have pl : place pc = false := by simp [place]; omega
      simp only [effK, ok, pl, decide_eq_false p0, decide_eq_true p1, cond_true, cond_false]
      rfl
    have pl : place pc = true := by simp [place]; omega
    have A0 : decide (0 ≤ a) = true := decide_eq_true a0
    have A1 : decide (a < ((8 : Nat) : Int)) = true := decide_eq_true (by omega)
    have A2 : decide (a < 8) = true := decide_eq_true (by omega)
    have B2 : decide (b < 8) = true := decide_eq_true (by omega)
    have B0 : decide (0 ≤ b) = true := decide_eq_true b0
    have B1 : decide (b < ((8 : Nat) : Int)) = true := decide_eq_true (by omega)
    have LA : decide (Int.toNat a < List.length [r0, r1, r2, r3, r4, r5, r6, r7]) = true := decide_eq_true (by show Int.toNat a < 8; omega)
    have LB : decide (Int.toNat b < List.length [r0, r1, r2, r3, r4, r5, r6, r7]) = true := decide_eq_true (by show Int.toNat b < 8; omega)
    have SH : decide (¬ Int.tmod (List.getD [r0, r1, r2, r3, r4, r5, r6, r7] (Int.toNat b) 0) 64 < 0) = true := decide_eq_true (by rw [Int.tmod_eq_emod_of_nonneg (rd_word w _).1]; omega)
    simp only [effK, ok, pl, decide_eq_false p0, decide_eq_false p1, A0, A1, A2, B0, B1, B2, LA, LB, SH, Bool.and_self, cond_true, cond_false]
    rfl
  · have ok2 : packOk 5 a b m = false := by simpa using ok
    have bad : effK 5 a b m r0 r1 r2 r3 r4 r5 r6 r7 pc k = k (badR 10) := by simp only [effK, ok2]
    rw [bad]
    by_cases c1 : a ≥ 0
    rotate_left
    · simp only [decide_eq_false c1, Bool.not_false, cond_true, cond_false]; rfl
    by_cases c2 : a ≤ 7
    rotate_left
    · simp only [decide_eq_true c1, decide_eq_false c2, Bool.not_false, cond_true, cond_false]; rfl
    by_cases c3 : b ≥ 0
    rotate_left
    · simp only [decide_eq_true c1, decide_eq_true c2, decide_eq_false c3, Bool.not_false, cond_true, cond_false]; rfl
    by_cases c4 : b ≤ 7
    rotate_left
    · simp only [decide_eq_true c1, decide_eq_true c2, decide_eq_true c3, decide_eq_false c4, Bool.not_false, cond_true, cond_false]; rfl
    by_cases c5 : m ≥ 0
    rotate_left
    · simp only [decide_eq_true c1, decide_eq_true c2, decide_eq_true c3, decide_eq_true c4, decide_eq_false c5, Bool.not_false, cond_true, cond_false]; rfl
    by_cases c6 : m ≤ 4095
    rotate_left
    · simp only [decide_eq_true c1, decide_eq_true c2, decide_eq_true c3, decide_eq_true c4, decide_eq_true c5, decide_eq_false c6, Bool.not_false, cond_true, cond_false]; rfl
    exact absurd (by simp only [packOk, Bool.and_eq_true, decide_eq_true_eq]; omega) ok
theorem runB_6 (a b m r0 r1 r2 r3 r4 r5 r6 r7 pc : Int) (k : Res → Option Res) (h1 : inI a = true) (h2 : inI b = true) (h3 : inI m = true) (w : words [r0, r1, r2, r3, r4, r5, r6, r7] = true) : runG Try.prog sR 100 17 [.e (.agg [.int .i64 6, .int .i64 a, .int .i64 b, .int .i64 m]), .e (.agg [.int .u64 r0, .int .u64 r1, .int .u64 r2, .int .u64 r3, .int .u64 r4, .int .u64 r5, .int .u64 r6, .int .u64 r7]), aint .i64 pc] [] k = effK 6 a b m r0 r1 r2 r3 r4 r5 r6 r7 pc k := by
  refine (t_runB_6 a b m r0 r1 r2 r3 r4 r5 r6 r7 pc k).trans ?_
  by_cases ok : packOk 6 a b m = true
  · obtain ⟨a0, a1, b0, b1, m0, m1⟩ := packOk_lits ok
    rw [decide_eq_true (show a ≥ 0 from a0), decide_eq_true a1, decide_eq_true (show b ≥ 0 from b0), decide_eq_true b1, decide_eq_true (show m ≥ 0 from m0), decide_eq_true m1]
    simp only [Bool.not_true, cond_true, cond_false]
    by_cases p0 : pc < 0
    · have pl : place pc = false := by simp [place]; omega
      simp only [effK, ok, pl, decide_eq_true p0, cond_true]
      rfl
    by_cases p1 : pc > 4095
    · have pl : place pc = false := by simp [place]; omega
      simp only [effK, ok, pl, decide_eq_false p0, decide_eq_true p1, cond_true, cond_false]
      rfl
    have pl : place pc = true := by simp [place]; omega
    have A0 : decide (0 ≤ a) = true := decide_eq_true a0
    have A1 : decide (a < ((8 : Nat) : Int)) = true := decide_eq_true (by omega)
    have A2 : decide (a < 8) = true := decide_eq_true (by omega)
    have B2 : decide (b < 8) = true := decide_eq_true (by omega)
    have B0 : decide (0 ≤ b) = true := decide_eq_true b0
    have B1 : decide (b < ((8 : Nat) : Int)) = true := decide_eq_true (by omega)
    have LA : decide (Int.toNat a < List.length [r0, r1, r2, r3, r4, r5, r6, r7]) = true := decide_eq_true (by show Int.toNat a < 8; omega)
    have LB : decide (Int.toNat b < List.length [r0, r1, r2, r3, r4, r5, r6, r7]) = true := decide_eq_true (by show Int.toNat b < 8; omega)
    have SH : decide (¬ Int.tmod (List.getD [r0, r1, r2, r3, r4, r5, r6, r7] (Int.toNat b) 0) 64 < 0) = true := decide_eq_true (by rw [Int.tmod_eq_emod_of_nonneg (rd_word w _).1]; omega)
    simp only [effK, ok, pl, decide_eq_false p0, decide_eq_false p1, A0, A1, A2, B0, B1, B2, LA, LB, SH, Bool.and_self, cond_true, cond_false]
    rfl
  · have ok2 : packOk 6 a b m = false := by simpa using ok
    have bad : effK 6 a b m r0 r1 r2 r3 r4 r5 r6 r7 pc k = k (badR 10) := by simp only [effK, ok2]
    rw [bad]
    by_cases c1 : a ≥ 0
    rotate_left
    · simp only [decide_eq_false c1, Bool.not_false, cond_true, cond_false]; rfl
    by_cases c2 : a ≤ 7
    rotate_left
    · simp only [decide_eq_true c1, decide_eq_false c2, Bool.not_false, cond_true, cond_false]; rfl
    by_cases c3 : b ≥ 0
    rotate_left
    · simp only [decide_eq_true c1, decide_eq_true c2, decide_eq_false c3, Bool.not_false, cond_true, cond_false]; rfl
    by_cases c4 : b ≤ 7
    rotate_left
    · simp only [decide_eq_true c1, decide_eq_true c2, decide_eq_true c3, decide_eq_false c4, Bool.not_false, cond_true, cond_false]; rfl
    by_cases c5 : m ≥ 0
    rotate_left
    · simp only [decide_eq_true c1, decide_eq_true c2, decide_eq_true c3, decide_eq_true c4, decide_eq_false c5, Bool.not_false, cond_true, cond_false]; rfl
    by_cases c6 : m ≤ 4095
    rotate_left
    · simp only [decide_eq_true c1, decide_eq_true c2, decide_eq_true c3, decide_eq_true c4, decide_eq_true c5, decide_eq_false c6, Bool.not_false, cond_true, cond_false]; rfl
    exact absurd (by simp only [packOk, Bool.and_eq_true, decide_eq_true_eq]; omega) ok
theorem runB_7 (a b m r0 r1 r2 r3 r4 r5 r6 r7 pc : Int) (k : Res → Option Res) (h1 : inI a = true) (h2 : inI b = true) (h3 : inI m = true) (w : words [r0, r1, r2, r3, r4, r5, r6, r7] = true) : runG Try.prog sR 100 17 [.e (.agg [.int .i64 7, .int .i64 a, .int .i64 b, .int .i64 m]), .e (.agg [.int .u64 r0, .int .u64 r1, .int .u64 r2, .int .u64 r3, .int .u64 r4, .int .u64 r5, .int .u64 r6, .int .u64 r7]), aint .i64 pc] [] k = effK 7 a b m r0 r1 r2 r3 r4 r5 r6 r7 pc k := by
  refine (t_runB_7 a b m r0 r1 r2 r3 r4 r5 r6 r7 pc k).trans ?_
  by_cases ok : packOk 7 a b m = true
  · obtain ⟨a0, a1, b0, b1, m0, m1⟩ := packOk_lits ok
    rw [decide_eq_true (show a ≥ 0 from a0), decide_eq_true a1, decide_eq_true (show b ≥ 0 from b0), decide_eq_true b1, decide_eq_true (show m ≥ 0 from m0), decide_eq_true m1]
    simp only [Bool.not_true, cond_true, cond_false]
    by_cases p0 : pc < 0
    · have pl : place pc = false := by simp [place]; omega
      simp only [effK, ok, pl, decide_eq_true p0, cond_true]
      rfl
    by_cases p1 : pc > 4095
    · have pl : place pc = false := by simp [place]; omega
      simp only [effK, ok, pl, decide_eq_false p0, decide_eq_true p1, cond_true, cond_false]
      rfl
    have pl : place pc = true := by simp [place]; omega
    have A0 : decide (0 ≤ a) = true := decide_eq_true a0
    have A1 : decide (a < ((8 : Nat) : Int)) = true := decide_eq_true (by omega)
    have A2 : decide (a < 8) = true := decide_eq_true (by omega)
    have B2 : decide (b < 8) = true := decide_eq_true (by omega)
    have B0 : decide (0 ≤ b) = true := decide_eq_true b0
    have B1 : decide (b < ((8 : Nat) : Int)) = true := decide_eq_true (by omega)
    have LA : decide (Int.toNat a < List.length [r0, r1, r2, r3, r4, r5, r6, r7]) = true := decide_eq_true (by show Int.toNat a < 8; omega)
    have LB : decide (Int.toNat b < List.length [r0, r1, r2, r3, r4, r5, r6, r7]) = true := decide_eq_true (by show Int.toNat b < 8; omega)
    have SH : decide (¬ Int.tmod (List.getD [r0, r1, r2, r3, r4, r5, r6, r7] (Int.toNat b) 0) 64 < 0) = true := decide_eq_true (by rw [Int.tmod_eq_emod_of_nonneg (rd_word w _).1]; omega)
    simp only [effK, ok, pl, decide_eq_false p0, decide_eq_false p1, A0, A1, A2, B0, B1, B2, LA, LB, SH, Bool.and_self, cond_true, cond_false]
    rfl
  · have ok2 : packOk 7 a b m = false := by simpa using ok
    have bad : effK 7 a b m r0 r1 r2 r3 r4 r5 r6 r7 pc k = k (badR 10) := by simp only [effK, ok2]
    rw [bad]
    by_cases c1 : a ≥ 0
    rotate_left
    · simp only [decide_eq_false c1, Bool.not_false, cond_true, cond_false]; rfl
    by_cases c2 : a ≤ 7
    rotate_left
    · simp only [decide_eq_true c1, decide_eq_false c2, Bool.not_false, cond_true, cond_false]; rfl
    by_cases c3 : b ≥ 0
    rotate_left
    · simp only [decide_eq_true c1, decide_eq_true c2, decide_eq_false c3, Bool.not_false, cond_true, cond_false]; rfl
    by_cases c4 : b ≤ 7
    rotate_left
    · simp only [decide_eq_true c1, decide_eq_true c2, decide_eq_true c3, decide_eq_false c4, Bool.not_false, cond_true, cond_false]; rfl
    by_cases c5 : m ≥ 0
    rotate_left
    · simp only [decide_eq_true c1, decide_eq_true c2, decide_eq_true c3, decide_eq_true c4, decide_eq_false c5, Bool.not_false, cond_true, cond_false]; rfl
    by_cases c6 : m ≤ 4095
    rotate_left
    · simp only [decide_eq_true c1, decide_eq_true c2, decide_eq_true c3, decide_eq_true c4, decide_eq_true c5, decide_eq_false c6, Bool.not_false, cond_true, cond_false]; rfl
    exact absurd (by simp only [packOk, Bool.and_eq_true, decide_eq_true_eq]; omega) ok
theorem runB_8 (a b m r0 r1 r2 r3 r4 r5 r6 r7 pc : Int) (k : Res → Option Res) (h1 : inI a = true) (h2 : inI b = true) (h3 : inI m = true) (w : words [r0, r1, r2, r3, r4, r5, r6, r7] = true) : runG Try.prog sR 100 17 [.e (.agg [.int .i64 8, .int .i64 a, .int .i64 b, .int .i64 m]), .e (.agg [.int .u64 r0, .int .u64 r1, .int .u64 r2, .int .u64 r3, .int .u64 r4, .int .u64 r5, .int .u64 r6, .int .u64 r7]), aint .i64 pc] [] k = effK 8 a b m r0 r1 r2 r3 r4 r5 r6 r7 pc k := by
  refine (t_runB_8 a b m r0 r1 r2 r3 r4 r5 r6 r7 pc k).trans ?_
  by_cases ok : packOk 8 a b m = true
  · obtain ⟨a0, a1, b0, b1, m0, m1⟩ := packOk_lits ok
    rw [decide_eq_true (show a ≥ 0 from a0), decide_eq_true a1, decide_eq_true (show b ≥ 0 from b0), decide_eq_true b1, decide_eq_true (show m ≥ 0 from m0), decide_eq_true m1]
    simp only [Bool.not_true, cond_true, cond_false]
    by_cases p0 : pc < 0
    · have pl : place pc = false := by simp [place]; omega
      simp only [effK, ok, pl, decide_eq_true p0, cond_true]
      rfl
    by_cases p1 : pc > 4095
    · have pl : place pc = false := by simp [place]; omega
      simp only [effK, ok, pl, decide_eq_false p0, decide_eq_true p1, cond_true, cond_false]
      rfl
    have pl : place pc = true := by simp [place]; omega
    have A0 : decide (0 ≤ a) = true := decide_eq_true a0
    have A1 : decide (a < ((8 : Nat) : Int)) = true := decide_eq_true (by omega)
    have A2 : decide (a < 8) = true := decide_eq_true (by omega)
    have B2 : decide (b < 8) = true := decide_eq_true (by omega)
    have B0 : decide (0 ≤ b) = true := decide_eq_true b0
    have B1 : decide (b < ((8 : Nat) : Int)) = true := decide_eq_true (by omega)
    have LA : decide (Int.toNat a < List.length [r0, r1, r2, r3, r4, r5, r6, r7]) = true := decide_eq_true (by show Int.toNat a < 8; omega)
    have LB : decide (Int.toNat b < List.length [r0, r1, r2, r3, r4, r5, r6, r7]) = true := decide_eq_true (by show Int.toNat b < 8; omega)
    have SH : decide (¬ Int.tmod (List.getD [r0, r1, r2, r3, r4, r5, r6, r7] (Int.toNat b) 0) 64 < 0) = true := decide_eq_true (by rw [Int.tmod_eq_emod_of_nonneg (rd_word w _).1]; omega)
    simp only [effK, ok, pl, decide_eq_false p0, decide_eq_false p1, A0, A1, A2, B0, B1, B2, LA, LB, SH, Bool.and_self, cond_true, cond_false]
    rfl
  · have ok2 : packOk 8 a b m = false := by simpa using ok
    have bad : effK 8 a b m r0 r1 r2 r3 r4 r5 r6 r7 pc k = k (badR 10) := by simp only [effK, ok2]
    rw [bad]
    by_cases c1 : a ≥ 0
    rotate_left
    · simp only [decide_eq_false c1, Bool.not_false, cond_true, cond_false]; rfl
    by_cases c2 : a ≤ 7
    rotate_left
    · simp only [decide_eq_true c1, decide_eq_false c2, Bool.not_false, cond_true, cond_false]; rfl
    by_cases c3 : b ≥ 0
    rotate_left
    · simp only [decide_eq_true c1, decide_eq_true c2, decide_eq_false c3, Bool.not_false, cond_true, cond_false]; rfl
    by_cases c4 : b ≤ 7
    rotate_left
    · simp only [decide_eq_true c1, decide_eq_true c2, decide_eq_true c3, decide_eq_false c4, Bool.not_false, cond_true, cond_false]; rfl
    by_cases c5 : m ≥ 0
    rotate_left
    · simp only [decide_eq_true c1, decide_eq_true c2, decide_eq_true c3, decide_eq_true c4, decide_eq_false c5, Bool.not_false, cond_true, cond_false]; rfl
    by_cases c6 : m ≤ 4095
    rotate_left
    · simp only [decide_eq_true c1, decide_eq_true c2, decide_eq_true c3, decide_eq_true c4, decide_eq_true c5, decide_eq_false c6, Bool.not_false, cond_true, cond_false]; rfl
    exact absurd (by simp only [packOk, Bool.and_eq_true, decide_eq_true_eq]; omega) ok
theorem runB_9 (a b m r0 r1 r2 r3 r4 r5 r6 r7 pc : Int) (k : Res → Option Res) (h1 : inI a = true) (h2 : inI b = true) (h3 : inI m = true) (w : words [r0, r1, r2, r3, r4, r5, r6, r7] = true) : runG Try.prog sR 100 17 [.e (.agg [.int .i64 9, .int .i64 a, .int .i64 b, .int .i64 m]), .e (.agg [.int .u64 r0, .int .u64 r1, .int .u64 r2, .int .u64 r3, .int .u64 r4, .int .u64 r5, .int .u64 r6, .int .u64 r7]), aint .i64 pc] [] k = effK 9 a b m r0 r1 r2 r3 r4 r5 r6 r7 pc k := by
  refine (t_runB_9 a b m r0 r1 r2 r3 r4 r5 r6 r7 pc k).trans ?_
  by_cases ok : packOk 9 a b m = true
  · obtain ⟨a0, a1, b0, b1, m0, m1⟩ := packOk_lits ok
    rw [decide_eq_true (show a ≥ 0 from a0), decide_eq_true a1, decide_eq_true (show b ≥ 0 from b0), decide_eq_true b1, decide_eq_true (show m ≥ 0 from m0), decide_eq_true m1]
    simp only [Bool.not_true, cond_true, cond_false]
    by_cases p0 : pc < 0
    · have pl : place pc = false := by simp [place]; omega
      simp only [effK, ok, pl, decide_eq_true p0, cond_true]
      rfl
    by_cases p1 : pc > 4095
    · have pl : place pc = false := by simp [place]; omega
      simp only [effK, ok, pl, decide_eq_false p0, decide_eq_true p1, cond_true, cond_false]
      rfl
    have pl : place pc = true := by simp [place]; omega
    have A0 : decide (0 ≤ a) = true := decide_eq_true a0
    have A1 : decide (a < ((8 : Nat) : Int)) = true := decide_eq_true (by omega)
    have A2 : decide (a < 8) = true := decide_eq_true (by omega)
    have B2 : decide (b < 8) = true := decide_eq_true (by omega)
    have B0 : decide (0 ≤ b) = true := decide_eq_true b0
    have B1 : decide (b < ((8 : Nat) : Int)) = true := decide_eq_true (by omega)
    have LA : decide (Int.toNat a < List.length [r0, r1, r2, r3, r4, r5, r6, r7]) = true := decide_eq_true (by show Int.toNat a < 8; omega)
    have LB : decide (Int.toNat b < List.length [r0, r1, r2, r3, r4, r5, r6, r7]) = true := decide_eq_true (by show Int.toNat b < 8; omega)
    have SH : decide (¬ Int.tmod (List.getD [r0, r1, r2, r3, r4, r5, r6, r7] (Int.toNat b) 0) 64 < 0) = true := decide_eq_true (by rw [Int.tmod_eq_emod_of_nonneg (rd_word w _).1]; omega)
    simp only [effK, ok, pl, decide_eq_false p0, decide_eq_false p1, A0, A1, A2, B0, B1, B2, LA, LB, SH, Bool.and_self, cond_true, cond_false]
    rfl
  · have ok2 : packOk 9 a b m = false := by simpa using ok
    have bad : effK 9 a b m r0 r1 r2 r3 r4 r5 r6 r7 pc k = k (badR 10) := by simp only [effK, ok2]
    rw [bad]
    by_cases c1 : a ≥ 0
    rotate_left
    · simp only [decide_eq_false c1, Bool.not_false, cond_true, cond_false]; rfl
    by_cases c2 : a ≤ 7
    rotate_left
    · simp only [decide_eq_true c1, decide_eq_false c2, Bool.not_false, cond_true, cond_false]; rfl
    by_cases c3 : b ≥ 0
    rotate_left
    · simp only [decide_eq_true c1, decide_eq_true c2, decide_eq_false c3, Bool.not_false, cond_true, cond_false]; rfl
    by_cases c4 : b ≤ 7
    rotate_left
    · simp only [decide_eq_true c1, decide_eq_true c2, decide_eq_true c3, decide_eq_false c4, Bool.not_false, cond_true, cond_false]; rfl
    by_cases c5 : m ≥ 0
    rotate_left
    · simp only [decide_eq_true c1, decide_eq_true c2, decide_eq_true c3, decide_eq_true c4, decide_eq_false c5, Bool.not_false, cond_true, cond_false]; rfl
    by_cases c6 : m ≤ 4095
    rotate_left
    · simp only [decide_eq_true c1, decide_eq_true c2, decide_eq_true c3, decide_eq_true c4, decide_eq_true c5, decide_eq_false c6, Bool.not_false, cond_true, cond_false]; rfl
    exact absurd (by simp only [packOk, Bool.and_eq_true, decide_eq_true_eq]; omega) ok
theorem runB_10 (a b m r0 r1 r2 r3 r4 r5 r6 r7 pc : Int) (k : Res → Option Res) (h1 : inI a = true) (h2 : inI b = true) (h3 : inI m = true) (w : words [r0, r1, r2, r3, r4, r5, r6, r7] = true) : runG Try.prog sR 100 17 [.e (.agg [.int .i64 10, .int .i64 a, .int .i64 b, .int .i64 m]), .e (.agg [.int .u64 r0, .int .u64 r1, .int .u64 r2, .int .u64 r3, .int .u64 r4, .int .u64 r5, .int .u64 r6, .int .u64 r7]), aint .i64 pc] [] k = effK 10 a b m r0 r1 r2 r3 r4 r5 r6 r7 pc k := by
  refine (t_runB_10 a b m r0 r1 r2 r3 r4 r5 r6 r7 pc k).trans ?_
  by_cases ok : packOk 10 a b m = true
  · obtain ⟨a0, a1, b0, b1, m0, m1⟩ := packOk_lits ok
    rw [decide_eq_true (show a ≥ 0 from a0), decide_eq_true a1, decide_eq_true (show b ≥ 0 from b0), decide_eq_true b1, decide_eq_true (show m ≥ 0 from m0), decide_eq_true m1]
    simp only [Bool.not_true, cond_true, cond_false]
    by_cases p0 : pc < 0
    · have pl : place pc = false := by simp [place]; omega
      simp only [effK, ok, pl, decide_eq_true p0, cond_true]
      rfl
    by_cases p1 : pc > 4095
    · have pl : place pc = false := by simp [place]; omega
      simp only [effK, ok, pl, decide_eq_false p0, decide_eq_true p1, cond_true, cond_false]
      rfl
    have pl : place pc = true := by simp [place]; omega
    have A0 : decide (0 ≤ a) = true := decide_eq_true a0
    have A1 : decide (a < ((8 : Nat) : Int)) = true := decide_eq_true (by omega)
    have A2 : decide (a < 8) = true := decide_eq_true (by omega)
    have B2 : decide (b < 8) = true := decide_eq_true (by omega)
    have B0 : decide (0 ≤ b) = true := decide_eq_true b0
    have B1 : decide (b < ((8 : Nat) : Int)) = true := decide_eq_true (by omega)
    have LA : decide (Int.toNat a < List.length [r0, r1, r2, r3, r4, r5, r6, r7]) = true := decide_eq_true (by show Int.toNat a < 8; omega)
    have LB : decide (Int.toNat b < List.length [r0, r1, r2, r3, r4, r5, r6, r7]) = true := decide_eq_true (by show Int.toNat b < 8; omega)
    have SH : decide (¬ Int.tmod (List.getD [r0, r1, r2, r3, r4, r5, r6, r7] (Int.toNat b) 0) 64 < 0) = true := decide_eq_true (by rw [Int.tmod_eq_emod_of_nonneg (rd_word w _).1]; omega)
    simp only [effK, ok, pl, decide_eq_false p0, decide_eq_false p1, A0, A1, A2, B0, B1, B2, LA, LB, SH, Bool.and_self, cond_true, cond_false]
    rfl
  · have ok2 : packOk 10 a b m = false := by simpa using ok
    have bad : effK 10 a b m r0 r1 r2 r3 r4 r5 r6 r7 pc k = k (badR 10) := by simp only [effK, ok2]
    rw [bad]
    by_cases c1 : a ≥ 0
    rotate_left
    · simp only [decide_eq_false c1, Bool.not_false, cond_true, cond_false]; rfl
    by_cases c2 : a ≤ 7
    rotate_left
    · simp only [decide_eq_true c1, decide_eq_false c2, Bool.not_false, cond_true, cond_false]; rfl
    by_cases c3 : b ≥ 0
    rotate_left
    · simp only [decide_eq_true c1, decide_eq_true c2, decide_eq_false c3, Bool.not_false, cond_true, cond_false]; rfl
    by_cases c4 : b ≤ 7
    rotate_left
    · simp only [decide_eq_true c1, decide_eq_true c2, decide_eq_true c3, decide_eq_false c4, Bool.not_false, cond_true, cond_false]; rfl
    by_cases c5 : m ≥ 0
    rotate_left
    · simp only [decide_eq_true c1, decide_eq_true c2, decide_eq_true c3, decide_eq_true c4, decide_eq_false c5, Bool.not_false, cond_true, cond_false]; rfl
    by_cases c6 : m ≤ 4095
    rotate_left
    · simp only [decide_eq_true c1, decide_eq_true c2, decide_eq_true c3, decide_eq_true c4, decide_eq_true c5, decide_eq_false c6, Bool.not_false, cond_true, cond_false]; rfl
    exact absurd (by simp only [packOk, Bool.and_eq_true, decide_eq_true_eq]; omega) ok
theorem runB_11 (a b m r0 r1 r2 r3 r4 r5 r6 r7 pc : Int) (k : Res → Option Res) (h1 : inI a = true) (h2 : inI b = true) (h3 : inI m = true) (w : words [r0, r1, r2, r3, r4, r5, r6, r7] = true) : runG Try.prog sR 100 17 [.e (.agg [.int .i64 11, .int .i64 a, .int .i64 b, .int .i64 m]), .e (.agg [.int .u64 r0, .int .u64 r1, .int .u64 r2, .int .u64 r3, .int .u64 r4, .int .u64 r5, .int .u64 r6, .int .u64 r7]), aint .i64 pc] [] k = effK 11 a b m r0 r1 r2 r3 r4 r5 r6 r7 pc k := by
  refine (t_runB_11 a b m r0 r1 r2 r3 r4 r5 r6 r7 pc k).trans ?_
  by_cases ok : packOk 11 a b m = true
  · obtain ⟨a0, a1, b0, b1, m0, m1⟩ := packOk_lits ok
    rw [decide_eq_true (show a ≥ 0 from a0), decide_eq_true a1, decide_eq_true (show b ≥ 0 from b0), decide_eq_true b1, decide_eq_true (show m ≥ 0 from m0), decide_eq_true m1]
    simp only [Bool.not_true, cond_true, cond_false]
    by_cases p0 : pc < 0
    · have pl : place pc = false := by simp [place]; omega
      simp only [effK, ok, pl, decide_eq_true p0, cond_true]
      rfl
    by_cases p1 : pc > 4095
    · have pl : place pc = false := by simp [place]; omega
      simp only [effK, ok, pl, decide_eq_false p0, decide_eq_true p1, cond_true, cond_false]
      rfl
    have pl : place pc = true := by simp [place]; omega
    have A0 : decide (0 ≤ a) = true := decide_eq_true a0
    have A1 : decide (a < ((8 : Nat) : Int)) = true := decide_eq_true (by omega)
    have A2 : decide (a < 8) = true := decide_eq_true (by omega)
    have B2 : decide (b < 8) = true := decide_eq_true (by omega)
    have B0 : decide (0 ≤ b) = true := decide_eq_true b0
    have B1 : decide (b < ((8 : Nat) : Int)) = true := decide_eq_true (by omega)
    have LA : decide (Int.toNat a < List.length [r0, r1, r2, r3, r4, r5, r6, r7]) = true := decide_eq_true (by show Int.toNat a < 8; omega)
    have LB : decide (Int.toNat b < List.length [r0, r1, r2, r3, r4, r5, r6, r7]) = true := decide_eq_true (by show Int.toNat b < 8; omega)
    have SH : decide (¬ Int.tmod (List.getD [r0, r1, r2, r3, r4, r5, r6, r7] (Int.toNat b) 0) 64 < 0) = true := decide_eq_true (by rw [Int.tmod_eq_emod_of_nonneg (rd_word w _).1]; omega)
    simp only [effK, ok, pl, decide_eq_false p0, decide_eq_false p1, A0, A1, A2, B0, B1, B2, LA, LB, SH, Bool.and_self, cond_true, cond_false]
    rfl
  · have ok2 : packOk 11 a b m = false := by simpa using ok
    have bad : effK 11 a b m r0 r1 r2 r3 r4 r5 r6 r7 pc k = k (badR 10) := by simp only [effK, ok2]
    rw [bad]
    by_cases c1 : a ≥ 0
    rotate_left
    · simp only [decide_eq_false c1, Bool.not_false, cond_true, cond_false]; rfl
    by_cases c2 : a ≤ 7
    rotate_left
    · simp only [decide_eq_true c1, decide_eq_false c2, Bool.not_false, cond_true, cond_false]; rfl
    by_cases c3 : b ≥ 0
    rotate_left
    · simp only [decide_eq_true c1, decide_eq_true c2, decide_eq_false c3, Bool.not_false, cond_true, cond_false]; rfl
    by_cases c4 : b ≤ 7
    rotate_left
    · simp only [decide_eq_true c1, decide_eq_true c2, decide_eq_true c3, decide_eq_false c4, Bool.not_false, cond_true, cond_false]; rfl
    by_cases c5 : m ≥ 0
    rotate_left
    · simp only [decide_eq_true c1, decide_eq_true c2, decide_eq_true c3, decide_eq_true c4, decide_eq_false c5, Bool.not_false, cond_true, cond_false]; rfl
    by_cases c6 : m ≤ 4095
    rotate_left
    · simp only [decide_eq_true c1, decide_eq_true c2, decide_eq_true c3, decide_eq_true c4, decide_eq_true c5, decide_eq_false c6, Bool.not_false, cond_true, cond_false]; rfl
    exact absurd (by simp only [packOk, Bool.and_eq_true, decide_eq_true_eq]; omega) ok
theorem runB_12 (a b m r0 r1 r2 r3 r4 r5 r6 r7 pc : Int) (k : Res → Option Res) (h1 : inI a = true) (h2 : inI b = true) (h3 : inI m = true) (w : words [r0, r1, r2, r3, r4, r5, r6, r7] = true) : runG Try.prog sR 100 17 [.e (.agg [.int .i64 12, .int .i64 a, .int .i64 b, .int .i64 m]), .e (.agg [.int .u64 r0, .int .u64 r1, .int .u64 r2, .int .u64 r3, .int .u64 r4, .int .u64 r5, .int .u64 r6, .int .u64 r7]), aint .i64 pc] [] k = effK 12 a b m r0 r1 r2 r3 r4 r5 r6 r7 pc k := by
  refine (t_runB_12 a b m r0 r1 r2 r3 r4 r5 r6 r7 pc k).trans ?_
  by_cases ok : packOk 12 a b m = true
  · obtain ⟨a0, a1, b0, b1, m0, m1⟩ := packOk_lits ok
    rw [decide_eq_true (show a ≥ 0 from a0), decide_eq_true a1, decide_eq_true (show b ≥ 0 from b0), decide_eq_true b1, decide_eq_true (show m ≥ 0 from m0), decide_eq_true m1]
    simp only [Bool.not_true, cond_true, cond_false]
    by_cases p0 : pc < 0
    · have pl : place pc = false := by simp [place]; omega
      simp only [effK, ok, pl, decide_eq_true p0, cond_true]
      rfl
    by_cases p1 : pc > 4095
    · have pl : place pc = false := by simp [place]; omega
      simp only [effK, ok, pl, decide_eq_false p0, decide_eq_true p1, cond_true, cond_false]
      rfl
    have pl : place pc = true := by simp [place]; omega
    have A0 : decide (0 ≤ a) = true := decide_eq_true a0
    have A1 : decide (a < ((8 : Nat) : Int)) = true := decide_eq_true (by omega)
    have A2 : decide (a < 8) = true := decide_eq_true (by omega)
    have B2 : decide (b < 8) = true := decide_eq_true (by omega)
    have B0 : decide (0 ≤ b) = true := decide_eq_true b0
    have B1 : decide (b < ((8 : Nat) : Int)) = true := decide_eq_true (by omega)
    have LA : decide (Int.toNat a < List.length [r0, r1, r2, r3, r4, r5, r6, r7]) = true := decide_eq_true (by show Int.toNat a < 8; omega)
    have LB : decide (Int.toNat b < List.length [r0, r1, r2, r3, r4, r5, r6, r7]) = true := decide_eq_true (by show Int.toNat b < 8; omega)
    have SH : decide (¬ Int.tmod (List.getD [r0, r1, r2, r3, r4, r5, r6, r7] (Int.toNat b) 0) 64 < 0) = true := decide_eq_true (by rw [Int.tmod_eq_emod_of_nonneg (rd_word w _).1]; omega)
    simp only [effK, ok, pl, decide_eq_false p0, decide_eq_false p1, A0, A1, A2, B0, B1, B2, LA, LB, SH, Bool.and_self, cond_true, cond_false]
    rfl
  · have ok2 : packOk 12 a b m = false := by simpa using ok
    have bad : effK 12 a b m r0 r1 r2 r3 r4 r5 r6 r7 pc k = k (badR 10) := by simp only [effK, ok2]
    rw [bad]
    by_cases c1 : a ≥ 0
    rotate_left
    · simp only [decide_eq_false c1, Bool.not_false, cond_true, cond_false]; rfl
    by_cases c2 : a ≤ 7
    rotate_left
    · simp only [decide_eq_true c1, decide_eq_false c2, Bool.not_false, cond_true, cond_false]; rfl
    by_cases c3 : b ≥ 0
    rotate_left
    · simp only [decide_eq_true c1, decide_eq_true c2, decide_eq_false c3, Bool.not_false, cond_true, cond_false]; rfl
    by_cases c4 : b ≤ 7
    rotate_left
    · simp only [decide_eq_true c1, decide_eq_true c2, decide_eq_true c3, decide_eq_false c4, Bool.not_false, cond_true, cond_false]; rfl
    by_cases c5 : m ≥ 0
    rotate_left
    · simp only [decide_eq_true c1, decide_eq_true c2, decide_eq_true c3, decide_eq_true c4, decide_eq_false c5, Bool.not_false, cond_true, cond_false]; rfl
    by_cases c6 : m ≤ 4095
    rotate_left
    · simp only [decide_eq_true c1, decide_eq_true c2, decide_eq_true c3, decide_eq_true c4, decide_eq_true c5, decide_eq_false c6, Bool.not_false, cond_true, cond_false]; rfl
    exact absurd (by simp only [packOk, Bool.and_eq_true, decide_eq_true_eq]; omega) ok
theorem runB_13 (a b m r0 r1 r2 r3 r4 r5 r6 r7 pc : Int) (k : Res → Option Res) (h1 : inI a = true) (h2 : inI b = true) (h3 : inI m = true) (w : words [r0, r1, r2, r3, r4, r5, r6, r7] = true) : runG Try.prog sR 100 17 [.e (.agg [.int .i64 13, .int .i64 a, .int .i64 b, .int .i64 m]), .e (.agg [.int .u64 r0, .int .u64 r1, .int .u64 r2, .int .u64 r3, .int .u64 r4, .int .u64 r5, .int .u64 r6, .int .u64 r7]), aint .i64 pc] [] k = effK 13 a b m r0 r1 r2 r3 r4 r5 r6 r7 pc k := by
  refine (t_runB_13 a b m r0 r1 r2 r3 r4 r5 r6 r7 pc k).trans ?_
  by_cases ok : packOk 13 a b m = true
  · obtain ⟨a0, a1, b0, b1, m0, m1⟩ := packOk_lits ok
    rw [decide_eq_true (show a ≥ 0 from a0), decide_eq_true a1, decide_eq_true (show b ≥ 0 from b0), decide_eq_true b1, decide_eq_true (show m ≥ 0 from m0), decide_eq_true m1]
    simp only [Bool.not_true, cond_true, cond_false]
    by_cases p0 : pc < 0
    · have pl : place pc = false := by simp [place]; omega
      simp only [effK, ok, pl, decide_eq_true p0, cond_true]
      rfl
    by_cases p1 : pc > 4095
    · have pl : place pc = false := by simp [place]; omega
      simp only [effK, ok, pl, decide_eq_false p0, decide_eq_true p1, cond_true, cond_false]
      rfl
    have pl : place pc = true := by simp [place]; omega
    have A0 : decide (0 ≤ a) = true := decide_eq_true a0
    have A1 : decide (a < ((8 : Nat) : Int)) = true := decide_eq_true (by omega)
    have A2 : decide (a < 8) = true := decide_eq_true (by omega)
    have B2 : decide (b < 8) = true := decide_eq_true (by omega)
    have B0 : decide (0 ≤ b) = true := decide_eq_true b0
    have B1 : decide (b < ((8 : Nat) : Int)) = true := decide_eq_true (by omega)
    have LA : decide (Int.toNat a < List.length [r0, r1, r2, r3, r4, r5, r6, r7]) = true := decide_eq_true (by show Int.toNat a < 8; omega)
    have LB : decide (Int.toNat b < List.length [r0, r1, r2, r3, r4, r5, r6, r7]) = true := decide_eq_true (by show Int.toNat b < 8; omega)
    have SH : decide (¬ Int.tmod (List.getD [r0, r1, r2, r3, r4, r5, r6, r7] (Int.toNat b) 0) 64 < 0) = true := decide_eq_true (by rw [Int.tmod_eq_emod_of_nonneg (rd_word w _).1]; omega)
    simp only [effK, ok, pl, decide_eq_false p0, decide_eq_false p1, A0, A1, A2, B0, B1, B2, LA, LB, SH, Bool.and_self, cond_true, cond_false]
    rfl
  · have ok2 : packOk 13 a b m = false := by simpa using ok
    have bad : effK 13 a b m r0 r1 r2 r3 r4 r5 r6 r7 pc k = k (badR 10) := by simp only [effK, ok2]
    rw [bad]
    by_cases c1 : a ≥ 0
    rotate_left
    · simp only [decide_eq_false c1, Bool.not_false, cond_true, cond_false]; rfl
    by_cases c2 : a ≤ 7
    rotate_left
    · simp only [decide_eq_true c1, decide_eq_false c2, Bool.not_false, cond_true, cond_false]; rfl
    by_cases c3 : b ≥ 0
    rotate_left
    · simp only [decide_eq_true c1, decide_eq_true c2, decide_eq_false c3, Bool.not_false, cond_true, cond_false]; rfl
    by_cases c4 : b ≤ 7
    rotate_left
    · simp only [decide_eq_true c1, decide_eq_true c2, decide_eq_true c3, decide_eq_false c4, Bool.not_false, cond_true, cond_false]; rfl
    by_cases c5 : m ≥ 0
    rotate_left
    · simp only [decide_eq_true c1, decide_eq_true c2, decide_eq_true c3, decide_eq_true c4, decide_eq_false c5, Bool.not_false, cond_true, cond_false]; rfl
    by_cases c6 : m ≤ 4095
    rotate_left
    · simp only [decide_eq_true c1, decide_eq_true c2, decide_eq_true c3, decide_eq_true c4, decide_eq_true c5, decide_eq_false c6, Bool.not_false, cond_true, cond_false]; rfl
    exact absurd (by simp only [packOk, Bool.and_eq_true, decide_eq_true_eq]; omega) ok
theorem runB_14 (a b m r0 r1 r2 r3 r4 r5 r6 r7 pc : Int) (k : Res → Option Res) (h1 : inI a = true) (h2 : inI b = true) (h3 : inI m = true) (w : words [r0, r1, r2, r3, r4, r5, r6, r7] = true) : runG Try.prog sR 100 17 [.e (.agg [.int .i64 14, .int .i64 a, .int .i64 b, .int .i64 m]), .e (.agg [.int .u64 r0, .int .u64 r1, .int .u64 r2, .int .u64 r3, .int .u64 r4, .int .u64 r5, .int .u64 r6, .int .u64 r7]), aint .i64 pc] [] k = effK 14 a b m r0 r1 r2 r3 r4 r5 r6 r7 pc k := by
  refine (t_runB_14 a b m r0 r1 r2 r3 r4 r5 r6 r7 pc k).trans ?_
  by_cases ok : packOk 14 a b m = true
  · obtain ⟨a0, a1, b0, b1, m0, m1⟩ := packOk_lits ok
    rw [decide_eq_true (show a ≥ 0 from a0), decide_eq_true a1, decide_eq_true (show b ≥ 0 from b0), decide_eq_true b1, decide_eq_true (show m ≥ 0 from m0), decide_eq_true m1]
    simp only [Bool.not_true, cond_true, cond_false]
    by_cases p0 : pc < 0
    · have pl : place pc = false := by simp [place]; omega
      simp only [effK, ok, pl, decide_eq_true p0, cond_true]
      rfl
    by_cases p1 : pc > 4095
    · have pl : place pc = false := by simp [place]; omega
      simp only [effK, ok, pl, decide_eq_false p0, decide_eq_true p1, cond_true, cond_false]
      rfl
    have pl : place pc = true := by simp [place]; omega
    have A0 : decide (0 ≤ a) = true := decide_eq_true a0
    have A1 : decide (a < ((8 : Nat) : Int)) = true := decide_eq_true (by omega)
    have A2 : decide (a < 8) = true := decide_eq_true (by omega)
    have B2 : decide (b < 8) = true := decide_eq_true (by omega)
    have B0 : decide (0 ≤ b) = true := decide_eq_true b0
    have B1 : decide (b < ((8 : Nat) : Int)) = true := decide_eq_true (by omega)
    have LA : decide (Int.toNat a < List.length [r0, r1, r2, r3, r4, r5, r6, r7]) = true := decide_eq_true (by show Int.toNat a < 8; omega)
    have LB : decide (Int.toNat b < List.length [r0, r1, r2, r3, r4, r5, r6, r7]) = true := decide_eq_true (by show Int.toNat b < 8; omega)
    have SH : decide (¬ Int.tmod (List.getD [r0, r1, r2, r3, r4, r5, r6, r7] (Int.toNat b) 0) 64 < 0) = true := decide_eq_true (by rw [Int.tmod_eq_emod_of_nonneg (rd_word w _).1]; omega)
    simp only [effK, ok, pl, decide_eq_false p0, decide_eq_false p1, A0, A1, A2, B0, B1, B2, LA, LB, SH, Bool.and_self, cond_true, cond_false]
    have X := (rd_word w (Int.toNat a)).1
    by_cases c : List.getD [r0, r1, r2, r3, r4, r5, r6, r7] (Int.toNat a) 0 = 0
    · have t : ((List.getD [r0, r1, r2, r3, r4, r5, r6, r7] (Int.toNat a) 0 == 0)) = true := beq_iff_eq.2 c
      have e : pcR 14 (List.getD [r0, r1, r2, r3, r4, r5, r6, r7] (Int.toNat a) 0) (List.getD [r0, r1, r2, r3, r4, r5, r6, r7] (Int.toNat b) 0) m pc = m := pcR14p c
      rw [t]
      simp only [okR, okXY, e, cond_true, cond_false]
      rfl
    · have t : ((List.getD [r0, r1, r2, r3, r4, r5, r6, r7] (Int.toNat a) 0 == 0)) = false := beq_eq_false_iff_ne.2 c
      have e : pcR 14 (List.getD [r0, r1, r2, r3, r4, r5, r6, r7] (Int.toNat a) 0) (List.getD [r0, r1, r2, r3, r4, r5, r6, r7] (Int.toNat b) 0) m pc = nxt pc := pcR14n c
      rw [t]
      simp only [okR, okXY, e, cond_true, cond_false]
      rfl
  · have ok2 : packOk 14 a b m = false := by simpa using ok
    have bad : effK 14 a b m r0 r1 r2 r3 r4 r5 r6 r7 pc k = k (badR 10) := by simp only [effK, ok2]
    rw [bad]
    by_cases c1 : a ≥ 0
    rotate_left
    · simp only [decide_eq_false c1, Bool.not_false, cond_true, cond_false]; rfl
    by_cases c2 : a ≤ 7
    rotate_left
    · simp only [decide_eq_true c1, decide_eq_false c2, Bool.not_false, cond_true, cond_false]; rfl
    by_cases c3 : b ≥ 0
    rotate_left
    · simp only [decide_eq_true c1, decide_eq_true c2, decide_eq_false c3, Bool.not_false, cond_true, cond_false]; rfl
    by_cases c4 : b ≤ 7
    rotate_left
    · simp only [decide_eq_true c1, decide_eq_true c2, decide_eq_true c3, decide_eq_false c4, Bool.not_false, cond_true, cond_false]; rfl
    by_cases c5 : m ≥ 0
    rotate_left
    · simp only [decide_eq_true c1, decide_eq_true c2, decide_eq_true c3, decide_eq_true c4, decide_eq_false c5, Bool.not_false, cond_true, cond_false]; rfl
    by_cases c6 : m ≤ 4095
    rotate_left
    · simp only [decide_eq_true c1, decide_eq_true c2, decide_eq_true c3, decide_eq_true c4, decide_eq_true c5, decide_eq_false c6, Bool.not_false, cond_true, cond_false]; rfl
    exact absurd (by simp only [packOk, Bool.and_eq_true, decide_eq_true_eq]; omega) ok
theorem runB_15 (a b m r0 r1 r2 r3 r4 r5 r6 r7 pc : Int) (k : Res → Option Res) (h1 : inI a = true) (h2 : inI b = true) (h3 : inI m = true) (w : words [r0, r1, r2, r3, r4, r5, r6, r7] = true) : runG Try.prog sR 100 17 [.e (.agg [.int .i64 15, .int .i64 a, .int .i64 b, .int .i64 m]), .e (.agg [.int .u64 r0, .int .u64 r1, .int .u64 r2, .int .u64 r3, .int .u64 r4, .int .u64 r5, .int .u64 r6, .int .u64 r7]), aint .i64 pc] [] k = effK 15 a b m r0 r1 r2 r3 r4 r5 r6 r7 pc k := by
  refine (t_runB_15 a b m r0 r1 r2 r3 r4 r5 r6 r7 pc k).trans ?_
  by_cases ok : packOk 15 a b m = true
  · obtain ⟨a0, a1, b0, b1, m0, m1⟩ := packOk_lits ok
    rw [decide_eq_true (show a ≥ 0 from a0), decide_eq_true a1, decide_eq_true (show b ≥ 0 from b0), decide_eq_true b1, decide_eq_true (show m ≥ 0 from m0), decide_eq_true m1]
    simp only [Bool.not_true, cond_true, cond_false]
    by_cases p0 : pc < 0
    · have pl : place pc = false := by simp [place]; omega
      simp only [effK, ok, pl, decide_eq_true p0, cond_true]
      rfl
    by_cases p1 : pc > 4095
    · have pl : place pc = false := by simp [place]; omega
      simp only [effK, ok, pl, decide_eq_false p0, decide_eq_true p1, cond_true, cond_false]
      rfl
    have pl : place pc = true := by simp [place]; omega
    have A0 : decide (0 ≤ a) = true := decide_eq_true a0
    have A1 : decide (a < ((8 : Nat) : Int)) = true := decide_eq_true (by omega)
    have A2 : decide (a < 8) = true := decide_eq_true (by omega)
    have B2 : decide (b < 8) = true := decide_eq_true (by omega)
    have B0 : decide (0 ≤ b) = true := decide_eq_true b0
    have B1 : decide (b < ((8 : Nat) : Int)) = true := decide_eq_true (by omega)
    have LA : decide (Int.toNat a < List.length [r0, r1, r2, r3, r4, r5, r6, r7]) = true := decide_eq_true (by show Int.toNat a < 8; omega)
    have LB : decide (Int.toNat b < List.length [r0, r1, r2, r3, r4, r5, r6, r7]) = true := decide_eq_true (by show Int.toNat b < 8; omega)
    have SH : decide (¬ Int.tmod (List.getD [r0, r1, r2, r3, r4, r5, r6, r7] (Int.toNat b) 0) 64 < 0) = true := decide_eq_true (by rw [Int.tmod_eq_emod_of_nonneg (rd_word w _).1]; omega)
    simp only [effK, ok, pl, decide_eq_false p0, decide_eq_false p1, A0, A1, A2, B0, B1, B2, LA, LB, SH, Bool.and_self, cond_true, cond_false]
    have X := (rd_word w (Int.toNat a)).1
    by_cases c : List.getD [r0, r1, r2, r3, r4, r5, r6, r7] (Int.toNat a) 0 < List.getD [r0, r1, r2, r3, r4, r5, r6, r7] (Int.toNat b) 0
    · have t : (decide (List.getD [r0, r1, r2, r3, r4, r5, r6, r7] (Int.toNat a) 0 < List.getD [r0, r1, r2, r3, r4, r5, r6, r7] (Int.toNat b) 0)) = true := decide_eq_true (by omega)
      have e : pcR 15 (List.getD [r0, r1, r2, r3, r4, r5, r6, r7] (Int.toNat a) 0) (List.getD [r0, r1, r2, r3, r4, r5, r6, r7] (Int.toNat b) 0) m pc = m := pcR15p c
      rw [t]
      simp only [okR, okXY, e, cond_true, cond_false]
      rfl
    · have t : (decide (List.getD [r0, r1, r2, r3, r4, r5, r6, r7] (Int.toNat a) 0 < List.getD [r0, r1, r2, r3, r4, r5, r6, r7] (Int.toNat b) 0)) = false := decide_eq_false (by omega)
      have e : pcR 15 (List.getD [r0, r1, r2, r3, r4, r5, r6, r7] (Int.toNat a) 0) (List.getD [r0, r1, r2, r3, r4, r5, r6, r7] (Int.toNat b) 0) m pc = nxt pc := pcR15n c
      rw [t]
      simp only [okR, okXY, e, cond_true, cond_false]
      rfl
  · have ok2 : packOk 15 a b m = false := by simpa using ok
    have bad : effK 15 a b m r0 r1 r2 r3 r4 r5 r6 r7 pc k = k (badR 10) := by simp only [effK, ok2]
    rw [bad]
    by_cases c1 : a ≥ 0
    rotate_left
    · simp only [decide_eq_false c1, Bool.not_false, cond_true, cond_false]; rfl
    by_cases c2 : a ≤ 7
    rotate_left
    · simp only [decide_eq_true c1, decide_eq_false c2, Bool.not_false, cond_true, cond_false]; rfl
    by_cases c3 : b ≥ 0
    rotate_left
    · simp only [decide_eq_true c1, decide_eq_true c2, decide_eq_false c3, Bool.not_false, cond_true, cond_false]; rfl
    by_cases c4 : b ≤ 7
    rotate_left
    · simp only [decide_eq_true c1, decide_eq_true c2, decide_eq_true c3, decide_eq_false c4, Bool.not_false, cond_true, cond_false]; rfl
    by_cases c5 : m ≥ 0
    rotate_left
    · simp only [decide_eq_true c1, decide_eq_true c2, decide_eq_true c3, decide_eq_true c4, decide_eq_false c5, Bool.not_false, cond_true, cond_false]; rfl
    by_cases c6 : m ≤ 4095
    rotate_left
    · simp only [decide_eq_true c1, decide_eq_true c2, decide_eq_true c3, decide_eq_true c4, decide_eq_true c5, decide_eq_false c6, Bool.not_false, cond_true, cond_false]; rfl
    exact absurd (by simp only [packOk, Bool.and_eq_true, decide_eq_true_eq]; omega) ok
theorem runB_16 (a b m r0 r1 r2 r3 r4 r5 r6 r7 pc : Int) (k : Res → Option Res) (h1 : inI a = true) (h2 : inI b = true) (h3 : inI m = true) (w : words [r0, r1, r2, r3, r4, r5, r6, r7] = true) : runG Try.prog sR 100 17 [.e (.agg [.int .i64 16, .int .i64 a, .int .i64 b, .int .i64 m]), .e (.agg [.int .u64 r0, .int .u64 r1, .int .u64 r2, .int .u64 r3, .int .u64 r4, .int .u64 r5, .int .u64 r6, .int .u64 r7]), aint .i64 pc] [] k = effK 16 a b m r0 r1 r2 r3 r4 r5 r6 r7 pc k := by
  refine (t_runB_16 a b m r0 r1 r2 r3 r4 r5 r6 r7 pc k).trans ?_
  by_cases ok : packOk 16 a b m = true
  · obtain ⟨a0, a1, b0, b1, m0, m1⟩ := packOk_lits ok
    rw [decide_eq_true (show a ≥ 0 from a0), decide_eq_true a1, decide_eq_true (show b ≥ 0 from b0), decide_eq_true b1, decide_eq_true (show m ≥ 0 from m0), decide_eq_true m1]
    simp only [Bool.not_true, cond_true, cond_false]
    by_cases p0 : pc < 0
    · have pl : place pc = false := by simp [place]; omega
      simp only [effK, ok, pl, decide_eq_true p0, cond_true]
      rfl
    by_cases p1 : pc > 4095
    · have pl : place pc = false := by simp [place]; omega
      simp only [effK, ok, pl, decide_eq_false p0, decide_eq_true p1, cond_true, cond_false]
      rfl
    have pl : place pc = true := by simp [place]; omega
    have A0 : decide (0 ≤ a) = true := decide_eq_true a0
    have A1 : decide (a < ((8 : Nat) : Int)) = true := decide_eq_true (by omega)
    have A2 : decide (a < 8) = true := decide_eq_true (by omega)
    have B2 : decide (b < 8) = true := decide_eq_true (by omega)
    have B0 : decide (0 ≤ b) = true := decide_eq_true b0
    have B1 : decide (b < ((8 : Nat) : Int)) = true := decide_eq_true (by omega)
    have LA : decide (Int.toNat a < List.length [r0, r1, r2, r3, r4, r5, r6, r7]) = true := decide_eq_true (by show Int.toNat a < 8; omega)
    have LB : decide (Int.toNat b < List.length [r0, r1, r2, r3, r4, r5, r6, r7]) = true := decide_eq_true (by show Int.toNat b < 8; omega)
    have SH : decide (¬ Int.tmod (List.getD [r0, r1, r2, r3, r4, r5, r6, r7] (Int.toNat b) 0) 64 < 0) = true := decide_eq_true (by rw [Int.tmod_eq_emod_of_nonneg (rd_word w _).1]; omega)
    simp only [effK, ok, pl, decide_eq_false p0, decide_eq_false p1, A0, A1, A2, B0, B1, B2, LA, LB, SH, Bool.and_self, cond_true, cond_false]
    rfl
  · have ok2 : packOk 16 a b m = false := by simpa using ok
    have bad : effK 16 a b m r0 r1 r2 r3 r4 r5 r6 r7 pc k = k (badR 10) := by simp only [effK, ok2]
    rw [bad]
    by_cases c1 : a ≥ 0
    rotate_left
    · simp only [decide_eq_false c1, Bool.not_false, cond_true, cond_false]; rfl
    by_cases c2 : a ≤ 7
    rotate_left
    · simp only [decide_eq_true c1, decide_eq_false c2, Bool.not_false, cond_true, cond_false]; rfl
    by_cases c3 : b ≥ 0
    rotate_left
    · simp only [decide_eq_true c1, decide_eq_true c2, decide_eq_false c3, Bool.not_false, cond_true, cond_false]; rfl
    by_cases c4 : b ≤ 7
    rotate_left
    · simp only [decide_eq_true c1, decide_eq_true c2, decide_eq_true c3, decide_eq_false c4, Bool.not_false, cond_true, cond_false]; rfl
    by_cases c5 : m ≥ 0
    rotate_left
    · simp only [decide_eq_true c1, decide_eq_true c2, decide_eq_true c3, decide_eq_true c4, decide_eq_false c5, Bool.not_false, cond_true, cond_false]; rfl
    by_cases c6 : m ≤ 4095
    rotate_left
    · simp only [decide_eq_true c1, decide_eq_true c2, decide_eq_true c3, decide_eq_true c4, decide_eq_true c5, decide_eq_false c6, Bool.not_false, cond_true, cond_false]; rfl
    exact absurd (by simp only [packOk, Bool.and_eq_true, decide_eq_true_eq]; omega) ok
theorem runB_17 (a b m r0 r1 r2 r3 r4 r5 r6 r7 pc : Int) (k : Res → Option Res) (h1 : inI a = true) (h2 : inI b = true) (h3 : inI m = true) (w : words [r0, r1, r2, r3, r4, r5, r6, r7] = true) : runG Try.prog sR 100 17 [.e (.agg [.int .i64 17, .int .i64 a, .int .i64 b, .int .i64 m]), .e (.agg [.int .u64 r0, .int .u64 r1, .int .u64 r2, .int .u64 r3, .int .u64 r4, .int .u64 r5, .int .u64 r6, .int .u64 r7]), aint .i64 pc] [] k = effK 17 a b m r0 r1 r2 r3 r4 r5 r6 r7 pc k := by
  refine (t_runB_17 a b m r0 r1 r2 r3 r4 r5 r6 r7 pc k).trans ?_
  by_cases ok : packOk 17 a b m = true
  · obtain ⟨a0, a1, b0, b1, m0, m1⟩ := packOk_lits ok
    rw [decide_eq_true (show a ≥ 0 from a0), decide_eq_true a1, decide_eq_true (show b ≥ 0 from b0), decide_eq_true b1, decide_eq_true (show m ≥ 0 from m0), decide_eq_true m1]
    simp only [Bool.not_true, cond_true, cond_false]
    by_cases p0 : pc < 0
    · have pl : place pc = false := by simp [place]; omega
      simp only [effK, ok, pl, decide_eq_true p0, cond_true]
      rfl
    by_cases p1 : pc > 4095
    · have pl : place pc = false := by simp [place]; omega
      simp only [effK, ok, pl, decide_eq_false p0, decide_eq_true p1, cond_true, cond_false]
      rfl
    have pl : place pc = true := by simp [place]; omega
    have A0 : decide (0 ≤ a) = true := decide_eq_true a0
    have A1 : decide (a < ((8 : Nat) : Int)) = true := decide_eq_true (by omega)
    have A2 : decide (a < 8) = true := decide_eq_true (by omega)
    have B2 : decide (b < 8) = true := decide_eq_true (by omega)
    have B0 : decide (0 ≤ b) = true := decide_eq_true b0
    have B1 : decide (b < ((8 : Nat) : Int)) = true := decide_eq_true (by omega)
    have LA : decide (Int.toNat a < List.length [r0, r1, r2, r3, r4, r5, r6, r7]) = true := decide_eq_true (by show Int.toNat a < 8; omega)
    have LB : decide (Int.toNat b < List.length [r0, r1, r2, r3, r4, r5, r6, r7]) = true := decide_eq_true (by show Int.toNat b < 8; omega)
    have SH : decide (¬ Int.tmod (List.getD [r0, r1, r2, r3, r4, r5, r6, r7] (Int.toNat b) 0) 64 < 0) = true := decide_eq_true (by rw [Int.tmod_eq_emod_of_nonneg (rd_word w _).1]; omega)
    simp only [effK, ok, pl, decide_eq_false p0, decide_eq_false p1, A0, A1, A2, B0, B1, B2, LA, LB, SH, Bool.and_self, cond_true, cond_false]
    rfl
  · have ok2 : packOk 17 a b m = false := by simpa using ok
    have bad : effK 17 a b m r0 r1 r2 r3 r4 r5 r6 r7 pc k = k (badR 10) := by simp only [effK, ok2]
    rw [bad]
    by_cases c1 : a ≥ 0
    rotate_left
    · simp only [decide_eq_false c1, Bool.not_false, cond_true, cond_false]; rfl
    by_cases c2 : a ≤ 7
    rotate_left
    · simp only [decide_eq_true c1, decide_eq_false c2, Bool.not_false, cond_true, cond_false]; rfl
    by_cases c3 : b ≥ 0
    rotate_left
    · simp only [decide_eq_true c1, decide_eq_true c2, decide_eq_false c3, Bool.not_false, cond_true, cond_false]; rfl
    by_cases c4 : b ≤ 7
    rotate_left
    · simp only [decide_eq_true c1, decide_eq_true c2, decide_eq_true c3, decide_eq_false c4, Bool.not_false, cond_true, cond_false]; rfl
    by_cases c5 : m ≥ 0
    rotate_left
    · simp only [decide_eq_true c1, decide_eq_true c2, decide_eq_true c3, decide_eq_true c4, decide_eq_false c5, Bool.not_false, cond_true, cond_false]; rfl
    by_cases c6 : m ≤ 4095
    rotate_left
    · simp only [decide_eq_true c1, decide_eq_true c2, decide_eq_true c3, decide_eq_true c4, decide_eq_true c5, decide_eq_false c6, Bool.not_false, cond_true, cond_false]; rfl
    exact absurd (by simp only [packOk, Bool.and_eq_true, decide_eq_true_eq]; omega) ok
end Go.Proofs.Ytiodjfgdglakkaa.Wlk
