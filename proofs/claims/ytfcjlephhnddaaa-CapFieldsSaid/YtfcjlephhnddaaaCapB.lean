/- Capabilities: what is checked, kind by kind. -/
import Derived.Test.YtfcjlephhnddaaaCapA
set_option linter.unusedVariables false
set_option linter.unusedSimpArgs false
set_option maxRecDepth 100000
namespace Go.Proofs.Ytfcjlephhnddaaa.Wlk
open Go Go.Eng Go.Proofs
theorem t_ck0 (o r b g n : Int) (K : Res → Option Res) : runG Try.prog sC3 100 18 [.e (.agg [.int .i64 0, .int .i64 o, .int .i64 r, .int .u64 b, .int .u64 g, .int .i64 n])] [] K = (cond (!(0 == 0 && (0 == o && (0 == r && (0 == b && (0 == g && (0 == n && true))))))) (cond (!(0 == 0 && (0 == o && (0 == r && (0 == b && (0 == g && (0 == n && true))))))) (K (Res.mk (AV.e (AE.c (AC.int (IntKind.i64) (10)))) [])) (K (Res.mk (AV.e (AE.c (AC.int (IntKind.i64) (0)))) []))) (cond (decide (o < 0)) (K (Res.mk (AV.e (AE.c (AC.int (IntKind.i64) (10)))) [])) (cond (Int.fdiv o 64 != 0) (cond (Int.fdiv o 64 != 0) (K (Res.mk (AV.e (AE.c (AC.int (IntKind.i64) (10)))) [])) (K (Res.mk (AV.e (AE.c (AC.int (IntKind.i64) (0)))) []))) (cond (!IntKind.wrap IntKind.i64 (↑(BitVec.toNat (BitVec.ofInt 64 r &&& ~~~BitVec.ofInt 64 7)) : Int) == 0) (cond (!IntKind.wrap IntKind.i64 (↑(BitVec.toNat (BitVec.ofInt 64 r &&& ~~~BitVec.ofInt 64 7)) : Int) == 0) (K (Res.mk (AV.e (AE.c (AC.int (IntKind.i64) (10)))) [])) (K (Res.mk (AV.e (AE.c (AC.int (IntKind.i64) (0)))) []))) (cond (Int.fdiv b 268435456 != 0) (cond (Int.fdiv b 268435456 != 0) (K (Res.mk (AV.e (AE.c (AC.int (IntKind.i64) (10)))) [])) (K (Res.mk (AV.e (AE.c (AC.int (IntKind.i64) (0)))) []))) (cond (decide (n ≥ 0)) (cond (decide (n ≤ 16)) (cond (decide ¬n < 0) (cond (!Int.fdiv g (2 ^ Min.min (Int.toNat n) 64) == 0) (K (Res.mk (AV.e (AE.c (AC.int (IntKind.i64) (10)))) [])) (K (Res.mk (AV.e (AE.c (AC.int (IntKind.i64) (0)))) []))) none) (K (Res.mk (AV.e (AE.c (AC.int (IntKind.i64) (10)))) []))) (K (Res.mk (AV.e (AE.c (AC.int (IntKind.i64) (10)))) [])))))))) := by kernel_rfl
theorem t_ck1 (o r b g n : Int) (K : Res → Option Res) : runG Try.prog sC3 100 18 [.e (.agg [.int .i64 1, .int .i64 o, .int .i64 r, .int .u64 b, .int .u64 g, .int .i64 n])] [] K = (cond (!(1 == 1 && (o == o && (0 == r && (0 == b && (0 == g && (0 == n && true))))))) (cond (!(1 == 1 && (o == o && (0 == r && (0 == b && (0 == g && (0 == n && true))))))) (K (Res.mk (AV.e (AE.c (AC.int (IntKind.i64) (10)))) [])) (K (Res.mk (AV.e (AE.c (AC.int (IntKind.i64) (0)))) []))) (cond (decide (o < 0)) (K (Res.mk (AV.e (AE.c (AC.int (IntKind.i64) (10)))) [])) (cond (Int.fdiv o 64 != 0) (cond (Int.fdiv o 64 != 0) (K (Res.mk (AV.e (AE.c (AC.int (IntKind.i64) (10)))) [])) (K (Res.mk (AV.e (AE.c (AC.int (IntKind.i64) (0)))) []))) (cond (!IntKind.wrap IntKind.i64 (↑(BitVec.toNat (BitVec.ofInt 64 r &&& ~~~BitVec.ofInt 64 7)) : Int) == 0) (cond (!IntKind.wrap IntKind.i64 (↑(BitVec.toNat (BitVec.ofInt 64 r &&& ~~~BitVec.ofInt 64 7)) : Int) == 0) (K (Res.mk (AV.e (AE.c (AC.int (IntKind.i64) (10)))) [])) (K (Res.mk (AV.e (AE.c (AC.int (IntKind.i64) (0)))) []))) (cond (Int.fdiv b 268435456 != 0) (cond (Int.fdiv b 268435456 != 0) (K (Res.mk (AV.e (AE.c (AC.int (IntKind.i64) (10)))) [])) (K (Res.mk (AV.e (AE.c (AC.int (IntKind.i64) (0)))) []))) (cond (decide (n ≥ 0)) (cond (decide (n ≤ 16)) (cond (decide ¬n < 0) (cond (!Int.fdiv g (2 ^ Min.min (Int.toNat n) 64) == 0) (K (Res.mk (AV.e (AE.c (AC.int (IntKind.i64) (10)))) [])) (K (Res.mk (AV.e (AE.c (AC.int (IntKind.i64) (0)))) []))) none) (K (Res.mk (AV.e (AE.c (AC.int (IntKind.i64) (10)))) []))) (K (Res.mk (AV.e (AE.c (AC.int (IntKind.i64) (10)))) [])))))))) := by kernel_rfl
theorem t_ck2 (o r b g n : Int) (K : Res → Option Res) : runG Try.prog sC3 100 18 [.e (.agg [.int .i64 2, .int .i64 o, .int .i64 r, .int .u64 b, .int .u64 g, .int .i64 n])] [] K = (cond (!(2 == 2 && (o == o && (0 == r && (0 == b && (g == g && (n == n && true))))))) (cond (!(2 == 2 && (o == o && (0 == r && (0 == b && (g == g && (n == n && true))))))) (K (Res.mk (AV.e (AE.c (AC.int (IntKind.i64) (10)))) [])) (K (Res.mk (AV.e (AE.c (AC.int (IntKind.i64) (0)))) []))) (cond (decide (o < 0)) (K (Res.mk (AV.e (AE.c (AC.int (IntKind.i64) (10)))) [])) (cond (Int.fdiv o 64 != 0) (cond (Int.fdiv o 64 != 0) (K (Res.mk (AV.e (AE.c (AC.int (IntKind.i64) (10)))) [])) (K (Res.mk (AV.e (AE.c (AC.int (IntKind.i64) (0)))) []))) (cond (!IntKind.wrap IntKind.i64 (↑(BitVec.toNat (BitVec.ofInt 64 r &&& ~~~BitVec.ofInt 64 7)) : Int) == 0) (cond (!IntKind.wrap IntKind.i64 (↑(BitVec.toNat (BitVec.ofInt 64 r &&& ~~~BitVec.ofInt 64 7)) : Int) == 0) (K (Res.mk (AV.e (AE.c (AC.int (IntKind.i64) (10)))) [])) (K (Res.mk (AV.e (AE.c (AC.int (IntKind.i64) (0)))) []))) (cond (Int.fdiv b 268435456 != 0) (cond (Int.fdiv b 268435456 != 0) (K (Res.mk (AV.e (AE.c (AC.int (IntKind.i64) (10)))) [])) (K (Res.mk (AV.e (AE.c (AC.int (IntKind.i64) (0)))) []))) (cond (decide (n ≥ 0)) (cond (decide (n ≤ 16)) (cond (decide ¬n < 0) (cond (!Int.fdiv g (2 ^ Min.min (Int.toNat n) 64) == 0) (K (Res.mk (AV.e (AE.c (AC.int (IntKind.i64) (10)))) [])) (K (Res.mk (AV.e (AE.c (AC.int (IntKind.i64) (0)))) []))) none) (K (Res.mk (AV.e (AE.c (AC.int (IntKind.i64) (10)))) []))) (K (Res.mk (AV.e (AE.c (AC.int (IntKind.i64) (10)))) [])))))))) := by kernel_rfl
theorem t_ck3 (o r b g n : Int) (K : Res → Option Res) : runG Try.prog sC3 100 18 [.e (.agg [.int .i64 3, .int .i64 o, .int .i64 r, .int .u64 b, .int .u64 g, .int .i64 n])] [] K = (cond (!(3 == 3 && (o == o && (0 == r && (0 == b && (0 == g && (0 == n && true))))))) (cond (!(3 == 3 && (o == o && (0 == r && (0 == b && (0 == g && (0 == n && true))))))) (K (Res.mk (AV.e (AE.c (AC.int (IntKind.i64) (10)))) [])) (K (Res.mk (AV.e (AE.c (AC.int (IntKind.i64) (0)))) []))) (cond (decide (o < 0)) (K (Res.mk (AV.e (AE.c (AC.int (IntKind.i64) (10)))) [])) (cond (Int.fdiv o 64 != 0) (cond (Int.fdiv o 64 != 0) (K (Res.mk (AV.e (AE.c (AC.int (IntKind.i64) (10)))) [])) (K (Res.mk (AV.e (AE.c (AC.int (IntKind.i64) (0)))) []))) (cond (!IntKind.wrap IntKind.i64 (↑(BitVec.toNat (BitVec.ofInt 64 r &&& ~~~BitVec.ofInt 64 7)) : Int) == 0) (cond (!IntKind.wrap IntKind.i64 (↑(BitVec.toNat (BitVec.ofInt 64 r &&& ~~~BitVec.ofInt 64 7)) : Int) == 0) (K (Res.mk (AV.e (AE.c (AC.int (IntKind.i64) (10)))) [])) (K (Res.mk (AV.e (AE.c (AC.int (IntKind.i64) (0)))) []))) (cond (Int.fdiv b 268435456 != 0) (cond (Int.fdiv b 268435456 != 0) (K (Res.mk (AV.e (AE.c (AC.int (IntKind.i64) (10)))) [])) (K (Res.mk (AV.e (AE.c (AC.int (IntKind.i64) (0)))) []))) (cond (decide (n ≥ 0)) (cond (decide (n ≤ 16)) (cond (decide ¬n < 0) (cond (!Int.fdiv g (2 ^ Min.min (Int.toNat n) 64) == 0) (K (Res.mk (AV.e (AE.c (AC.int (IntKind.i64) (10)))) [])) (K (Res.mk (AV.e (AE.c (AC.int (IntKind.i64) (0)))) []))) none) (K (Res.mk (AV.e (AE.c (AC.int (IntKind.i64) (10)))) []))) (K (Res.mk (AV.e (AE.c (AC.int (IntKind.i64) (10)))) [])))))))) := by kernel_rfl
theorem t_ck4 (o r b g n : Int) (K : Res → Option Res) : runG Try.prog sC3 100 18 [.e (.agg [.int .i64 4, .int .i64 o, .int .i64 r, .int .u64 b, .int .u64 g, .int .i64 n])] [] K = (cond (!(4 == 4 && (o == o && (r == r && (b == b && (0 == g && (0 == n && true))))))) (cond (!(4 == 4 && (o == o && (r == r && (b == b && (0 == g && (0 == n && true))))))) (K (Res.mk (AV.e (AE.c (AC.int (IntKind.i64) (10)))) [])) (K (Res.mk (AV.e (AE.c (AC.int (IntKind.i64) (0)))) []))) (cond (decide (o < 0)) (K (Res.mk (AV.e (AE.c (AC.int (IntKind.i64) (10)))) [])) (cond (Int.fdiv o 64 != 0) (cond (Int.fdiv o 64 != 0) (K (Res.mk (AV.e (AE.c (AC.int (IntKind.i64) (10)))) [])) (K (Res.mk (AV.e (AE.c (AC.int (IntKind.i64) (0)))) []))) (cond (!IntKind.wrap IntKind.i64 (↑(BitVec.toNat (BitVec.ofInt 64 r &&& ~~~BitVec.ofInt 64 7)) : Int) == 0) (cond (!IntKind.wrap IntKind.i64 (↑(BitVec.toNat (BitVec.ofInt 64 r &&& ~~~BitVec.ofInt 64 7)) : Int) == 0) (K (Res.mk (AV.e (AE.c (AC.int (IntKind.i64) (10)))) [])) (K (Res.mk (AV.e (AE.c (AC.int (IntKind.i64) (0)))) []))) (cond (Int.fdiv b 268435456 != 0) (cond (Int.fdiv b 268435456 != 0) (K (Res.mk (AV.e (AE.c (AC.int (IntKind.i64) (10)))) [])) (K (Res.mk (AV.e (AE.c (AC.int (IntKind.i64) (0)))) []))) (cond (decide (n ≥ 0)) (cond (decide (n ≤ 16)) (cond (decide ¬n < 0) (cond (!Int.fdiv g (2 ^ Min.min (Int.toNat n) 64) == 0) (K (Res.mk (AV.e (AE.c (AC.int (IntKind.i64) (10)))) [])) (K (Res.mk (AV.e (AE.c (AC.int (IntKind.i64) (0)))) []))) none) (K (Res.mk (AV.e (AE.c (AC.int (IntKind.i64) (10)))) []))) (K (Res.mk (AV.e (AE.c (AC.int (IntKind.i64) (10)))) [])))))))) := by kernel_rfl
theorem t_ck5 (o r b g n : Int) (K : Res → Option Res) : runG Try.prog sC3 100 18 [.e (.agg [.int .i64 5, .int .i64 o, .int .i64 r, .int .u64 b, .int .u64 g, .int .i64 n])] [] K = (cond (!(5 == 5 && (o == o && (r == r && (b == b && (0 == g && (0 == n && true))))))) (cond (!(5 == 5 && (o == o && (r == r && (b == b && (0 == g && (0 == n && true))))))) (K (Res.mk (AV.e (AE.c (AC.int (IntKind.i64) (10)))) [])) (K (Res.mk (AV.e (AE.c (AC.int (IntKind.i64) (0)))) []))) (cond (decide (o < 0)) (K (Res.mk (AV.e (AE.c (AC.int (IntKind.i64) (10)))) [])) (cond (Int.fdiv o 64 != 0) (cond (Int.fdiv o 64 != 0) (K (Res.mk (AV.e (AE.c (AC.int (IntKind.i64) (10)))) [])) (K (Res.mk (AV.e (AE.c (AC.int (IntKind.i64) (0)))) []))) (cond (!IntKind.wrap IntKind.i64 (↑(BitVec.toNat (BitVec.ofInt 64 r &&& ~~~BitVec.ofInt 64 7)) : Int) == 0) (cond (!IntKind.wrap IntKind.i64 (↑(BitVec.toNat (BitVec.ofInt 64 r &&& ~~~BitVec.ofInt 64 7)) : Int) == 0) (K (Res.mk (AV.e (AE.c (AC.int (IntKind.i64) (10)))) [])) (K (Res.mk (AV.e (AE.c (AC.int (IntKind.i64) (0)))) []))) (cond (Int.fdiv b 268435456 != 0) (cond (Int.fdiv b 268435456 != 0) (K (Res.mk (AV.e (AE.c (AC.int (IntKind.i64) (10)))) [])) (K (Res.mk (AV.e (AE.c (AC.int (IntKind.i64) (0)))) []))) (cond (decide (n ≥ 0)) (cond (decide (n ≤ 16)) (cond (decide ¬n < 0) (cond (!Int.fdiv g (2 ^ Min.min (Int.toNat n) 64) == 0) (K (Res.mk (AV.e (AE.c (AC.int (IntKind.i64) (10)))) [])) (K (Res.mk (AV.e (AE.c (AC.int (IntKind.i64) (0)))) []))) none) (K (Res.mk (AV.e (AE.c (AC.int (IntKind.i64) (10)))) []))) (K (Res.mk (AV.e (AE.c (AC.int (IntKind.i64) (10)))) [])))))))) := by kernel_rfl
theorem t_ck6 (o r b g n : Int) (K : Res → Option Res) : runG Try.prog sC3 100 18 [.e (.agg [.int .i64 6, .int .i64 o, .int .i64 r, .int .u64 b, .int .u64 g, .int .i64 n])] [] K = (cond (!(6 == 6 && (o == o && (r == r && (0 == b && (0 == g && (0 == n && true))))))) (cond (!(6 == 6 && (o == o && (r == r && (0 == b && (0 == g && (0 == n && true))))))) (K (Res.mk (AV.e (AE.c (AC.int (IntKind.i64) (10)))) [])) (K (Res.mk (AV.e (AE.c (AC.int (IntKind.i64) (0)))) []))) (cond (decide (o < 0)) (K (Res.mk (AV.e (AE.c (AC.int (IntKind.i64) (10)))) [])) (cond (Int.fdiv o 64 != 0) (cond (Int.fdiv o 64 != 0) (K (Res.mk (AV.e (AE.c (AC.int (IntKind.i64) (10)))) [])) (K (Res.mk (AV.e (AE.c (AC.int (IntKind.i64) (0)))) []))) (cond (!IntKind.wrap IntKind.i64 (↑(BitVec.toNat (BitVec.ofInt 64 r &&& ~~~BitVec.ofInt 64 7)) : Int) == 0) (cond (!IntKind.wrap IntKind.i64 (↑(BitVec.toNat (BitVec.ofInt 64 r &&& ~~~BitVec.ofInt 64 7)) : Int) == 0) (K (Res.mk (AV.e (AE.c (AC.int (IntKind.i64) (10)))) [])) (K (Res.mk (AV.e (AE.c (AC.int (IntKind.i64) (0)))) []))) (cond (Int.fdiv b 268435456 != 0) (cond (Int.fdiv b 268435456 != 0) (K (Res.mk (AV.e (AE.c (AC.int (IntKind.i64) (10)))) [])) (K (Res.mk (AV.e (AE.c (AC.int (IntKind.i64) (0)))) []))) (cond (decide (n ≥ 0)) (cond (decide (n ≤ 16)) (cond (decide ¬n < 0) (cond (!Int.fdiv g (2 ^ Min.min (Int.toNat n) 64) == 0) (K (Res.mk (AV.e (AE.c (AC.int (IntKind.i64) (10)))) [])) (K (Res.mk (AV.e (AE.c (AC.int (IntKind.i64) (0)))) []))) none) (K (Res.mk (AV.e (AE.c (AC.int (IntKind.i64) (10)))) []))) (K (Res.mk (AV.e (AE.c (AC.int (IntKind.i64) (10)))) [])))))))) := by kernel_rfl
theorem t_ck7 (o r b g n : Int) (K : Res → Option Res) : runG Try.prog sC3 100 18 [.e (.agg [.int .i64 7, .int .i64 o, .int .i64 r, .int .u64 b, .int .u64 g, .int .i64 n])] [] K = (cond (!(7 == 7 && (o == o && (0 == r && (0 == b && (0 == g && (0 == n && true))))))) (cond (!(7 == 7 && (o == o && (0 == r && (0 == b && (0 == g && (0 == n && true))))))) (K (Res.mk (AV.e (AE.c (AC.int (IntKind.i64) (10)))) [])) (K (Res.mk (AV.e (AE.c (AC.int (IntKind.i64) (0)))) []))) (cond (decide (o < 0)) (K (Res.mk (AV.e (AE.c (AC.int (IntKind.i64) (10)))) [])) (cond (Int.fdiv o 64 != 0) (cond (Int.fdiv o 64 != 0) (K (Res.mk (AV.e (AE.c (AC.int (IntKind.i64) (10)))) [])) (K (Res.mk (AV.e (AE.c (AC.int (IntKind.i64) (0)))) []))) (cond (!IntKind.wrap IntKind.i64 (↑(BitVec.toNat (BitVec.ofInt 64 r &&& ~~~BitVec.ofInt 64 7)) : Int) == 0) (cond (!IntKind.wrap IntKind.i64 (↑(BitVec.toNat (BitVec.ofInt 64 r &&& ~~~BitVec.ofInt 64 7)) : Int) == 0) (K (Res.mk (AV.e (AE.c (AC.int (IntKind.i64) (10)))) [])) (K (Res.mk (AV.e (AE.c (AC.int (IntKind.i64) (0)))) []))) (cond (Int.fdiv b 268435456 != 0) (cond (Int.fdiv b 268435456 != 0) (K (Res.mk (AV.e (AE.c (AC.int (IntKind.i64) (10)))) [])) (K (Res.mk (AV.e (AE.c (AC.int (IntKind.i64) (0)))) []))) (cond (decide (n ≥ 0)) (cond (decide (n ≤ 16)) (cond (decide ¬n < 0) (cond (!Int.fdiv g (2 ^ Min.min (Int.toNat n) 64) == 0) (K (Res.mk (AV.e (AE.c (AC.int (IntKind.i64) (10)))) [])) (K (Res.mk (AV.e (AE.c (AC.int (IntKind.i64) (0)))) []))) none) (K (Res.mk (AV.e (AE.c (AC.int (IntKind.i64) (10)))) []))) (K (Res.mk (AV.e (AE.c (AC.int (IntKind.i64) (10)))) [])))))))) := by kernel_rfl
theorem t_ck8 (o r b g n : Int) (K : Res → Option Res) : runG Try.prog sC3 100 18 [.e (.agg [.int .i64 8, .int .i64 o, .int .i64 r, .int .u64 b, .int .u64 g, .int .i64 n])] [] K = (cond (!(8 == 8 && (o == o && (0 == r && (0 == b && (0 == g && (0 == n && true))))))) (cond (!(8 == 8 && (o == o && (0 == r && (0 == b && (0 == g && (0 == n && true))))))) (K (Res.mk (AV.e (AE.c (AC.int (IntKind.i64) (10)))) [])) (K (Res.mk (AV.e (AE.c (AC.int (IntKind.i64) (0)))) []))) (cond (decide (o < 0)) (K (Res.mk (AV.e (AE.c (AC.int (IntKind.i64) (10)))) [])) (cond (Int.fdiv o 64 != 0) (cond (Int.fdiv o 64 != 0) (K (Res.mk (AV.e (AE.c (AC.int (IntKind.i64) (10)))) [])) (K (Res.mk (AV.e (AE.c (AC.int (IntKind.i64) (0)))) []))) (cond (!IntKind.wrap IntKind.i64 (↑(BitVec.toNat (BitVec.ofInt 64 r &&& ~~~BitVec.ofInt 64 7)) : Int) == 0) (cond (!IntKind.wrap IntKind.i64 (↑(BitVec.toNat (BitVec.ofInt 64 r &&& ~~~BitVec.ofInt 64 7)) : Int) == 0) (K (Res.mk (AV.e (AE.c (AC.int (IntKind.i64) (10)))) [])) (K (Res.mk (AV.e (AE.c (AC.int (IntKind.i64) (0)))) []))) (cond (Int.fdiv b 268435456 != 0) (cond (Int.fdiv b 268435456 != 0) (K (Res.mk (AV.e (AE.c (AC.int (IntKind.i64) (10)))) [])) (K (Res.mk (AV.e (AE.c (AC.int (IntKind.i64) (0)))) []))) (cond (decide (n ≥ 0)) (cond (decide (n ≤ 16)) (cond (decide ¬n < 0) (cond (!Int.fdiv g (2 ^ Min.min (Int.toNat n) 64) == 0) (K (Res.mk (AV.e (AE.c (AC.int (IntKind.i64) (10)))) [])) (K (Res.mk (AV.e (AE.c (AC.int (IntKind.i64) (0)))) []))) none) (K (Res.mk (AV.e (AE.c (AC.int (IntKind.i64) (10)))) []))) (K (Res.mk (AV.e (AE.c (AC.int (IntKind.i64) (10)))) [])))))))) := by kernel_rfl
theorem t_ck9 (o r b g n : Int) (K : Res → Option Res) : runG Try.prog sC3 100 18 [.e (.agg [.int .i64 9, .int .i64 o, .int .i64 r, .int .u64 b, .int .u64 g, .int .i64 n])] [] K = (cond (!(9 == 9 && (o == o && (0 == r && (0 == b && (0 == g && (0 == n && true))))))) (cond (!(9 == 9 && (o == o && (0 == r && (0 == b && (0 == g && (0 == n && true))))))) (K (Res.mk (AV.e (AE.c (AC.int (IntKind.i64) (10)))) [])) (K (Res.mk (AV.e (AE.c (AC.int (IntKind.i64) (0)))) []))) (cond (decide (o < 0)) (K (Res.mk (AV.e (AE.c (AC.int (IntKind.i64) (10)))) [])) (cond (Int.fdiv o 64 != 0) (cond (Int.fdiv o 64 != 0) (K (Res.mk (AV.e (AE.c (AC.int (IntKind.i64) (10)))) [])) (K (Res.mk (AV.e (AE.c (AC.int (IntKind.i64) (0)))) []))) (cond (!IntKind.wrap IntKind.i64 (↑(BitVec.toNat (BitVec.ofInt 64 r &&& ~~~BitVec.ofInt 64 7)) : Int) == 0) (cond (!IntKind.wrap IntKind.i64 (↑(BitVec.toNat (BitVec.ofInt 64 r &&& ~~~BitVec.ofInt 64 7)) : Int) == 0) (K (Res.mk (AV.e (AE.c (AC.int (IntKind.i64) (10)))) [])) (K (Res.mk (AV.e (AE.c (AC.int (IntKind.i64) (0)))) []))) (cond (Int.fdiv b 268435456 != 0) (cond (Int.fdiv b 268435456 != 0) (K (Res.mk (AV.e (AE.c (AC.int (IntKind.i64) (10)))) [])) (K (Res.mk (AV.e (AE.c (AC.int (IntKind.i64) (0)))) []))) (cond (decide (n ≥ 0)) (cond (decide (n ≤ 16)) (cond (decide ¬n < 0) (cond (!Int.fdiv g (2 ^ Min.min (Int.toNat n) 64) == 0) (K (Res.mk (AV.e (AE.c (AC.int (IntKind.i64) (10)))) [])) (K (Res.mk (AV.e (AE.c (AC.int (IntKind.i64) (0)))) []))) none) (K (Res.mk (AV.e (AE.c (AC.int (IntKind.i64) (10)))) []))) (K (Res.mk (AV.e (AE.c (AC.int (IntKind.i64) (10)))) [])))))))) := by kernel_rfl
theorem t_ck10 (o r b g n : Int) (K : Res → Option Res) : runG Try.prog sC3 100 18 [.e (.agg [.int .i64 10, .int .i64 o, .int .i64 r, .int .u64 b, .int .u64 g, .int .i64 n])] [] K = (cond (!(10 == 10 && (0 == o && (0 == r && (0 == b && (0 == g && (0 == n && true))))))) (cond (!(10 == 10 && (0 == o && (0 == r && (0 == b && (0 == g && (0 == n && true))))))) (K (Res.mk (AV.e (AE.c (AC.int (IntKind.i64) (10)))) [])) (K (Res.mk (AV.e (AE.c (AC.int (IntKind.i64) (0)))) []))) (cond (decide (o < 0)) (K (Res.mk (AV.e (AE.c (AC.int (IntKind.i64) (10)))) [])) (cond (Int.fdiv o 64 != 0) (cond (Int.fdiv o 64 != 0) (K (Res.mk (AV.e (AE.c (AC.int (IntKind.i64) (10)))) [])) (K (Res.mk (AV.e (AE.c (AC.int (IntKind.i64) (0)))) []))) (cond (!IntKind.wrap IntKind.i64 (↑(BitVec.toNat (BitVec.ofInt 64 r &&& ~~~BitVec.ofInt 64 7)) : Int) == 0) (cond (!IntKind.wrap IntKind.i64 (↑(BitVec.toNat (BitVec.ofInt 64 r &&& ~~~BitVec.ofInt 64 7)) : Int) == 0) (K (Res.mk (AV.e (AE.c (AC.int (IntKind.i64) (10)))) [])) (K (Res.mk (AV.e (AE.c (AC.int (IntKind.i64) (0)))) []))) (cond (Int.fdiv b 268435456 != 0) (cond (Int.fdiv b 268435456 != 0) (K (Res.mk (AV.e (AE.c (AC.int (IntKind.i64) (10)))) [])) (K (Res.mk (AV.e (AE.c (AC.int (IntKind.i64) (0)))) []))) (cond (decide (n ≥ 0)) (cond (decide (n ≤ 16)) (cond (decide ¬n < 0) (cond (!Int.fdiv g (2 ^ Min.min (Int.toNat n) 64) == 0) (K (Res.mk (AV.e (AE.c (AC.int (IntKind.i64) (10)))) [])) (K (Res.mk (AV.e (AE.c (AC.int (IntKind.i64) (0)))) []))) none) (K (Res.mk (AV.e (AE.c (AC.int (IntKind.i64) (10)))) []))) (K (Res.mk (AV.e (AE.c (AC.int (IntKind.i64) (10)))) [])))))))) := by kernel_rfl
theorem t_ck11 (o r b g n : Int) (K : Res → Option Res) : runG Try.prog sC3 100 18 [.e (.agg [.int .i64 11, .int .i64 o, .int .i64 r, .int .u64 b, .int .u64 g, .int .i64 n])] [] K = (cond (!(11 == 11 && (o == o && (0 == r && (0 == b && (0 == g && (0 == n && true))))))) (cond (!(11 == 11 && (o == o && (0 == r && (0 == b && (0 == g && (0 == n && true))))))) (K (Res.mk (AV.e (AE.c (AC.int (IntKind.i64) (10)))) [])) (K (Res.mk (AV.e (AE.c (AC.int (IntKind.i64) (0)))) []))) (cond (decide (o < 0)) (K (Res.mk (AV.e (AE.c (AC.int (IntKind.i64) (10)))) [])) (cond (Int.fdiv o 64 != 0) (cond (Int.fdiv o 64 != 0) (K (Res.mk (AV.e (AE.c (AC.int (IntKind.i64) (10)))) [])) (K (Res.mk (AV.e (AE.c (AC.int (IntKind.i64) (0)))) []))) (cond (!IntKind.wrap IntKind.i64 (↑(BitVec.toNat (BitVec.ofInt 64 r &&& ~~~BitVec.ofInt 64 7)) : Int) == 0) (cond (!IntKind.wrap IntKind.i64 (↑(BitVec.toNat (BitVec.ofInt 64 r &&& ~~~BitVec.ofInt 64 7)) : Int) == 0) (K (Res.mk (AV.e (AE.c (AC.int (IntKind.i64) (10)))) [])) (K (Res.mk (AV.e (AE.c (AC.int (IntKind.i64) (0)))) []))) (cond (Int.fdiv b 268435456 != 0) (cond (Int.fdiv b 268435456 != 0) (K (Res.mk (AV.e (AE.c (AC.int (IntKind.i64) (10)))) [])) (K (Res.mk (AV.e (AE.c (AC.int (IntKind.i64) (0)))) []))) (cond (decide (n ≥ 0)) (cond (decide (n ≤ 16)) (cond (decide ¬n < 0) (cond (!Int.fdiv g (2 ^ Min.min (Int.toNat n) 64) == 0) (K (Res.mk (AV.e (AE.c (AC.int (IntKind.i64) (10)))) [])) (K (Res.mk (AV.e (AE.c (AC.int (IntKind.i64) (0)))) []))) none) (K (Res.mk (AV.e (AE.c (AC.int (IntKind.i64) (10)))) []))) (K (Res.mk (AV.e (AE.c (AC.int (IntKind.i64) (10)))) [])))))))) := by kernel_rfl
theorem cT {α : Type} (a b : α) : cond true a b = a := by
  have h : ∀ c : Bool, c = true → cond c a b = a := fun c hc => by rw [hc, cond_true]
  exact h true rfl
theorem cF {α : Type} (a b : α) : cond false a b = b := by
  have h : ∀ c : Bool, c = false → cond c a b = b := fun c hc => by rw [hc, cond_false]
  exact h false rfl
theorem bsame {α : Type} (c : Bool) (a : α) : cond c a a = a := by cases c <;> rfl
/-- The fields a kind has. -/
def hasF (k o r b g n : Int) : Bool :=
  if k = 0 ∨ k = 10 then decide (o = 0 ∧ r = 0 ∧ b = 0 ∧ g = 0 ∧ n = 0)
  else if k = 4 ∨ k = 5 then decide (g = 0 ∧ n = 0)
  else if k = 6 then decide (b = 0 ∧ g = 0 ∧ n = 0)
  else if k = 2 then decide (r = 0 ∧ b = 0)
  else decide (r = 0 ∧ b = 0 ∧ g = 0 ∧ n = 0)
def chF (k o r b g n : Int) : Int := if hasF k o r b g n = true then 0 else 10
def rngF (k o r b g n : Int) : Bool := decide (0 ≤ k) && decide (k ≤ 11) && decide (0 ≤ o) && decide (o < 64) && decide (0 ≤ r) && decide (r ≤ 7) && decide (0 ≤ b) && decide (b < 268435456) && decide (0 ≤ g) && decide (g < 8) && (decide (n = 3) || (decide (n = 0) && decide (g = 0)))
abbrev CH6 := Int → Int → Int → Int → Int → Int → Int
def gChk (C : CH6) : Fun := fun args sub κ => match args, sub with
  | [.e (.agg [.int .i64 k, .int .i64 o, .int .i64 r, .int .u64 b, .int .u64 g, .int .i64 n])], [] => match rngF k o r b g n with
    | true => κ ⟨.e (.c (.int .i64 (C k o r b g n))), []⟩
    | false => none
  | _, _ => none
theorem low_r {r : Int} (h0 : 0 ≤ r) (h : r ≤ 7) : IntKind.wrap IntKind.i64 (BitVec.toNat (BitVec.ofInt 64 r &&& ~~~BitVec.ofInt 64 7) : Int) = 0 := by
  have : r = 0 ∨ r = 1 ∨ r = 2 ∨ r = 3 ∨ r = 4 ∨ r = 5 ∨ r = 6 ∨ r = 7 := by omega
  rcases this with e | e | e | e | e | e | e | e <;> subst e <;> decide
theorem ck_end {β : Type} (P : Bool) (o r b g n : Int) (h : rngF 0 o r b g n = true) (X0 X9 : β) (Z : β) :
    (cond (!P) (cond (!P) X9 X0) (cond (decide (o < 0)) X9 (cond (Int.fdiv o 64 != 0) (cond (Int.fdiv o 64 != 0) X9 X0) (cond (!IntKind.wrap IntKind.i64 (BitVec.toNat (BitVec.ofInt 64 r &&& ~~~BitVec.ofInt 64 7) : Int) == 0) (cond (!IntKind.wrap IntKind.i64 (BitVec.toNat (BitVec.ofInt 64 r &&& ~~~BitVec.ofInt 64 7) : Int) == 0) X9 X0) (cond (Int.fdiv b 268435456 != 0) (cond (Int.fdiv b 268435456 != 0) X9 X0) (cond (decide (n ≥ 0)) (cond (decide (n ≤ 16)) (cond (decide ¬n < 0) (cond (!Int.fdiv g (2 ^ Min.min (Int.toNat n) 64) == 0) X9 X0) Z) X9) X9)))))) = cond P X0 X9 := by
  simp only [rngF, Bool.and_eq_true, Bool.or_eq_true, decide_eq_true_eq] at h
  obtain ⟨⟨⟨⟨⟨⟨⟨⟨⟨⟨_, _⟩, h1⟩, h2⟩, h3⟩, h4⟩, h5⟩, h6⟩, h7⟩, h8⟩, h9⟩ := h
  cases P with
  | false => rfl
  | true =>
    have e1 : Int.fdiv o 64 = 0 := by rw [Int.fdiv_eq_ediv_of_nonneg _ (by omega)]; omega
    have e2 : Int.fdiv b 268435456 = 0 := by rw [Int.fdiv_eq_ediv_of_nonneg _ (by omega)]; omega
    have e3 : Int.fdiv g (2 ^ Min.min (Int.toNat n) 64) = 0 := by
      rcases h9 with e | ⟨e, f⟩
      · subst e
        rw [show (2 : Int) ^ Min.min (Int.toNat 3) 64 = 8 from by decide, Int.fdiv_eq_ediv_of_nonneg _ (by omega)]; omega
      · subst e f; decide
    rw [Bool.not_true, cF, decide_eq_false (show ¬ o < 0 by omega), cF, e1, show ((0 : Int) != 0) = false from rfl, cF, low_r h3 h4, show (!((0 : Int) == 0)) = false from rfl, cF, e2, show ((0 : Int) != 0) = false from rfl, cF, decide_eq_true (show n ≥ 0 by omega), cT, decide_eq_true (show n ≤ 16 by omega), cT, decide_eq_true (show ¬ n < 0 by omega), cT, e3, show (!((0 : Int) == 0)) = false from rfl, cF, cT]
theorem rng0 {k o r b g n : Int} (h : rngF k o r b g n = true) : rngF 0 o r b g n = true := by
  simp only [rngF, Bool.and_eq_true, Bool.or_eq_true, decide_eq_true_eq] at h ⊢
  omega
theorem chF_cond {k o r b g n : Int} {P : Bool} (h : P = hasF k o r b g n) {X : Int → Option Res} {q : Res} (e : X (chF k o r b g n) = some q) : cond P (X 0) (X 10) = some q := by
  unfold chF at e
  rw [← h] at e
  cases P with
  | true => rw [if_pos rfl] at e; exact e
  | false => rw [if_neg Bool.false_ne_true] at e; exact e
theorem gChk_sound : FunSound Try.prog 18 (gChk chF) := by
  refine (runG_sound sC3_ok mix 100 18).short fun args sub κ q h => ?_
  unfold gChk at h
  split at h
  · rename_i k o r b g n
    split at h
    · rename_i hc
      have h0 := rng0 hc
      have hk : k = 0 ∨ k = 1 ∨ k = 2 ∨ k = 3 ∨ k = 4 ∨ k = 5 ∨ k = 6 ∨ k = 7 ∨ k = 8 ∨ k = 9 ∨ k = 10 ∨ k = 11 := by
        simp only [rngF, Bool.and_eq_true, decide_eq_true_eq] at hc
        omega
      rcases hk with rfl | rfl | rfl | rfl | rfl | rfl | rfl | rfl | rfl | rfl | rfl | rfl
      · refine (t_ck0 o r b g n κ).trans ((ck_end _ o r b g n h0 _ _ _).trans (chF_cond (k := 0) (o := o) (r := r) (b := b) (g := g) (n := n) (X := fun z => κ ⟨.e (.c (.int .i64 z)), []⟩) ?_ h))
        rw [Bool.eq_iff_iff]
        simp [hasF]
        try omega
      · refine (t_ck1 o r b g n κ).trans ((ck_end _ o r b g n h0 _ _ _).trans (chF_cond (k := 1) (o := o) (r := r) (b := b) (g := g) (n := n) (X := fun z => κ ⟨.e (.c (.int .i64 z)), []⟩) ?_ h))
        rw [Bool.eq_iff_iff]
        simp [hasF]
        try omega
      · refine (t_ck2 o r b g n κ).trans ((ck_end _ o r b g n h0 _ _ _).trans (chF_cond (k := 2) (o := o) (r := r) (b := b) (g := g) (n := n) (X := fun z => κ ⟨.e (.c (.int .i64 z)), []⟩) ?_ h))
        rw [Bool.eq_iff_iff]
        simp [hasF]
        try omega
      · refine (t_ck3 o r b g n κ).trans ((ck_end _ o r b g n h0 _ _ _).trans (chF_cond (k := 3) (o := o) (r := r) (b := b) (g := g) (n := n) (X := fun z => κ ⟨.e (.c (.int .i64 z)), []⟩) ?_ h))
        rw [Bool.eq_iff_iff]
        simp [hasF]
        try omega
      · refine (t_ck4 o r b g n κ).trans ((ck_end _ o r b g n h0 _ _ _).trans (chF_cond (k := 4) (o := o) (r := r) (b := b) (g := g) (n := n) (X := fun z => κ ⟨.e (.c (.int .i64 z)), []⟩) ?_ h))
        rw [Bool.eq_iff_iff]
        simp [hasF]
        try omega
      · refine (t_ck5 o r b g n κ).trans ((ck_end _ o r b g n h0 _ _ _).trans (chF_cond (k := 5) (o := o) (r := r) (b := b) (g := g) (n := n) (X := fun z => κ ⟨.e (.c (.int .i64 z)), []⟩) ?_ h))
        rw [Bool.eq_iff_iff]
        simp [hasF]
        try omega
      · refine (t_ck6 o r b g n κ).trans ((ck_end _ o r b g n h0 _ _ _).trans (chF_cond (k := 6) (o := o) (r := r) (b := b) (g := g) (n := n) (X := fun z => κ ⟨.e (.c (.int .i64 z)), []⟩) ?_ h))
        rw [Bool.eq_iff_iff]
        simp [hasF]
        try omega
      · refine (t_ck7 o r b g n κ).trans ((ck_end _ o r b g n h0 _ _ _).trans (chF_cond (k := 7) (o := o) (r := r) (b := b) (g := g) (n := n) (X := fun z => κ ⟨.e (.c (.int .i64 z)), []⟩) ?_ h))
        rw [Bool.eq_iff_iff]
        simp [hasF]
        try omega
      · refine (t_ck8 o r b g n κ).trans ((ck_end _ o r b g n h0 _ _ _).trans (chF_cond (k := 8) (o := o) (r := r) (b := b) (g := g) (n := n) (X := fun z => κ ⟨.e (.c (.int .i64 z)), []⟩) ?_ h))
        rw [Bool.eq_iff_iff]
        simp [hasF]
        try omega
      · refine (t_ck9 o r b g n κ).trans ((ck_end _ o r b g n h0 _ _ _).trans (chF_cond (k := 9) (o := o) (r := r) (b := b) (g := g) (n := n) (X := fun z => κ ⟨.e (.c (.int .i64 z)), []⟩) ?_ h))
        rw [Bool.eq_iff_iff]
        simp [hasF]
        try omega
      · refine (t_ck10 o r b g n κ).trans ((ck_end _ o r b g n h0 _ _ _).trans (chF_cond (k := 10) (o := o) (r := r) (b := b) (g := g) (n := n) (X := fun z => κ ⟨.e (.c (.int .i64 z)), []⟩) ?_ h))
        rw [Bool.eq_iff_iff]
        simp [hasF]
        try omega
      · refine (t_ck11 o r b g n κ).trans ((ck_end _ o r b g n h0 _ _ _).trans (chF_cond (k := 11) (o := o) (r := r) (b := b) (g := g) (n := n) (X := fun z => κ ⟨.e (.c (.int .i64 z)), []⟩) ?_ h))
        rw [Bool.eq_iff_iff]
        simp [hasF]
        try omega
    · cases h
  · cases h
def gWk : Fun := fun args sub κ => match args, sub with
  | [], [] => κ ⟨.e (.c (.bool true)), []⟩
  | _, _ => none
theorem gWk_sound : FunSound Try.prog 20 gWk := by
  refine (runG_sound sC7_ok mix 300 20).short fun args sub κ r h => ?_
  unfold gWk at h
  split at h
  · exact (t_works κ).trans h
  · cases h
noncomputable def sCf (C : CH6) : Summ := sAdd (sAdd sNil 20 gWk) 18 (gChk C)
theorem sCf_ok : SummOk Try.prog (sCf chF) := sAdd_ok (sAdd_ok sNil_ok gWk_sound (enters Try.func20 rfl (by kernel_rfl))) gChk_sound (enters Try.func18 rfl (by kernel_rfl))
end Go.Proofs.Ytfcjlephhnddaaa.Wlk
