/- The law CodeLoops: its walk. -/
import Derived.Test.YtiodjfgdglakkaaCLr
set_option linter.unusedVariables false
set_option linter.unusedSimpArgs false
set_option maxRecDepth 100000
namespace Go.Proofs.Ytiodjfgdglakkaa.Wlk
open Go Go.Eng Go.Proofs Go.RowKit
theorem t_loops (a n : Int) (k : Res → Option Res) : runG Try.prog sLq 100 7 [aint .u64 a, aint .i64 n] [] k = (cond (decide (0 ≤ IntKind.wrap IntKind.u64 (IntKind.wrap IntKind.i64 (Int.tmod (IntKind.wrap IntKind.u64 n) 40))) && decide (IntKind.wrap IntKind.u64 (IntKind.wrap IntKind.i64 (Int.tmod (IntKind.wrap IntKind.u64 n) 40)) ≤ 39) && decide (IntKind.wrap IntKind.i64 (IntKind.wrap IntKind.i64 (4 * IntKind.wrap IntKind.i64 (Int.tmod (IntKind.wrap IntKind.u64 n) 40)) + 1) = 4 * IntKind.wrap IntKind.u64 (IntKind.wrap IntKind.i64 (Int.tmod (IntKind.wrap IntKind.u64 n) 40)) + 1)) (cond (inI 5 && inI 0 && inI 1 && inI 0 && inI 0 && Go.Proofs.Ytiodjfgdglakkaa.Wlk.words [a, IntKind.wrap IntKind.u64 (IntKind.wrap IntKind.i64 (Int.tmod (IntKind.wrap IntKind.u64 n) 40)), 0, 0, 0, 0, 0, 0]) (cond (IntKind.wrap IntKind.u64 (a * IntKind.wrap IntKind.u64 (IntKind.wrap IntKind.i64 (Int.tmod (IntKind.wrap IntKind.u64 n) 40))) == IntKind.wrap IntKind.u64 (a * IntKind.wrap IntKind.u64 (IntKind.wrap IntKind.i64 (Int.tmod (IntKind.wrap IntKind.u64 n) 40)))) (k (Res.mk (AV.e (AE.c (AC.bool (Go.Proofs.Ytiodjfgdglakkaa.Wlk.cellR 5 0 a (IntKind.wrap IntKind.u64 (IntKind.wrap IntKind.i64 (Int.tmod (IntKind.wrap IntKind.u64 n) 40))) 0 0 a == IntKind.wrap IntKind.u64 (a * IntKind.wrap IntKind.u64 (IntKind.wrap IntKind.i64 (Int.tmod (IntKind.wrap IntKind.u64 n) 40))))))) [])) (k (Res.mk (AV.e (AE.c (AC.bool false))) []))) none) none) := by kernel_rfl
theorem loops_walk (a n : Int) (W : World) (h0 : (Lit.int .u64 a).wf = true) (h1 : (Lit.int .i64 n).wf = true) :
    Calls Try.prog 7 #[.int .u64 a, .int .i64 n] W fun e w' => e = .returned (.bool true) ∧ Below W.heap.size W w' := by
  refine of_nums (args := [aint .u64 a, aint .i64 n]) (blks := []) (runG_sound sLq_ok mix 100 7) (LR.cons rfl (LR.cons rfl LR.nil)) ((t_loops a n some).trans ?_)
  obtain ⟨q, hq, q0, q1⟩ : ∃ q : Int, IntKind.wrap IntKind.i64 (Int.tmod (IntKind.wrap IntKind.u64 n) 40) = q ∧ 0 ≤ q ∧ q ≤ 39 := by
    rw [wrap_u64_emod, Int.tmod_eq_emod_of_nonneg (by omega), wrap_i64 (by omega) (by omega)]
    exact ⟨_, rfl, by omega, by omega⟩
  rw [hq, wrap_u64 (n := q) (by omega) (by omega), wrap_i64 (n := 4 * q) (by omega) (by omega), wrap_i64 (n := 4 * q + 1) (by omega) (by omega), decide_eq_true q0, decide_eq_true q1, decide_eq_true (rfl : 4 * q + 1 = 4 * q + 1)]
  have hw : words [a, q, 0, 0, 0, 0, 0, 0] = true := by
    have : word q = true := by
      have : 0 ≤ q ∧ q < 18446744073709551616 := by omega
      simp [word, this]
    simp only [words, List.all_cons, List.all_nil, wfW h0, this]; rfl
  have hc : cellR 5 0 a q 0 0 a = IntKind.wrap IntKind.u64 (a * q) := by simp [cellR, valR, wrs]
  rw [hw, hc, show (inI 5 && inI 0 && inI 1 && inI 0 && inI 0 && true) = true from by decide]
  simp
end Go.Proofs.Ytiodjfgdglakkaa.Wlk
