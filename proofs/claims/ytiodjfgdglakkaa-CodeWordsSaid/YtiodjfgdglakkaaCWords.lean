/- The law CodeWords, walked. -/
import Derived.Test.YtiodjfgdglakkaaCode
set_option linter.unusedVariables false
set_option linter.unusedSimpArgs false
set_option maxRecDepth 100000
namespace Go.Proofs.Ytiodjfgdglakkaa.Wlk
open Go Go.Eng Go.Proofs Go.RowKit
theorem t_words (op a b m w : Int) (k : Res → Option Res) : runG Try.prog sPU 100 3 [.e (.agg [.int .i64 op, .int .i64 a, .int .i64 b, .int .i64 m]), aint .u64 w] [] k = (cond (inI op && inI a && inI b && inI m) (cond (inI op && inI a && inI b && inI m) (cond (word w) (cond (word w) (cond (Go.Proofs.Ytiodjfgdglakkaa.Wlk.packW op a b m == Go.Proofs.Ytiodjfgdglakkaa.Wlk.packW op a b m) (cond (Go.Proofs.Ytiodjfgdglakkaa.Wlk.packE op a b m == Go.Proofs.Ytiodjfgdglakkaa.Wlk.packE op a b m) (cond (Go.Proofs.Ytiodjfgdglakkaa.Wlk.uOp w == Go.Proofs.Ytiodjfgdglakkaa.Wlk.uOp w && (Go.Proofs.Ytiodjfgdglakkaa.Wlk.uA w == Go.Proofs.Ytiodjfgdglakkaa.Wlk.uA w && (Go.Proofs.Ytiodjfgdglakkaa.Wlk.uB w == Go.Proofs.Ytiodjfgdglakkaa.Wlk.uB w && (Go.Proofs.Ytiodjfgdglakkaa.Wlk.uM w == Go.Proofs.Ytiodjfgdglakkaa.Wlk.uM w && true)))) (k (Res.mk (AV.e (AE.c (AC.bool (Go.Proofs.Ytiodjfgdglakkaa.Wlk.uE w == Go.Proofs.Ytiodjfgdglakkaa.Wlk.uE w)))) [])) (k (Res.mk (AV.e (AE.c (AC.bool false))) []))) (k (Res.mk (AV.e (AE.c (AC.bool false))) []))) (k (Res.mk (AV.e (AE.c (AC.bool false))) []))) none) none) none) none) := by kernel_rfl
theorem words_walk (op a b m w : Int) (W : World) (h0 : (Lit.int .i64 op).wf = true) (h1 : (Lit.int .i64 a).wf = true) (h2 : (Lit.int .i64 b).wf = true) (h3 : (Lit.int .i64 m).wf = true) (h4 : (Lit.int .u64 w).wf = true) :
    Calls Try.prog 3 #[.agg #[.int .i64 op, .int .i64 a, .int .i64 b, .int .i64 m], .int .u64 w] W fun e w' => e = .returned (.bool true) ∧ Below W.heap.size W w' := by
  refine of_nums (args := [.e (.agg [.int .i64 op, .int .i64 a, .int .i64 b, .int .i64 m]), aint .u64 w]) (blks := []) (runG_sound sPU_ok mix 100 3) ?_ ((t_words op a b m w some).trans ?_)
  · exact LR.cons ⟨_, rfl, LR.cons rfl (LR.cons rfl (LR.cons rfl (LR.cons rfl LR.nil)))⟩ (LR.cons rfl LR.nil)
  · rw [wfI h0, wfI h1, wfI h2, wfI h3, wfW h4]
    simp
end Go.Proofs.Ytiodjfgdglakkaa.Wlk
