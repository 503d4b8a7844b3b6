/- The law CodeBack, walked. -/
import Derived.Test.YtiodjfgdglakkaaCRun
set_option linter.unusedVariables false
set_option linter.unusedSimpArgs false
set_option maxRecDepth 100000
namespace Go.Proofs.Ytiodjfgdglakkaa.Wlk
open Go Go.Eng Go.Proofs Go.RowKit
theorem t_back (op a b m w : Int) (k : Res → Option Res) : runG Try.prog sL 100 5 [.e (.agg [.int .i64 op, .int .i64 a, .int .i64 b, .int .i64 m]), aint .u64 w] [] k = (cond (inI op && inI a && inI b && inI m) (cond (Go.Proofs.Ytiodjfgdglakkaa.Wlk.packE op a b m == 0) (cond (word (Go.Proofs.Ytiodjfgdglakkaa.Wlk.packW op a b m)) (cond (Go.Proofs.Ytiodjfgdglakkaa.Wlk.uE (Go.Proofs.Ytiodjfgdglakkaa.Wlk.packW op a b m) != 0) (k (Res.mk (AV.e (AE.c (AC.bool false))) [])) (cond (!(Go.Proofs.Ytiodjfgdglakkaa.Wlk.uOp (Go.Proofs.Ytiodjfgdglakkaa.Wlk.packW op a b m) == op && (Go.Proofs.Ytiodjfgdglakkaa.Wlk.uA (Go.Proofs.Ytiodjfgdglakkaa.Wlk.packW op a b m) == a && (Go.Proofs.Ytiodjfgdglakkaa.Wlk.uB (Go.Proofs.Ytiodjfgdglakkaa.Wlk.packW op a b m) == b && (Go.Proofs.Ytiodjfgdglakkaa.Wlk.uM (Go.Proofs.Ytiodjfgdglakkaa.Wlk.packW op a b m) == m && true))))) (k (Res.mk (AV.e (AE.c (AC.bool false))) [])) (cond (word w) (cond (Go.Proofs.Ytiodjfgdglakkaa.Wlk.uE w != 0) (k (Res.mk (AV.e (AE.c (AC.bool (Go.Proofs.Ytiodjfgdglakkaa.Wlk.uOp w == 0 && (Go.Proofs.Ytiodjfgdglakkaa.Wlk.uA w == 0 && (Go.Proofs.Ytiodjfgdglakkaa.Wlk.uB w == 0 && (Go.Proofs.Ytiodjfgdglakkaa.Wlk.uM w == 0 && true))))))) [])) (cond (inI (Go.Proofs.Ytiodjfgdglakkaa.Wlk.uOp w) && inI (Go.Proofs.Ytiodjfgdglakkaa.Wlk.uA w) && inI (Go.Proofs.Ytiodjfgdglakkaa.Wlk.uB w) && inI (Go.Proofs.Ytiodjfgdglakkaa.Wlk.uM w)) (cond (Go.Proofs.Ytiodjfgdglakkaa.Wlk.packE (Go.Proofs.Ytiodjfgdglakkaa.Wlk.uOp w) (Go.Proofs.Ytiodjfgdglakkaa.Wlk.uA w) (Go.Proofs.Ytiodjfgdglakkaa.Wlk.uB w) (Go.Proofs.Ytiodjfgdglakkaa.Wlk.uM w) == 0) (k (Res.mk (AV.e (AE.c (AC.bool (Go.Proofs.Ytiodjfgdglakkaa.Wlk.packW (Go.Proofs.Ytiodjfgdglakkaa.Wlk.uOp w) (Go.Proofs.Ytiodjfgdglakkaa.Wlk.uA w) (Go.Proofs.Ytiodjfgdglakkaa.Wlk.uB w) (Go.Proofs.Ytiodjfgdglakkaa.Wlk.uM w) == w)))) [])) (k (Res.mk (AV.e (AE.c (AC.bool false))) []))) none)) none))) none) (cond (word w) (cond (Go.Proofs.Ytiodjfgdglakkaa.Wlk.uE w != 0) (k (Res.mk (AV.e (AE.c (AC.bool (Go.Proofs.Ytiodjfgdglakkaa.Wlk.uOp w == 0 && (Go.Proofs.Ytiodjfgdglakkaa.Wlk.uA w == 0 && (Go.Proofs.Ytiodjfgdglakkaa.Wlk.uB w == 0 && (Go.Proofs.Ytiodjfgdglakkaa.Wlk.uM w == 0 && true))))))) [])) (cond (inI (Go.Proofs.Ytiodjfgdglakkaa.Wlk.uOp w) && inI (Go.Proofs.Ytiodjfgdglakkaa.Wlk.uA w) && inI (Go.Proofs.Ytiodjfgdglakkaa.Wlk.uB w) && inI (Go.Proofs.Ytiodjfgdglakkaa.Wlk.uM w)) (cond (Go.Proofs.Ytiodjfgdglakkaa.Wlk.packE (Go.Proofs.Ytiodjfgdglakkaa.Wlk.uOp w) (Go.Proofs.Ytiodjfgdglakkaa.Wlk.uA w) (Go.Proofs.Ytiodjfgdglakkaa.Wlk.uB w) (Go.Proofs.Ytiodjfgdglakkaa.Wlk.uM w) == 0) (k (Res.mk (AV.e (AE.c (AC.bool (Go.Proofs.Ytiodjfgdglakkaa.Wlk.packW (Go.Proofs.Ytiodjfgdglakkaa.Wlk.uOp w) (Go.Proofs.Ytiodjfgdglakkaa.Wlk.uA w) (Go.Proofs.Ytiodjfgdglakkaa.Wlk.uB w) (Go.Proofs.Ytiodjfgdglakkaa.Wlk.uM w) == w)))) [])) (k (Res.mk (AV.e (AE.c (AC.bool false))) []))) none)) none)) none) := by kernel_rfl
theorem pack_back {op a b m : Int} (h : packOk op a b m = true) : word (packW op a b m) = true ∧ uE (packW op a b m) = 0 ∧ uOp (packW op a b m) = op ∧ uA (packW op a b m) = a ∧ uB (packW op a b m) = b ∧ uM (packW op a b m) = m := by
  have h' := h
  simp only [packOk, Bool.and_eq_true, decide_eq_true_eq] at h'
  have e : packW op a b m = op + 32 * a + 256 * b + 2048 * m := by simp [packW, h]
  rw [e]
  have ok : unpOk (op + 32 * a + 256 * b + 2048 * m) = true := by simp only [unpOk, Bool.and_eq_true, decide_eq_true_eq]; omega
  refine ⟨by simp only [word, Bool.and_eq_true, decide_eq_true_eq]; omega, by simp [uE, ok], ?_, ?_, ?_, ?_⟩
  · simp only [uOp, ok, if_true]; omega
  · simp only [uA, ok, if_true]; omega
  · simp only [uB, ok, if_true]; omega
  · simp only [uM, ok, if_true]; omega
theorem unpack_back {w : Int} (hw : word w = true) (h : unpOk w = true) : packOk (uOp w) (uA w) (uB w) (uM w) = true ∧ packW (uOp w) (uA w) (uB w) (uM w) = w := by
  have h' := h
  simp only [unpOk, Bool.and_eq_true, decide_eq_true_eq] at h'
  simp only [word, Bool.and_eq_true, decide_eq_true_eq] at hw
  have ok : packOk (uOp w) (uA w) (uB w) (uM w) = true := by
    simp only [packOk, uOp, uA, uB, uM, h, if_true, Bool.and_eq_true, decide_eq_true_eq]; omega
  refine ⟨ok, ?_⟩
  simp only [packW, ok, if_true]
  simp only [uOp, uA, uB, uM, h, if_true]
  omega
theorem uInI (w : Int) (hw : word w = true) : inI (uOp w) = true ∧ inI (uA w) = true ∧ inI (uB w) = true ∧ inI (uM w) = true := by
  simp only [word, Bool.and_eq_true, decide_eq_true_eq] at hw
  by_cases h : unpOk w = true
  · simp only [inI, uOp, uA, uB, uM, h, if_true, Bool.and_eq_true, decide_eq_true_eq]; omega
  · have h0 : unpOk w = false := by simpa using h
    simp [inI, uOp, uA, uB, uM, h0]
theorem back_tail (w : Int) (hw : word w = true) (k : Bool → Option Res) : (cond (uE w != 0) (k (uOp w == 0 && (uA w == 0 && (uB w == 0 && (uM w == 0 && true))))) (cond (inI (uOp w) && inI (uA w) && inI (uB w) && inI (uM w)) (cond (packE (uOp w) (uA w) (uB w) (uM w) == 0) (k (packW (uOp w) (uA w) (uB w) (uM w) == w)) (k false)) none)) = k true := by
  obtain ⟨i1, i2, i3, i4⟩ := uInI w hw
  rw [i1, i2, i3, i4]
  by_cases h : unpOk w = true
  · obtain ⟨h1, h2⟩ := unpack_back hw h
    rw [h2]
    have e : uE w = 0 := by simp [uE, h]
    have e2 : packE (uOp w) (uA w) (uB w) (uM w) = 0 := by simp [packE, h1]
    rw [e, e2]; simp
  · have e : uE w = 10 := by simp [uE, h]
    rw [e]
    simp [uOp, uA, uB, uM, h]

theorem back_walk (op a b m w : Int) (W : World) (h0 : (Lit.int .i64 op).wf = true) (h1 : (Lit.int .i64 a).wf = true) (h2 : (Lit.int .i64 b).wf = true) (h3 : (Lit.int .i64 m).wf = true) (h4 : (Lit.int .u64 w).wf = true) :
    Calls Try.prog 5 #[.agg #[.int .i64 op, .int .i64 a, .int .i64 b, .int .i64 m], .int .u64 w] W fun e w' => e = .returned (.bool true) ∧ Below W.heap.size W w' := by
  refine of_nums (args := [.e (.agg [.int .i64 op, .int .i64 a, .int .i64 b, .int .i64 m]), aint .u64 w]) (blks := []) (runG_sound sL_ok mix 100 5) ?_ ((t_back op a b m w some).trans ?_)
  · exact LR.cons ⟨_, rfl, LR.cons rfl (LR.cons rfl (LR.cons rfl (LR.cons rfl LR.nil)))⟩ (LR.cons rfl LR.nil)
  · have T := back_tail w (wfW h4) (fun t => some (Res.mk (AV.e (AE.c (AC.bool t))) []))
    rw [wfI h0, wfI h1, wfI h2, wfI h3, wfW h4]
    simp only [Bool.and_self, cond_true]
    rw [T]
    by_cases ok : packOk op a b m = true
    · obtain ⟨p1, p2, p3, p4, p5, p6⟩ := pack_back ok
      rw [p1, p2, p3, p4, p5, p6]
      simp [packE, ok]
    · have e : packE op a b m = 10 := by simp [packE, ok]
      rw [e]; simp
end Go.Proofs.Ytiodjfgdglakkaa.Wlk
