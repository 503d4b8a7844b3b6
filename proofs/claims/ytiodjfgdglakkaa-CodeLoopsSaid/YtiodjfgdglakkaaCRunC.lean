/- What comes of an instruction: the code and the document, in short. -/
import Derived.Test.YtiodjfgdglakkaaCRunA
import Derived.Test.YtiodjfgdglakkaaCRunB
set_option linter.unusedVariables false
set_option linter.unusedSimpArgs false
set_option maxRecDepth 100000
namespace Go.Proofs.Ytiodjfgdglakkaa.Wlk
open Go Go.Eng Go.Proofs Go.RowKit

def gPackBad : Fun := fun args sub κ => match args, sub with
  | [.e (.agg [.int .i64 op, .int .i64 a, .int .i64 b, .int .i64 m])], [] => match inI op && inI a && inI b && inI m && !packOk op a b m with
    | true => κ ⟨.tup [.c (.int .u64 0), .c (.int .i64 10)], []⟩
    | false => none
  | _, _ => none
def gRightBad : Fun := fun args sub κ => match args, sub with
  | [.e (.agg [.int .i64 op, .int .i64 a, .int .i64 b, .int .i64 m])], [] => match packOk op a b m with
    | true => none
    | false => κ ⟨.e (.c (.bool false)), []⟩
  | _, _ => none
theorem gPackBad_sound : FunSound Try.prog 10 gPackBad := by
  refine gPack_sound.short fun args sub κ r h => ?_
  unfold gPackBad at h
  unfold gPack
  split at h
  · rename_i op a b m
    split at h
    · rename_i hc
      simp only [Bool.and_eq_true, Bool.not_eq_true'] at hc
      obtain ⟨⟨⟨⟨h1, h2⟩, h3⟩, h4⟩, h5⟩ := hc
      simpa [h1, h2, h3, h4, packW, packE, h5] using h
    · cases h
  · cases h
noncomputable def sSB : Summ := sAdd sS 10 gPackBad
theorem sSB_ok : SummOk Try.prog sSB := sAdd_ok sS_ok gPackBad_sound (enters Try.func10 rfl (by kernel_rfl))
noncomputable def sRB : Summ := sAdd sNil 23 gRightBad
theorem t_right (op a b m : Int) (k : Res → Option Res) : runG Try.prog sNil 100 23 [.e (.agg [.int .i64 op, .int .i64 a, .int .i64 b, .int .i64 m])] [] k = (cond (decide (op ≥ 0)) (cond (decide (op ≤ 17)) (cond (decide (a ≥ 0)) (cond (decide (a ≤ 7)) (cond (decide (b ≥ 0)) (cond (decide (b ≤ 7)) (cond (decide (m ≥ 0)) (k (Res.mk (AV.e (AE.c (AC.bool (decide (m ≤ 4095))))) [])) (k (Res.mk (AV.e (AE.c (AC.bool false))) []))) (k (Res.mk (AV.e (AE.c (AC.bool false))) []))) (k (Res.mk (AV.e (AE.c (AC.bool false))) []))) (k (Res.mk (AV.e (AE.c (AC.bool false))) []))) (k (Res.mk (AV.e (AE.c (AC.bool false))) []))) (k (Res.mk (AV.e (AE.c (AC.bool false))) []))) (k (Res.mk (AV.e (AE.c (AC.bool false))) []))) := by kernel_rfl
theorem t_runA_bad (op a b m r0 r1 r2 r3 r4 r5 r6 r7 pc : Int) (k : Res → Option Res) : runG Try.prog sSB 100 16 [.e (.agg [.int .i64 op, .int .i64 a, .int .i64 b, .int .i64 m]), .e (.agg [.int .u64 r0, .int .u64 r1, .int .u64 r2, .int .u64 r3, .int .u64 r4, .int .u64 r5, .int .u64 r6, .int .u64 r7]), aint .i64 pc] [] k = (cond (inI op && inI a && inI b && inI m && !Go.Proofs.Ytiodjfgdglakkaa.Wlk.packOk op a b m) (k (Res.mk (AV.tup [(AE.agg [(AC.int (IntKind.u64) (0)), (AC.int (IntKind.u64) (0)), (AC.int (IntKind.u64) (0)), (AC.int (IntKind.u64) (0)), (AC.int (IntKind.u64) (0)), (AC.int (IntKind.u64) (0)), (AC.int (IntKind.u64) (0)), (AC.int (IntKind.u64) (0)), (AC.int (IntKind.i64) (0)), (AC.int (IntKind.i64) (0)), (AC.int (IntKind.u64) (0)), (AC.int (IntKind.i64) (0)), (AC.int (IntKind.u64) (0))]), (AE.c (AC.int (IntKind.i64) (10)))]) [])) none) := by kernel_rfl
theorem t_runB_bad (op a b m r0 r1 r2 r3 r4 r5 r6 r7 pc : Int) (k : Res → Option Res) : runG Try.prog sRB 100 17 [.e (.agg [.int .i64 op, .int .i64 a, .int .i64 b, .int .i64 m]), .e (.agg [.int .u64 r0, .int .u64 r1, .int .u64 r2, .int .u64 r3, .int .u64 r4, .int .u64 r5, .int .u64 r6, .int .u64 r7]), aint .i64 pc] [] k = (cond (Go.Proofs.Ytiodjfgdglakkaa.Wlk.packOk op a b m) none (k (Res.mk (AV.tup [(AE.agg [(AC.int (IntKind.u64) (0)), (AC.int (IntKind.u64) (0)), (AC.int (IntKind.u64) (0)), (AC.int (IntKind.u64) (0)), (AC.int (IntKind.u64) (0)), (AC.int (IntKind.u64) (0)), (AC.int (IntKind.u64) (0)), (AC.int (IntKind.u64) (0)), (AC.int (IntKind.i64) (0)), (AC.int (IntKind.i64) (0)), (AC.int (IntKind.u64) (0)), (AC.int (IntKind.i64) (0)), (AC.int (IntKind.u64) (0))]), (AE.c (AC.int (IntKind.i64) (10)))]) []))) := by kernel_rfl
theorem gRightBad_sound : FunSound Try.prog 23 gRightBad := by
  refine (runG_sound sNil_ok mix 100 23).short fun args sub κ r h => ?_
  unfold gRightBad at h
  split at h
  · rename_i op a b m
    split at h
    · cases h
    · rename_i ok
      refine (t_right op a b m κ).trans ?_
      rw [← h]
      by_cases h1 : op ≥ 0
      · by_cases h2 : op ≤ 17
        · by_cases h3 : a ≥ 0
          · by_cases h4 : a ≤ 7
            · by_cases h5 : b ≥ 0
              · by_cases h6 : b ≤ 7
                · by_cases h7 : m ≥ 0
                  · by_cases h8 : m ≤ 4095
                    · have : packOk op a b m = true := by simp only [packOk, Bool.and_eq_true, decide_eq_true_eq]; omega
                      rw [this] at ok; cases ok
                    · simp [h1, h2, h3, h4, h5, h6, h7, h8]
                  · simp [h1, h2, h3, h4, h5, h6, h7]
                · simp [h1, h2, h3, h4, h5, h6]
              · simp [h1, h2, h3, h4, h5]
            · simp [h1, h2, h3, h4]
          · simp [h1, h2, h3]
        · simp [h1, h2]
      · simp [h1]
  · cases h
theorem sRB_ok : SummOk Try.prog sRB := sAdd_ok sNil_ok gRightBad_sound (enters Try.func23 rfl (by kernel_rfl))

theorem gRun_sound : FunSound Try.prog 16 gRun := by
  intro args sub κ r h
  unfold gRun at h
  split at h
  · rename_i op a b m r0 r1 r2 r3 r4 r5 r6 r7 pc
    split at h
    · rename_i hc
      simp only [Bool.and_eq_true] at hc
      obtain ⟨⟨⟨⟨⟨h0, h1⟩, h2⟩, h3⟩, h4⟩, w⟩ := hc
      by_cases ok : packOk op a b m = true
      · refine runG_sound sS_ok mix 100 16 _ _ κ r ?_
        obtain ⟨o1, o2⟩ := packOk_op ok
        rcases op_cases o1 o2 with rfl | rfl | rfl | rfl | rfl | rfl | rfl | rfl | rfl | rfl | rfl | rfl | rfl | rfl | rfl | rfl | rfl | rfl
        · exact (runA_0 a b m r0 r1 r2 r3 r4 r5 r6 r7 pc κ h1 h2 h3 w).trans h
        · exact (runA_1 a b m r0 r1 r2 r3 r4 r5 r6 r7 pc κ h1 h2 h3 w).trans h
        · exact (runA_2 a b m r0 r1 r2 r3 r4 r5 r6 r7 pc κ h1 h2 h3 w).trans h
        · exact (runA_3 a b m r0 r1 r2 r3 r4 r5 r6 r7 pc κ h1 h2 h3 w).trans h
        · exact (runA_4 a b m r0 r1 r2 r3 r4 r5 r6 r7 pc κ h1 h2 h3 w).trans h
        · exact (runA_5 a b m r0 r1 r2 r3 r4 r5 r6 r7 pc κ h1 h2 h3 w).trans h
        · exact (runA_6 a b m r0 r1 r2 r3 r4 r5 r6 r7 pc κ h1 h2 h3 w).trans h
        · exact (runA_7 a b m r0 r1 r2 r3 r4 r5 r6 r7 pc κ h1 h2 h3 w).trans h
        · exact (runA_8 a b m r0 r1 r2 r3 r4 r5 r6 r7 pc κ h1 h2 h3 w).trans h
        · exact (runA_9 a b m r0 r1 r2 r3 r4 r5 r6 r7 pc κ h1 h2 h3 w).trans h
        · exact (runA_10 a b m r0 r1 r2 r3 r4 r5 r6 r7 pc κ h1 h2 h3 w).trans h
        · exact (runA_11 a b m r0 r1 r2 r3 r4 r5 r6 r7 pc κ h1 h2 h3 w).trans h
        · exact (runA_12 a b m r0 r1 r2 r3 r4 r5 r6 r7 pc κ h1 h2 h3 w).trans h
        · exact (runA_13 a b m r0 r1 r2 r3 r4 r5 r6 r7 pc κ h1 h2 h3 w).trans h
        · exact (runA_14 a b m r0 r1 r2 r3 r4 r5 r6 r7 pc κ h1 h2 h3 w).trans h
        · exact (runA_15 a b m r0 r1 r2 r3 r4 r5 r6 r7 pc κ h1 h2 h3 w).trans h
        · exact (runA_16 a b m r0 r1 r2 r3 r4 r5 r6 r7 pc κ h1 h2 h3 w).trans h
        · exact (runA_17 a b m r0 r1 r2 r3 r4 r5 r6 r7 pc κ h1 h2 h3 w).trans h
      · have ok2 : packOk op a b m = false := by simpa using ok
        refine runG_sound sSB_ok mix 100 16 _ _ κ r ?_
        refine (t_runA_bad op a b m r0 r1 r2 r3 r4 r5 r6 r7 pc κ).trans ?_
        simp only [effK, ok2] at h
        rw [← h]
        simp only [h0, h1, h2, h3, ok2, Bool.not_false, Bool.and_self, cond_true, cond_false]
        rfl
    · cases h
  · cases h
theorem gRefRun_sound : FunSound Try.prog 17 gRun := by
  intro args sub κ r h
  unfold gRun at h
  split at h
  · rename_i op a b m r0 r1 r2 r3 r4 r5 r6 r7 pc
    split at h
    · rename_i hc
      simp only [Bool.and_eq_true] at hc
      obtain ⟨⟨⟨⟨⟨h0, h1⟩, h2⟩, h3⟩, h4⟩, w⟩ := hc
      by_cases ok : packOk op a b m = true
      · refine runG_sound sR_ok mix 100 17 _ _ κ r ?_
        obtain ⟨o1, o2⟩ := packOk_op ok
        rcases op_cases o1 o2 with rfl | rfl | rfl | rfl | rfl | rfl | rfl | rfl | rfl | rfl | rfl | rfl | rfl | rfl | rfl | rfl | rfl | rfl
        · exact (runB_0 a b m r0 r1 r2 r3 r4 r5 r6 r7 pc κ h1 h2 h3 w).trans h
        · exact (runB_1 a b m r0 r1 r2 r3 r4 r5 r6 r7 pc κ h1 h2 h3 w).trans h
        · exact (runB_2 a b m r0 r1 r2 r3 r4 r5 r6 r7 pc κ h1 h2 h3 w).trans h
        · exact (runB_3 a b m r0 r1 r2 r3 r4 r5 r6 r7 pc κ h1 h2 h3 w).trans h
        · exact (runB_4 a b m r0 r1 r2 r3 r4 r5 r6 r7 pc κ h1 h2 h3 w).trans h
        · exact (runB_5 a b m r0 r1 r2 r3 r4 r5 r6 r7 pc κ h1 h2 h3 w).trans h
        · exact (runB_6 a b m r0 r1 r2 r3 r4 r5 r6 r7 pc κ h1 h2 h3 w).trans h
        · exact (runB_7 a b m r0 r1 r2 r3 r4 r5 r6 r7 pc κ h1 h2 h3 w).trans h
        · exact (runB_8 a b m r0 r1 r2 r3 r4 r5 r6 r7 pc κ h1 h2 h3 w).trans h
        · exact (runB_9 a b m r0 r1 r2 r3 r4 r5 r6 r7 pc κ h1 h2 h3 w).trans h
        · exact (runB_10 a b m r0 r1 r2 r3 r4 r5 r6 r7 pc κ h1 h2 h3 w).trans h
        · exact (runB_11 a b m r0 r1 r2 r3 r4 r5 r6 r7 pc κ h1 h2 h3 w).trans h
        · exact (runB_12 a b m r0 r1 r2 r3 r4 r5 r6 r7 pc κ h1 h2 h3 w).trans h
        · exact (runB_13 a b m r0 r1 r2 r3 r4 r5 r6 r7 pc κ h1 h2 h3 w).trans h
        · exact (runB_14 a b m r0 r1 r2 r3 r4 r5 r6 r7 pc κ h1 h2 h3 w).trans h
        · exact (runB_15 a b m r0 r1 r2 r3 r4 r5 r6 r7 pc κ h1 h2 h3 w).trans h
        · exact (runB_16 a b m r0 r1 r2 r3 r4 r5 r6 r7 pc κ h1 h2 h3 w).trans h
        · exact (runB_17 a b m r0 r1 r2 r3 r4 r5 r6 r7 pc κ h1 h2 h3 w).trans h
      · have ok2 : packOk op a b m = false := by simpa using ok
        refine runG_sound sRB_ok mix 100 17 _ _ κ r ?_
        refine (t_runB_bad op a b m r0 r1 r2 r3 r4 r5 r6 r7 pc κ).trans ?_
        simp only [effK, ok2] at h
        rw [← h]
        simp only [h0, h1, h2, h3, ok2, Bool.not_false, Bool.and_self, cond_true, cond_false]
        rfl
    · cases h
  · cases h
end Go.Proofs.Ytiodjfgdglakkaa.Wlk
