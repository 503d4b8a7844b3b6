/- Registers carried on, told in short. -/
import Derived.Test.YtefnfmbmabpkoaaMsgA
set_option linter.unusedVariables false
set_option linter.unusedSimpArgs false
set_option maxRecDepth 100000
namespace Go.Proofs.Ytefnfmbmabpkoaa.Wlk
open Go Go.Eng Go.Proofs Go.RowKit
def gUnN (L : Int → Int) (C T : Int → Bool) (n : Int) : Fun := fun args sub κ => match args, sub with
  | [.e (.c (.int .u64 w))], [] => match word w && T w with
    | true => κ ⟨.tup [.agg [.int .u64 (L w), .int .i64 n, .bool (C w)], .c (.int .i64 0)], []⟩
    | false => none
  | _, _ => none
def gUnB (T : Int → Bool) : Fun := fun args sub κ => match args, sub with
  | [.e (.c (.int .u64 w))], [] => match word w && T w with
    | true => κ ⟨.tup [.agg [.int .u64 0, .int .i64 0, .bool false], .c (.int .i64 10)], []⟩
    | false => none
  | _, _ => none
noncomputable def sCN (L : Int → Int) (C T : Int → Bool) (n : Int) : Summ := sAdd (sAdd sNil 11 (gUnN L C T n)) 12 (gUnN L C T n)
noncomputable def sCB (T : Int → Bool) : Summ := sAdd (sAdd sNil 11 (gUnB T)) 12 (gUnB T)
theorem t_carry0 (L : Int → Int) (C T : Int → Bool) (f0 f1 f2 f3 f4 f5 f6 f7 t0 t1 t2 t3 t4 t5 t6 t7 b : Int) (k : Res → Option Res) : runG Try.prog (sCN L C T 0) 100 14 [.e (.agg [.int .u64 f0, .int .u64 f1, .int .u64 f2, .int .u64 f3, .int .u64 f4, .int .u64 f5, .int .u64 f6, .int .u64 f7]), .e (.agg [.int .u64 t0, .int .u64 t1, .int .u64 t2, .int .u64 t3, .int .u64 t4, .int .u64 t5, .int .u64 t6, .int .u64 t7]), aint .u64 b] [] k = (cond (word f0 && T f0) (k (Res.mk (AV.tup [(AE.agg [(AC.int (IntKind.u64) (f0)), (AC.int (IntKind.u64) (t1)), (AC.int (IntKind.u64) (t2)), (AC.int (IntKind.u64) (t3)), (AC.int (IntKind.u64) (t4)), (AC.int (IntKind.u64) (b)), (AC.int (IntKind.u64) (t6)), (AC.int (IntKind.u64) (t7))]), (AE.c (AC.int (IntKind.i64) (0)))]) [])) none) := by kernel_rfl
theorem t_carry1 (L : Int → Int) (C T : Int → Bool) (f0 f1 f2 f3 f4 f5 f6 f7 t0 t1 t2 t3 t4 t5 t6 t7 b : Int) (k : Res → Option Res) : runG Try.prog (sCN L C T 1) 100 14 [.e (.agg [.int .u64 f0, .int .u64 f1, .int .u64 f2, .int .u64 f3, .int .u64 f4, .int .u64 f5, .int .u64 f6, .int .u64 f7]), .e (.agg [.int .u64 t0, .int .u64 t1, .int .u64 t2, .int .u64 t3, .int .u64 t4, .int .u64 t5, .int .u64 t6, .int .u64 t7]), aint .u64 b] [] k = (cond (word f0 && T f0) (k (Res.mk (AV.tup [(AE.agg [(AC.int (IntKind.u64) (f0)), (AC.int (IntKind.u64) (f1)), (AC.int (IntKind.u64) (t2)), (AC.int (IntKind.u64) (t3)), (AC.int (IntKind.u64) (t4)), (AC.int (IntKind.u64) (b)), (AC.int (IntKind.u64) (t6)), (AC.int (IntKind.u64) (t7))]), (AE.c (AC.int (IntKind.i64) (0)))]) [])) none) := by kernel_rfl
theorem t_carry2 (L : Int → Int) (C T : Int → Bool) (f0 f1 f2 f3 f4 f5 f6 f7 t0 t1 t2 t3 t4 t5 t6 t7 b : Int) (k : Res → Option Res) : runG Try.prog (sCN L C T 2) 100 14 [.e (.agg [.int .u64 f0, .int .u64 f1, .int .u64 f2, .int .u64 f3, .int .u64 f4, .int .u64 f5, .int .u64 f6, .int .u64 f7]), .e (.agg [.int .u64 t0, .int .u64 t1, .int .u64 t2, .int .u64 t3, .int .u64 t4, .int .u64 t5, .int .u64 t6, .int .u64 t7]), aint .u64 b] [] k = (cond (word f0 && T f0) (k (Res.mk (AV.tup [(AE.agg [(AC.int (IntKind.u64) (f0)), (AC.int (IntKind.u64) (f1)), (AC.int (IntKind.u64) (f2)), (AC.int (IntKind.u64) (t3)), (AC.int (IntKind.u64) (t4)), (AC.int (IntKind.u64) (b)), (AC.int (IntKind.u64) (t6)), (AC.int (IntKind.u64) (t7))]), (AE.c (AC.int (IntKind.i64) (0)))]) [])) none) := by kernel_rfl
theorem t_carry3 (L : Int → Int) (C T : Int → Bool) (f0 f1 f2 f3 f4 f5 f6 f7 t0 t1 t2 t3 t4 t5 t6 t7 b : Int) (k : Res → Option Res) : runG Try.prog (sCN L C T 3) 100 14 [.e (.agg [.int .u64 f0, .int .u64 f1, .int .u64 f2, .int .u64 f3, .int .u64 f4, .int .u64 f5, .int .u64 f6, .int .u64 f7]), .e (.agg [.int .u64 t0, .int .u64 t1, .int .u64 t2, .int .u64 t3, .int .u64 t4, .int .u64 t5, .int .u64 t6, .int .u64 t7]), aint .u64 b] [] k = (cond (word f0 && T f0) (k (Res.mk (AV.tup [(AE.agg [(AC.int (IntKind.u64) (f0)), (AC.int (IntKind.u64) (f1)), (AC.int (IntKind.u64) (f2)), (AC.int (IntKind.u64) (f3)), (AC.int (IntKind.u64) (t4)), (AC.int (IntKind.u64) (b)), (AC.int (IntKind.u64) (t6)), (AC.int (IntKind.u64) (t7))]), (AE.c (AC.int (IntKind.i64) (0)))]) [])) none) := by kernel_rfl
theorem t_carry4 (L : Int → Int) (C T : Int → Bool) (f0 f1 f2 f3 f4 f5 f6 f7 t0 t1 t2 t3 t4 t5 t6 t7 b : Int) (k : Res → Option Res) : runG Try.prog (sCN L C T 4) 100 14 [.e (.agg [.int .u64 f0, .int .u64 f1, .int .u64 f2, .int .u64 f3, .int .u64 f4, .int .u64 f5, .int .u64 f6, .int .u64 f7]), .e (.agg [.int .u64 t0, .int .u64 t1, .int .u64 t2, .int .u64 t3, .int .u64 t4, .int .u64 t5, .int .u64 t6, .int .u64 t7]), aint .u64 b] [] k = (cond (word f0 && T f0) (k (Res.mk (AV.tup [(AE.agg [(AC.int (IntKind.u64) (f0)), (AC.int (IntKind.u64) (f1)), (AC.int (IntKind.u64) (f2)), (AC.int (IntKind.u64) (f3)), (AC.int (IntKind.u64) (f4)), (AC.int (IntKind.u64) (b)), (AC.int (IntKind.u64) (t6)), (AC.int (IntKind.u64) (t7))]), (AE.c (AC.int (IntKind.i64) (0)))]) [])) none) := by kernel_rfl
theorem t_carryB (L : Int → Int) (C T : Int → Bool) (f0 f1 f2 f3 f4 f5 f6 f7 t0 t1 t2 t3 t4 t5 t6 t7 b : Int) (k : Res → Option Res) : runG Try.prog (sCB T) 100 14 [.e (.agg [.int .u64 f0, .int .u64 f1, .int .u64 f2, .int .u64 f3, .int .u64 f4, .int .u64 f5, .int .u64 f6, .int .u64 f7]), .e (.agg [.int .u64 t0, .int .u64 t1, .int .u64 t2, .int .u64 t3, .int .u64 t4, .int .u64 t5, .int .u64 t6, .int .u64 t7]), aint .u64 b] [] k = (cond (word f0 && T f0) (k (Res.mk (AV.tup [(AE.agg [(AC.int (IntKind.u64) (0)), (AC.int (IntKind.u64) (0)), (AC.int (IntKind.u64) (0)), (AC.int (IntKind.u64) (0)), (AC.int (IntKind.u64) (0)), (AC.int (IntKind.u64) (0)), (AC.int (IntKind.u64) (0)), (AC.int (IntKind.u64) (0))]), (AE.c (AC.int (IntKind.i64) (10)))]) [])) none) := by kernel_rfl
theorem t_refCarry0 (L : Int → Int) (C T : Int → Bool) (f0 f1 f2 f3 f4 f5 f6 f7 t0 t1 t2 t3 t4 t5 t6 t7 b : Int) (k : Res → Option Res) : runG Try.prog (sCN L C T 0) 100 15 [.e (.agg [.int .u64 f0, .int .u64 f1, .int .u64 f2, .int .u64 f3, .int .u64 f4, .int .u64 f5, .int .u64 f6, .int .u64 f7]), .e (.agg [.int .u64 t0, .int .u64 t1, .int .u64 t2, .int .u64 t3, .int .u64 t4, .int .u64 t5, .int .u64 t6, .int .u64 t7]), aint .u64 b] [] k = (cond (word f0 && T f0) (k (Res.mk (AV.tup [(AE.agg [(AC.int (IntKind.u64) (f0)), (AC.int (IntKind.u64) (t1)), (AC.int (IntKind.u64) (t2)), (AC.int (IntKind.u64) (t3)), (AC.int (IntKind.u64) (t4)), (AC.int (IntKind.u64) (b)), (AC.int (IntKind.u64) (t6)), (AC.int (IntKind.u64) (t7))]), (AE.c (AC.int (IntKind.i64) (0)))]) [])) none) := by kernel_rfl
theorem t_refCarry1 (L : Int → Int) (C T : Int → Bool) (f0 f1 f2 f3 f4 f5 f6 f7 t0 t1 t2 t3 t4 t5 t6 t7 b : Int) (k : Res → Option Res) : runG Try.prog (sCN L C T 1) 100 15 [.e (.agg [.int .u64 f0, .int .u64 f1, .int .u64 f2, .int .u64 f3, .int .u64 f4, .int .u64 f5, .int .u64 f6, .int .u64 f7]), .e (.agg [.int .u64 t0, .int .u64 t1, .int .u64 t2, .int .u64 t3, .int .u64 t4, .int .u64 t5, .int .u64 t6, .int .u64 t7]), aint .u64 b] [] k = (cond (word f0 && T f0) (k (Res.mk (AV.tup [(AE.agg [(AC.int (IntKind.u64) (f0)), (AC.int (IntKind.u64) (f1)), (AC.int (IntKind.u64) (t2)), (AC.int (IntKind.u64) (t3)), (AC.int (IntKind.u64) (t4)), (AC.int (IntKind.u64) (b)), (AC.int (IntKind.u64) (t6)), (AC.int (IntKind.u64) (t7))]), (AE.c (AC.int (IntKind.i64) (0)))]) [])) none) := by kernel_rfl
theorem t_refCarry2 (L : Int → Int) (C T : Int → Bool) (f0 f1 f2 f3 f4 f5 f6 f7 t0 t1 t2 t3 t4 t5 t6 t7 b : Int) (k : Res → Option Res) : runG Try.prog (sCN L C T 2) 100 15 [.e (.agg [.int .u64 f0, .int .u64 f1, .int .u64 f2, .int .u64 f3, .int .u64 f4, .int .u64 f5, .int .u64 f6, .int .u64 f7]), .e (.agg [.int .u64 t0, .int .u64 t1, .int .u64 t2, .int .u64 t3, .int .u64 t4, .int .u64 t5, .int .u64 t6, .int .u64 t7]), aint .u64 b] [] k = (cond (word f0 && T f0) (k (Res.mk (AV.tup [(AE.agg [(AC.int (IntKind.u64) (f0)), (AC.int (IntKind.u64) (f1)), (AC.int (IntKind.u64) (f2)), (AC.int (IntKind.u64) (t3)), (AC.int (IntKind.u64) (t4)), (AC.int (IntKind.u64) (b)), (AC.int (IntKind.u64) (t6)), (AC.int (IntKind.u64) (t7))]), (AE.c (AC.int (IntKind.i64) (0)))]) [])) none) := by kernel_rfl
theorem t_refCarry3 (L : Int → Int) (C T : Int → Bool) (f0 f1 f2 f3 f4 f5 f6 f7 t0 t1 t2 t3 t4 t5 t6 t7 b : Int) (k : Res → Option Res) : runG Try.prog (sCN L C T 3) 100 15 [.e (.agg [.int .u64 f0, .int .u64 f1, .int .u64 f2, .int .u64 f3, .int .u64 f4, .int .u64 f5, .int .u64 f6, .int .u64 f7]), .e (.agg [.int .u64 t0, .int .u64 t1, .int .u64 t2, .int .u64 t3, .int .u64 t4, .int .u64 t5, .int .u64 t6, .int .u64 t7]), aint .u64 b] [] k = (cond (word f0 && T f0) (k (Res.mk (AV.tup [(AE.agg [(AC.int (IntKind.u64) (f0)), (AC.int (IntKind.u64) (f1)), (AC.int (IntKind.u64) (f2)), (AC.int (IntKind.u64) (f3)), (AC.int (IntKind.u64) (t4)), (AC.int (IntKind.u64) (b)), (AC.int (IntKind.u64) (t6)), (AC.int (IntKind.u64) (t7))]), (AE.c (AC.int (IntKind.i64) (0)))]) [])) none) := by kernel_rfl
theorem t_refCarry4 (L : Int → Int) (C T : Int → Bool) (f0 f1 f2 f3 f4 f5 f6 f7 t0 t1 t2 t3 t4 t5 t6 t7 b : Int) (k : Res → Option Res) : runG Try.prog (sCN L C T 4) 100 15 [.e (.agg [.int .u64 f0, .int .u64 f1, .int .u64 f2, .int .u64 f3, .int .u64 f4, .int .u64 f5, .int .u64 f6, .int .u64 f7]), .e (.agg [.int .u64 t0, .int .u64 t1, .int .u64 t2, .int .u64 t3, .int .u64 t4, .int .u64 t5, .int .u64 t6, .int .u64 t7]), aint .u64 b] [] k = (cond (word f0 && T f0) (k (Res.mk (AV.tup [(AE.agg [(AC.int (IntKind.u64) (f0)), (AC.int (IntKind.u64) (f1)), (AC.int (IntKind.u64) (f2)), (AC.int (IntKind.u64) (f3)), (AC.int (IntKind.u64) (f4)), (AC.int (IntKind.u64) (b)), (AC.int (IntKind.u64) (t6)), (AC.int (IntKind.u64) (t7))]), (AE.c (AC.int (IntKind.i64) (0)))]) [])) none) := by kernel_rfl
theorem t_refCarryB (L : Int → Int) (C T : Int → Bool) (f0 f1 f2 f3 f4 f5 f6 f7 t0 t1 t2 t3 t4 t5 t6 t7 b : Int) (k : Res → Option Res) : runG Try.prog (sCB T) 100 15 [.e (.agg [.int .u64 f0, .int .u64 f1, .int .u64 f2, .int .u64 f3, .int .u64 f4, .int .u64 f5, .int .u64 f6, .int .u64 f7]), .e (.agg [.int .u64 t0, .int .u64 t1, .int .u64 t2, .int .u64 t3, .int .u64 t4, .int .u64 t5, .int .u64 t6, .int .u64 t7]), aint .u64 b] [] k = (cond (word f0 && T f0) (k (Res.mk (AV.tup [(AE.agg [(AC.int (IntKind.u64) (0)), (AC.int (IntKind.u64) (0)), (AC.int (IntKind.u64) (0)), (AC.int (IntKind.u64) (0)), (AC.int (IntKind.u64) (0)), (AC.int (IntKind.u64) (0)), (AC.int (IntKind.u64) (0)), (AC.int (IntKind.u64) (0))]), (AE.c (AC.int (IntKind.i64) (10)))]) [])) none) := by kernel_rfl
def cR (w i f t : Int) : Int := if uE w = 0 then (if i ≤ uN w then f else t) else 0
def cB (w b : Int) : Int := if uE w = 0 then b else 0
def gCarryV (R : Int → Int → Int → Int → Int) (B : Int → Int → Int) (E : Int → Int) : Fun := fun args sub κ => match args, sub with
  | [.e (.agg [.int .u64 f0, .int .u64 f1, .int .u64 f2, .int .u64 f3, .int .u64 f4, .int .u64 f5, .int .u64 f6, .int .u64 f7]), .e (.agg [.int .u64 t0, .int .u64 t1, .int .u64 t2, .int .u64 t3, .int .u64 t4, .int .u64 t5, .int .u64 t6, .int .u64 t7]), .e (.c (.int .u64 b))], [] => match word f0 with
    | true => κ ⟨.tup [.agg [.int .u64 (R f0 0 f0 t0), .int .u64 (R f0 1 f1 t1), .int .u64 (R f0 2 f2 t2), .int .u64 (R f0 3 f3 t3), .int .u64 (R f0 4 f4 t4), .int .u64 (B f0 b), .int .u64 (R f0 6 f6 t6), .int .u64 (R f0 7 f7 t7)], .c (.int .i64 (E f0))], []⟩
    | false => none
  | _, _ => none
abbrev gCarry : Fun := gCarryV cR cB uE

def tN (n w : Int) : Bool := decide (uE w = 0) && decide (uN w = n)
def tB (w : Int) : Bool := decide (uE w = 10)
theorem gUnN_of {f : FuncId} (h : FunSound Try.prog f gUn) (n : Int) : FunSound Try.prog f (gUnN uL uC (tN n) n) := by
  refine h.short fun args sub κ r h => ?_
  unfold gUnN at h
  split at h
  · split at h
    · rename_i w hc
      simp only [Bool.and_eq_true, tN, decide_eq_true_eq] at hc
      unfold gUn gUnV
      simp only [hc.1, hc.2.1, hc.2.2]
      exact h
    · cases h
  · cases h
theorem uBad {w : Int} (h : uE w = 10) : uL w = 0 ∧ uN w = 0 ∧ uC w = false := by
  unfold uE at h
  split at h
  · cases h
  · rename_i hn
    simp only [Bool.not_eq_true] at hn
    simp [uL, uN, uC, hn]
theorem gUnB_of {f : FuncId} (h : FunSound Try.prog f gUn) : FunSound Try.prog f (gUnB tB) := by
  refine h.short fun args sub κ r h => ?_
  unfold gUnB at h
  split at h
  · split at h
    · rename_i w hc
      simp only [Bool.and_eq_true, tB, decide_eq_true_eq] at hc
      unfold gUn gUnV
      obtain ⟨b1, b2, b3⟩ := uBad hc.2
      simp only [hc.1, hc.2, b1, b2, b3]
      exact h
    · cases h
  · cases h
theorem sCN_ok (n : Int) : SummOk Try.prog (sCN uL uC (tN n) n) :=
  sAdd_ok (sAdd_ok sNil_ok (gUnN_of gUn_sound n) (enters Try.func11 rfl (by kernel_rfl))) (gUnN_of gRefUn_sound n) (enters Try.func12 rfl (by kernel_rfl))
theorem sCB_ok : SummOk Try.prog (sCB tB) :=
  sAdd_ok (sAdd_ok sNil_ok (gUnB_of gUn_sound) (enters Try.func11 rfl (by kernel_rfl))) (gUnB_of gRefUn_sound) (enters Try.func12 rfl (by kernel_rfl))
theorem uN_cases (w : Int) (h : 0 ≤ w) : uE w = 10 ∨ (uE w = 0 ∧ (uN w = 0 ∨ uN w = 1 ∨ uN w = 2 ∨ uN w = 3 ∨ uN w = 4)) := by
  unfold uE uN
  by_cases ho : uOk w = true
  · rw [if_pos ho, if_pos ho]
    right
    simp only [uOk, Bool.and_eq_true, decide_eq_true_eq] at ho
    exact ⟨rfl, by omega⟩
  · rw [if_neg ho]; left; rfl
theorem gCarry_sound : FunSound Try.prog 14 gCarry := by
  intro args sub κ r h
  unfold gCarry gCarryV at h
  split at h
  · rename_i f0 f1 f2 f3 f4 f5 f6 f7 t0 t1 t2 t3 t4 t5 t6 t7 b
    split at h
    · rename_i hc
      have h1 := u64wf hc
      rcases uN_cases f0 h1.1 with e | ⟨e, n | n | n | n | n⟩
      · refine runG_sound sCB_ok mix 100 14 _ _ κ r ((t_carryB uL uC tB f0 f1 f2 f3 f4 f5 f6 f7 t0 t1 t2 t3 t4 t5 t6 t7 b κ).trans ?_)
        rw [hc, show tB f0 = true from by simp [tB, e]]
        rw [← h]
        simp [cR, cB, e]
      · refine runG_sound (sCN_ok 0) mix 100 14 _ _ κ r ((t_carry0 uL uC (tN 0) f0 f1 f2 f3 f4 f5 f6 f7 t0 t1 t2 t3 t4 t5 t6 t7 b κ).trans ?_)
        rw [hc, show tN 0 f0 = true from by simp [tN, e, n]]
        rw [← h]
        simp [cR, cB, e, n]
      · refine runG_sound (sCN_ok 1) mix 100 14 _ _ κ r ((t_carry1 uL uC (tN 1) f0 f1 f2 f3 f4 f5 f6 f7 t0 t1 t2 t3 t4 t5 t6 t7 b κ).trans ?_)
        rw [hc, show tN 1 f0 = true from by simp [tN, e, n]]
        rw [← h]
        simp [cR, cB, e, n]
      · refine runG_sound (sCN_ok 2) mix 100 14 _ _ κ r ((t_carry2 uL uC (tN 2) f0 f1 f2 f3 f4 f5 f6 f7 t0 t1 t2 t3 t4 t5 t6 t7 b κ).trans ?_)
        rw [hc, show tN 2 f0 = true from by simp [tN, e, n]]
        rw [← h]
        simp [cR, cB, e, n]
      · refine runG_sound (sCN_ok 3) mix 100 14 _ _ κ r ((t_carry3 uL uC (tN 3) f0 f1 f2 f3 f4 f5 f6 f7 t0 t1 t2 t3 t4 t5 t6 t7 b κ).trans ?_)
        rw [hc, show tN 3 f0 = true from by simp [tN, e, n]]
        rw [← h]
        simp [cR, cB, e, n]
      · refine runG_sound (sCN_ok 4) mix 100 14 _ _ κ r ((t_carry4 uL uC (tN 4) f0 f1 f2 f3 f4 f5 f6 f7 t0 t1 t2 t3 t4 t5 t6 t7 b κ).trans ?_)
        rw [hc, show tN 4 f0 = true from by simp [tN, e, n]]
        rw [← h]
        simp [cR, cB, e, n]
    · cases h
  · cases h
theorem gRefCarry_sound : FunSound Try.prog 15 gCarry := by
  intro args sub κ r h
  unfold gCarry gCarryV at h
  split at h
  · rename_i f0 f1 f2 f3 f4 f5 f6 f7 t0 t1 t2 t3 t4 t5 t6 t7 b
    split at h
    · rename_i hc
      have h1 := u64wf hc
      rcases uN_cases f0 h1.1 with e | ⟨e, n | n | n | n | n⟩
      · refine runG_sound sCB_ok mix 100 15 _ _ κ r ((t_refCarryB uL uC tB f0 f1 f2 f3 f4 f5 f6 f7 t0 t1 t2 t3 t4 t5 t6 t7 b κ).trans ?_)
        rw [hc, show tB f0 = true from by simp [tB, e]]
        rw [← h]
        simp [cR, cB, e]
      · refine runG_sound (sCN_ok 0) mix 100 15 _ _ κ r ((t_refCarry0 uL uC (tN 0) f0 f1 f2 f3 f4 f5 f6 f7 t0 t1 t2 t3 t4 t5 t6 t7 b κ).trans ?_)
        rw [hc, show tN 0 f0 = true from by simp [tN, e, n]]
        rw [← h]
        simp [cR, cB, e, n]
      · refine runG_sound (sCN_ok 1) mix 100 15 _ _ κ r ((t_refCarry1 uL uC (tN 1) f0 f1 f2 f3 f4 f5 f6 f7 t0 t1 t2 t3 t4 t5 t6 t7 b κ).trans ?_)
        rw [hc, show tN 1 f0 = true from by simp [tN, e, n]]
        rw [← h]
        simp [cR, cB, e, n]
      · refine runG_sound (sCN_ok 2) mix 100 15 _ _ κ r ((t_refCarry2 uL uC (tN 2) f0 f1 f2 f3 f4 f5 f6 f7 t0 t1 t2 t3 t4 t5 t6 t7 b κ).trans ?_)
        rw [hc, show tN 2 f0 = true from by simp [tN, e, n]]
        rw [← h]
        simp [cR, cB, e, n]
      · refine runG_sound (sCN_ok 3) mix 100 15 _ _ κ r ((t_refCarry3 uL uC (tN 3) f0 f1 f2 f3 f4 f5 f6 f7 t0 t1 t2 t3 t4 t5 t6 t7 b κ).trans ?_)
        rw [hc, show tN 3 f0 = true from by simp [tN, e, n]]
        rw [← h]
        simp [cR, cB, e, n]
      · refine runG_sound (sCN_ok 4) mix 100 15 _ _ κ r ((t_refCarry4 uL uC (tN 4) f0 f1 f2 f3 f4 f5 f6 f7 t0 t1 t2 t3 t4 t5 t6 t7 b κ).trans ?_)
        rw [hc, show tN 4 f0 = true from by simp [tN, e, n]]
        rw [← h]
        simp [cR, cB, e, n]
    · cases h
  · cases h
end Go.Proofs.Ytefnfmbmabpkoaa.Wlk
