/- The laws of instructions: tables. -/
import Derived.Test.YtiodjfgdglakkaaCRunC
set_option linter.unusedVariables false
set_option linter.unusedSimpArgs false
set_option maxRecDepth 100000
namespace Go.Proofs.Ytiodjfgdglakkaa.Wlk
open Go Go.Eng Go.Proofs Go.RowKit

def gRegs : Fun := fun args sub κ => match args, sub with
  | [.e (.c (.slice ⟨0, 0, 1, 0, 0, 0, 0⟩ 1 n 0 false))], [some ⟨true, .rows [.ints .u64 zs]⟩] => match Nat.beq n zs.length with
    | true => κ ⟨.e (.agg [.int .u64 (List.getD zs 0 0), .int .u64 (List.getD zs 1 0), .int .u64 (List.getD zs 2 0), .int .u64 (List.getD zs 3 0), .int .u64 (List.getD zs 4 0), .int .u64 (List.getD zs 5 0), .int .u64 (List.getD zs 6 0), .int .u64 (List.getD zs 7 0)]), [none]⟩
    | false => none
  | _, _ => none
theorem t_regs (zs : List Int) (n : Nat) (k : Res → Option Res) : runG Try.prog sNil 100 15 [.e (.c (.slice ⟨0, 0, 1, 0, 0, 0, 0⟩ 1 n 0 false))] [some ⟨true, .rows [.ints .u64 zs]⟩] k = (cond (decide (0 < (↑n : Int))) (cond (true && decide (0 < (↑n : Int))) (cond (decide (0 < List.length zs)) (cond (decide (1 < (↑n : Int))) (cond (true && decide (1 < (↑n : Int))) (cond (decide (1 < List.length zs)) (cond (decide (2 < (↑n : Int))) (cond (true && decide (2 < (↑n : Int))) (cond (decide (2 < List.length zs)) (cond (decide (3 < (↑n : Int))) (cond (true && decide (3 < (↑n : Int))) (cond (decide (3 < List.length zs)) (cond (decide (4 < (↑n : Int))) (cond (true && decide (4 < (↑n : Int))) (cond (decide (4 < List.length zs)) (cond (decide (5 < (↑n : Int))) (cond (true && decide (5 < (↑n : Int))) (cond (decide (5 < List.length zs)) (cond (decide (6 < (↑n : Int))) (cond (true && decide (6 < (↑n : Int))) (cond (decide (6 < List.length zs)) (cond (decide (7 < (↑n : Int))) (cond (true && decide (7 < (↑n : Int))) (cond (decide (7 < List.length zs)) (cond (decide (8 < (↑n : Int))) (k (Res.mk (AV.e (AE.agg [(AC.int (IntKind.u64) (List.getD zs 0 0)), (AC.int (IntKind.u64) (List.getD zs 1 0)), (AC.int (IntKind.u64) (List.getD zs 2 0)), (AC.int (IntKind.u64) (List.getD zs 3 0)), (AC.int (IntKind.u64) (List.getD zs 4 0)), (AC.int (IntKind.u64) (List.getD zs 5 0)), (AC.int (IntKind.u64) (List.getD zs 6 0)), (AC.int (IntKind.u64) (List.getD zs 7 0))])) [(none)])) (k (Res.mk (AV.e (AE.agg [(AC.int (IntKind.u64) (List.getD zs 0 0)), (AC.int (IntKind.u64) (List.getD zs 1 0)), (AC.int (IntKind.u64) (List.getD zs 2 0)), (AC.int (IntKind.u64) (List.getD zs 3 0)), (AC.int (IntKind.u64) (List.getD zs 4 0)), (AC.int (IntKind.u64) (List.getD zs 5 0)), (AC.int (IntKind.u64) (List.getD zs 6 0)), (AC.int (IntKind.u64) (List.getD zs 7 0))])) [(none)]))) none) none) (k (Res.mk (AV.e (AE.agg [(AC.int (IntKind.u64) (List.getD zs 0 0)), (AC.int (IntKind.u64) (List.getD zs 1 0)), (AC.int (IntKind.u64) (List.getD zs 2 0)), (AC.int (IntKind.u64) (List.getD zs 3 0)), (AC.int (IntKind.u64) (List.getD zs 4 0)), (AC.int (IntKind.u64) (List.getD zs 5 0)), (AC.int (IntKind.u64) (List.getD zs 6 0)), (AC.int (IntKind.u64) (0))])) [(none)]))) none) none) (k (Res.mk (AV.e (AE.agg [(AC.int (IntKind.u64) (List.getD zs 0 0)), (AC.int (IntKind.u64) (List.getD zs 1 0)), (AC.int (IntKind.u64) (List.getD zs 2 0)), (AC.int (IntKind.u64) (List.getD zs 3 0)), (AC.int (IntKind.u64) (List.getD zs 4 0)), (AC.int (IntKind.u64) (List.getD zs 5 0)), (AC.int (IntKind.u64) (0)), (AC.int (IntKind.u64) (0))])) [(none)]))) none) none) (k (Res.mk (AV.e (AE.agg [(AC.int (IntKind.u64) (List.getD zs 0 0)), (AC.int (IntKind.u64) (List.getD zs 1 0)), (AC.int (IntKind.u64) (List.getD zs 2 0)), (AC.int (IntKind.u64) (List.getD zs 3 0)), (AC.int (IntKind.u64) (List.getD zs 4 0)), (AC.int (IntKind.u64) (0)), (AC.int (IntKind.u64) (0)), (AC.int (IntKind.u64) (0))])) [(none)]))) none) none) (k (Res.mk (AV.e (AE.agg [(AC.int (IntKind.u64) (List.getD zs 0 0)), (AC.int (IntKind.u64) (List.getD zs 1 0)), (AC.int (IntKind.u64) (List.getD zs 2 0)), (AC.int (IntKind.u64) (List.getD zs 3 0)), (AC.int (IntKind.u64) (0)), (AC.int (IntKind.u64) (0)), (AC.int (IntKind.u64) (0)), (AC.int (IntKind.u64) (0))])) [(none)]))) none) none) (k (Res.mk (AV.e (AE.agg [(AC.int (IntKind.u64) (List.getD zs 0 0)), (AC.int (IntKind.u64) (List.getD zs 1 0)), (AC.int (IntKind.u64) (List.getD zs 2 0)), (AC.int (IntKind.u64) (0)), (AC.int (IntKind.u64) (0)), (AC.int (IntKind.u64) (0)), (AC.int (IntKind.u64) (0)), (AC.int (IntKind.u64) (0))])) [(none)]))) none) none) (k (Res.mk (AV.e (AE.agg [(AC.int (IntKind.u64) (List.getD zs 0 0)), (AC.int (IntKind.u64) (List.getD zs 1 0)), (AC.int (IntKind.u64) (0)), (AC.int (IntKind.u64) (0)), (AC.int (IntKind.u64) (0)), (AC.int (IntKind.u64) (0)), (AC.int (IntKind.u64) (0)), (AC.int (IntKind.u64) (0))])) [(none)]))) none) none) (k (Res.mk (AV.e (AE.agg [(AC.int (IntKind.u64) (List.getD zs 0 0)), (AC.int (IntKind.u64) (0)), (AC.int (IntKind.u64) (0)), (AC.int (IntKind.u64) (0)), (AC.int (IntKind.u64) (0)), (AC.int (IntKind.u64) (0)), (AC.int (IntKind.u64) (0)), (AC.int (IntKind.u64) (0))])) [(none)]))) none) none) (k (Res.mk (AV.e (AE.agg [(AC.int (IntKind.u64) (0)), (AC.int (IntKind.u64) (0)), (AC.int (IntKind.u64) (0)), (AC.int (IntKind.u64) (0)), (AC.int (IntKind.u64) (0)), (AC.int (IntKind.u64) (0)), (AC.int (IntKind.u64) (0)), (AC.int (IntKind.u64) (0))])) [(none)]))) := by kernel_rfl
theorem gRegs_sound : FunSound Try.prog 15 gRegs := by
  refine (runG_sound sNil_ok mix 100 15).short fun args sub κ r h => ?_
  unfold gRegs at h
  split at h
  · rename_i n zs
    split at h
    · rename_i hn
      have hn : n = zs.length := Nat.eq_of_beq_eq_true hn
      subst hn
      refine (t_regs zs _ κ).trans ?_
      rw [← h]
      have g : ∀ i, zs.length ≤ i → List.getD zs i 0 = 0 := fun i hi => by rw [List.getD_eq_getElem?_getD, List.getElem?_eq_none hi]; rfl
      have yes : ∀ j : Nat, j < zs.length → decide ((j : Int) < (zs.length : Int)) = true := fun j hj => decide_eq_true (by omega)
      have no : ∀ j : Nat, ¬ j < zs.length → decide ((j : Int) < (zs.length : Int)) = false := fun j hj => decide_eq_false (by omega)
      by_cases l0 : 0 < zs.length
      rotate_left
      · rw [show decide ((0 : Int) < (zs.length : Int)) = false from no 0 l0]
        simp only [g 0 (by omega), g 1 (by omega), g 2 (by omega), g 3 (by omega), g 4 (by omega), g 5 (by omega), g 6 (by omega), g 7 (by omega), cond_false]
      rw [show decide ((0 : Int) < (zs.length : Int)) = true from yes 0 l0, decide_eq_true l0]
      by_cases l1 : 1 < zs.length
      rotate_left
      · rw [show decide ((1 : Int) < (zs.length : Int)) = false from no 1 l1]
        simp only [g 1 (by omega), g 2 (by omega), g 3 (by omega), g 4 (by omega), g 5 (by omega), g 6 (by omega), g 7 (by omega), cond_false, cond_true, Bool.and_true, Bool.true_and]
      rw [show decide ((1 : Int) < (zs.length : Int)) = true from yes 1 l1, decide_eq_true l1]
      by_cases l2 : 2 < zs.length
      rotate_left
      · rw [show decide ((2 : Int) < (zs.length : Int)) = false from no 2 l2]
        simp only [g 2 (by omega), g 3 (by omega), g 4 (by omega), g 5 (by omega), g 6 (by omega), g 7 (by omega), cond_false, cond_true, Bool.and_true, Bool.true_and]
      rw [show decide ((2 : Int) < (zs.length : Int)) = true from yes 2 l2, decide_eq_true l2]
      by_cases l3 : 3 < zs.length
      rotate_left
      · rw [show decide ((3 : Int) < (zs.length : Int)) = false from no 3 l3]
        simp only [g 3 (by omega), g 4 (by omega), g 5 (by omega), g 6 (by omega), g 7 (by omega), cond_false, cond_true, Bool.and_true, Bool.true_and]
      rw [show decide ((3 : Int) < (zs.length : Int)) = true from yes 3 l3, decide_eq_true l3]
      by_cases l4 : 4 < zs.length
      rotate_left
      · rw [show decide ((4 : Int) < (zs.length : Int)) = false from no 4 l4]
        simp only [g 4 (by omega), g 5 (by omega), g 6 (by omega), g 7 (by omega), cond_false, cond_true, Bool.and_true, Bool.true_and]
      rw [show decide ((4 : Int) < (zs.length : Int)) = true from yes 4 l4, decide_eq_true l4]
      by_cases l5 : 5 < zs.length
      rotate_left
      · rw [show decide ((5 : Int) < (zs.length : Int)) = false from no 5 l5]
        simp only [g 5 (by omega), g 6 (by omega), g 7 (by omega), cond_false, cond_true, Bool.and_true, Bool.true_and]
      rw [show decide ((5 : Int) < (zs.length : Int)) = true from yes 5 l5, decide_eq_true l5]
      by_cases l6 : 6 < zs.length
      rotate_left
      · rw [show decide ((6 : Int) < (zs.length : Int)) = false from no 6 l6]
        simp only [g 6 (by omega), g 7 (by omega), cond_false, cond_true, Bool.and_true, Bool.true_and]
      rw [show decide ((6 : Int) < (zs.length : Int)) = true from yes 6 l6, decide_eq_true l6]
      by_cases l7 : 7 < zs.length
      rotate_left
      · rw [show decide ((7 : Int) < (zs.length : Int)) = false from no 7 l7]
        simp only [g 7 (by omega), cond_false, cond_true, Bool.and_true, Bool.true_and]
      rw [show decide ((7 : Int) < (zs.length : Int)) = true from yes 7 l7, decide_eq_true l7]
      by_cases l8 : 8 < zs.length
      · rw [show decide ((8 : Int) < (zs.length : Int)) = true from yes 8 l8]; simp only [cond_true, Bool.true_and, Bool.and_true]
      · rw [show decide ((8 : Int) < (zs.length : Int)) = false from no 8 l8]; simp only [cond_true, cond_false, Bool.true_and, Bool.and_true]
    · cases h
  · cases h

/-- The table for laws of Run. -/
noncomputable def sQ : Summ := sAdd (sAdd (sAdd (sAdd (sAdd (sAdd sNil 11 (runG Try.prog sNil 100 11)) 18 (runG Try.prog sNil 100 18)) 15 gRegs) 16 gRun) 17 gRun) 19 gWorks
theorem sQ_ok : SummOk Try.prog sQ :=
  sAdd_ok (sAdd_ok (sAdd_ok (sAdd_ok (sAdd_ok (sAdd_ok sNil_ok (runG_sound sNil_ok mix _ _) (enters Try.func11 rfl (by kernel_rfl))) (runG_sound sNil_ok mix _ _) (enters Try.func18 rfl (by kernel_rfl))) gRegs_sound (enters Try.func15 rfl (by kernel_rfl)))
    gRun_sound (enters Try.func16 rfl (by kernel_rfl))) gRefRun_sound (enters Try.func17 rfl (by kernel_rfl))) gWorks_sound (enters Try.func19 rfl (by kernel_rfl))
end Go.Proofs.Ytiodjfgdglakkaa.Wlk
