/- Answers, told in short. -/
import Derived.Test.YtefnfmbmabpkoaaMsgB
import Derived.Test.YtefnfmbmabpkoaaMsgR
set_option linter.unusedVariables false
set_option linter.unusedSimpArgs false
set_option maxRecDepth 100000
namespace Go.Proofs.Ytefnfmbmabpkoaa.Wlk
open Go Go.Eng Go.Proofs Go.RowKit
theorem t_answer0 (t0 t1 t2 t3 t4 t5 t6 t7 e  : Int) (ro nn : Bool) (k : Res → Option Res) : runG Try.prog sNil 100 16 [.e (.agg [.int .u64 t0, .int .u64 t1, .int .u64 t2, .int .u64 t3, .int .u64 t4, .int .u64 t5, .int .u64 t6, .int .u64 t7]), aint .i64 e, .e (.c (.slice ⟨0, 0, 1, 0, 0, 0, 0⟩ 1 0 0 nn))] [some ⟨ro, .rows [.ints .u64 ([])]⟩] k = (k (Res.mk (AV.e (AE.agg [(AC.int (IntKind.u64) (IntKind.wrap IntKind.u64 e)), (AC.int (IntKind.u64) (t1)), (AC.int (IntKind.u64) (t2)), (AC.int (IntKind.u64) (t3)), (AC.int (IntKind.u64) (t4)), (AC.int (IntKind.u64) (t5)), (AC.int (IntKind.u64) (t6)), (AC.int (IntKind.u64) (t7))])) [(none)])) := by kernel_rfl
theorem t_answer1 (t0 t1 t2 t3 t4 t5 t6 t7 e a : Int) (ro nn : Bool) (k : Res → Option Res) : runG Try.prog sNil 100 16 [.e (.agg [.int .u64 t0, .int .u64 t1, .int .u64 t2, .int .u64 t3, .int .u64 t4, .int .u64 t5, .int .u64 t6, .int .u64 t7]), aint .i64 e, .e (.c (.slice ⟨0, 0, 1, 0, 0, 0, 0⟩ 1 1 0 nn))] [some ⟨ro, .rows [.ints .u64 ([a])]⟩] k = (k (Res.mk (AV.e (AE.agg [(AC.int (IntKind.u64) (IntKind.wrap IntKind.u64 e)), (AC.int (IntKind.u64) (a)), (AC.int (IntKind.u64) (t2)), (AC.int (IntKind.u64) (t3)), (AC.int (IntKind.u64) (t4)), (AC.int (IntKind.u64) (t5)), (AC.int (IntKind.u64) (t6)), (AC.int (IntKind.u64) (t7))])) [(none)])) := by kernel_rfl
theorem t_answer2 (t0 t1 t2 t3 t4 t5 t6 t7 e a b : Int) (ro nn : Bool) (k : Res → Option Res) : runG Try.prog sNil 100 16 [.e (.agg [.int .u64 t0, .int .u64 t1, .int .u64 t2, .int .u64 t3, .int .u64 t4, .int .u64 t5, .int .u64 t6, .int .u64 t7]), aint .i64 e, .e (.c (.slice ⟨0, 0, 1, 0, 0, 0, 0⟩ 1 2 0 nn))] [some ⟨ro, .rows [.ints .u64 ([a, b])]⟩] k = (k (Res.mk (AV.e (AE.agg [(AC.int (IntKind.u64) (IntKind.wrap IntKind.u64 e)), (AC.int (IntKind.u64) (a)), (AC.int (IntKind.u64) (b)), (AC.int (IntKind.u64) (t3)), (AC.int (IntKind.u64) (t4)), (AC.int (IntKind.u64) (t5)), (AC.int (IntKind.u64) (t6)), (AC.int (IntKind.u64) (t7))])) [(none)])) := by kernel_rfl
theorem t_answer3 (t0 t1 t2 t3 t4 t5 t6 t7 e a b c : Int) (ro nn : Bool) (k : Res → Option Res) : runG Try.prog sNil 100 16 [.e (.agg [.int .u64 t0, .int .u64 t1, .int .u64 t2, .int .u64 t3, .int .u64 t4, .int .u64 t5, .int .u64 t6, .int .u64 t7]), aint .i64 e, .e (.c (.slice ⟨0, 0, 1, 0, 0, 0, 0⟩ 1 3 0 nn))] [some ⟨ro, .rows [.ints .u64 ([a, b, c])]⟩] k = (k (Res.mk (AV.e (AE.agg [(AC.int (IntKind.u64) (IntKind.wrap IntKind.u64 e)), (AC.int (IntKind.u64) (a)), (AC.int (IntKind.u64) (b)), (AC.int (IntKind.u64) (c)), (AC.int (IntKind.u64) (t4)), (AC.int (IntKind.u64) (t5)), (AC.int (IntKind.u64) (t6)), (AC.int (IntKind.u64) (t7))])) [(none)])) := by kernel_rfl
theorem t_answer4 (t0 t1 t2 t3 t4 t5 t6 t7 e a b c d : Int) (zs : List Int) (ro nn : Bool) (k : Res → Option Res) : runG Try.prog sNil 100 16 [.e (.agg [.int .u64 t0, .int .u64 t1, .int .u64 t2, .int .u64 t3, .int .u64 t4, .int .u64 t5, .int .u64 t6, .int .u64 t7]), aint .i64 e, .e (.c (.slice ⟨0, 0, 1, 0, 0, 0, 0⟩ 1 (zs.length + 4) 0 nn))] [some ⟨ro, .rows [.ints .u64 (a :: b :: c :: d :: zs)]⟩] k = (k (Res.mk (AV.e (AE.agg [(AC.int (IntKind.u64) (IntKind.wrap IntKind.u64 e)), (AC.int (IntKind.u64) (a)), (AC.int (IntKind.u64) (b)), (AC.int (IntKind.u64) (c)), (AC.int (IntKind.u64) (d)), (AC.int (IntKind.u64) (t5)), (AC.int (IntKind.u64) (t6)), (AC.int (IntKind.u64) (t7))])) [(none)])) := by kernel_rfl
theorem t_refAnswer0 (t0 t1 t2 t3 t4 t5 t6 t7 e  : Int) (ro nn : Bool) (k : Res → Option Res) : runG Try.prog sNil 100 17 [.e (.agg [.int .u64 t0, .int .u64 t1, .int .u64 t2, .int .u64 t3, .int .u64 t4, .int .u64 t5, .int .u64 t6, .int .u64 t7]), aint .i64 e, .e (.c (.slice ⟨0, 0, 1, 0, 0, 0, 0⟩ 1 0 0 nn))] [some ⟨ro, .rows [.ints .u64 ([])]⟩] k = (k (Res.mk (AV.e (AE.agg [(AC.int (IntKind.u64) (IntKind.wrap IntKind.u64 e)), (AC.int (IntKind.u64) (t1)), (AC.int (IntKind.u64) (t2)), (AC.int (IntKind.u64) (t3)), (AC.int (IntKind.u64) (t4)), (AC.int (IntKind.u64) (t5)), (AC.int (IntKind.u64) (t6)), (AC.int (IntKind.u64) (t7))])) [(none)])) := by kernel_rfl
theorem t_refAnswer1 (t0 t1 t2 t3 t4 t5 t6 t7 e a : Int) (ro nn : Bool) (k : Res → Option Res) : runG Try.prog sNil 100 17 [.e (.agg [.int .u64 t0, .int .u64 t1, .int .u64 t2, .int .u64 t3, .int .u64 t4, .int .u64 t5, .int .u64 t6, .int .u64 t7]), aint .i64 e, .e (.c (.slice ⟨0, 0, 1, 0, 0, 0, 0⟩ 1 1 0 nn))] [some ⟨ro, .rows [.ints .u64 ([a])]⟩] k = (k (Res.mk (AV.e (AE.agg [(AC.int (IntKind.u64) (IntKind.wrap IntKind.u64 e)), (AC.int (IntKind.u64) (a)), (AC.int (IntKind.u64) (t2)), (AC.int (IntKind.u64) (t3)), (AC.int (IntKind.u64) (t4)), (AC.int (IntKind.u64) (t5)), (AC.int (IntKind.u64) (t6)), (AC.int (IntKind.u64) (t7))])) [(none)])) := by kernel_rfl
theorem t_refAnswer2 (t0 t1 t2 t3 t4 t5 t6 t7 e a b : Int) (ro nn : Bool) (k : Res → Option Res) : runG Try.prog sNil 100 17 [.e (.agg [.int .u64 t0, .int .u64 t1, .int .u64 t2, .int .u64 t3, .int .u64 t4, .int .u64 t5, .int .u64 t6, .int .u64 t7]), aint .i64 e, .e (.c (.slice ⟨0, 0, 1, 0, 0, 0, 0⟩ 1 2 0 nn))] [some ⟨ro, .rows [.ints .u64 ([a, b])]⟩] k = (k (Res.mk (AV.e (AE.agg [(AC.int (IntKind.u64) (IntKind.wrap IntKind.u64 e)), (AC.int (IntKind.u64) (a)), (AC.int (IntKind.u64) (b)), (AC.int (IntKind.u64) (t3)), (AC.int (IntKind.u64) (t4)), (AC.int (IntKind.u64) (t5)), (AC.int (IntKind.u64) (t6)), (AC.int (IntKind.u64) (t7))])) [(none)])) := by kernel_rfl
theorem t_refAnswer3 (t0 t1 t2 t3 t4 t5 t6 t7 e a b c : Int) (ro nn : Bool) (k : Res → Option Res) : runG Try.prog sNil 100 17 [.e (.agg [.int .u64 t0, .int .u64 t1, .int .u64 t2, .int .u64 t3, .int .u64 t4, .int .u64 t5, .int .u64 t6, .int .u64 t7]), aint .i64 e, .e (.c (.slice ⟨0, 0, 1, 0, 0, 0, 0⟩ 1 3 0 nn))] [some ⟨ro, .rows [.ints .u64 ([a, b, c])]⟩] k = (k (Res.mk (AV.e (AE.agg [(AC.int (IntKind.u64) (IntKind.wrap IntKind.u64 e)), (AC.int (IntKind.u64) (a)), (AC.int (IntKind.u64) (b)), (AC.int (IntKind.u64) (c)), (AC.int (IntKind.u64) (t4)), (AC.int (IntKind.u64) (t5)), (AC.int (IntKind.u64) (t6)), (AC.int (IntKind.u64) (t7))])) [(none)])) := by kernel_rfl
theorem t_refAnswer4 (t0 t1 t2 t3 t4 t5 t6 t7 e a b c d : Int) (zs : List Int) (ro nn : Bool) (k : Res → Option Res) : runG Try.prog sNil 100 17 [.e (.agg [.int .u64 t0, .int .u64 t1, .int .u64 t2, .int .u64 t3, .int .u64 t4, .int .u64 t5, .int .u64 t6, .int .u64 t7]), aint .i64 e, .e (.c (.slice ⟨0, 0, 1, 0, 0, 0, 0⟩ 1 (zs.length + 4) 0 nn))] [some ⟨ro, .rows [.ints .u64 (a :: b :: c :: d :: zs)]⟩] k = (cond (decide (0 < (↑(List.length zs + 4) : Int))) (cond (true && decide (0 < (↑(List.length zs + 4) : Int))) (cond (decide (1 < (↑(List.length zs + 4) : Int))) (cond (true && decide (1 < (↑(List.length zs + 4) : Int))) (cond (decide (2 < (↑(List.length zs + 4) : Int))) (cond (true && decide (2 < (↑(List.length zs + 4) : Int))) (cond (decide (3 < (↑(List.length zs + 4) : Int))) (cond (true && decide (3 < (↑(List.length zs + 4) : Int))) (cond (decide (4 < (↑(List.length zs + 4) : Int))) (k (Res.mk (AV.e (AE.agg [(AC.int (IntKind.u64) (IntKind.wrap IntKind.u64 e)), (AC.int (IntKind.u64) (a)), (AC.int (IntKind.u64) (b)), (AC.int (IntKind.u64) (c)), (AC.int (IntKind.u64) (d)), (AC.int (IntKind.u64) (t5)), (AC.int (IntKind.u64) (t6)), (AC.int (IntKind.u64) (t7))])) [(none)])) (k (Res.mk (AV.e (AE.agg [(AC.int (IntKind.u64) (IntKind.wrap IntKind.u64 e)), (AC.int (IntKind.u64) (a)), (AC.int (IntKind.u64) (b)), (AC.int (IntKind.u64) (c)), (AC.int (IntKind.u64) (d)), (AC.int (IntKind.u64) (t5)), (AC.int (IntKind.u64) (t6)), (AC.int (IntKind.u64) (t7))])) [(none)]))) none) (k (Res.mk (AV.e (AE.agg [(AC.int (IntKind.u64) (IntKind.wrap IntKind.u64 e)), (AC.int (IntKind.u64) (a)), (AC.int (IntKind.u64) (b)), (AC.int (IntKind.u64) (c)), (AC.int (IntKind.u64) (t4)), (AC.int (IntKind.u64) (t5)), (AC.int (IntKind.u64) (t6)), (AC.int (IntKind.u64) (t7))])) [(none)]))) none) (k (Res.mk (AV.e (AE.agg [(AC.int (IntKind.u64) (IntKind.wrap IntKind.u64 e)), (AC.int (IntKind.u64) (a)), (AC.int (IntKind.u64) (b)), (AC.int (IntKind.u64) (t3)), (AC.int (IntKind.u64) (t4)), (AC.int (IntKind.u64) (t5)), (AC.int (IntKind.u64) (t6)), (AC.int (IntKind.u64) (t7))])) [(none)]))) none) (k (Res.mk (AV.e (AE.agg [(AC.int (IntKind.u64) (IntKind.wrap IntKind.u64 e)), (AC.int (IntKind.u64) (a)), (AC.int (IntKind.u64) (t2)), (AC.int (IntKind.u64) (t3)), (AC.int (IntKind.u64) (t4)), (AC.int (IntKind.u64) (t5)), (AC.int (IntKind.u64) (t6)), (AC.int (IntKind.u64) (t7))])) [(none)]))) none) (k (Res.mk (AV.e (AE.agg [(AC.int (IntKind.u64) (IntKind.wrap IntKind.u64 e)), (AC.int (IntKind.u64) (t1)), (AC.int (IntKind.u64) (t2)), (AC.int (IntKind.u64) (t3)), (AC.int (IntKind.u64) (t4)), (AC.int (IntKind.u64) (t5)), (AC.int (IntKind.u64) (t6)), (AC.int (IntKind.u64) (t7))])) [(none)]))) := by kernel_rfl
def aR (zs : List Int) (i : Nat) (t : Int) : Int := match zs[i]? with | some x => x | none => t
def gAnswer : Fun := fun args sub κ => match args, sub with
  | [.e (.agg [.int .u64 t0, .int .u64 t1, .int .u64 t2, .int .u64 t3, .int .u64 t4, .int .u64 t5, .int .u64 t6, .int .u64 t7]), .e (.c (.int .i64 e)), .e (.c (.slice ⟨0, 0, 1, 0, 0, 0, 0⟩ 1 n 0 nn))], [some ⟨ro, .rows [.ints .u64 zs]⟩] => match Nat.beq n zs.length with
    | true => κ ⟨.e (.agg [.int .u64 (IntKind.u64.wrap e), .int .u64 (aR zs 0 t1), .int .u64 (aR zs 1 t2), .int .u64 (aR zs 2 t3), .int .u64 (aR zs 3 t4), .int .u64 t5, .int .u64 t6, .int .u64 t7]), [none]⟩
    | false => none
  | _, _ => none
theorem gAnswer_sound : FunSound Try.prog 16 gAnswer := by
  refine (runG_sound sNil_ok mix 100 16).short fun args sub κ r h => ?_
  unfold gAnswer at h
  split at h
  · rename_i t0 t1 t2 t3 t4 t5 t6 t7 e n nn ro zs
    split at h
    · rename_i hn
      have hn : n = zs.length := Nat.eq_of_beq_eq_true hn
      subst hn
      match zs, h with
      | [], h => exact (t_answer0 t0 t1 t2 t3 t4 t5 t6 t7 e ro nn κ).trans h
      | [a], h => exact (t_answer1 t0 t1 t2 t3 t4 t5 t6 t7 e a ro nn κ).trans h
      | [a, b], h => exact (t_answer2 t0 t1 t2 t3 t4 t5 t6 t7 e a b ro nn κ).trans h
      | [a, b, c], h => exact (t_answer3 t0 t1 t2 t3 t4 t5 t6 t7 e a b c ro nn κ).trans h
      | a :: b :: c :: d :: zs, h =>
        refine (t_answer4 t0 t1 t2 t3 t4 t5 t6 t7 e a b c d zs ro nn κ).trans ?_
        have q : ∀ j : Int, j < 4 → decide (j < ((zs.length + 4 : Nat) : Int)) = true := fun j hj => decide_eq_true (by omega)
        have q1 : ∀ x y : Option Res, cond (decide ((4 : Int) < ((zs.length + 4 : Nat) : Int))) x x = x := fun x y => by cases decide ((4 : Int) < ((zs.length + 4 : Nat) : Int)) <;> rfl
        exact h
    · cases h
  · cases h
theorem gRefAnswer_sound : FunSound Try.prog 17 gAnswer := by
  refine (runG_sound sNil_ok mix 100 17).short fun args sub κ r h => ?_
  unfold gAnswer at h
  split at h
  · rename_i t0 t1 t2 t3 t4 t5 t6 t7 e n nn ro zs
    split at h
    · rename_i hn
      have hn : n = zs.length := Nat.eq_of_beq_eq_true hn
      subst hn
      match zs, h with
      | [], h => exact (t_refAnswer0 t0 t1 t2 t3 t4 t5 t6 t7 e ro nn κ).trans h
      | [a], h => exact (t_refAnswer1 t0 t1 t2 t3 t4 t5 t6 t7 e a ro nn κ).trans h
      | [a, b], h => exact (t_refAnswer2 t0 t1 t2 t3 t4 t5 t6 t7 e a b ro nn κ).trans h
      | [a, b, c], h => exact (t_refAnswer3 t0 t1 t2 t3 t4 t5 t6 t7 e a b c ro nn κ).trans h
      | a :: b :: c :: d :: zs, h =>
        refine (t_refAnswer4 t0 t1 t2 t3 t4 t5 t6 t7 e a b c d zs ro nn κ).trans ?_
        have q : ∀ j : Int, j < 4 → decide (j < ((zs.length + 4 : Nat) : Int)) = true := fun j hj => decide_eq_true (by omega)
        have q1 : ∀ x y : Option Res, cond (decide ((4 : Int) < ((zs.length + 4 : Nat) : Int))) x x = x := fun x y => by cases decide ((4 : Int) < ((zs.length + 4 : Nat) : Int)) <;> rfl
        simp only [q 0 (by omega), q 1 (by omega), q 2 (by omega), q 3 (by omega), Bool.and_self, cond_true]
        rw [q1 _ none]
        exact h
    · cases h
  · cases h
end Go.Proofs.Ytefnfmbmabpkoaa.Wlk
