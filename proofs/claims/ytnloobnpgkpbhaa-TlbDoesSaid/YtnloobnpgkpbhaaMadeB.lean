/- A memory of a list's words, told in short: the function. -/
import Derived.Test.YtnloobnpgkpbhaaMade
set_option linter.unusedVariables false
set_option linter.unusedSimpArgs false
set_option maxRecDepth 100000
namespace Go.Proofs.Ytnloobnpgkpbhaa.Wlk
open Go Go.Eng Go.Proofs Go.RowKit
theorem t_made (n : Int) (vl : Nat) (l : List Int) (k : Res → Option Res) : runLG Try.prog sMk lMade 1 100 14 [aint .i64 n, .e (.c (.slice ⟨0, 0, 1, 0, 0, 0, 0⟩ 1 vl 0 false))] [some ⟨true, .rows [.ints .u64 l]⟩] k = (cond (Go.Proofs.Ytnloobnpgkpbhaa.Wlk.newOk (IntKind.wrap IntKind.i64 (64 + IntKind.wrap IntKind.i64 (Int.tmod (IntKind.wrap IntKind.u64 n) 256)))) (cond (Go.Proofs.Ytnloobnpgkpbhaa.Wlk.newOk (IntKind.wrap IntKind.i64 (64 + IntKind.wrap IntKind.i64 (Int.tmod (IntKind.wrap IntKind.u64 n) 256)))) (cond (true && decide (IntKind.wrap IntKind.i64 (64 + IntKind.wrap IntKind.i64 (Int.tmod (IntKind.wrap IntKind.u64 n) 256)) = (↑(Int.toNat (IntKind.wrap IntKind.i64 (64 + IntKind.wrap IntKind.i64 (Int.tmod (IntKind.wrap IntKind.u64 n) 256)))) : Int)) && Nat.beq (Int.toNat (IntKind.wrap IntKind.i64 (64 + IntKind.wrap IntKind.i64 (Int.tmod (IntKind.wrap IntKind.u64 n) 256)))) (Int.toNat (IntKind.wrap IntKind.i64 (64 + IntKind.wrap IntKind.i64 (Int.tmod (IntKind.wrap IntKind.u64 n) 256)))) && Nat.beq (Int.toNat (IntKind.wrap IntKind.i64 (64 + IntKind.wrap IntKind.i64 (Int.tmod (IntKind.wrap IntKind.u64 n) 256)))) (List.length (List.replicate (Int.toNat (IntKind.wrap IntKind.i64 (64 + IntKind.wrap IntKind.i64 (Int.tmod (IntKind.wrap IntKind.u64 n) 256)))) (0 : Int))) && decide (List.replicate (Int.toNat (IntKind.wrap IntKind.i64 (64 + IntKind.wrap IntKind.i64 (Int.tmod (IntKind.wrap IntKind.u64 n) 256)))) (0 : Int) = List.replicate (Int.toNat (IntKind.wrap IntKind.i64 (64 + IntKind.wrap IntKind.i64 (Int.tmod (IntKind.wrap IntKind.u64 n) 256)))) (0 : Int)) && decide (List.length (List.replicate (Int.toNat (IntKind.wrap IntKind.i64 (64 + IntKind.wrap IntKind.i64 (Int.tmod (IntKind.wrap IntKind.u64 n) 256)))) (0 : Int)) ≤ 65536) && Nat.beq vl (List.length l) && decide (List.length l < 4611686018427387904)) (k (Res.mk (AV.tup [(AE.c (AC.ptr (Loc.mk 1 0 0 0 0 0 0))), (AE.c (AC.ptr (Loc.mk 2 0 0 0 0 0 0))), (AE.c (AC.bool true))]) [(none), (some (some (Block.mk false (Data.mix [(AC.slice (Loc.mk 3 0 1 0 0 0 0) 1 (Int.toNat (IntKind.wrap IntKind.i64 (64 + IntKind.wrap IntKind.i64 (Int.tmod (IntKind.wrap IntKind.u64 n) 256)))) 0 true)])))), (some (some (Block.mk false (Data.mix [(AC.slice (Loc.mk 4 0 1 0 0 0 0) 1 (Int.toNat (IntKind.wrap IntKind.i64 (64 + IntKind.wrap IntKind.i64 (Int.tmod (IntKind.wrap IntKind.u64 n) 256)))) 0 true)])))), (some (some (Block.mk false (Data.rows [(Col.ints (IntKind.u64) (Go.Proofs.Ytnloobnpgkpbhaa.Wlk.putsF l (List.length (List.replicate (Int.toNat (IntKind.wrap IntKind.i64 (64 + IntKind.wrap IntKind.i64 (Int.tmod (IntKind.wrap IntKind.u64 n) 256)))) (0 : Int))) 0 (List.replicate (Int.toNat (IntKind.wrap IntKind.i64 (64 + IntKind.wrap IntKind.i64 (Int.tmod (IntKind.wrap IntKind.u64 n) 256)))) (0 : Int))))])))), (some (some (Block.mk false (Data.rows [(Col.ints (IntKind.u64) (Go.Proofs.Ytnloobnpgkpbhaa.Wlk.putsF l (List.length (List.replicate (Int.toNat (IntKind.wrap IntKind.i64 (64 + IntKind.wrap IntKind.i64 (Int.tmod (IntKind.wrap IntKind.u64 n) 256)))) (0 : Int))) 0 (List.replicate (Int.toNat (IntKind.wrap IntKind.i64 (64 + IntKind.wrap IntKind.i64 (Int.tmod (IntKind.wrap IntKind.u64 n) 256)))) (0 : Int))))]))))])) none) none) (cond (Go.Proofs.Ytnloobnpgkpbhaa.Wlk.newOk (IntKind.wrap IntKind.i64 (64 + IntKind.wrap IntKind.i64 (Int.tmod (IntKind.wrap IntKind.u64 n) 256)))) (k (Res.mk (AV.tup [(AE.c (AC.nilp)), (AE.c (AC.ptr (Loc.mk 1 0 0 0 0 0 0))), (AE.c (AC.bool false))]) [(none), (some (some (Block.mk false (Data.mix [(AC.slice (Loc.mk 2 0 1 0 0 0 0) 1 (Int.toNat (IntKind.wrap IntKind.i64 (64 + IntKind.wrap IntKind.i64 (Int.tmod (IntKind.wrap IntKind.u64 n) 256)))) 0 true)])))), (some (some (Block.mk false (Data.rows [(Col.ints (IntKind.u64) (List.replicate (Int.toNat (IntKind.wrap IntKind.i64 (64 + IntKind.wrap IntKind.i64 (Int.tmod (IntKind.wrap IntKind.u64 n) 256)))) (0 : Int)))]))))])) (k (Res.mk (AV.tup [(AE.c (AC.nilp)), (AE.c (AC.nilp)), (AE.c (AC.bool false))]) [(none)])))) := by kernel_rfl
theorem gMade_sound : FunSound Try.prog 14 gMade := by
  refine (runL_sound sMk_ok mix 100 14 made_dis lMade_for).gc.short fun args sub κ r h => ?_
  unfold gMade gMadeV at h
  split at h
  · rename_i n vl l
    split at h
    · rename_i hc
      simp only [Bool.and_eq_true, decide_eq_true_eq] at hc
      have hv := Nat.eq_of_beq_eq_true hc.1
      subst hv
      refine (t_made n l.length l κ).trans ?_
      have hN : IntKind.wrap IntKind.i64 (64 + IntKind.wrap IntKind.i64 (Int.tmod (IntKind.wrap IntKind.u64 n) 256)) = (mdN n : Int) := by
        rw [wrap_u64_emod, Int.tmod_eq_emod_of_nonneg (by omega), wrap_i64 (n := n % 18446744073709551616 % 256) (by omega) (by omega), wrap_i64 (by omega) (by omega)]
        unfold mdN; omega
      rw [hN]
      have hq := mdN_in n
      have f0 : newOk (mdN n : Int) = true := by
        have : (64 : Int) ≤ mdN n ∧ (mdN n : Int) ≤ 65536 := by omega
        simp [newOk, this]
      have g1 : decide (mdN n ≤ 65536) = true := decide_eq_true (by omega)
      have g2 : decide (l.length < 4611686018427387904) = true := decide_eq_true hc.2
      simp only [Int.toNat_natCast, List.length_replicate, f0, g1, g2, Nat.beq_refl, decide_true, Bool.and_self, cond_true]
      exact h
    · cases h
  · cases h
end Go.Proofs.Ytnloobnpgkpbhaa.Wlk
