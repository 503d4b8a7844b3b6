/- A word as an entry, told in short. -/
import Derived.Test.YtnloobnpgkpbhaaPte
set_option linter.unusedVariables false
set_option linter.unusedSimpArgs false
set_option maxRecDepth 100000
namespace Go.Proofs.Ytnloobnpgkpbhaa.Wlk
open Go Go.Eng Go.Proofs Go.RowKit
theorem gEUn_sound : FunSound Try.prog 53 gEUn := by
  refine (runG_sound sPu_ok mix 100 53).short fun args sub κ r h => ?_
  unfold gEUn gEUnV at h
  split at h
  · rename_i w
    split at h
    · rename_i hc
      have h1 := u64wf hc
      obtain ⟨x, rfl⟩ : ∃ x : Nat, w = x := ⟨w.toNat, by omega⟩
      refine (t_eunpack getI epW epE x κ).trans ?_
      have hx : x < 18446744073709551616 := by omega
      by_cases h0 : (x : Int) = 0
      · rw [show ((x : Int) == 0) = true from by simpa using h0]
        obtain ⟨z1, z2, z3, z4⟩ := e_zero h0
        rw [z1, z2, z3, z4] at h
        exact h
      rw [show ((x : Int) == 0) = false from by simpa using h0]
      rw [cond_false]
      have g4 : getI x 4 12 = x / 16 % 4096 := by have := getI_div (w := (x : Int)) (by omega) 4 12; simpa using this
      rw [g4, bit0 x hx, bit1 x hx, hc, show fld 4 12 = true from rfl, wrap_i64 (n := (x : Int) / 16 % 4096) (by omega) (by omega), wrap_i64 (n := (x : Int) / 16 % 4096 * 16) (by omega) (by omega)]
      have hi : inI ((x : Int) / 16 % 4096 * 16) = true := by
        have : -9223372036854775808 ≤ (x : Int) / 16 % 4096 * 16 ∧ (x : Int) / 16 % 4096 * 16 ≤ 9223372036854775807 := by omega
        simp [inI, this]
      rw [hi]
      rw [Bool.and_self, cond_true, cond_true]
      cases ho : eOk x with
      | true =>
        obtain ⟨k1, k2, k3⟩ := e_back (by omega) h0 ho
        obtain ⟨q1, _, _⟩ := e_yes (by omega) h0 ho
        rw [k1, k2, k3, show ((0 : Int) != 0) = false from rfl, cond_false, show ((x : Int) != x) = false from by simp, cond_false]
        simp only [eV, eWr, eA, eE, ho, if_true, Bool.true_and] at h
        exact h
      | false =>
        simp only [eV, eWr, eA, eE, ho, Bool.false_and] at h
        rcases e_no (by omega) h0 ho with k | k
        · rw [show (epE (decide ((x : Int) % 2 = 1)) (decide ((x : Int) / 2 % 2 = 1)) ((x : Int) / 16 % 4096 * 16) != 0) = true from by simpa using k]
          exact h
        · rw [show (epW (decide ((x : Int) % 2 = 1)) (decide ((x : Int) / 2 % 2 = 1)) ((x : Int) / 16 % 4096 * 16) != (x : Int)) = true from by simpa using k]
          cases (epE (decide ((x : Int) % 2 = 1)) (decide ((x : Int) / 2 % 2 = 1)) ((x : Int) / 16 % 4096 * 16) != 0)
          · exact h
          · exact h
    · cases h
  · cases h
end Go.Proofs.Ytnloobnpgkpbhaa.Wlk
