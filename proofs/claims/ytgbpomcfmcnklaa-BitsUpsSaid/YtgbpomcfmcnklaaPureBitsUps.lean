/- The plain law: over numbers and lists alone, what the functions of BitsUps compute answers true at every input. -/
import Derived.Test.YtgbpomcfmcnklaaPBitsUpsx1
import Derived.Test.YtgbpomcfmcnklaaPlain
import Derived.Test.YtgbpomcfmcnklaaPlainB
namespace Go.Proofs.Ytgbpomcfmcnklaa.Pure
open Go Go.RowKit Go.Proofs.Ytgbpomcfmcnklaa.PBitsUps Go.Proofs.YtgbpomcfmcnklaaW.PrintWords Go.Proofs.YtgbpomcfmcnklaaW.PrintLast Go.Proofs.YtgbpomcfmcnklaaW.PrintMore Go.Proofs.Ytgbpomcfmcnklaa.Plain
set_option linter.unusedVariables false
set_option linter.unusedSimpArgs false
theorem up_rest {n k : Nat} (hn : n ≤ 1099511627776) (hk : k ≤ 40) : 2 ^ k ≤ 1099511627776 ∧ 0 < 2 ^ k :=
  ⟨show 2 ^ k ≤ 2 ^ 40 from Nat.pow_le_pow_right (by decide) hk, Nat.two_pow_pos k⟩
def upN (n k : Nat) : Nat := (n + (2 ^ k - 1)) / 2 ^ k * 2 ^ k
theorem up_yes {n k : Nat} (hn : n ≤ 1099511627776) (hk : k ≤ 40) : bits_Up.f n k = some ((upN n k : Int), 0) := by
  obtain ⟨h1, h2⟩ := up_rest hn hk
  unfold bits_Up.f upN
  have e : shl .i64 1 (k : Int) = ((2 ^ k : Nat) : Int) := by
    have := shl_i 1 k (by omega) (by rw [Nat.one_mul]; omega)
    rw [Nat.one_mul] at this; exact this
  rw [if_neg (by omega), if_neg (by omega), if_neg (by omega), if_neg (by omega), if_pos (by omega), e]
  rw [show wrap64 (((2 ^ k : Nat) : Int) - 1) = ((2 ^ k - 1 : Nat) : Int) from by rw [w64 (by omega) (by omega)]; omega]
  rw [show wrap64 ((n : Int) + ((2 ^ k - 1 : Nat) : Int)) = ((n + (2 ^ k - 1) : Nat) : Int) from by rw [w64 (by omega) (by omega)]; omega]
  rw [bnot_i _ _ (by omega) (by omega), noN_low]
theorem up_no {n k : Int} (h : n < 0 ∨ n > 1099511627776 ∨ k < 0 ∨ k > 40) : bits_Up.f n k = some (0, 1) := by
  unfold bits_Up.f
  by_cases a : n < 0
  · rw [if_pos a]
  · rw [if_neg a]
    by_cases b : n > 1099511627776
    · rw [if_pos b]
    · rw [if_neg b]
      by_cases c : k < 0
      · rw [if_pos c]
      · rw [if_neg c, if_pos (by omega)]
theorem rup_yes {n k : Nat} (hn : n ≤ 1099511627776) (hk : k ≤ 40) : donjonref01_Up.f n k = some ((upN n k : Int), 0) := by
  obtain ⟨h1, h2⟩ := up_rest hn hk
  unfold donjonref01_Up.f upN
  have e : shl .i64 1 (k : Int) = ((2 ^ k : Nat) : Int) := by
    have := shl_i 1 k (by omega) (by rw [Nat.one_mul]; omega)
    rw [Nat.one_mul] at this; exact this
  rw [if_neg (by omega), if_neg (by omega), if_neg (by omega), if_neg (by omega), if_pos (by omega), e, if_neg (by omega)]
  rw [w64 (n := (n : Int) + ((2 ^ k : Nat) : Int)) (by omega) (by omega)]
  rw [show wrap64 ((n : Int) + ((2 ^ k : Nat) : Int) - 1) = ((n + (2 ^ k - 1) : Nat) : Int) from by rw [w64 (by omega) (by omega)]; omega]
  rw [tdiv_n]
  have h3 : (n + (2 ^ k - 1)) / 2 ^ k * 2 ^ k ≤ n + (2 ^ k - 1) := Nat.div_mul_le_self _ _
  have h4 : (n + (2 ^ k - 1)) / 2 ^ k ≤ n + (2 ^ k - 1) := Nat.div_le_self _ _
  revert h3 h4
  generalize (n + (2 ^ k - 1)) / 2 ^ k = q
  intro h3 h4
  rw [w64 (n := (q : Int)) (by omega) (by omega)]
  rw [← Int.natCast_mul, w64 (by omega) (by omega)]
theorem rup_no {n k : Int} (h : n < 0 ∨ n > 1099511627776 ∨ k < 0 ∨ k > 40) : donjonref01_Up.f n k = some (0, 1) := by
  unfold donjonref01_Up.f
  by_cases a : n < 0
  · rw [if_pos a]
  · rw [if_neg a]
    by_cases b : n > 1099511627776
    · rw [if_pos b]
    · rw [if_neg b]
      by_cases c : k < 0
      · rw [if_pos c]
      · rw [if_neg c, if_pos (by omega)]
theorem BitsUps : donjonlaw01_BitsUps.Pure := by
  intro n k hn hk
  unfold donjonlaw01_BitsUps.f
  by_cases h : n < 0 ∨ n > 1099511627776 ∨ k < 0 ∨ k > 40
  · rw [up_no h, rup_no h]; simp
  · obtain ⟨n, rfl⟩ : ∃ m : Nat, n = m := ⟨n.toNat, by omega⟩
    obtain ⟨k, rfl⟩ : ∃ m : Nat, k = m := ⟨k.toNat, by omega⟩
    rw [up_yes (by omega) (by omega), rup_yes (by omega) (by omega)]; simp
end Go.Proofs.Ytgbpomcfmcnklaa.Pure
