/- The plain law: over numbers and lists alone, what the functions of BitsMultiples compute answers true at every input. -/
import Derived.Test.YtgbpomcfmcnklaaMBitsMultiplesx2
import Derived.Test.YtgbpomcfmcnklaaPlain
import Derived.Test.YtgbpomcfmcnklaaPlainB
namespace Go.Proofs.Ytgbpomcfmcnklaa.Pure
open Go Go.RowKit Go.Proofs.Ytgbpomcfmcnklaa.PBitsMultiples Go.Proofs.YtgbpomcfmcnklaaW.PrintWords Go.Proofs.YtgbpomcfmcnklaaW.PrintLast Go.Proofs.YtgbpomcfmcnklaaW.PrintMore Go.Proofs.Ytgbpomcfmcnklaa.Plain
set_option linter.unusedVariables false
set_option linter.unusedSimpArgs false
theorem field_yes {p m : Nat} (h1 : 1 ≤ m) (h : p + m ≤ 64) : bits_field.f p m = some true := by
  unfold bits_field.f
  rw [if_pos (by omega), if_pos (by omega), if_pos (by omega), w64 (by omega) (by omega)]
  simp; omega
theorem field_no {p m : Int} (h : ¬ (1 ≤ m ∧ 0 ≤ p ∧ p + m ≤ 64)) : bits_field.f p m = some false := by
  unfold bits_field.f
  by_cases a : m ≥ 1
  · rw [if_pos a]
    by_cases b : m ≤ 64
    · rw [if_pos b, w64 (by omega) (by omega)]
      by_cases c : p ≥ 0
      · rw [if_pos c]; simp; omega
      · rw [if_neg c]
    · rw [if_neg b]
  · rw [if_neg a]
theorem mask_yes {m : Nat} (h1 : 1 ≤ m) (h : m ≤ 64) : bits_mask.f m = some ((2 ^ m - 1 : Nat) : Int) := by
  unfold bits_mask.f
  have e : wrap64 (64 - (m : Int)) = ((64 - m : Nat) : Int) := by rw [w64 (by omega) (by omega)]; omega
  rw [e, if_pos (by omega), show (18446744073709551615 : Int) = ((18446744073709551615 : Nat) : Int) from rfl, shr_n _ _ (by omega), ones_div m h]
theorem get_yes {w p m : Nat} (hw : w < 18446744073709551616) (h1 : 1 ≤ m) (h : p + m ≤ 64) : bits_Get.f w p m = some ((getN w p m : Int), 0) := by
  unfold bits_Get.f
  rw [field_yes h1 h]
  simp only [Option.bind_some, if_true]
  rw [if_pos (by omega), mask_yes h1 (by omega)]
  simp only [Option.bind_some]
  have h2 : w / 2 ^ p < 18446744073709551616 := Nat.lt_of_le_of_lt (Nat.div_le_self _ _) hw
  have h3 : 2 ^ m - 1 < 18446744073709551616 := by have := pow_le64 (show m ≤ 64 by omega); have := Nat.two_pow_pos m; omega
  rw [shr_n _ _ (by omega), band _ _ h2 h3, and_mask]
  rfl
theorem get_no {w p m : Int} (h : ¬ (1 ≤ m ∧ 0 ≤ p ∧ p + m ≤ 64)) : bits_Get.f w p m = some (0, 1) := by
  unfold bits_Get.f
  rw [field_no h]; rfl
theorem put_yes {w p m v : Nat} (hw : w < 18446744073709551616) (h1 : 1 ≤ m) (h : p + m ≤ 64) (hv : v < 2 ^ m) : bits_Put.f w p m v = some ((putN w p m v : Int), 0) := by
  unfold bits_Put.f
  have hm := pow_le64 (show m ≤ 64 by omega)
  have hp := Nat.two_pow_pos m
  rw [field_yes h1 h]
  simp only [Option.bind_some, if_true]
  rw [mask_yes h1 (by omega)]
  simp only [Option.bind_some]
  rw [bnot _ _ (by omega) (by omega), (noN_mask v m).2 hv, if_pos (by rfl), if_pos (by omega), shl_n _ _ (by omega), shl_n _ _ (by omega), bnot _ _ hw (Nat.mod_lt _ (by decide)), bor _ _ (noN_lt hw) (Nat.mod_lt _ (by decide)), or_put w p m v hw hv h]
theorem put_big {w p m v : Nat} (hv64 : v < 18446744073709551616) (h1 : 1 ≤ m) (h : p + m ≤ 64) (hv : ¬ v < 2 ^ m) : bits_Put.f w p m v = some (0, 10) := by
  unfold bits_Put.f
  have hm := pow_le64 (show m ≤ 64 by omega)
  have hp := Nat.two_pow_pos m
  rw [field_yes h1 h]
  simp only [Option.bind_some, if_true]
  rw [mask_yes h1 (by omega)]
  simp only [Option.bind_some]
  rw [bnot _ _ hv64 (by omega), if_neg (by have := mt (noN_mask v m).1 hv; omega)]
theorem put_no {w p m v : Int} (h : ¬ (1 ≤ m ∧ 0 ≤ p ∧ p + m ≤ 64)) : bits_Put.f w p m v = some (0, 1) := by
  unfold bits_Put.f
  rw [field_no h]; rfl
theorem up_rest {n k : Nat} (hn : n ≤ 1099511627776) (hk : k ≤ 40) : 2 ^ k ≤ 1099511627776 ∧ 0 < 2 ^ k :=
  ⟨show 2 ^ k ≤ 2 ^ 40 from Nat.pow_le_pow_right (by decide) hk, Nat.two_pow_pos k⟩
def upN (n k : Nat) : Nat := (n + (2 ^ k - 1)) / 2 ^ k * 2 ^ k
theorem up_yes {n k : Nat} (hn : n ≤ 1099511627776) (hk : k ≤ 40) : bits_Up.f n k = some ((upN n k : Int), 0) := by
  obtain ⟨h1, h2⟩ := up_rest hn hk
  unfold bits_Up.f upN
  have e : shl .i64 1 (k : Int) = ((2 ^ k : Nat) : Int) := by
    have := shl_i 1 k (by omega) (by rw [Nat.one_mul]; omega)
    rw [Nat.one_mul] at this; exact this
  rw [if_neg (by omega), if_neg (by omega), if_neg (by omega), if_neg (by omega), if_pos (by omega), e]
  rw [show wrap64 (((2 ^ k : Nat) : Int) - 1) = ((2 ^ k - 1 : Nat) : Int) from by rw [w64 (by omega) (by omega)]; omega]
  rw [show wrap64 ((n : Int) + ((2 ^ k - 1 : Nat) : Int)) = ((n + (2 ^ k - 1) : Nat) : Int) from by rw [w64 (by omega) (by omega)]; omega]
  rw [bnot_i _ _ (by omega) (by omega), noN_low]
theorem up_no {n k : Int} (h : n < 0 ∨ n > 1099511627776 ∨ k < 0 ∨ k > 40) : bits_Up.f n k = some (0, 1) := by
  unfold bits_Up.f
  by_cases a : n < 0
  · rw [if_pos a]
  · rw [if_neg a]
    by_cases b : n > 1099511627776
    · rw [if_pos b]
    · rw [if_neg b]
      by_cases c : k < 0
      · rw [if_pos c]
      · rw [if_neg c, if_pos (by omega)]
theorem works_yes : donjonlaw01_works.f 100 = some true := by kernel_rfl
theorem upN_facts (n k : Nat) : upN n k % 2 ^ k = 0 ∧ n ≤ upN n k ∧ upN n k < n + 2 ^ k ∧ upN (upN n k) k = upN n k := by
  have h2 := Nat.two_pow_pos k
  have h1 := Nat.div_add_mod (n + (2 ^ k - 1)) (2 ^ k)
  have h3 := Nat.mod_lt (n + (2 ^ k - 1)) h2
  have e : upN n k = 2 ^ k * ((n + (2 ^ k - 1)) / 2 ^ k) := Nat.mul_comm _ _
  refine ⟨by rw [e]; exact Nat.mul_mod_right _ _, by rw [e]; omega, by rw [e]; omega, ?_⟩
  have : ∀ q : Nat, upN (2 ^ k * q) k = 2 ^ k * q := by
    intro q
    unfold upN
    rw [Nat.mul_add_div h2, Nat.div_eq_of_lt (show 2 ^ k - 1 < 2 ^ k by omega), Nat.add_zero, Nat.mul_comm]
  rw [e]; exact this _
theorem BitsMultiples : donjonlaw01_BitsMultiples.Pure := by
  intro a0 a1 _ _
  refine ⟨100, ?_⟩
  unfold donjonlaw01_BitsMultiples.f
  rw [works_yes]
  simp only [Option.bind_some, if_true]
  obtain ⟨n, hn, en⟩ := tmw a0 1099511627776 (by omega) (by omega)
  obtain ⟨k, hk, ek⟩ := tmw a1 41 (by omega) (by omega)
  rw [en, ek, up_yes (by omega) (by omega)]
  simp only [Option.bind_some]
  obtain ⟨f1, f2, f3, f4⟩ := upN_facts n k
  obtain ⟨h1, h2⟩ := up_rest (show n ≤ 1099511627776 by omega) (show k ≤ 40 by omega)
  have e : shl .i64 1 (k : Int) = ((2 ^ k : Nat) : Int) := by
    have := shl_i 1 k (by omega) (by rw [Nat.one_mul]; omega)
    rw [Nat.one_mul] at this; exact this
  have g : ∃ r s, bits_Up.f (upN n k : Nat) (k : Nat) = some (r, s) ∧ (upN n k ≤ 1099511627776 → r = upN n k ∧ s = 0) := by
    by_cases c : upN n k ≤ 1099511627776
    · exact ⟨_, _, up_yes c (by omega), fun _ => ⟨by rw [f4], rfl⟩⟩
    · exact ⟨_, _, up_no (by omega), fun h => absurd h c⟩
  obtain ⟨r, s, g1, g2⟩ := g
  rw [g1]
  simp only [Option.bind_some]
  rw [if_pos trivial, if_pos (by omega), e, if_neg (by omega), tmod_n, f1, if_pos (by rfl), if_pos (by omega), w64 (by omega) (by omega), if_pos (by omega)]
  by_cases c : upN n k ≤ 1099511627776
  · obtain ⟨rfl, rfl⟩ := g2 c
    rw [if_neg (by omega)]; simp
  · rw [if_pos (by omega)]
end Go.Proofs.Ytgbpomcfmcnklaa.Pure
