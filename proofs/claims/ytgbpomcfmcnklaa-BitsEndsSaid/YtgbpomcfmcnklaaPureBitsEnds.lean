/- The plain law: over numbers and lists alone, what the functions of BitsEnds compute answers true at every input. -/
import Derived.Test.YtgbpomcfmcnklaaMBitsEndsx2
import Derived.Test.YtgbpomcfmcnklaaPlain
import Derived.Test.YtgbpomcfmcnklaaPlainB
namespace Go.Proofs.Ytgbpomcfmcnklaa.Pure
open Go Go.RowKit Go.Proofs.Ytgbpomcfmcnklaa.PBitsEnds Go.Proofs.YtgbpomcfmcnklaaW.PrintWords Go.Proofs.YtgbpomcfmcnklaaW.PrintLast Go.Proofs.YtgbpomcfmcnklaaW.PrintMore Go.Proofs.Ytgbpomcfmcnklaa.Plain
set_option linter.unusedVariables false
set_option linter.unusedSimpArgs false
theorem field_yes {p m : Nat} (h1 : 1 ≤ m) (h : p + m ≤ 64) : bits_field.f p m = some true := by
  unfold bits_field.f
  rw [if_pos (by omega), if_pos (by omega), if_pos (by omega), w64 (by omega) (by omega)]
  simp; omega
theorem field_no {p m : Int} (h : ¬ (1 ≤ m ∧ 0 ≤ p ∧ p + m ≤ 64)) : bits_field.f p m = some false := by
  unfold bits_field.f
  by_cases a : m ≥ 1
  · rw [if_pos a]
    by_cases b : m ≤ 64
    · rw [if_pos b, w64 (by omega) (by omega)]
      by_cases c : p ≥ 0
      · rw [if_pos c]; simp; omega
      · rw [if_neg c]
    · rw [if_neg b]
  · rw [if_neg a]
theorem mask_yes {m : Nat} (h1 : 1 ≤ m) (h : m ≤ 64) : bits_mask.f m = some ((2 ^ m - 1 : Nat) : Int) := by
  unfold bits_mask.f
  have e : wrap64 (64 - (m : Int)) = ((64 - m : Nat) : Int) := by rw [w64 (by omega) (by omega)]; omega
  rw [e, if_pos (by omega), show (18446744073709551615 : Int) = ((18446744073709551615 : Nat) : Int) from rfl, shr_n _ _ (by omega), ones_div m h]
theorem get_yes {w p m : Nat} (hw : w < 18446744073709551616) (h1 : 1 ≤ m) (h : p + m ≤ 64) : bits_Get.f w p m = some ((getN w p m : Int), 0) := by
  unfold bits_Get.f
  rw [field_yes h1 h]
  simp only [Option.bind_some, if_true]
  rw [if_pos (by omega), mask_yes h1 (by omega)]
  simp only [Option.bind_some]
  have h2 : w / 2 ^ p < 18446744073709551616 := Nat.lt_of_le_of_lt (Nat.div_le_self _ _) hw
  have h3 : 2 ^ m - 1 < 18446744073709551616 := by have := pow_le64 (show m ≤ 64 by omega); have := Nat.two_pow_pos m; omega
  rw [shr_n _ _ (by omega), band _ _ h2 h3, and_mask]
  rfl
theorem get_no {w p m : Int} (h : ¬ (1 ≤ m ∧ 0 ≤ p ∧ p + m ≤ 64)) : bits_Get.f w p m = some (0, 1) := by
  unfold bits_Get.f
  rw [field_no h]; rfl
theorem put_yes {w p m v : Nat} (hw : w < 18446744073709551616) (h1 : 1 ≤ m) (h : p + m ≤ 64) (hv : v < 2 ^ m) : bits_Put.f w p m v = some ((putN w p m v : Int), 0) := by
  unfold bits_Put.f
  have hm := pow_le64 (show m ≤ 64 by omega)
  have hp := Nat.two_pow_pos m
  rw [field_yes h1 h]
  simp only [Option.bind_some, if_true]
  rw [mask_yes h1 (by omega)]
  simp only [Option.bind_some]
  rw [bnot _ _ (by omega) (by omega), (noN_mask v m).2 hv, if_pos (by rfl), if_pos (by omega), shl_n _ _ (by omega), shl_n _ _ (by omega), bnot _ _ hw (Nat.mod_lt _ (by decide)), bor _ _ (noN_lt hw) (Nat.mod_lt _ (by decide)), or_put w p m v hw hv h]
theorem put_big {w p m v : Nat} (hv64 : v < 18446744073709551616) (h1 : 1 ≤ m) (h : p + m ≤ 64) (hv : ¬ v < 2 ^ m) : bits_Put.f w p m v = some (0, 10) := by
  unfold bits_Put.f
  have hm := pow_le64 (show m ≤ 64 by omega)
  have hp := Nat.two_pow_pos m
  rw [field_yes h1 h]
  simp only [Option.bind_some, if_true]
  rw [mask_yes h1 (by omega)]
  simp only [Option.bind_some]
  rw [bnot _ _ hv64 (by omega), if_neg (by have := mt (noN_mask v m).1 hv; omega)]
theorem put_no {w p m v : Int} (h : ¬ (1 ≤ m ∧ 0 ≤ p ∧ p + m ≤ 64)) : bits_Put.f w p m v = some (0, 1) := by
  unfold bits_Put.f
  rw [field_no h]; rfl
theorem and1 (a : Nat) : a &&& 1 = (a.testBit 0).toNat := by
  rw [← mod2_tb]; exact Nat.and_one_is_mod a
theorem high_loop (w : Nat) (d : Nat) : ∀ (i k : Nat), w < 2 ^ d → i + d = 64 → d < k → bits_High.l0 k w i = some (hi w) := by
  induction d with
  | zero =>
    intro i k hw hi hk
    obtain ⟨k, rfl⟩ : ∃ m, k = m + 1 := ⟨k - 1, by omega⟩
    simp only [bits_High.l0]
    obtain rfl : w = 0 := by simp at hw; omega
    rw [if_neg (by omega)]; rfl
  | succ d ih =>
    intro i k hw hi hk
    obtain ⟨k, rfl⟩ : ∃ m, k = m + 1 := ⟨k - 1, by omega⟩
    simp only [bits_High.l0]
    have hw64 : w < 18446744073709551616 := Nat.lt_of_lt_of_le hw (pow_le64 (by omega))
    have hq : w / 2 ^ d < 18446744073709551616 := Nat.lt_of_le_of_lt (Nat.div_le_self _ _) hw64
    have hq2 : w / 2 ^ d < 2 := by rw [Nat.div_lt_iff_lt_mul (Nat.two_pow_pos d)]; rw [Nat.pow_succ, Nat.mul_comm] at hw; exact hw
    have ei : wrap64 (63 - (i : Int)) = (d : Int) := by rw [w64 (by omega) (by omega)]; omega
    rw [if_pos (by omega), ei, if_pos (by omega), shr_n _ _ (by omega), show (1 : Int) = ((1 : Nat) : Int) from rfl, band _ _ hq (by omega), and1, ← mod2_tb]
    by_cases c : w / 2 ^ d = 1
    · rw [c, if_pos rfl, hi_top hw (by have := Nat.div_mul_le_self w (2 ^ d); rw [c] at this; omega)]
    · have c0 : w / 2 ^ d = 0 := by
        revert hq2 c; generalize w / 2 ^ d = q; omega
      rw [c0, if_neg (by simp), show wrap64 ((i : Int) + ((1 : Nat) : Int)) = ((i + 1 : Nat) : Int) from by rw [w64 (by omega) (by omega)]; omega]
      exact ih (i + 1) k (by have h1 := Nat.div_add_mod w (2 ^ d); have h2 := Nat.mod_lt w (Nat.two_pow_pos d); rw [c0, Nat.mul_zero, Nat.zero_add] at h1; rw [h1] at h2; exact h2) (by omega) (by omega)
theorem high_yes {w k : Nat} (hw : w < 18446744073709551616) (hk : 64 < k) : bits_High.f k w = some (hi w) := by
  unfold bits_High.f
  exact high_loop w 64 0 k hw (by omega) hk
theorem works_yes : donjonlaw01_works.f 100 = some true := by kernel_rfl
theorem low_loop (w : Nat) (hw : w < 18446744073709551616) (hw0 : w ≠ 0) (d : Nat) : ∀ (i k : Nat), i + d = 64 → d < k → w % 2 ^ i = 0 →
    ∃ l : Nat, bits_Low.l0 k w i = some (l : Int) ∧ l < 64 ∧ w % 2 ^ l = 0 ∧ w / 2 ^ l % 2 = 1 := by
  induction d with
  | zero =>
    intro i k hi hk h0
    obtain rfl : i = 64 := by omega
    exact absurd (Nat.mod_eq_of_lt (show w < 2 ^ 64 from hw)) (by omega)
  | succ d ih =>
    intro i k hi hk h0
    obtain ⟨k, rfl⟩ : ∃ m, k = m + 1 := ⟨k - 1, by omega⟩
    simp only [bits_Low.l0]
    have hq : w / 2 ^ i < 18446744073709551616 := Nat.lt_of_le_of_lt (Nat.div_le_self _ _) hw
    rw [if_pos (by omega), if_pos (by omega), shr_n _ _ (by omega), show wrap64 ((i : Int) + 1) = ((i + 1 : Nat) : Int) from by rw [w64 (by omega) (by omega)]; omega, show (1 : Int) = ((1 : Nat) : Int) from rfl, band _ _ hq (by omega), and1, ← mod2_tb]
    by_cases c : w / 2 ^ i % 2 = 1
    · rw [if_pos (by rw [c])]
      exact ⟨i, rfl, by omega, h0, c⟩
    · rw [if_neg (by revert c; generalize w / 2 ^ i = q; omega)]
      refine ih (i + 1) k (by omega) (by omega) ?_
      have s : w % 2 ^ (i + 1) = w % 2 ^ i + 2 ^ i * (w / 2 ^ i % 2) := Nat.mod_pow_succ
      rw [h0, show w / 2 ^ i % 2 = 0 from by revert c; generalize w / 2 ^ i = q; omega] at s
      exact s
theorem ends_shift {w l : Nat} (hl : l < 64) (h0 : w % 2 ^ l = 0) (h1 : w / 2 ^ l % 2 = 1) : w * 2 ^ (63 - l) % 18446744073709551616 = 9223372036854775808 := by
  have e := Nat.div_add_mod w (2 ^ l)
  rw [h0, Nat.add_zero] at e
  have e2 : w * 2 ^ (63 - l) = 9223372036854775808 * (w / 2 ^ l) := by
    have hp : 2 ^ l * 2 ^ (63 - l) = 9223372036854775808 := by rw [← Nat.pow_add, show l + (63 - l) = 63 from by omega]
    calc w * 2 ^ (63 - l) = 2 ^ l * (w / 2 ^ l) * 2 ^ (63 - l) := by rw [e]
      _ = (2 ^ l * 2 ^ (63 - l)) * (w / 2 ^ l) := by rw [Nat.mul_right_comm]
      _ = _ := by rw [hp]
  rw [e2]; omega
theorem BitsEnds : donjonlaw01_BitsEnds.Pure := by
  intro w hw'
  obtain ⟨w, rfl, hw⟩ := wu hw'
  refine ⟨100, ?_⟩
  unfold donjonlaw01_BitsEnds.f
  rw [works_yes]
  simp only [Option.bind_some, if_true]
  rw [high_yes hw (by omega)]
  simp only [Option.bind_some]
  by_cases h0 : w = 0
  · subst h0
    have : bits_Low.f 100 ((0 : Nat) : Int) = some (-1) := by kernel_rfl
    rw [this]; rfl
  · obtain ⟨l, e1, hl, hm, ho⟩ := low_loop w hw h0 64 0 100 (by omega) (by omega) (by simp [Nat.mod_one])
    have e1' : bits_Low.f 100 w = some (l : Int) := e1
    obtain ⟨h, e2, g1, g2⟩ := hi_div h0
    have hh : h < 64 := by
      apply Decidable.byContradiction; intro c
      have : 2 ^ 64 ≤ 2 ^ h := Nat.pow_le_pow_right (by decide) (by omega)
      omega
    have hlh : l ≤ h := by
      apply Decidable.byContradiction; intro c
      have : 2 ^ (h + 1) ≤ 2 ^ l := Nat.pow_le_pow_right (by decide) (by omega)
      rw [Nat.div_eq_of_lt (by omega)] at ho
      omega
    have hq : w / 2 ^ h = 1 := by
      have a := Nat.div_mul_le_self w (2 ^ h)
      have b : w / 2 ^ h < 2 := by rw [Nat.div_lt_iff_lt_mul (Nat.two_pow_pos h)]; rw [Nat.pow_succ, Nat.mul_comm] at g2; exact g2
      have c : 0 < w / 2 ^ h := Nat.div_pos g1 (Nat.two_pow_pos h)
      omega
    have p1 : bits_Get.f w h 1 = some ((getN w h 1 : Int), 0) := get_yes (m := 1) hw (by omega) (by omega)
    have p2 : bits_Get.f w l 1 = some ((getN w l 1 : Int), 0) := get_yes (m := 1) hw (by omega) (by omega)
    have q1 : getN w h 1 = 1 := by unfold getN; rw [hq]
    have q2 : getN w l 1 = 1 := by unfold getN; rw [Nat.pow_one]; exact ho
    have J : donjonlaw01_BitsEnds.j0 100 w h l false = some true := by
      show donjonlaw01_BitsEnds.j0 (99 + 1) w h l false = some true
      simp only [donjonlaw01_BitsEnds.j0]
      rw [p1, p2, q1, q2]
      simp only [Option.bind_some, if_false, Bool.false_eq_true]
      rw [if_pos trivial, if_pos trivial, if_pos (by rfl), if_pos (by rfl), if_pos (by omega), shr_n _ _ (by omega), hq, if_pos (by rfl), show wrap64 (63 - (l : Int)) = ((63 - l : Nat) : Int) from by rw [w64 (by omega) (by omega)]; omega, if_pos (by omega), shl_n _ _ (by omega), ends_shift hl hm ho]
      rfl
    rw [e1', e2]
    simp only [Option.bind_some]
    rw [if_neg (by omega), if_neg (by omega), if_neg (by omega), show decide ((l : Int) > h) = false from by simp; omega]
    exact J
end Go.Proofs.Ytgbpomcfmcnklaa.Pure
