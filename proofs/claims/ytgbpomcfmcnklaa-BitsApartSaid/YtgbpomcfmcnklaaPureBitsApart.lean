/- The plain law: over numbers and lists alone, what the functions of BitsApart compute answers true at every input. -/
import Derived.Test.YtgbpomcfmcnklaaMBitsApartx2
import Derived.Test.YtgbpomcfmcnklaaPlain
import Derived.Test.YtgbpomcfmcnklaaPlainB
namespace Go.Proofs.Ytgbpomcfmcnklaa.Pure
open Go Go.RowKit Go.Proofs.Ytgbpomcfmcnklaa.PBitsApart Go.Proofs.YtgbpomcfmcnklaaW.PrintWords Go.Proofs.YtgbpomcfmcnklaaW.PrintLast Go.Proofs.YtgbpomcfmcnklaaW.PrintMore Go.Proofs.Ytgbpomcfmcnklaa.Plain
set_option linter.unusedVariables false
set_option linter.unusedSimpArgs false
theorem field_yes {p m : Nat} (h1 : 1 ≤ m) (h : p + m ≤ 64) : bits_field.f p m = some true := by
  unfold bits_field.f
  rw [if_pos (by omega), if_pos (by omega), if_pos (by omega), w64 (by omega) (by omega)]
  simp; omega
theorem field_no {p m : Int} (h : ¬ (1 ≤ m ∧ 0 ≤ p ∧ p + m ≤ 64)) : bits_field.f p m = some false := by
  unfold bits_field.f
  by_cases a : m ≥ 1
  · rw [if_pos a]
    by_cases b : m ≤ 64
    · rw [if_pos b, w64 (by omega) (by omega)]
      by_cases c : p ≥ 0
      · rw [if_pos c]; simp; omega
      · rw [if_neg c]
    · rw [if_neg b]
  · rw [if_neg a]
theorem mask_yes {m : Nat} (h1 : 1 ≤ m) (h : m ≤ 64) : bits_mask.f m = some ((2 ^ m - 1 : Nat) : Int) := by
  unfold bits_mask.f
  have e : wrap64 (64 - (m : Int)) = ((64 - m : Nat) : Int) := by rw [w64 (by omega) (by omega)]; omega
  rw [e, if_pos (by omega), show (18446744073709551615 : Int) = ((18446744073709551615 : Nat) : Int) from rfl, shr_n _ _ (by omega), ones_div m h]
theorem get_yes {w p m : Nat} (hw : w < 18446744073709551616) (h1 : 1 ≤ m) (h : p + m ≤ 64) : bits_Get.f w p m = some ((getN w p m : Int), 0) := by
  unfold bits_Get.f
  rw [field_yes h1 h]
  simp only [Option.bind_some, if_true]
  rw [if_pos (by omega), mask_yes h1 (by omega)]
  simp only [Option.bind_some]
  have h2 : w / 2 ^ p < 18446744073709551616 := Nat.lt_of_le_of_lt (Nat.div_le_self _ _) hw
  have h3 : 2 ^ m - 1 < 18446744073709551616 := by have := pow_le64 (show m ≤ 64 by omega); have := Nat.two_pow_pos m; omega
  rw [shr_n _ _ (by omega), band _ _ h2 h3, and_mask]
  rfl
theorem get_no {w p m : Int} (h : ¬ (1 ≤ m ∧ 0 ≤ p ∧ p + m ≤ 64)) : bits_Get.f w p m = some (0, 1) := by
  unfold bits_Get.f
  rw [field_no h]; rfl
theorem put_yes {w p m v : Nat} (hw : w < 18446744073709551616) (h1 : 1 ≤ m) (h : p + m ≤ 64) (hv : v < 2 ^ m) : bits_Put.f w p m v = some ((putN w p m v : Int), 0) := by
  unfold bits_Put.f
  have hm := pow_le64 (show m ≤ 64 by omega)
  have hp := Nat.two_pow_pos m
  rw [field_yes h1 h]
  simp only [Option.bind_some, if_true]
  rw [mask_yes h1 (by omega)]
  simp only [Option.bind_some]
  rw [bnot _ _ (by omega) (by omega), (noN_mask v m).2 hv, if_pos (by rfl), if_pos (by omega), shl_n _ _ (by omega), shl_n _ _ (by omega), bnot _ _ hw (Nat.mod_lt _ (by decide)), bor _ _ (noN_lt hw) (Nat.mod_lt _ (by decide)), or_put w p m v hw hv h]
theorem put_big {w p m v : Nat} (hv64 : v < 18446744073709551616) (h1 : 1 ≤ m) (h : p + m ≤ 64) (hv : ¬ v < 2 ^ m) : bits_Put.f w p m v = some (0, 10) := by
  unfold bits_Put.f
  have hm := pow_le64 (show m ≤ 64 by omega)
  have hp := Nat.two_pow_pos m
  rw [field_yes h1 h]
  simp only [Option.bind_some, if_true]
  rw [mask_yes h1 (by omega)]
  simp only [Option.bind_some]
  rw [bnot _ _ hv64 (by omega), if_neg (by have := mt (noN_mask v m).1 hv; omega)]
theorem put_no {w p m v : Int} (h : ¬ (1 ≤ m ∧ 0 ≤ p ∧ p + m ≤ 64)) : bits_Put.f w p m v = some (0, 1) := by
  unfold bits_Put.f
  rw [field_no h]; rfl
theorem works_yes : donjonlaw01_works.f 100 = some true := by kernel_rfl
theorem apart_get {w n m u v : Nat} (hu : u < 2 ^ n) (hv : v < 2 ^ m) : getN (putN (putN w 0 n u) n m v) 0 (n + m) = v * 2 ^ n + u := by
  have e : v * 2 ^ n + u = 2 ^ n * v + u := by rw [Nat.mul_comm]
  rw [e]
  apply Nat.eq_of_testBit_eq
  intro i
  rw [getN_test, putN_test _ _ _ _ _ hv, putN_test _ _ _ _ _ hu, Nat.testBit_two_pow_mul_add _ hu]
  by_cases c : i < n
  · simp [c, show i < n + m from by omega]
  · by_cases c2 : i < n + m
    · simp [c, c2]
    · simp [c, c2, tb_lt hv (show m ≤ i - n from by omega)]
theorem apart_swap {w n m u v : Nat} (hu : u < 2 ^ n) (hv : v < 2 ^ m) : putN (putN w n m v) 0 n u = putN (putN w 0 n u) n m v := by
  apply Nat.eq_of_testBit_eq
  intro i
  rw [putN_test _ _ _ _ _ hv, putN_test _ _ _ _ _ hu, putN_test _ _ _ _ _ hu, putN_test _ _ _ _ _ hv]
  by_cases c : i < n
  · simp [c]
  · simp [c]
theorem BitsApart : donjonlaw01_BitsApart.Pure := by
  intro w a1 a2 u v hw' _ _ hu' hv'
  obtain ⟨w, rfl, hw⟩ := wu hw'
  obtain ⟨u, rfl, hu⟩ := wu hu'
  obtain ⟨v, rfl, hv⟩ := wu hv'
  refine ⟨100, ?_⟩
  unfold donjonlaw01_BitsApart.f
  rw [works_yes]
  simp only [Option.bind_some, if_true]
  obtain ⟨n, hn, en⟩ := tmw a1 32 (by omega) (by omega)
  obtain ⟨m, hm, em⟩ := tmw a2 32 (by omega) (by omega)
  rw [en, em, show wrap64 (1 + (n : Int)) = ((n + 1 : Nat) : Int) from by rw [w64 (by omega) (by omega)]; omega, show wrap64 (1 + (m : Int)) = ((m + 1 : Nat) : Int) from by rw [w64 (by omega) (by omega)]; omega]
  have hn' : n + 1 ≤ 32 := by omega
  have hm' : m + 1 ≤ 32 := by omega
  have hn1 : 1 ≤ n + 1 := by omega
  have hm1 : 1 ≤ m + 1 := by omega
  generalize n + 1 = n at *
  generalize m + 1 = m at *
  have pw : ∀ j : Nat, j ≤ 32 → 0 < 2 ^ j ∧ 2 ^ j ≤ 4294967296 ∧ shl .u64 1 (j : Int) = ((2 ^ j : Nat) : Int) := by
    intro j hj
    have h1 := Nat.two_pow_pos j
    have h2 : 2 ^ j ≤ 2 ^ 32 := Nat.pow_le_pow_right (by decide) hj
    have := shl_n 1 j (by omega)
    rw [Nat.one_mul, Nat.mod_eq_of_lt (by omega)] at this
    exact ⟨h1, h2, this⟩
  obtain ⟨hn2, hn3, esn⟩ := pw n (by omega)
  obtain ⟨hm2, hm3, esm⟩ := pw m (by omega)
  rw [if_pos (by omega), esn, if_neg (by omega), if_pos (by omega), esm, if_neg (by omega), tmod_n, tmod_n, w64 (n := (n : Int) + m) (by omega) (by omega)]
  have hu3 := Nat.mod_lt u hn2
  have hv3 := Nat.mod_lt v hm2
  generalize u % 2 ^ n = u at *
  generalize v % 2 ^ m = v at *
  have p1 : bits_Put.f w 0 n u = some ((putN w 0 n u : Int), 0) := put_yes (p := 0) hw (by omega) (by omega) hu3
  have k1 := putN_lt (p := 0) hw hu3 (show 0 + n ≤ 64 by omega)
  have p3 : bits_Put.f w n m v = some ((putN w n m v : Int), 0) := put_yes hw (by omega) (by omega) hv3
  have k3 := putN_lt (p := n) hw hv3 (show n + m ≤ 64 by omega)
  have p2 : bits_Put.f (putN w 0 n u : Nat) n m v = some ((putN (putN w 0 n u) n m v : Int), 0) := put_yes k1 (by omega) (by omega) hv3
  have k2 := putN_lt (p := n) k1 hv3 (show n + m ≤ 64 by omega)
  have p4 : bits_Put.f (putN w n m v : Nat) 0 n u = some ((putN (putN w n m v) 0 n u : Int), 0) := put_yes (p := 0) k3 (by omega) (by omega) hu3
  have p5 : bits_Get.f (putN (putN w 0 n u) n m v : Nat) 0 ((n + m : Nat) : Int) = some ((getN (putN (putN w 0 n u) n m v) 0 (n + m) : Int), 0) := get_yes (p := 0) k2 (by omega) (by omega)
  rw [p1]
  simp only [Option.bind_some]
  rw [p2]
  simp only [Option.bind_some]
  rw [p3]
  simp only [Option.bind_some]
  rw [p4, apart_swap hu3 hv3, show (n : Int) + (m : Int) = ((n + m : Nat) : Int) from by omega]
  simp only [Option.bind_some]
  rw [p5, apart_get hu3 hv3]
  simp only [Option.bind_some, if_true]
  have hb : v * 2 ^ n + u < 18446744073709551616 := by
    have h1 : v * 2 ^ n + u < (v + 1) * 2 ^ n := by rw [Nat.succ_mul]; omega
    have h2 : (v + 1) * 2 ^ n ≤ 2 ^ m * 2 ^ n := Nat.mul_le_mul_right _ (by omega)
    rw [← Nat.pow_add] at h2
    have h3 := pow_le64 (show m + n ≤ 64 by omega)
    omega
  rw [shl_n _ _ (by omega), Nat.mod_eq_of_lt (by omega), ← Int.natCast_add, u64n hb]
  simp
end Go.Proofs.Ytgbpomcfmcnklaa.Pure
