/- The plain law: over numbers and lists alone, what the functions of BitsBack compute answers true at every input. -/
import Derived.Test.YtgbpomcfmcnklaaMBitsBackx2
import Derived.Test.YtgbpomcfmcnklaaPlain
import Derived.Test.YtgbpomcfmcnklaaPlainB
namespace Go.Proofs.Ytgbpomcfmcnklaa.Pure
open Go Go.RowKit Go.Proofs.Ytgbpomcfmcnklaa.PBitsBack Go.Proofs.YtgbpomcfmcnklaaW.PrintWords Go.Proofs.YtgbpomcfmcnklaaW.PrintLast Go.Proofs.YtgbpomcfmcnklaaW.PrintMore Go.Proofs.Ytgbpomcfmcnklaa.Plain
set_option linter.unusedVariables false
set_option linter.unusedSimpArgs false
theorem field_yes {p m : Nat} (h1 : 1 ≤ m) (h : p + m ≤ 64) : bits_field.f p m = some true := by
  unfold bits_field.f
  rw [if_pos (by omega), if_pos (by omega), if_pos (by omega), w64 (by omega) (by omega)]
  simp; omega
theorem field_no {p m : Int} (h : ¬ (1 ≤ m ∧ 0 ≤ p ∧ p + m ≤ 64)) : bits_field.f p m = some false := by
  unfold bits_field.f
  by_cases a : m ≥ 1
  · rw [if_pos a]
    by_cases b : m ≤ 64
    · rw [if_pos b, w64 (by omega) (by omega)]
      by_cases c : p ≥ 0
      · rw [if_pos c]; simp; omega
      · rw [if_neg c]
    · rw [if_neg b]
  · rw [if_neg a]
theorem mask_yes {m : Nat} (h1 : 1 ≤ m) (h : m ≤ 64) : bits_mask.f m = some ((2 ^ m - 1 : Nat) : Int) := by
  unfold bits_mask.f
  have e : wrap64 (64 - (m : Int)) = ((64 - m : Nat) : Int) := by rw [w64 (by omega) (by omega)]; omega
  rw [e, if_pos (by omega), show (18446744073709551615 : Int) = ((18446744073709551615 : Nat) : Int) from rfl, shr_n _ _ (by omega), ones_div m h]
theorem get_yes {w p m : Nat} (hw : w < 18446744073709551616) (h1 : 1 ≤ m) (h : p + m ≤ 64) : bits_Get.f w p m = some ((getN w p m : Int), 0) := by
  unfold bits_Get.f
  rw [field_yes h1 h]
  simp only [Option.bind_some, if_true]
  rw [if_pos (by omega), mask_yes h1 (by omega)]
  simp only [Option.bind_some]
  have h2 : w / 2 ^ p < 18446744073709551616 := Nat.lt_of_le_of_lt (Nat.div_le_self _ _) hw
  have h3 : 2 ^ m - 1 < 18446744073709551616 := by have := pow_le64 (show m ≤ 64 by omega); have := Nat.two_pow_pos m; omega
  rw [shr_n _ _ (by omega), band _ _ h2 h3, and_mask]
  rfl
theorem get_no {w p m : Int} (h : ¬ (1 ≤ m ∧ 0 ≤ p ∧ p + m ≤ 64)) : bits_Get.f w p m = some (0, 1) := by
  unfold bits_Get.f
  rw [field_no h]; rfl
theorem put_yes {w p m v : Nat} (hw : w < 18446744073709551616) (h1 : 1 ≤ m) (h : p + m ≤ 64) (hv : v < 2 ^ m) : bits_Put.f w p m v = some ((putN w p m v : Int), 0) := by
  unfold bits_Put.f
  have hm := pow_le64 (show m ≤ 64 by omega)
  have hp := Nat.two_pow_pos m
  rw [field_yes h1 h]
  simp only [Option.bind_some, if_true]
  rw [mask_yes h1 (by omega)]
  simp only [Option.bind_some]
  rw [bnot _ _ (by omega) (by omega), (noN_mask v m).2 hv, if_pos (by rfl), if_pos (by omega), shl_n _ _ (by omega), shl_n _ _ (by omega), bnot _ _ hw (Nat.mod_lt _ (by decide)), bor _ _ (noN_lt hw) (Nat.mod_lt _ (by decide)), or_put w p m v hw hv h]
theorem put_big {w p m v : Nat} (hv64 : v < 18446744073709551616) (h1 : 1 ≤ m) (h : p + m ≤ 64) (hv : ¬ v < 2 ^ m) : bits_Put.f w p m v = some (0, 10) := by
  unfold bits_Put.f
  have hm := pow_le64 (show m ≤ 64 by omega)
  have hp := Nat.two_pow_pos m
  rw [field_yes h1 h]
  simp only [Option.bind_some, if_true]
  rw [mask_yes h1 (by omega)]
  simp only [Option.bind_some]
  rw [bnot _ _ hv64 (by omega), if_neg (by have := mt (noN_mask v m).1 hv; omega)]
theorem put_no {w p m v : Int} (h : ¬ (1 ≤ m ∧ 0 ≤ p ∧ p + m ≤ 64)) : bits_Put.f w p m v = some (0, 1) := by
  unfold bits_Put.f
  rw [field_no h]; rfl
theorem works_yes : donjonlaw01_works.f 100 = some true := by kernel_rfl
theorem back_loop {w p m v : Nat} (hw : w < 18446744073709551616) (h1 : 1 ≤ m) (h : p + m ≤ 64) (hv : v < 2 ^ m) (d : Nat) : ∀ k i : Nat, i + d = 64 → d < k →
    donjonlaw01_BitsBack.l0 k w p m (putN w p m v : Nat) i = some true := by
  have hX := putN_lt (w := w) (p := p) (m := m) (v := v) hw hv h
  induction d with
  | zero =>
    intro k i hi hk
    obtain ⟨k, rfl⟩ : ∃ m, k = m + 1 := ⟨k - 1, by omega⟩
    simp only [donjonlaw01_BitsBack.l0]
    rw [if_neg (by omega), get_yes hw h1 h]
    simp only [Option.bind_some]
    rw [put_yes hX h1 h (getN_lt _ _ _), putN_getN _ _ _ _ hv]; simp
  | succ d ih =>
    intro k i hi hk
    obtain ⟨k, rfl⟩ : ∃ m, k = m + 1 := ⟨k - 1, by omega⟩
    simp only [donjonlaw01_BitsBack.l0]
    have nxt := ih k (i + 1) (by omega) (by omega)
    have e1 : bits_Get.f w i 1 = some ((getN w i 1 : Int), 0) := get_yes (m := 1) hw (by omega) (by omega)
    have e2 : bits_Get.f (putN w p m v : Nat) i 1 = some ((getN (putN w p m v) i 1 : Int), 0) := get_yes (m := 1) hX (by omega) (by omega)
    rw [if_pos (by omega), e1, e2]
    simp only [Option.bind_some]
    rw [if_pos trivial, if_pos trivial, w64 (n := (i : Int) + 1) (by omega) (by omega), w64 (n := (p : Int) + m) (by omega) (by omega)]
    have ei : (i : Int) + 1 = ((i + 1 : Nat) : Int) := by omega
    by_cases c : i < p
    · rw [if_pos (by omega), getN_putN_else _ _ _ _ _ hv (Or.inl c), if_pos rfl, ei]; exact nxt
    · rw [if_neg (by omega)]
      by_cases c2 : p + m ≤ i
      · rw [if_pos (by omega), getN_putN_else _ _ _ _ _ hv (Or.inr c2), if_pos rfl, ei]; exact nxt
      · rw [if_neg (by omega), ei]; exact nxt
theorem back_j0 {w p m v : Nat} (hw : w < 18446744073709551616) (h1 : 1 ≤ m) (h : p + m ≤ 64) (hv : v < 2 ^ m) :
    donjonlaw01_BitsBack.j0 100 w p m v = some true := by
  have hX := putN_lt (w := w) (p := p) (m := m) (v := v) hw hv h
  have L := back_loop hw h1 h hv 64 98 0 (by omega) (by omega)
  have J : donjonlaw01_BitsBack.j1 99 w p m (putN w p m v : Nat) false = some true := by
    show donjonlaw01_BitsBack.j1 (98 + 1) w p m (putN w p m v : Nat) false = some true
    simp only [donjonlaw01_BitsBack.j1]
    exact L
  show donjonlaw01_BitsBack.j0 (99 + 1) w p m v = some true
  simp only [donjonlaw01_BitsBack.j0]
  rw [put_yes hw h1 h hv]
  simp only [Option.bind_some]
  rw [get_yes hX h1 h, getN_putN _ _ _ _ hv]
  simp only [Option.bind_some, if_true]
  rw [show (((v : Nat) : Int) != (v : Int)) = false from by simp]
  exact J
theorem BitsBack : donjonlaw01_BitsBack.Pure := by
  intro w a1 a2 v hw' _ _ hv'
  obtain ⟨w, rfl, hw⟩ := wu hw'
  obtain ⟨v, rfl, hv⟩ := wu hv'
  refine ⟨100, ?_⟩
  unfold donjonlaw01_BitsBack.f
  rw [works_yes]
  simp only [Option.bind_some, if_true]
  obtain ⟨m, hm, em⟩ := tmw a2 64 (by omega) (by omega)
  rw [em, w64 (n := 1 + (m : Int)) (by omega) (by omega), w64 (n := 65 - (1 + (m : Int))) (by omega) (by omega)]
  have e65 : IntKind.u64.wrap (65 - (1 + (m : Int))) = ((64 - m : Nat) : Int) := by rw [u64w]; omega
  rw [e65]
  obtain ⟨p, hp, ep⟩ := tmw a1 ((64 - m : Nat) : Int) (by omega) (by omega)
  rw [ep, if_neg (by omega)]
  have e1 : 1 + (m : Int) = ((m + 1 : Nat) : Int) := by omega
  rw [e1]
  by_cases c : ((m + 1 : Nat) : Int) < 64
  · rw [if_pos c, if_pos (by omega)]
    have hq := Nat.two_pow_pos (m + 1)
    have hle : 2 ^ (m + 1) ≤ 2 ^ 63 := Nat.pow_le_pow_right (by decide) (by omega)
    have es : shl .u64 1 ((m + 1 : Nat) : Int) = ((2 ^ (m + 1) : Nat) : Int) := by
      have := shl_n 1 (m + 1) (by omega)
      rw [Nat.one_mul, Nat.mod_eq_of_lt (by omega)] at this; exact this
    rw [es, if_neg (by omega), tmod_n]
    exact back_j0 hw (by omega) (by omega) (Nat.mod_lt _ hq)
  · rw [if_neg c]
    obtain rfl : m = 63 := by omega
    exact back_j0 hw (by omega) (by omega) hv
end Go.Proofs.Ytgbpomcfmcnklaa.Pure
