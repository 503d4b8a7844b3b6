/- The plain law: over numbers and lists alone, what the functions of BitsCounts compute answers true at every input. -/
import Derived.Test.YtgbpomcfmcnklaaPBitsCountsx1
import Derived.Test.YtgbpomcfmcnklaaPlain
import Derived.Test.YtgbpomcfmcnklaaPlainB
namespace Go.Proofs.Ytgbpomcfmcnklaa.Pure
open Go Go.RowKit Go.Proofs.Ytgbpomcfmcnklaa.PBitsCounts Go.Proofs.YtgbpomcfmcnklaaW.PrintWords Go.Proofs.YtgbpomcfmcnklaaW.PrintLast Go.Proofs.YtgbpomcfmcnklaaW.PrintMore Go.Proofs.Ytgbpomcfmcnklaa.Plain
set_option linter.unusedVariables false
set_option linter.unusedSimpArgs false
theorem bit_at {w i : Nat} (hi : i ≤ 64) : donjonref01_Bit.f w i = some (w.testBit i) := by
  unfold donjonref01_Bit.f
  rw [if_pos (by omega), shr_n _ _ hi, Nat.testBit_eq_decide_div_mod_eq]
  congr 1
  rw [Bool.eq_iff_iff]
  simp only [beq_iff_eq, decide_eq_true_eq]
  generalize w / 2 ^ i = q
  rw [Int.tmod_eq_emod_of_nonneg (by omega)]
  omega
theorem and1 (a : Nat) : a &&& 1 = (a.testBit 0).toNat := by
  rw [← mod2_tb]; exact Nat.and_one_is_mod a
theorem ones_loop {D : Nat} (hD : D ≤ 64) (d : Nat) : ∀ (w n k : Nat), w < 2 ^ D → popL D w = d → d + n ≤ 64 → d < k → bits_Ones.l0 k w n = some ((n + d : Nat) : Int) := by
  have hD2 := pow_le64 hD
  induction d with
  | zero =>
    intro w n k hw hp hn hk
    obtain ⟨k, rfl⟩ : ∃ m, k = m + 1 := ⟨k - 1, by omega⟩
    simp only [bits_Ones.l0]
    have : w = 0 := by
      apply Decidable.byContradiction; intro c
      have := popL_pos c hw
      omega
    subst this
    simp
  | succ d ih =>
    intro w n k hw hp hn hk
    obtain ⟨k, rfl⟩ : ∃ m, k = m + 1 := ⟨k - 1, by omega⟩
    have h0 : w ≠ 0 := by intro c; rw [c, popL_zero] at hp; omega
    have hd := popL_drop D w h0 hw
    have hw64 : w < 18446744073709551616 := Nat.lt_of_lt_of_le hw hD2
    simp only [bits_Ones.l0]
    have e1 : IntKind.u64.wrap ((w : Int) - 1) = ((w - 1 : Nat) : Int) := by rw [u64w]; omega
    have hl : w &&& (w - 1) < 2 ^ D := Nat.lt_of_le_of_lt Nat.and_le_left hw
    rw [if_neg (by omega), e1, band _ _ hw64 (by omega), w64 (by omega) (by omega)]
    have := ih (w &&& (w - 1)) (n + 1) k hl (by omega) (by omega) (by omega)
    rw [show (n : Int) + 1 = ((n + 1 : Nat) : Int) from by omega, this]
    congr 2; omega
theorem ones_yes {w k : Nat} (hw : w < 18446744073709551616) (hk : 64 < k) : bits_Ones.f k w = some ((popL 64 w : Nat) : Int) := by
  unfold bits_Ones.f
  have hw2 : w < 2 ^ 64 := hw
  have key : ∀ D : Nat, D = 64 → w < 2 ^ D → bits_Ones.l0 k w 0 = some ((popL D w : Nat) : Int) := by
    intro D hD hw3
    have := popL_le D w
    have h := ones_loop (D := D) (by omega) (popL D w) w 0 k hw3 rfl (by omega) (by omega)
    rw [Nat.zero_add] at h; exact h
  exact key 64 rfl hw2
theorem rones_loop (w : Nat) (d : Nat) : ∀ (n i k : Nat), i + d = 64 → n ≤ i → d < k → donjonref01_Ones.l0 k w n i = some ((n + popL d (w / 2 ^ i) : Nat) : Int) := by
  induction d with
  | zero =>
    intro n i k hi hn hk
    obtain ⟨k, rfl⟩ : ∃ m, k = m + 1 := ⟨k - 1, by omega⟩
    simp only [donjonref01_Ones.l0]
    rw [if_neg (by omega)]; rfl
  | succ d ih =>
    intro n i k hi hn hk
    obtain ⟨k, rfl⟩ : ∃ m, k = m + 1 := ⟨k - 1, by omega⟩
    simp only [donjonref01_Ones.l0, popL]
    rw [if_pos (by omega), bit_at (by omega), w64 (n := (i : Int) + 1) (by omega) (by omega), w64 (n := (n : Int) + 1) (by omega) (by omega), show (i : Int) + 1 = ((i + 1 : Nat) : Int) from by omega, show (n : Int) + 1 = ((n + 1 : Nat) : Int) from by omega]
    simp only [Option.bind_some]
    have e : w / 2 ^ i / 2 = w / 2 ^ (i + 1) := by rw [Nat.div_div_eq_div_mul, ← Nat.pow_succ]
    have t : w.testBit i = decide (w / 2 ^ i % 2 = 1) := Nat.testBit_eq_decide_div_mod_eq
    rw [e]
    by_cases c : w / 2 ^ i % 2 = 1
    · rw [if_pos (by rw [t]; exact decide_eq_true c), ih (n + 1) (i + 1) k (by omega) (by omega) (by omega)]
      congr 2; omega
    · rw [if_neg (by rw [t]; simpa using c), ih n (i + 1) k (by omega) (by omega) (by omega)]
      congr 2; omega
theorem rones_yes {w k : Nat} (hk : 64 < k) : donjonref01_Ones.f k w = some ((popL 64 w : Nat) : Int) := by
  unfold donjonref01_Ones.f
  have h := rones_loop w 64 0 0 k (by omega) (by omega) hk
  rw [Nat.pow_zero, Nat.div_one, Nat.zero_add] at h; exact h
theorem high_loop (w : Nat) (d : Nat) : ∀ (i k : Nat), w < 2 ^ d → i + d = 64 → d < k → bits_High.l0 k w i = some (hi w) := by
  induction d with
  | zero =>
    intro i k hw hi hk
    obtain ⟨k, rfl⟩ : ∃ m, k = m + 1 := ⟨k - 1, by omega⟩
    simp only [bits_High.l0]
    obtain rfl : w = 0 := by simp at hw; omega
    rw [if_neg (by omega)]; rfl
  | succ d ih =>
    intro i k hw hi hk
    obtain ⟨k, rfl⟩ : ∃ m, k = m + 1 := ⟨k - 1, by omega⟩
    simp only [bits_High.l0]
    have hw64 : w < 18446744073709551616 := Nat.lt_of_lt_of_le hw (pow_le64 (by omega))
    have hq : w / 2 ^ d < 18446744073709551616 := Nat.lt_of_le_of_lt (Nat.div_le_self _ _) hw64
    have hq2 : w / 2 ^ d < 2 := by rw [Nat.div_lt_iff_lt_mul (Nat.two_pow_pos d)]; rw [Nat.pow_succ, Nat.mul_comm] at hw; exact hw
    have ei : wrap64 (63 - (i : Int)) = (d : Int) := by rw [w64 (by omega) (by omega)]; omega
    rw [if_pos (by omega), ei, if_pos (by omega), shr_n _ _ (by omega), show (1 : Int) = ((1 : Nat) : Int) from rfl, band _ _ hq (by omega), and1, ← mod2_tb]
    by_cases c : w / 2 ^ d = 1
    · rw [c, if_pos rfl, hi_top hw (by have := Nat.div_mul_le_self w (2 ^ d); rw [c] at this; omega)]
    · have c0 : w / 2 ^ d = 0 := by
        revert hq2 c; generalize w / 2 ^ d = q; omega
      rw [c0, if_neg (by simp), show wrap64 ((i : Int) + ((1 : Nat) : Int)) = ((i + 1 : Nat) : Int) from by rw [w64 (by omega) (by omega)]; omega]
      exact ih (i + 1) k (by have h1 := Nat.div_add_mod w (2 ^ d); have h2 := Nat.mod_lt w (Nat.two_pow_pos d); rw [c0, Nat.mul_zero, Nat.zero_add] at h1; rw [h1] at h2; exact h2) (by omega) (by omega)
theorem high_yes {w k : Nat} (hw : w < 18446744073709551616) (hk : 64 < k) : bits_High.f k w = some (hi w) := by
  unfold bits_High.f
  exact high_loop w 64 0 k hw (by omega) hk
theorem rhigh_loop (w : Nat) (d : Nat) : ∀ (i k : Nat), w < 2 ^ 64 → i + d = 64 → d < k → donjonref01_High.l0 k w (hi (w % 2 ^ i)) i = some (hi w) := by
  induction d with
  | zero =>
    intro i k hw hi hk
    obtain ⟨k, rfl⟩ : ∃ m, k = m + 1 := ⟨k - 1, by omega⟩
    simp only [donjonref01_High.l0]
    obtain rfl : i = 64 := by omega
    rw [if_neg (by omega), Nat.mod_eq_of_lt hw]
  | succ d ih =>
    intro i k hw hi' hk
    obtain ⟨k, rfl⟩ : ∃ m, k = m + 1 := ⟨k - 1, by omega⟩
    simp only [donjonref01_High.l0]
    have t : w.testBit i = decide (w / 2 ^ i % 2 = 1) := Nat.testBit_eq_decide_div_mod_eq
    have s : w % 2 ^ (i + 1) = w % 2 ^ i + 2 ^ i * (w / 2 ^ i % 2) := Nat.mod_pow_succ
    have l := Nat.mod_lt w (Nat.two_pow_pos i)
    have nxt := ih (i + 1) k hw (by omega) (by omega)
    rw [if_pos (by omega), bit_at (by omega), show wrap64 ((i : Int) + 1) = ((i + 1 : Nat) : Int) from by rw [w64 (by omega) (by omega)]; omega]
    simp only [Option.bind_some]
    by_cases c : w / 2 ^ i % 2 = 1
    · rw [if_pos (by rw [t]; exact decide_eq_true c)]
      rw [c] at s
      rw [Nat.mul_one] at s
      have : hi (w % 2 ^ (i + 1)) = i := by
        rw [s]; revert l; generalize w % 2 ^ i = q; intro l
        exact hi_top (by rw [Nat.pow_succ]; omega) (by omega)
      rw [this] at nxt; exact nxt
    · rw [if_neg (by rw [t]; simpa using c)]
      rw [show w / 2 ^ i % 2 = 0 from by omega, Nat.mul_zero, Nat.add_zero] at s
      rw [s] at nxt; exact nxt
theorem rhigh_yes {w k : Nat} (hw : w < 18446744073709551616) (hk : 64 < k) : donjonref01_High.f k w = some (hi w) := by
  unfold donjonref01_High.f
  have := rhigh_loop w 64 0 k hw (by omega) hk
  rw [Nat.pow_zero, Nat.mod_one] at this; exact this
theorem low_both (w : Nat) (hw : w < 18446744073709551616) (d : Nat) : ∀ (i k : Nat), i + d = 64 → d < k → ∃ r, bits_Low.l0 k w i = some r ∧ donjonref01_Low.l0 k w i = some r := by
  induction d with
  | zero =>
    intro i k hi hk
    obtain ⟨k, rfl⟩ : ∃ m, k = m + 1 := ⟨k - 1, by omega⟩
    refine ⟨-1, ?_, ?_⟩
    · simp only [bits_Low.l0]; rw [if_neg (by omega)]
    · simp only [donjonref01_Low.l0]; rw [if_neg (by omega)]
  | succ d ih =>
    intro i k hi hk
    obtain ⟨k, rfl⟩ : ∃ m, k = m + 1 := ⟨k - 1, by omega⟩
    simp only [bits_Low.l0, donjonref01_Low.l0]
    have hq : w / 2 ^ i < 18446744073709551616 := Nat.lt_of_le_of_lt (Nat.div_le_self _ _) hw
    have t : w.testBit i = decide (w / 2 ^ i % 2 = 1) := Nat.testBit_eq_decide_div_mod_eq
    rw [if_pos (show (i : Int) < 64 by omega), if_pos (show (0 : Int) ≤ i by omega), if_pos (show (i : Int) < 64 by omega), bit_at (by omega), shr_n _ _ (by omega), show wrap64 ((i : Int) + 1) = ((i + 1 : Nat) : Int) from by rw [w64 (by omega) (by omega)]; omega, show (1 : Int) = ((1 : Nat) : Int) from rfl, band _ _ hq (by omega), and1, ← mod2_tb]
    simp only [Option.bind_some]
    by_cases c : w / 2 ^ i % 2 = 1
    · rw [if_pos (by rw [c]), if_pos (by rw [t]; exact decide_eq_true c)]
      exact ⟨_, rfl, rfl⟩
    · rw [if_neg (by revert c; generalize w / 2 ^ i = q; omega), if_neg (by rw [t]; simpa using c)]
      exact ih (i + 1) k (by omega) (by omega)
theorem BitsCounts : donjonlaw01_BitsCounts.Pure := by
  intro w hw'
  obtain ⟨w, rfl, hw⟩ := wu hw'
  refine ⟨100, ?_⟩
  unfold donjonlaw01_BitsCounts.f
  obtain ⟨r, h1, h2⟩ := low_both w hw 64 0 100 (by omega) (by omega)
  have h1' : bits_Low.f 100 w = some r := h1
  have h2' : donjonref01_Low.f 100 w = some r := h2
  rw [ones_yes hw (by omega), rones_yes (by omega)]
  simp only [Option.bind_some, if_true]
  rw [high_yes hw (by omega), rhigh_yes hw (by omega)]
  simp only [Option.bind_some, if_true]
  rw [h1', h2']
  simp
end Go.Proofs.Ytgbpomcfmcnklaa.Pure
