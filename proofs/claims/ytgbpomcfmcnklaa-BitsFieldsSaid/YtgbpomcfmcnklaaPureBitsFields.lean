/- The plain law: over numbers and lists alone, what the functions of BitsFields compute answers true at every input. -/
import Derived.Test.YtgbpomcfmcnklaaMBitsFieldsx2
import Derived.Test.YtgbpomcfmcnklaaPlain
namespace Go.Proofs.Ytgbpomcfmcnklaa.Pure
open Go Go.RowKit Go.Proofs.Ytgbpomcfmcnklaa.PBitsFields Go.Proofs.YtgbpomcfmcnklaaW.PrintWords Go.Proofs.YtgbpomcfmcnklaaW.PrintLast Go.Proofs.YtgbpomcfmcnklaaW.PrintMore Go.Proofs.Ytgbpomcfmcnklaa.Plain
set_option linter.unusedVariables false
set_option linter.unusedSimpArgs false
theorem field_yes {p m : Nat} (h1 : 1 ≤ m) (h : p + m ≤ 64) : bits_field.f p m = some true := by
  unfold bits_field.f
  rw [if_pos (by omega), if_pos (by omega), if_pos (by omega), w64 (by omega) (by omega)]
  simp; omega
theorem field_no {p m : Int} (h : ¬ (1 ≤ m ∧ 0 ≤ p ∧ p + m ≤ 64)) : bits_field.f p m = some false := by
  unfold bits_field.f
  by_cases a : m ≥ 1
  · rw [if_pos a]
    by_cases b : m ≤ 64
    · rw [if_pos b, w64 (by omega) (by omega)]
      by_cases c : p ≥ 0
      · rw [if_pos c]; simp; omega
      · rw [if_neg c]
    · rw [if_neg b]
  · rw [if_neg a]
theorem mask_yes {m : Nat} (h1 : 1 ≤ m) (h : m ≤ 64) : bits_mask.f m = some ((2 ^ m - 1 : Nat) : Int) := by
  unfold bits_mask.f
  have e : wrap64 (64 - (m : Int)) = ((64 - m : Nat) : Int) := by rw [w64 (by omega) (by omega)]; omega
  rw [e, if_pos (by omega), show (18446744073709551615 : Int) = ((18446744073709551615 : Nat) : Int) from rfl, shr_n _ _ (by omega), ones_div m h]
theorem get_yes {w p m : Nat} (hw : w < 18446744073709551616) (h1 : 1 ≤ m) (h : p + m ≤ 64) : bits_Get.f w p m = some ((getN w p m : Int), 0) := by
  unfold bits_Get.f
  rw [field_yes h1 h]
  simp only [Option.bind_some, if_true]
  rw [if_pos (by omega), mask_yes h1 (by omega)]
  simp only [Option.bind_some]
  have h2 : w / 2 ^ p < 18446744073709551616 := Nat.lt_of_le_of_lt (Nat.div_le_self _ _) hw
  have h3 : 2 ^ m - 1 < 18446744073709551616 := by have := pow_le64 (show m ≤ 64 by omega); have := Nat.two_pow_pos m; omega
  rw [shr_n _ _ (by omega), band _ _ h2 h3, and_mask]
  rfl
theorem get_no {w p m : Int} (h : ¬ (1 ≤ m ∧ 0 ≤ p ∧ p + m ≤ 64)) : bits_Get.f w p m = some (0, 1) := by
  unfold bits_Get.f
  rw [field_no h]; rfl
theorem put_yes {w p m v : Nat} (hw : w < 18446744073709551616) (h1 : 1 ≤ m) (h : p + m ≤ 64) (hv : v < 2 ^ m) : bits_Put.f w p m v = some ((putN w p m v : Int), 0) := by
  unfold bits_Put.f
  have hm := pow_le64 (show m ≤ 64 by omega)
  have hp := Nat.two_pow_pos m
  rw [field_yes h1 h]
  simp only [Option.bind_some, if_true]
  rw [mask_yes h1 (by omega)]
  simp only [Option.bind_some]
  rw [bnot _ _ (by omega) (by omega), (noN_mask v m).2 hv, if_pos (by rfl), if_pos (by omega), shl_n _ _ (by omega), shl_n _ _ (by omega), bnot _ _ hw (Nat.mod_lt _ (by decide)), bor _ _ (noN_lt hw) (Nat.mod_lt _ (by decide)), or_put w p m v hw hv h]
theorem put_big {w p m v : Nat} (hv64 : v < 18446744073709551616) (h1 : 1 ≤ m) (h : p + m ≤ 64) (hv : ¬ v < 2 ^ m) : bits_Put.f w p m v = some (0, 10) := by
  unfold bits_Put.f
  have hm := pow_le64 (show m ≤ 64 by omega)
  have hp := Nat.two_pow_pos m
  rw [field_yes h1 h]
  simp only [Option.bind_some, if_true]
  rw [mask_yes h1 (by omega)]
  simp only [Option.bind_some]
  rw [bnot _ _ hv64 (by omega), if_neg (by have := mt (noN_mask v m).1 hv; omega)]
theorem put_no {w p m v : Int} (h : ¬ (1 ≤ m ∧ 0 ≤ p ∧ p + m ≤ 64)) : bits_Put.f w p m v = some (0, 1) := by
  unfold bits_Put.f
  rw [field_no h]; rfl
theorem bit_at {w i : Nat} (hi : i ≤ 64) : donjonref01_Bit.f w i = some (w.testBit i) := by
  unfold donjonref01_Bit.f
  rw [if_pos (by omega), shr_n _ _ hi, Nat.testBit_eq_decide_div_mod_eq]
  congr 1
  rw [Bool.eq_iff_iff]
  simp only [beq_iff_eq, decide_eq_true_eq]
  generalize w / 2 ^ i = q
  rw [Int.tmod_eq_emod_of_nonneg (by omega)]
  omega
theorem rfield_yes {p m : Nat} (h1 : 1 ≤ m) (h : p + m ≤ 64) : donjonref01_field.f p m = some true := by
  unfold donjonref01_field.f
  rw [if_pos (by omega), if_pos (by omega), if_pos (by omega), w64 (by omega) (by omega)]
  simp; omega
theorem rfield_no {p m : Int} (h : ¬ (1 ≤ m ∧ 0 ≤ p ∧ p + m ≤ 64)) : donjonref01_field.f p m = some false := by
  unfold donjonref01_field.f
  by_cases a : m ≥ 1
  · rw [if_pos a]
    by_cases b : m ≤ 64
    · rw [if_pos b, w64 (by omega) (by omega)]
      by_cases c : p ≥ 0
      · rw [if_pos c]; simp; omega
      · rw [if_neg c]
    · rw [if_neg b]
  · rw [if_neg a]
/-- a word, one bit more of it -/
theorem grow_bit (X d : Nat) : X / 2 ^ d = X / 2 ^ (d + 1) * 2 + (X.testBit d).toNat := by
  rw [Nat.testBit_eq_decide_div_mod_eq, Nat.pow_succ, ← Nat.div_div_eq_div_mul]
  have := Nat.div_add_mod (X / 2 ^ d) 2
  by_cases h : X / 2 ^ d % 2 = 1
  · simp [h]; omega
  · simp [h]; omega
theorem grow_wrap (X d : Nat) (hX : X < 18446744073709551616) (b : Bool) (hb : X.testBit d = b) :
    (if b = true then IntKind.u64.wrap (IntKind.u64.wrap (((X / 2 ^ (d + 1) : Nat) : Int) * 2) + 1) else IntKind.u64.wrap (((X / 2 ^ (d + 1) : Nat) : Int) * 2)) = ((X / 2 ^ d : Nat) : Int) := by
  have g := grow_bit X d
  have hl : X / 2 ^ d < 18446744073709551616 := Nat.lt_of_le_of_lt (Nat.div_le_self _ _) hX
  rw [hb] at g
  revert g hl
  generalize X / 2 ^ d = a
  generalize X / 2 ^ (d + 1) = c
  intro g hl
  cases b
  · simp at g ⊢; rw [u64w]; omega
  · simp at g ⊢; rw [u64w, u64w]; omega
theorem rget_loop {w p m : Nat} (hm : p + m ≤ 64) (d : Nat) : ∀ k, d ≤ m → d < k → donjonref01_Get.l0 k w p ((getN w p m / 2 ^ d : Nat) : Int) ((d : Int) - 1) = some ((getN w p m : Int), 0) := by
  have hX : getN w p m < 18446744073709551616 := Nat.lt_of_lt_of_le (getN_lt w p m) (pow_le64 (by omega))
  induction d with
  | zero =>
    intro k _ hk
    obtain ⟨k, rfl⟩ : ∃ m, k = m + 1 := ⟨k - 1, by omega⟩
    simp only [donjonref01_Get.l0]
    rw [if_neg (by omega)]; simp
  | succ d ih =>
    intro k hd hk
    obtain ⟨k, rfl⟩ : ∃ m, k = m + 1 := ⟨k - 1, by omega⟩
    simp only [donjonref01_Get.l0]
    rw [if_pos (by omega), w64 (by omega) (by omega), show (p : Int) + (((d + 1 : Nat) : Int) - 1) = ((p + d : Nat) : Int) from by omega, bit_at (by omega), w64 (by omega) (by omega), show ((d + 1 : Nat) : Int) - 1 - 1 = (d : Int) - 1 from by omega]
    simp only [Option.bind_some]
    have ht : (getN w p m).testBit d = w.testBit (p + d) := by rw [getN_test]; simp [show d < m from by omega]
    have g := grow_wrap (getN w p m) d hX _ ht
    have := ih k (by omega) (by omega)
    split
    · rename_i h; rw [if_pos h] at g; rw [g]; exact this
    · rename_i h; rw [if_neg h] at g; rw [g]; exact this
theorem rget_yes {w p m : Nat} (h1 : 1 ≤ m) (h : p + m ≤ 64) {k : Nat} (hk : 64 < k) : donjonref01_Get.f k w p m = some ((getN w p m : Int), 0) := by
  unfold donjonref01_Get.f
  rw [rfield_yes h1 h]
  simp only [Option.bind_some, if_true]
  have := rget_loop (w := w) (p := p) (m := m) h m k (Nat.le_refl _) (by omega)
  rw [Nat.div_eq_of_lt (getN_lt w p m)] at this
  rw [w64 (by omega) (by omega)]
  exact this
theorem rget_no {w p m : Int} (h : ¬ (1 ≤ m ∧ 0 ≤ p ∧ p + m ≤ 64)) {k : Nat} : donjonref01_Get.f k w p m = some (0, 1) := by
  unfold donjonref01_Get.f
  rw [rfield_no h]; rfl
theorem rput_loop {w p m v : Nat} (hw : w < 18446744073709551616) (hv : v < 2 ^ m) (hm : p + m ≤ 64) (d : Nat) : ∀ k, d ≤ 64 → d < k → donjonref01_Put.l0 k w p m v ((putN w p m v / 2 ^ d : Nat) : Int) ((d : Int) - 1) = some ((putN w p m v : Int), 0) := by
  have hX := putN_lt (w := w) (p := p) (m := m) (v := v) hw hv hm
  induction d with
  | zero =>
    intro k _ hk
    obtain ⟨k, rfl⟩ : ∃ m, k = m + 1 := ⟨k - 1, by omega⟩
    simp only [donjonref01_Put.l0]
    rw [if_neg (by omega)]; simp
  | succ d ih =>
    intro k hd hk
    obtain ⟨k, rfl⟩ : ∃ m, k = m + 1 := ⟨k - 1, by omega⟩
    have ht := putN_test w p m v d hv
    have nxt := ih k (by omega) (by omega)
    have g := grow_wrap (putN w p m v) d hX _ rfl
    have ei : ((d + 1 : Nat) : Int) - 1 = (d : Int) := by omega
    simp only [donjonref01_Put.l0]
    rw [ei, if_pos (by omega), w64 (n := (p : Int) + m) (by omega) (by omega), w64 (n := (d : Int) - 1) (by omega) (by omega)]
    by_cases c1 : d < p
    · rw [if_neg (by omega)]
      rw [if_pos c1] at ht
      rw [ht] at g
      rw [if_pos (by omega), bit_at (by omega)]
      simp only [Option.bind_some]
      cases hb : w.testBit d <;> simp only [hb, if_true, if_false, Bool.false_eq_true] at g ⊢ <;> rw [g] <;> exact nxt
    · rw [if_pos (by omega)]
      rw [if_neg c1] at ht
      by_cases c2 : d < p + m
      · rw [if_pos c2] at ht
        rw [ht] at g
        rw [if_pos (by omega), w64 (n := (d : Int) - p) (by omega) (by omega), show (d : Int) - p = ((d - p : Nat) : Int) from by omega, bit_at (by omega)]
        simp only [Option.bind_some]
        cases hb : v.testBit (d - p)
        · simp only [hb, if_true, if_false, Bool.false_eq_true] at g ⊢
          rw [if_neg (by omega), if_neg (by omega), g]; exact nxt
        · simp only [hb, if_true, if_false, Bool.false_eq_true] at g ⊢
          rw [g]; exact nxt
      · rw [if_neg c2] at ht
        rw [ht] at g
        rw [if_neg (by omega), if_neg (by omega), if_pos (by omega), bit_at (by omega)]
        simp only [Option.bind_some]
        cases hb : w.testBit d <;> simp only [hb, if_true, if_false, Bool.false_eq_true] at g ⊢ <;> rw [g] <;> exact nxt
theorem rput_yes {w p m v : Nat} (hw : w < 18446744073709551616) (h1 : 1 ≤ m) (h : p + m ≤ 64) (hv : v < 2 ^ m) {k : Nat} (hk : 70 < k) : donjonref01_Put.f k w p m v = some ((putN w p m v : Int), 0) := by
  have hX := putN_lt (w := w) (p := p) (m := m) (v := v) hw hv h
  have L := rput_loop (w := w) (p := p) (m := m) (v := v) hw hv h 64 (k - 1) (Nat.le_refl _) (by omega)
  rw [Nat.div_eq_of_lt (show putN w p m v < 2 ^ 64 from hX)] at L
  have J : donjonref01_Put.j0 k w p m v false = some ((putN w p m v : Int), 0) := by
    obtain ⟨k, rfl⟩ : ∃ m, k = m + 1 := ⟨k - 1, by omega⟩
    simp only [donjonref01_Put.j0]
    exact L
  unfold donjonref01_Put.f
  rw [rfield_yes h1 h]
  simp only [Option.bind_some, if_true]
  by_cases c : (m : Int) < 64
  · rw [if_pos c, if_pos (by omega), shr_n _ _ (by omega), Nat.div_eq_of_lt hv]
    exact J
  · rw [if_neg c]; exact J
theorem rput_big {w p m v : Nat} (hv64 : v < 18446744073709551616) (h1 : 1 ≤ m) (h : p + m ≤ 64) (hv : ¬ v < 2 ^ m) {k : Nat} (hk : 0 < k) : donjonref01_Put.f k w p m v = some (0, 10) := by
  unfold donjonref01_Put.f
  rw [rfield_yes h1 h]
  simp only [Option.bind_some, if_true]
  have hm : m < 64 := by
    apply Decidable.byContradiction; intro hc
    obtain rfl : m = 64 := by omega
    exact hv hv64
  obtain ⟨k, rfl⟩ : ∃ m, k = m + 1 := ⟨k - 1, by omega⟩
  have hq : 0 < v / 2 ^ m := Nat.div_pos (by omega) (Nat.two_pow_pos _)
  rw [if_pos (by omega), if_pos (by omega), shr_n _ _ (by omega)]
  have e : (((v / 2 ^ m : Nat) : Int) != 0) = true := by simp only [bne_iff_ne]; omega
  rw [e]
  simp only [donjonref01_Put.j0, if_true]
theorem rput_no {w p m v : Int} (h : ¬ (1 ≤ m ∧ 0 ≤ p ∧ p + m ≤ 64)) {k : Nat} : donjonref01_Put.f k w p m v = some (0, 1) := by
  unfold donjonref01_Put.f
  rw [rfield_no h]; rfl
theorem BitsFields : donjonlaw01_BitsFields.Pure := by
  intro w p m v hw' hp hm hv'
  obtain ⟨w, rfl, hw⟩ := wu hw'
  obtain ⟨v, rfl, hv⟩ := wu hv'
  refine ⟨100, ?_⟩
  unfold donjonlaw01_BitsFields.f
  by_cases h : 1 ≤ m ∧ 0 ≤ p ∧ p + m ≤ 64
  · obtain ⟨m, rfl⟩ : ∃ n : Nat, m = n := ⟨m.toNat, by omega⟩
    obtain ⟨p, rfl⟩ : ∃ n : Nat, p = n := ⟨p.toNat, by omega⟩
    rw [get_yes hw (by omega) (by omega), rget_yes (by omega) (by omega) (by omega)]
    by_cases c : v < 2 ^ m
    · rw [put_yes hw (by omega) (by omega) c, rput_yes hw (by omega) (by omega) c (by omega)]; simp
    · rw [put_big hv (by omega) (by omega) c, rput_big hv (by omega) (by omega) c (by omega)]; simp
  · rw [get_no h, rget_no h, put_no h, rput_no h]; simp
end Go.Proofs.Ytgbpomcfmcnklaa.Pure
