/- The plain law: over numbers and lists alone, what the functions of PteFlags compute answers true at every input. -/
import Derived.Test.YteeejhdciohelaaMPteFlagsx2
import Derived.Test.YteeejhdciohelaaPlain
import Derived.Test.YteeejhdciohelaaPlainB
namespace Go.Proofs.Yteeejhdciohelaa.Pure
open Go Go.RowKit Go.Proofs.Yteeejhdciohelaa.PPteFlags Go.Proofs.YteeejhdciohelaaW.PrintWords Go.Proofs.YteeejhdciohelaaW.PrintLast Go.Proofs.YteeejhdciohelaaW.PrintMore Go.Proofs.Yteeejhdciohelaa.Plain
set_option linter.unusedVariables false
set_option linter.unusedSimpArgs false
theorem field_yes {p m : Nat} (h1 : 1 ≤ m) (h : p + m ≤ 64) : bits_field.f p m = some true := by
  unfold bits_field.f
  rw [if_pos (by omega), if_pos (by omega), if_pos (by omega), w64 (by omega) (by omega)]
  simp; omega
theorem field_no {p m : Int} (h : ¬ (1 ≤ m ∧ 0 ≤ p ∧ p + m ≤ 64)) : bits_field.f p m = some false := by
  unfold bits_field.f
  by_cases a : m ≥ 1
  · rw [if_pos a]
    by_cases b : m ≤ 64
    · rw [if_pos b, w64 (by omega) (by omega)]
      by_cases c : p ≥ 0
      · rw [if_pos c]; simp; omega
      · rw [if_neg c]
    · rw [if_neg b]
  · rw [if_neg a]
theorem mask_yes {m : Nat} (h1 : 1 ≤ m) (h : m ≤ 64) : bits_mask.f m = some ((2 ^ m - 1 : Nat) : Int) := by
  unfold bits_mask.f
  have e : wrap64 (64 - (m : Int)) = ((64 - m : Nat) : Int) := by rw [w64 (by omega) (by omega)]; omega
  rw [e, if_pos (by omega), show (18446744073709551615 : Int) = ((18446744073709551615 : Nat) : Int) from rfl, shr_n _ _ (by omega), ones_div m h]
theorem get_yes {w p m : Nat} (hw : w < 18446744073709551616) (h1 : 1 ≤ m) (h : p + m ≤ 64) : bits_Get.f w p m = some ((getN w p m : Int), 0) := by
  unfold bits_Get.f
  rw [field_yes h1 h]
  simp only [Option.bind_some, if_true]
  rw [if_pos (by omega), mask_yes h1 (by omega)]
  simp only [Option.bind_some]
  have h2 : w / 2 ^ p < 18446744073709551616 := Nat.lt_of_le_of_lt (Nat.div_le_self _ _) hw
  have h3 : 2 ^ m - 1 < 18446744073709551616 := by have := pow_le64 (show m ≤ 64 by omega); have := Nat.two_pow_pos m; omega
  rw [shr_n _ _ (by omega), band _ _ h2 h3, and_mask]
  rfl
theorem get_no {w p m : Int} (h : ¬ (1 ≤ m ∧ 0 ≤ p ∧ p + m ≤ 64)) : bits_Get.f w p m = some (0, 1) := by
  unfold bits_Get.f
  rw [field_no h]; rfl
theorem put_yes {w p m v : Nat} (hw : w < 18446744073709551616) (h1 : 1 ≤ m) (h : p + m ≤ 64) (hv : v < 2 ^ m) : bits_Put.f w p m v = some ((putN w p m v : Int), 0) := by
  unfold bits_Put.f
  have hm := pow_le64 (show m ≤ 64 by omega)
  have hp := Nat.two_pow_pos m
  rw [field_yes h1 h]
  simp only [Option.bind_some, if_true]
  rw [mask_yes h1 (by omega)]
  simp only [Option.bind_some]
  rw [bnot _ _ (by omega) (by omega), (noN_mask v m).2 hv, if_pos (by rfl), if_pos (by omega), shl_n _ _ (by omega), shl_n _ _ (by omega), bnot _ _ hw (Nat.mod_lt _ (by decide)), bor _ _ (noN_lt hw) (Nat.mod_lt _ (by decide)), or_put w p m v hw hv h]
theorem put_big {w p m v : Nat} (hv64 : v < 18446744073709551616) (h1 : 1 ≤ m) (h : p + m ≤ 64) (hv : ¬ v < 2 ^ m) : bits_Put.f w p m v = some (0, 10) := by
  unfold bits_Put.f
  have hm := pow_le64 (show m ≤ 64 by omega)
  have hp := Nat.two_pow_pos m
  rw [field_yes h1 h]
  simp only [Option.bind_some, if_true]
  rw [mask_yes h1 (by omega)]
  simp only [Option.bind_some]
  rw [bnot _ _ hv64 (by omega), if_neg (by have := mt (noN_mask v m).1 hv; omega)]
theorem put_no {w p m v : Int} (h : ¬ (1 ≤ m ∧ 0 ≤ p ∧ p + m ≤ 64)) : bits_Put.f w p m v = some (0, 1) := by
  unfold bits_Put.f
  rw [field_no h]; rfl
/-- an entry's word, or what is wrong with it -/
def packS (v wr : Bool) (at_ : Int) : Int × Int :=
  if v then (if at_ < 0 ∨ at_ > 65520 ∨ at_ % 16 ≠ 0 then (0, 9) else (at_ + (if wr then 3 else 1), 0))
  else if wr = false ∧ at_ = 0 then (0, 0) else (0, 10)
theorem low2 (v : Nat) : (16 * v + 1) ||| 2 = 16 * v + 3 := by
  have e : ∀ c : Nat, 16 * v + c = 2 ^ 4 * v + c := fun c => rfl
  rw [e 1, e 3]
  apply Nat.eq_of_testBit_eq
  intro j
  rw [Nat.testBit_or, Nat.testBit_two_pow_mul_add _ (by decide), Nat.testBit_two_pow_mul_add _ (by decide)]
  by_cases h : j < 4
  · rw [if_pos h, if_pos h]
    match j, h with
    | 0, _ => rfl
    | 1, _ => rfl
    | 2, _ => rfl
    | 3, _ => rfl
  · rw [if_neg h, if_neg h, tb_lt (m := 4) (v := 2) (by decide) (by omega), Bool.or_false]
theorem tdiv16 {a : Int} (h : 0 ≤ a) : Int.tdiv a 16 = a / 16 := Int.tdiv_eq_ediv_of_nonneg h
theorem tmod16 {a : Int} (h : 0 ≤ a) : Int.tmod a 16 = a % 16 := Int.tmod_eq_emod_of_nonneg h
theorem put_frame (v : Nat) (h : v < 4096) : bits_Put.f 1 4 12 v = some (((16 * v + 1 : Nat) : Int), 0) := by
  have e : putN 1 4 12 v = 16 * v + 1 := by
    unfold putN
    rw [show 1 / 2 ^ (4 + 12) = 0 from by decide, show 1 % 2 ^ 4 = 1 from by decide, Nat.mul_zero, Nat.zero_add]
  have := put_yes (w := 1) (p := 4) (m := 12) (v := v) (by omega) (by omega) (by omega) h
  rw [e] at this; exact this
theorem pack_j {k : Nat} {v wr : Bool} {at_ : Int} (h : at_ < 0 ∨ at_ > 65520 ∨ at_ % 16 ≠ 0) : pte_Pack.j0 (k + 1) true v wr at_ = some (0, 9) := by
  simp only [pte_Pack.j0]; rw [if_pos trivial]
theorem pack_go {k : Nat} {v wr : Bool} {at_ : Int} (h0 : 0 ≤ at_) (h1 : at_ ≤ 65520) (h2 : at_ % 16 = 0) : pte_Pack.j0 (k + 1) false v wr at_ = some (at_ + (if wr then 3 else 1), 0) := by
  obtain ⟨n, rfl⟩ : ∃ n : Nat, at_ = ((16 * n : Nat) : Int) := ⟨(at_ / 16).toNat, by omega⟩
  simp only [pte_Pack.j0]
  have e : IntKind.u64.wrap (wrap64 (Int.tdiv ((16 * n : Nat) : Int) 16)) = (n : Int) := by
    rw [tdiv16 (by omega), w64 (by omega) (by omega), u64w]; omega
  rw [if_neg (by decide), e, put_frame n (by omega)]
  rw [Option.bind_some]
  cases wr
  · rw [if_neg (by decide)]; simp
  · rw [if_pos (by rfl), show (2 : Int) = ((2 : Nat) : Int) from rfl, bor _ _ (by omega) (by omega), low2]; simp
theorem pack_is {k : Nat} (hk : 0 < k) (v wr : Bool) (at_ : Int) : pte_Pack.f k v wr at_ = some (packS v wr at_) := by
  obtain ⟨k, rfl⟩ : ∃ m, k = m + 1 := ⟨k - 1, by omega⟩
  unfold pte_Pack.f packS
  cases v
  · by_cases c : wr = false ∧ at_ = 0
    · obtain ⟨rfl, rfl⟩ := c; simp
    · have : (!false && (!wr && (at_ == 0))) = false := by
        cases wr
        · simp at c ⊢; exact c
        · rfl
      rw [this]; simp only [Bool.false_eq_true, if_false]; rw [if_neg c]
  · simp only [Bool.not_true, Bool.false_and, Bool.false_eq_true, if_false, if_true]
    by_cases h0 : at_ < 0
    · rw [if_pos h0, if_pos (Or.inl h0), pack_j (Or.inl h0)]
    · rw [if_neg h0]
      by_cases h1 : at_ > 65520
      · rw [if_pos h1, if_pos (Or.inr (Or.inl h1)), pack_j (Or.inr (Or.inl h1))]
      · rw [if_neg h1, tmod16 (by omega)]
        by_cases h2 : at_ % 16 = 0
        · rw [if_neg (by omega), show (at_ % 16 != 0) = false from by simp [h2], pack_go (by omega) (by omega) h2]
        · rw [if_pos (Or.inr (Or.inr h2)), show (at_ % 16 != 0) = true from by simp [h2], pack_j (Or.inr (Or.inr h2))]
theorem packS_yes {wr : Bool} {at_ : Int} (h0 : 0 ≤ at_) (h1 : at_ ≤ 65520) (h2 : at_ % 16 = 0) : packS true wr at_ = (at_ + (if wr then 3 else 1), 0) := by
  unfold packS; rw [if_pos rfl, if_neg (by omega)]
theorem works_yes : donjonlaw12_works.f 10 = some true := by kernel_rfl
theorem xor_2 (v : Nat) : (16 * v + 1) ^^^ (16 * v + 3) = 2 := by
  have e : ∀ c : Nat, 16 * v + c = 2 ^ 4 * v + c := fun c => rfl
  rw [e 1, e 3]
  apply Nat.eq_of_testBit_eq
  intro j
  rw [Nat.testBit_xor, Nat.testBit_two_pow_mul_add _ (by decide), Nat.testBit_two_pow_mul_add _ (by decide)]
  by_cases h : j < 4
  · rw [if_pos h, if_pos h]
    match j, h with
    | 0, _ => rfl
    | 1, _ => rfl
    | 2, _ => rfl
    | 3, _ => rfl
  · rw [if_neg h, if_neg h, tb_lt (m := 4) (v := 2) (by decide) (by omega)]; simp
theorem PteFlags : donjonlaw12_PteFlags.Pure := by
  intro a0 a1 _ _
  refine ⟨10, ?_⟩
  unfold donjonlaw12_PteFlags.f
  obtain ⟨a, ha, ea⟩ := tmw a0 4096 (by omega) (by omega)
  obtain ⟨b, hb, eb⟩ := tmw a1 4096 (by omega) (by omega)
  rw [works_yes, ea, eb, w64 (n := 16 * (a : Int)) (by omega) (by omega), w64 (n := 16 * (b : Int)) (by omega) (by omega), Option.bind_some, if_pos rfl]
  rw [pack_is (by omega), pack_is (by omega), pack_is (by omega), Option.bind_some, Option.bind_some, Option.bind_some]
  rw [packS_yes (by omega) (by omega) (by omega), packS_yes (by omega) (by omega) (by omega), packS_yes (by omega) (by omega) (by omega)]
  simp only [if_true, Bool.false_eq_true, if_false]
  have e1 : 16 * (a : Int) + 1 = ((16 * a + 1 : Nat) : Int) := by omega
  have e3 : 16 * (a : Int) + 3 = ((16 * a + 3 : Nat) : Int) := by omega
  rw [e1, e3, bxor _ _ (by omega) (by omega), xor_2, if_pos (by rfl)]
  have e : ((((16 * a + 1 : Nat) : Int) == 16 * (b : Int) + 1) == (16 * (a : Int) == 16 * (b : Int))) = true := by
    by_cases c : a = b
    · subst c; simp
    · rw [show (((16 * a + 1 : Nat) : Int) == 16 * (b : Int) + 1) = false from by simp; omega, show (16 * (a : Int) == 16 * (b : Int)) = false from by simp; omega]; rfl
  rw [e, if_pos rfl, if_neg (by omega)]
  simp; omega
end Go.Proofs.Yteeejhdciohelaa.Pure
