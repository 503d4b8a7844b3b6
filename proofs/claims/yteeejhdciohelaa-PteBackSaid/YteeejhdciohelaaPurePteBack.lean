/- The plain law: over numbers and lists alone, what the functions of PteBack compute answers true at every input. -/
import Derived.Test.YteeejhdciohelaaMPteBackx3
import Derived.Test.YteeejhdciohelaaPlain
import Derived.Test.YteeejhdciohelaaPlainB
namespace Go.Proofs.Yteeejhdciohelaa.Pure
open Go Go.RowKit Go.Proofs.Yteeejhdciohelaa.PPteBack Go.Proofs.YteeejhdciohelaaW.PrintWords Go.Proofs.YteeejhdciohelaaW.PrintLast Go.Proofs.YteeejhdciohelaaW.PrintMore Go.Proofs.Yteeejhdciohelaa.Plain
set_option linter.unusedVariables false
set_option linter.unusedSimpArgs false
theorem field_yes {p m : Nat} (h1 : 1 ≤ m) (h : p + m ≤ 64) : bits_field.f p m = some true := by
  unfold bits_field.f
  rw [if_pos (by omega), if_pos (by omega), if_pos (by omega), w64 (by omega) (by omega)]
  simp; omega
theorem field_no {p m : Int} (h : ¬ (1 ≤ m ∧ 0 ≤ p ∧ p + m ≤ 64)) : bits_field.f p m = some false := by
  unfold bits_field.f
  by_cases a : m ≥ 1
  · rw [if_pos a]
    by_cases b : m ≤ 64
    · rw [if_pos b, w64 (by omega) (by omega)]
      by_cases c : p ≥ 0
      · rw [if_pos c]; simp; omega
      · rw [if_neg c]
    · rw [if_neg b]
  · rw [if_neg a]
theorem mask_yes {m : Nat} (h1 : 1 ≤ m) (h : m ≤ 64) : bits_mask.f m = some ((2 ^ m - 1 : Nat) : Int) := by
  unfold bits_mask.f
  have e : wrap64 (64 - (m : Int)) = ((64 - m : Nat) : Int) := by rw [w64 (by omega) (by omega)]; omega
  rw [e, if_pos (by omega), show (18446744073709551615 : Int) = ((18446744073709551615 : Nat) : Int) from rfl, shr_n _ _ (by omega), ones_div m h]
theorem get_yes {w p m : Nat} (hw : w < 18446744073709551616) (h1 : 1 ≤ m) (h : p + m ≤ 64) : bits_Get.f w p m = some ((getN w p m : Int), 0) := by
  unfold bits_Get.f
  rw [field_yes h1 h]
  simp only [Option.bind_some, if_true]
  rw [if_pos (by omega), mask_yes h1 (by omega)]
  simp only [Option.bind_some]
  have h2 : w / 2 ^ p < 18446744073709551616 := Nat.lt_of_le_of_lt (Nat.div_le_self _ _) hw
  have h3 : 2 ^ m - 1 < 18446744073709551616 := by have := pow_le64 (show m ≤ 64 by omega); have := Nat.two_pow_pos m; omega
  rw [shr_n _ _ (by omega), band _ _ h2 h3, and_mask]
  rfl
theorem get_no {w p m : Int} (h : ¬ (1 ≤ m ∧ 0 ≤ p ∧ p + m ≤ 64)) : bits_Get.f w p m = some (0, 1) := by
  unfold bits_Get.f
  rw [field_no h]; rfl
theorem put_yes {w p m v : Nat} (hw : w < 18446744073709551616) (h1 : 1 ≤ m) (h : p + m ≤ 64) (hv : v < 2 ^ m) : bits_Put.f w p m v = some ((putN w p m v : Int), 0) := by
  unfold bits_Put.f
  have hm := pow_le64 (show m ≤ 64 by omega)
  have hp := Nat.two_pow_pos m
  rw [field_yes h1 h]
  simp only [Option.bind_some, if_true]
  rw [mask_yes h1 (by omega)]
  simp only [Option.bind_some]
  rw [bnot _ _ (by omega) (by omega), (noN_mask v m).2 hv, if_pos (by rfl), if_pos (by omega), shl_n _ _ (by omega), shl_n _ _ (by omega), bnot _ _ hw (Nat.mod_lt _ (by decide)), bor _ _ (noN_lt hw) (Nat.mod_lt _ (by decide)), or_put w p m v hw hv h]
theorem put_big {w p m v : Nat} (hv64 : v < 18446744073709551616) (h1 : 1 ≤ m) (h : p + m ≤ 64) (hv : ¬ v < 2 ^ m) : bits_Put.f w p m v = some (0, 10) := by
  unfold bits_Put.f
  have hm := pow_le64 (show m ≤ 64 by omega)
  have hp := Nat.two_pow_pos m
  rw [field_yes h1 h]
  simp only [Option.bind_some, if_true]
  rw [mask_yes h1 (by omega)]
  simp only [Option.bind_some]
  rw [bnot _ _ hv64 (by omega), if_neg (by have := mt (noN_mask v m).1 hv; omega)]
theorem put_no {w p m v : Int} (h : ¬ (1 ≤ m ∧ 0 ≤ p ∧ p + m ≤ 64)) : bits_Put.f w p m v = some (0, 1) := by
  unfold bits_Put.f
  rw [field_no h]; rfl
/-- an entry's word, or what is wrong with it -/
def packS (v wr : Bool) (at_ : Int) : Int × Int :=
  if v then (if at_ < 0 ∨ at_ > 65520 ∨ at_ % 16 ≠ 0 then (0, 9) else (at_ + (if wr then 3 else 1), 0))
  else if wr = false ∧ at_ = 0 then (0, 0) else (0, 10)
theorem low2 (v : Nat) : (16 * v + 1) ||| 2 = 16 * v + 3 := by
  have e : ∀ c : Nat, 16 * v + c = 2 ^ 4 * v + c := fun c => rfl
  rw [e 1, e 3]
  apply Nat.eq_of_testBit_eq
  intro j
  rw [Nat.testBit_or, Nat.testBit_two_pow_mul_add _ (by decide), Nat.testBit_two_pow_mul_add _ (by decide)]
  by_cases h : j < 4
  · rw [if_pos h, if_pos h]
    match j, h with
    | 0, _ => rfl
    | 1, _ => rfl
    | 2, _ => rfl
    | 3, _ => rfl
  · rw [if_neg h, if_neg h, tb_lt (m := 4) (v := 2) (by decide) (by omega), Bool.or_false]
theorem tdiv16 {a : Int} (h : 0 ≤ a) : Int.tdiv a 16 = a / 16 := Int.tdiv_eq_ediv_of_nonneg h
theorem tmod16 {a : Int} (h : 0 ≤ a) : Int.tmod a 16 = a % 16 := Int.tmod_eq_emod_of_nonneg h
theorem put_frame (v : Nat) (h : v < 4096) : bits_Put.f 1 4 12 v = some (((16 * v + 1 : Nat) : Int), 0) := by
  have e : putN 1 4 12 v = 16 * v + 1 := by
    unfold putN
    rw [show 1 / 2 ^ (4 + 12) = 0 from by decide, show 1 % 2 ^ 4 = 1 from by decide, Nat.mul_zero, Nat.zero_add]
  have := put_yes (w := 1) (p := 4) (m := 12) (v := v) (by omega) (by omega) (by omega) h
  rw [e] at this; exact this
theorem pack_j {k : Nat} {v wr : Bool} {at_ : Int} (h : at_ < 0 ∨ at_ > 65520 ∨ at_ % 16 ≠ 0) : pte_Pack.j0 (k + 1) true v wr at_ = some (0, 9) := by
  simp only [pte_Pack.j0]; rw [if_pos trivial]
theorem pack_go {k : Nat} {v wr : Bool} {at_ : Int} (h0 : 0 ≤ at_) (h1 : at_ ≤ 65520) (h2 : at_ % 16 = 0) : pte_Pack.j0 (k + 1) false v wr at_ = some (at_ + (if wr then 3 else 1), 0) := by
  obtain ⟨n, rfl⟩ : ∃ n : Nat, at_ = ((16 * n : Nat) : Int) := ⟨(at_ / 16).toNat, by omega⟩
  simp only [pte_Pack.j0]
  have e : IntKind.u64.wrap (wrap64 (Int.tdiv ((16 * n : Nat) : Int) 16)) = (n : Int) := by
    rw [tdiv16 (by omega), w64 (by omega) (by omega), u64w]; omega
  rw [if_neg (by decide), e, put_frame n (by omega)]
  rw [Option.bind_some]
  cases wr
  · rw [if_neg (by decide)]; simp
  · rw [if_pos (by rfl), show (2 : Int) = ((2 : Nat) : Int) from rfl, bor _ _ (by omega) (by omega), low2]; simp
theorem pack_is {k : Nat} (hk : 0 < k) (v wr : Bool) (at_ : Int) : pte_Pack.f k v wr at_ = some (packS v wr at_) := by
  obtain ⟨k, rfl⟩ : ∃ m, k = m + 1 := ⟨k - 1, by omega⟩
  unfold pte_Pack.f packS
  cases v
  · by_cases c : wr = false ∧ at_ = 0
    · obtain ⟨rfl, rfl⟩ := c; simp
    · have : (!false && (!wr && (at_ == 0))) = false := by
        cases wr
        · simp at c ⊢; exact c
        · rfl
      rw [this]; simp only [Bool.false_eq_true, if_false]; rw [if_neg c]
  · simp only [Bool.not_true, Bool.false_and, Bool.false_eq_true, if_false, if_true]
    by_cases h0 : at_ < 0
    · rw [if_pos h0, if_pos (Or.inl h0), pack_j (Or.inl h0)]
    · rw [if_neg h0]
      by_cases h1 : at_ > 65520
      · rw [if_pos h1, if_pos (Or.inr (Or.inl h1)), pack_j (Or.inr (Or.inl h1))]
      · rw [if_neg h1, tmod16 (by omega)]
        by_cases h2 : at_ % 16 = 0
        · rw [if_neg (by omega), show (at_ % 16 != 0) = false from by simp [h2], pack_go (by omega) (by omega) h2]
        · rw [if_pos (Or.inr (Or.inr h2)), show (at_ % 16 != 0) = true from by simp [h2], pack_j (Or.inr (Or.inr h2))]
theorem packS_yes {wr : Bool} {at_ : Int} (h0 : 0 ≤ at_) (h1 : at_ ≤ 65520) (h2 : at_ % 16 = 0) : packS true wr at_ = (at_ + (if wr then 3 else 1), 0) := by
  unfold packS; rw [if_pos rfl, if_neg (by omega)]
/-- the entry of a word -/
def unpackS (w : Nat) : Bool × Bool × Int × Int :=
  if w = 0 then (false, false, 0, 0) else if w < 65536 ∧ w % 2 = 1 ∧ w / 4 % 4 = 0 then (true, decide (w / 2 % 2 = 1), ((w / 16 * 16 : Nat) : Int), 0) else (false, false, 0, 10)
theorem and_1 (w : Nat) : w &&& 1 = w % 2 := Nat.and_one_is_mod w
theorem and_2 (w : Nat) : w &&& 2 = 2 * (w / 2 % 2) := by
  apply Nat.eq_of_testBit_eq
  intro j
  rw [Nat.testBit_and]
  match j with
  | 0 => simp [Nat.testBit_zero, Nat.mul_mod_right]
  | j + 1 =>
    rw [Nat.testBit_succ, Nat.testBit_succ, Nat.testBit_succ, show 2 / 2 = 1 from rfl, Nat.mul_div_cancel_left _ (by decide)]
    match j with
    | 0 => simp [Nat.testBit_zero, Nat.mod_mod]
    | j + 1 => 
      have h1 : w / 2 % 2 / 2 = 0 := by omega
      simp [Nat.testBit_succ, h1]
theorem unpack_is {k w : Nat} (hk : 0 < k) (hw : w < 18446744073709551616) : pte_Unpack.f k w = some (unpackS w) := by
  unfold pte_Unpack.f unpackS
  by_cases h0 : w = 0
  · subst h0; rfl
  · have g : bits_Get.f w 4 12 = some ((getN w 4 12 : Int), 0) := get_yes (p := 4) (m := 12) hw (by omega) (by omega)
    have ge : getN w 4 12 = w / 16 % 4096 := rfl
    rw [if_neg (by omega), if_neg h0, g, ge, Option.bind_some]
    have e1 : wrap64 (wrap64 ((w / 16 % 4096 : Nat) : Int) * 16) = ((w / 16 % 4096 * 16 : Nat) : Int) := by
      rw [w64 (n := ((w / 16 % 4096 : Nat) : Int)) (by omega) (by omega), w64 (by omega) (by omega)]; omega
    have e2 : (Go.bits .and .u64 (w : Int) 1 == 1) = decide (w % 2 = 1) := by
      rw [show (1 : Int) = ((1 : Nat) : Int) from rfl, band _ _ hw (by omega), and_1, Bool.eq_iff_iff]; simp; omega
    have e3 : (Go.bits .and .u64 (w : Int) 2 != 0) = decide (w / 2 % 2 = 1) := by
      rw [show (2 : Int) = ((2 : Nat) : Int) from rfl, band _ _ hw (by omega), and_2, Bool.eq_iff_iff]; simp; omega
    simp only []
    rw [e1, e2, e3, pack_is hk, Option.bind_some]
    by_cases c1 : w % 2 = 1
    · rw [decide_eq_true c1, packS_yes (by omega) (by omega) (by omega)]
      simp only []
      rw [if_pos trivial]
      by_cases c2 : w / 2 % 2 = 1
      · rw [decide_eq_true c2]
        simp only [if_true]
        by_cases c : w < 65536 ∧ w / 4 % 4 = 0
        · rw [if_pos (show w < 65536 ∧ w % 2 = 1 ∧ w / 4 % 4 = 0 from ⟨c.1, c1, c.2⟩), if_pos (by omega), show w / 16 % 4096 * 16 = w / 16 * 16 from by omega]
        · rw [if_neg (show ¬ (w < 65536 ∧ w % 2 = 1 ∧ w / 4 % 4 = 0) from fun h => c ⟨h.1, h.2.2⟩), if_neg (by omega)]
      · rw [decide_eq_false c2]
        simp only [Bool.false_eq_true, if_false]
        by_cases c : w < 65536 ∧ w / 4 % 4 = 0
        · rw [if_pos (show w < 65536 ∧ w % 2 = 1 ∧ w / 4 % 4 = 0 from ⟨c.1, c1, c.2⟩), if_pos (by omega), show w / 16 % 4096 * 16 = w / 16 * 16 from by omega]
        · rw [if_neg (show ¬ (w < 65536 ∧ w % 2 = 1 ∧ w / 4 % 4 = 0) from fun h => c ⟨h.1, h.2.2⟩), if_neg (by omega)]
    · rw [decide_eq_false c1, if_neg (show ¬ (w < 65536 ∧ w % 2 = 1 ∧ w / 4 % 4 = 0) from fun h => c1 h.2.1)]
      unfold packS
      simp only [Bool.false_eq_true, if_false]
      by_cases c : decide (w / 2 % 2 = 1) = false ∧ ((w / 16 % 4096 * 16 : Nat) : Int) = 0
      · rw [if_pos c]
        simp only []
        rw [if_pos trivial, if_neg (by omega)]
      · rw [if_neg c]
        simp only []
        rw [if_neg (by decide)]
theorem and_15 {a : Nat} (h : a < 9223372036854775808) : Go.bits .and .i64 (a : Int) 15 = ((a % 16 : Nat) : Int) := by
  have e : Go.bits .and .i64 (a : Int) 15 = ((a &&& 15 : Nat) : Int) := by
    have ha' : a % 2 ^ 64 = a := Nat.mod_eq_of_lt (by omega)
    simp only [Go.bits, IntKind.bits]
    rw [show (15 : Int) = ((15 : Nat) : Int) from rfl, BitVec.ofInt_natCast, BitVec.ofInt_natCast]
    show IntKind.i64.wrap ((BitVec.ofNat 64 a &&& BitVec.ofNat 64 15).toNat : Int) = _
    rw [BitVec.toNat_and, BitVec.toNat_ofNat, BitVec.toNat_ofNat, ha', show 15 % 2 ^ 64 = 15 from rfl, i64w]
    have : a &&& 15 ≤ 15 := Nat.and_le_right
    exact w64 (by omega) (by omega)
  rw [e, show (15 : Nat) = 2 ^ 4 - 1 from rfl, and_mask]
theorem split_is (a : Int) (h1 : a ≤ 9223372036854775807) : pte_Split.f a = some (if a < 0 ∨ a > 4095 then (0, 0, 0, 1) else (a / 256, a / 16 % 16, a % 16, 0)) := by
  unfold pte_Split.f
  by_cases c : a < 0
  · rw [if_pos c, if_pos (Or.inl c)]
  · rw [if_neg c]
    by_cases c2 : a ≥ 4096
    · rw [if_pos c2, if_pos (Or.inr (by omega))]
    · rw [if_neg c2, if_neg (by omega)]
      obtain ⟨n, rfl⟩ : ∃ n : Nat, a = n := ⟨a.toNat, by omega⟩
      rw [show (n : Int) / 16 = ((n / 16 : Nat) : Int) from by omega, and_15 (by omega), and_15 (by omega)]
      rfl
theorem works_yes : donjonlaw12_works.f 10 = some true := by kernel_rfl
theorem unpack_pack {v wr : Bool} {at_ : Int} (h : (packS v wr at_).2 = 0) : ∃ w : Nat, (packS v wr at_).1 = w ∧ w < 18446744073709551616 ∧ unpackS w = (v, wr, at_, 0) := by
  unfold packS at *
  cases v
  · simp only [Bool.false_eq_true, if_false] at *
    by_cases c : wr = false ∧ at_ = 0
    · obtain ⟨rfl, rfl⟩ := c
      rw [if_pos ⟨rfl, rfl⟩]; exact ⟨0, rfl, by omega, rfl⟩
    · rw [if_neg c] at h; simp at h
  · simp only [if_true] at *
    by_cases c : at_ < 0 ∨ at_ > 65520 ∨ at_ % 16 ≠ 0
    · rw [if_pos c] at h; simp at h
    · rw [if_neg c]
      obtain ⟨n, rfl⟩ : ∃ n : Nat, at_ = ((16 * n : Nat) : Int) := ⟨(at_ / 16).toNat, by omega⟩
      cases wr
      · refine ⟨16 * n + 1, by simp, by omega, ?_⟩
        unfold unpackS
        rw [if_neg (by omega), if_pos (by omega), show (16 * n + 1) / 16 * 16 = 16 * n from by omega, decide_eq_false (by omega)]
      · refine ⟨16 * n + 3, by simp, by omega, ?_⟩
        unfold unpackS
        rw [if_neg (by omega), if_pos (by omega), show (16 * n + 3) / 16 * 16 = 16 * n from by omega, decide_eq_true (by omega)]
theorem pack_unpack {w : Nat} (h : (unpackS w).2.2.2 = 0) : packS (unpackS w).1 (unpackS w).2.1 (unpackS w).2.2.1 = ((w : Int), 0) := by
  unfold unpackS at *
  by_cases h0 : w = 0
  · subst h0; rfl
  · rw [if_neg h0] at *
    by_cases c : w < 65536 ∧ w % 2 = 1 ∧ w / 4 % 4 = 0
    · rw [if_pos c]
      simp only []
      rw [packS_yes (by omega) (by omega) (by omega)]
      by_cases c2 : w / 2 % 2 = 1
      · rw [decide_eq_true c2]; simp; omega
      · rw [decide_eq_false c2]; simp; omega
    · rw [if_neg c] at h; simp at h
/-- the three places make the address -/
theorem split_end {k : Nat} {a : Int} (h1 : a ≤ 9223372036854775807) :
    ((pte_Split.f a).bind fun bt => (if bt.2.2.2 = 0 then (if (wrap64 ((wrap64 ((wrap64 (256 * bt.1)) + (wrap64 (16 * bt.2.1)))) + bt.2.2.1)) = a then (if bt.1 ≥ 0 then (if bt.1 < 16 then (if bt.2.1 ≥ 0 then (if bt.2.1 < 16 then (if bt.2.2.1 ≥ 0 then (some (decide (bt.2.2.1 < 16))) else (some false)) else (some false)) else (some false)) else (some false)) else (some false)) else (some false)) else (if a < 0 then (some true) else (some (decide (a > 4095)))))) = some true := by
  rw [split_is a h1, Option.bind_some]
  by_cases c : a < 0 ∨ a > 4095
  · rw [if_pos c]
    simp only []
    rw [if_neg (by decide)]
    by_cases c0 : a < 0
    · rw [if_pos c0]
    · rw [if_neg c0, decide_eq_true (by omega)]
  · rw [if_neg c]
    simp only []
    rw [if_pos trivial, w64 (n := 256 * (a / 256)) (by omega) (by omega), w64 (n := 16 * (a / 16 % 16)) (by omega) (by omega), w64 (n := 256 * (a / 256) + 16 * (a / 16 % 16)) (by omega) (by omega), w64 (by omega) (by omega), if_pos (by omega), if_pos (by omega), if_pos (by omega), if_pos (by omega), if_pos (by omega), if_pos (by omega), decide_eq_true (by omega)]
theorem back_j1 {k : Nat} {a : Int} (h1 : a ≤ 9223372036854775807) : donjonlaw12_PteBack.j1 (k + 1) a false = some true := by
  simp only [donjonlaw12_PteBack.j1]
  rw [if_neg (by decide)]
  exact split_end (k := k) h1
theorem back_j0 {k w : Nat} {a : Int} (hw : w < 18446744073709551616) (h1 : a ≤ 9223372036854775807) : donjonlaw12_PteBack.j0 (k + 3) w a = some true := by
  simp only [donjonlaw12_PteBack.j0]
  rw [unpack_is (by omega) hw, Option.bind_some]
  by_cases c : (unpackS w).2.2.2 = 0
  · rw [if_pos c, pack_is (by omega), Option.bind_some, pack_unpack c]
    simp only []
    rw [if_pos trivial, show ((w : Int) != (w : Int)) = false from by simp]
    exact back_j1 h1
  · rw [if_neg c]
    exact split_end (k := k) h1
theorem PteBack (v wr : Bool) (at_ : Int) (w : Int) (a : Int) (hw' : (Lit.int .u64 w).wf = true) (ha : (Lit.int .i64 a).wf = true) : donjonlaw12_PteBack.f 10 v wr at_ w a = some true := by
  obtain ⟨w, rfl, hw⟩ := wu hw'
  obtain ⟨a0, a1⟩ := wi ha
  unfold donjonlaw12_PteBack.f
  rw [works_yes, Option.bind_some, if_pos rfl]
  have eT : donjonlaw12_To.f v wr at_ = some (v, wr, at_) := rfl
  rw [eT, Option.bind_some]
  simp only []
  rw [pack_is (by omega), Option.bind_some]
  by_cases c : (packS v wr at_).2 = 0
  · obtain ⟨x, e1, e2, e3⟩ := unpack_pack c
    rw [if_pos c, e1, unpack_is (by omega) e2, e3, Option.bind_some]
    simp only []
    rw [if_pos trivial, Option.bind_some]
    simp only [beq_self_eq_true, Bool.not_true, Bool.or_self, Bool.false_eq_true, if_false]
    exact back_j0 hw a1
  · rw [if_neg c]
    exact back_j0 hw a1
theorem PteBack.walk (v wr : Bool) (at_ : Int) (x a : Int) (w : World) (w0 : (Lit.int .i64 at_).wf = true) (w1 : (Lit.int .u64 x).wf = true) (w2 : (Lit.int .i64 a).wf = true) :
    Calls Try.prog 4 #[.agg #[.bool v, .bool wr, .int .i64 at_], .int .u64 x, .int .i64 a] w fun e w' => e = .returned (.bool true) ∧ Below w.heap.size w w' := by
  refine (donjonlaw12_PteBack.calls 10 v wr at_ x a true w (PteBack v wr at_ x a w1 w2)).mono ?_
  rintro e w' ⟨rfl, hd⟩
  exact ⟨rfl, hd⟩
end Go.Proofs.Yteeejhdciohelaa.Pure
