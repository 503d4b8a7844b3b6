/- The plain law: over numbers and lists alone, what the functions of PteWords compute answers true at every input. -/
import Derived.Test.YteeejhdciohelaaMPteWordsx3
import Derived.Test.YteeejhdciohelaaPlain
import Derived.Test.YteeejhdciohelaaPlainB
import Derived.Test.YteeejhdciohelaaMPteWordsx2
namespace Go.Proofs.Yteeejhdciohelaa.Pure
open Go Go.RowKit Go.Proofs.Yteeejhdciohelaa.PPteWords Go.Proofs.YteeejhdciohelaaW.PrintWords Go.Proofs.YteeejhdciohelaaW.PrintLast Go.Proofs.YteeejhdciohelaaW.PrintMore Go.Proofs.Yteeejhdciohelaa.Plain
set_option linter.unusedVariables false
set_option linter.unusedSimpArgs false
theorem field_yes {p m : Nat} (h1 : 1 ≤ m) (h : p + m ≤ 64) : bits_field.f p m = some true := by
  unfold bits_field.f
  rw [if_pos (by omega), if_pos (by omega), if_pos (by omega), w64 (by omega) (by omega)]
  simp; omega
theorem field_no {p m : Int} (h : ¬ (1 ≤ m ∧ 0 ≤ p ∧ p + m ≤ 64)) : bits_field.f p m = some false := by
  unfold bits_field.f
  by_cases a : m ≥ 1
  · rw [if_pos a]
    by_cases b : m ≤ 64
    · rw [if_pos b, w64 (by omega) (by omega)]
      by_cases c : p ≥ 0
      · rw [if_pos c]; simp; omega
      · rw [if_neg c]
    · rw [if_neg b]
  · rw [if_neg a]
theorem mask_yes {m : Nat} (h1 : 1 ≤ m) (h : m ≤ 64) : bits_mask.f m = some ((2 ^ m - 1 : Nat) : Int) := by
  unfold bits_mask.f
  have e : wrap64 (64 - (m : Int)) = ((64 - m : Nat) : Int) := by rw [w64 (by omega) (by omega)]; omega
  rw [e, if_pos (by omega), show (18446744073709551615 : Int) = ((18446744073709551615 : Nat) : Int) from rfl, shr_n _ _ (by omega), ones_div m h]
theorem get_yes {w p m : Nat} (hw : w < 18446744073709551616) (h1 : 1 ≤ m) (h : p + m ≤ 64) : bits_Get.f w p m = some ((getN w p m : Int), 0) := by
  unfold bits_Get.f
  rw [field_yes h1 h]
  simp only [Option.bind_some, if_true]
  rw [if_pos (by omega), mask_yes h1 (by omega)]
  simp only [Option.bind_some]
  have h2 : w / 2 ^ p < 18446744073709551616 := Nat.lt_of_le_of_lt (Nat.div_le_self _ _) hw
  have h3 : 2 ^ m - 1 < 18446744073709551616 := by have := pow_le64 (show m ≤ 64 by omega); have := Nat.two_pow_pos m; omega
  rw [shr_n _ _ (by omega), band _ _ h2 h3, and_mask]
  rfl
theorem get_no {w p m : Int} (h : ¬ (1 ≤ m ∧ 0 ≤ p ∧ p + m ≤ 64)) : bits_Get.f w p m = some (0, 1) := by
  unfold bits_Get.f
  rw [field_no h]; rfl
theorem put_yes {w p m v : Nat} (hw : w < 18446744073709551616) (h1 : 1 ≤ m) (h : p + m ≤ 64) (hv : v < 2 ^ m) : bits_Put.f w p m v = some ((putN w p m v : Int), 0) := by
  unfold bits_Put.f
  have hm := pow_le64 (show m ≤ 64 by omega)
  have hp := Nat.two_pow_pos m
  rw [field_yes h1 h]
  simp only [Option.bind_some, if_true]
  rw [mask_yes h1 (by omega)]
  simp only [Option.bind_some]
  rw [bnot _ _ (by omega) (by omega), (noN_mask v m).2 hv, if_pos (by rfl), if_pos (by omega), shl_n _ _ (by omega), shl_n _ _ (by omega), bnot _ _ hw (Nat.mod_lt _ (by decide)), bor _ _ (noN_lt hw) (Nat.mod_lt _ (by decide)), or_put w p m v hw hv h]
theorem put_big {w p m v : Nat} (hv64 : v < 18446744073709551616) (h1 : 1 ≤ m) (h : p + m ≤ 64) (hv : ¬ v < 2 ^ m) : bits_Put.f w p m v = some (0, 10) := by
  unfold bits_Put.f
  have hm := pow_le64 (show m ≤ 64 by omega)
  have hp := Nat.two_pow_pos m
  rw [field_yes h1 h]
  simp only [Option.bind_some, if_true]
  rw [mask_yes h1 (by omega)]
  simp only [Option.bind_some]
  rw [bnot _ _ hv64 (by omega), if_neg (by have := mt (noN_mask v m).1 hv; omega)]
theorem put_no {w p m v : Int} (h : ¬ (1 ≤ m ∧ 0 ≤ p ∧ p + m ≤ 64)) : bits_Put.f w p m v = some (0, 1) := by
  unfold bits_Put.f
  rw [field_no h]; rfl
/-- an entry's word, or what is wrong with it -/
def packS (v wr : Bool) (at_ : Int) : Int × Int :=
  if v then (if at_ < 0 ∨ at_ > 65520 ∨ at_ % 16 ≠ 0 then (0, 9) else (at_ + (if wr then 3 else 1), 0))
  else if wr = false ∧ at_ = 0 then (0, 0) else (0, 10)
theorem low2 (v : Nat) : (16 * v + 1) ||| 2 = 16 * v + 3 := by
  have e : ∀ c : Nat, 16 * v + c = 2 ^ 4 * v + c := fun c => rfl
  rw [e 1, e 3]
  apply Nat.eq_of_testBit_eq
  intro j
  rw [Nat.testBit_or, Nat.testBit_two_pow_mul_add _ (by decide), Nat.testBit_two_pow_mul_add _ (by decide)]
  by_cases h : j < 4
  · rw [if_pos h, if_pos h]
    match j, h with
    | 0, _ => rfl
    | 1, _ => rfl
    | 2, _ => rfl
    | 3, _ => rfl
  · rw [if_neg h, if_neg h, tb_lt (m := 4) (v := 2) (by decide) (by omega), Bool.or_false]
theorem tdiv16 {a : Int} (h : 0 ≤ a) : Int.tdiv a 16 = a / 16 := Int.tdiv_eq_ediv_of_nonneg h
theorem tmod16 {a : Int} (h : 0 ≤ a) : Int.tmod a 16 = a % 16 := Int.tmod_eq_emod_of_nonneg h
theorem put_frame (v : Nat) (h : v < 4096) : bits_Put.f 1 4 12 v = some (((16 * v + 1 : Nat) : Int), 0) := by
  have e : putN 1 4 12 v = 16 * v + 1 := by
    unfold putN
    rw [show 1 / 2 ^ (4 + 12) = 0 from by decide, show 1 % 2 ^ 4 = 1 from by decide, Nat.mul_zero, Nat.zero_add]
  have := put_yes (w := 1) (p := 4) (m := 12) (v := v) (by omega) (by omega) (by omega) h
  rw [e] at this; exact this
theorem pack_j {k : Nat} {v wr : Bool} {at_ : Int} (h : at_ < 0 ∨ at_ > 65520 ∨ at_ % 16 ≠ 0) : pte_Pack.j0 (k + 1) true v wr at_ = some (0, 9) := by
  simp only [pte_Pack.j0]; rw [if_pos trivial]
theorem pack_go {k : Nat} {v wr : Bool} {at_ : Int} (h0 : 0 ≤ at_) (h1 : at_ ≤ 65520) (h2 : at_ % 16 = 0) : pte_Pack.j0 (k + 1) false v wr at_ = some (at_ + (if wr then 3 else 1), 0) := by
  obtain ⟨n, rfl⟩ : ∃ n : Nat, at_ = ((16 * n : Nat) : Int) := ⟨(at_ / 16).toNat, by omega⟩
  simp only [pte_Pack.j0]
  have e : IntKind.u64.wrap (wrap64 (Int.tdiv ((16 * n : Nat) : Int) 16)) = (n : Int) := by
    rw [tdiv16 (by omega), w64 (by omega) (by omega), u64w]; omega
  rw [if_neg (by decide), e, put_frame n (by omega)]
  rw [Option.bind_some]
  cases wr
  · rw [if_neg (by decide)]; simp
  · rw [if_pos (by rfl), show (2 : Int) = ((2 : Nat) : Int) from rfl, bor _ _ (by omega) (by omega), low2]; simp
theorem pack_is {k : Nat} (hk : 0 < k) (v wr : Bool) (at_ : Int) : pte_Pack.f k v wr at_ = some (packS v wr at_) := by
  obtain ⟨k, rfl⟩ : ∃ m, k = m + 1 := ⟨k - 1, by omega⟩
  unfold pte_Pack.f packS
  cases v
  · by_cases c : wr = false ∧ at_ = 0
    · obtain ⟨rfl, rfl⟩ := c; simp
    · have : (!false && (!wr && (at_ == 0))) = false := by
        cases wr
        · simp at c ⊢; exact c
        · rfl
      rw [this]; simp only [Bool.false_eq_true, if_false]; rw [if_neg c]
  · simp only [Bool.not_true, Bool.false_and, Bool.false_eq_true, if_false, if_true]
    by_cases h0 : at_ < 0
    · rw [if_pos h0, if_pos (Or.inl h0), pack_j (Or.inl h0)]
    · rw [if_neg h0]
      by_cases h1 : at_ > 65520
      · rw [if_pos h1, if_pos (Or.inr (Or.inl h1)), pack_j (Or.inr (Or.inl h1))]
      · rw [if_neg h1, tmod16 (by omega)]
        by_cases h2 : at_ % 16 = 0
        · rw [if_neg (by omega), show (at_ % 16 != 0) = false from by simp [h2], pack_go (by omega) (by omega) h2]
        · rw [if_pos (Or.inr (Or.inr h2)), show (at_ % 16 != 0) = true from by simp [h2], pack_j (Or.inr (Or.inr h2))]
theorem packS_yes {wr : Bool} {at_ : Int} (h0 : 0 ≤ at_) (h1 : at_ ≤ 65520) (h2 : at_ % 16 = 0) : packS true wr at_ = (at_ + (if wr then 3 else 1), 0) := by
  unfold packS; rw [if_pos rfl, if_neg (by omega)]
/-- the entry of a word -/
def unpackS (w : Nat) : Bool × Bool × Int × Int :=
  if w = 0 then (false, false, 0, 0) else if w < 65536 ∧ w % 2 = 1 ∧ w / 4 % 4 = 0 then (true, decide (w / 2 % 2 = 1), ((w / 16 * 16 : Nat) : Int), 0) else (false, false, 0, 10)
theorem and_1 (w : Nat) : w &&& 1 = w % 2 := Nat.and_one_is_mod w
theorem and_2 (w : Nat) : w &&& 2 = 2 * (w / 2 % 2) := by
  apply Nat.eq_of_testBit_eq
  intro j
  rw [Nat.testBit_and]
  match j with
  | 0 => simp [Nat.testBit_zero, Nat.mul_mod_right]
  | j + 1 =>
    rw [Nat.testBit_succ, Nat.testBit_succ, Nat.testBit_succ, show 2 / 2 = 1 from rfl, Nat.mul_div_cancel_left _ (by decide)]
    match j with
    | 0 => simp [Nat.testBit_zero, Nat.mod_mod]
    | j + 1 => 
      have h1 : w / 2 % 2 / 2 = 0 := by omega
      simp [Nat.testBit_succ, h1]
theorem unpack_is {k w : Nat} (hk : 0 < k) (hw : w < 18446744073709551616) : pte_Unpack.f k w = some (unpackS w) := by
  unfold pte_Unpack.f unpackS
  by_cases h0 : w = 0
  · subst h0; rfl
  · have g : bits_Get.f w 4 12 = some ((getN w 4 12 : Int), 0) := get_yes (p := 4) (m := 12) hw (by omega) (by omega)
    have ge : getN w 4 12 = w / 16 % 4096 := rfl
    rw [if_neg (by omega), if_neg h0, g, ge, Option.bind_some]
    have e1 : wrap64 (wrap64 ((w / 16 % 4096 : Nat) : Int) * 16) = ((w / 16 % 4096 * 16 : Nat) : Int) := by
      rw [w64 (n := ((w / 16 % 4096 : Nat) : Int)) (by omega) (by omega), w64 (by omega) (by omega)]; omega
    have e2 : (Go.bits .and .u64 (w : Int) 1 == 1) = decide (w % 2 = 1) := by
      rw [show (1 : Int) = ((1 : Nat) : Int) from rfl, band _ _ hw (by omega), and_1, Bool.eq_iff_iff]; simp; omega
    have e3 : (Go.bits .and .u64 (w : Int) 2 != 0) = decide (w / 2 % 2 = 1) := by
      rw [show (2 : Int) = ((2 : Nat) : Int) from rfl, band _ _ hw (by omega), and_2, Bool.eq_iff_iff]; simp; omega
    simp only []
    rw [e1, e2, e3, pack_is hk, Option.bind_some]
    by_cases c1 : w % 2 = 1
    · rw [decide_eq_true c1, packS_yes (by omega) (by omega) (by omega)]
      simp only []
      rw [if_pos trivial]
      by_cases c2 : w / 2 % 2 = 1
      · rw [decide_eq_true c2]
        simp only [if_true]
        by_cases c : w < 65536 ∧ w / 4 % 4 = 0
        · rw [if_pos (show w < 65536 ∧ w % 2 = 1 ∧ w / 4 % 4 = 0 from ⟨c.1, c1, c.2⟩), if_pos (by omega), show w / 16 % 4096 * 16 = w / 16 * 16 from by omega]
        · rw [if_neg (show ¬ (w < 65536 ∧ w % 2 = 1 ∧ w / 4 % 4 = 0) from fun h => c ⟨h.1, h.2.2⟩), if_neg (by omega)]
      · rw [decide_eq_false c2]
        simp only [Bool.false_eq_true, if_false]
        by_cases c : w < 65536 ∧ w / 4 % 4 = 0
        · rw [if_pos (show w < 65536 ∧ w % 2 = 1 ∧ w / 4 % 4 = 0 from ⟨c.1, c1, c.2⟩), if_pos (by omega), show w / 16 % 4096 * 16 = w / 16 * 16 from by omega]
        · rw [if_neg (show ¬ (w < 65536 ∧ w % 2 = 1 ∧ w / 4 % 4 = 0) from fun h => c ⟨h.1, h.2.2⟩), if_neg (by omega)]
    · rw [decide_eq_false c1, if_neg (show ¬ (w < 65536 ∧ w % 2 = 1 ∧ w / 4 % 4 = 0) from fun h => c1 h.2.1)]
      unfold packS
      simp only [Bool.false_eq_true, if_false]
      by_cases c : decide (w / 2 % 2 = 1) = false ∧ ((w / 16 % 4096 * 16 : Nat) : Int) = 0
      · rw [if_pos c]
        simp only []
        rw [if_pos trivial, if_neg (by omega)]
      · rw [if_neg c]
        simp only []
        rw [if_neg (by decide)]
theorem and_15 {a : Nat} (h : a < 9223372036854775808) : Go.bits .and .i64 (a : Int) 15 = ((a % 16 : Nat) : Int) := by
  have e : Go.bits .and .i64 (a : Int) 15 = ((a &&& 15 : Nat) : Int) := by
    have ha' : a % 2 ^ 64 = a := Nat.mod_eq_of_lt (by omega)
    simp only [Go.bits, IntKind.bits]
    rw [show (15 : Int) = ((15 : Nat) : Int) from rfl, BitVec.ofInt_natCast, BitVec.ofInt_natCast]
    show IntKind.i64.wrap ((BitVec.ofNat 64 a &&& BitVec.ofNat 64 15).toNat : Int) = _
    rw [BitVec.toNat_and, BitVec.toNat_ofNat, BitVec.toNat_ofNat, ha', show 15 % 2 ^ 64 = 15 from rfl, i64w]
    have : a &&& 15 ≤ 15 := Nat.and_le_right
    exact w64 (by omega) (by omega)
  rw [e, show (15 : Nat) = 2 ^ 4 - 1 from rfl, and_mask]
theorem split_is (a : Int) (h1 : a ≤ 9223372036854775807) : pte_Split.f a = some (if a < 0 ∨ a > 4095 then (0, 0, 0, 1) else (a / 256, a / 16 % 16, a % 16, 0)) := by
  unfold pte_Split.f
  by_cases c : a < 0
  · rw [if_pos c, if_pos (Or.inl c)]
  · rw [if_neg c]
    by_cases c2 : a ≥ 4096
    · rw [if_pos c2, if_pos (Or.inr (by omega))]
    · rw [if_neg c2, if_neg (by omega)]
      obtain ⟨n, rfl⟩ : ∃ n : Nat, a = n := ⟨a.toNat, by omega⟩
      rw [show (n : Int) / 16 = ((n / 16 : Nat) : Int) from by omega, and_15 (by omega), and_15 (by omega)]
      rfl
theorem rpack_j {k : Nat} {v wr : Bool} {at_ : Int} : donjonref12_Pack.j0 (k + 1) true v wr at_ = some (0, 9) := by
  simp only [donjonref12_Pack.j0]; rw [if_pos trivial]
theorem rpack_go {k : Nat} {v wr : Bool} {at_ : Int} (h0 : 0 ≤ at_) (h1 : at_ ≤ 65520) : donjonref12_Pack.j0 (k + 1) false v wr at_ = some (at_ + (if wr then 3 else 1), 0) := by
  simp only [donjonref12_Pack.j0]
  rw [if_neg (by decide), u64w, u64w, u64w]
  cases wr
  · rw [if_neg (by decide)]; simp; omega
  · rw [if_pos (by rfl)]; simp; omega
theorem rpack_is {k : Nat} (hk : 0 < k) (v wr : Bool) (at_ : Int) : donjonref12_Pack.f k v wr at_ = some (packS v wr at_) := by
  obtain ⟨k, rfl⟩ : ∃ m, k = m + 1 := ⟨k - 1, by omega⟩
  unfold donjonref12_Pack.f packS
  cases v
  · simp only [Bool.false_eq_true, if_false]
    cases wr
    · by_cases c : at_ = 0
      · subst c; rfl
      · simp [c]
    · simp
  · simp only [if_true]
    by_cases h0 : at_ < 0
    · rw [if_pos h0, if_pos (Or.inl h0), rpack_j]
    · rw [if_neg h0]
      by_cases h1 : at_ > 65520
      · rw [if_pos h1, if_pos (Or.inr (Or.inl h1)), rpack_j]
      · rw [if_neg h1, tmod16 (by omega)]
        by_cases h2 : at_ % 16 = 0
        · rw [if_neg (by omega), show (at_ % 16 != 0) = false from by simp [h2], rpack_go (by omega) (by omega)]
        · rw [if_pos (Or.inr (Or.inr h2)), show (at_ % 16 != 0) = true from by simp [h2], rpack_j]
theorem runpack_is {w : Nat} (hw : w < 18446744073709551616) : donjonref12_Unpack.f w = some (unpackS w) := by
  unfold donjonref12_Unpack.f unpackS
  by_cases h0 : w = 0
  · subst h0; rfl
  · rw [if_neg (by omega), if_neg h0]
    have t : ∀ m : Nat, Int.tmod (w : Int) m = ((w % m : Nat) : Int) := tmod_n w
    have d : ∀ m : Nat, Int.tdiv (w : Int) m = ((w / m : Nat) : Int) := tdiv_n w
    have t2 := t 2
    have d4 := d 4
    have d2 := d 2
    have d16 := d 16
    simp only [Int.cast_ofNat_Int] at t2 d4 d2 d16
    rw [t2, d4, d2, d16, u64n (by omega), u64n (by omega), u64n (by omega)]
    have t4 := tmod_n (w / 4) 4
    have t22 := tmod_n (w / 2) 2
    simp only [Int.cast_ofNat_Int] at t4 t22
    rw [t4, t22]
    by_cases c : w < 65536 ∧ w % 2 = 1 ∧ w / 4 % 4 = 0
    · rw [if_pos c, if_neg (by omega), if_pos (by omega), if_pos (by omega)]
      rw [show IntKind.u64.wrap (((w / 16 : Nat) : Int) * 16) = ((w / 16 * 16 : Nat) : Int) from by rw [u64w]; omega, w64 (by omega) (by omega)]
      congr 4
      rw [Bool.eq_iff_iff]; simp; omega
    · rw [if_neg c]
      by_cases c1 : w < 65536
      · rw [if_neg (by omega)]
        by_cases c2 : w % 2 = 1
        · rw [if_pos (by omega), if_neg (by omega)]
        · rw [if_neg (by omega)]
      · rw [if_pos (by omega)]
theorem rsplit_is (a : Int) (h1 : a ≤ 9223372036854775807) : donjonref12_Split.f a = some (if a < 0 ∨ a > 4095 then (0, 0, 0, 1) else (a / 256, a / 16 % 16, a % 16, 0)) := by
  unfold donjonref12_Split.f
  by_cases c : a < 0
  · rw [if_pos c, if_pos (Or.inl c)]
  · rw [if_neg c]
    by_cases c2 : a > 4095
    · rw [if_pos c2, if_pos (Or.inr c2)]
    · rw [if_neg c2, if_neg (by omega)]
      rw [Int.tdiv_eq_ediv_of_nonneg (by omega), Int.tdiv_eq_ediv_of_nonneg (by omega), w64 (n := a / 256) (by omega) (by omega), w64 (n := a / 16) (by omega) (by omega), Int.tmod_eq_emod_of_nonneg (by omega), Int.tmod_eq_emod_of_nonneg (by omega)]
--@import Derived.Test.YteeejhdciohelaaMPteWordsx2
theorem bcell {W w1 : World} (hb : Below W.heap.size W w1) : (∀ b o, b < W.heap.size → w1.cell? ⟨b, o, none⟩ = W.cell? ⟨b, o, none⟩) ∧ (∀ b o, b < W.heap.size → w1.frozen? ⟨b, o, none⟩ = W.frozen? ⟨b, o, none⟩) :=
  ⟨fun b o h => hb.cell (p := ⟨b, o, none⟩) h, fun b o h => hb.frozen (p := ⟨b, o, none⟩) h⟩
theorem all_same (v wr : Bool) (at_ : Int) (x : Nat) (hx : x < 18446744073709551616) (a : Int) (h1 : a ≤ 9223372036854775807) :
    (∃ r s, Aside0 (pte_Pack.f 10 v wr at_ = some (r, s)) ∧ Aside0 (donjonref12_Pack.f 10 v wr at_ = some (r, s))) ∧
    (∃ p q r s, Aside0 (pte_Unpack.f 10 x = some (p, q, r, s)) ∧ Aside0 (donjonref12_Unpack.f x = some (p, q, r, s))) ∧
    (∃ p q r s, Aside0 (pte_Split.f a = some (p, q, r, s)) ∧ Aside0 (donjonref12_Split.f a = some (p, q, r, s))) :=
  ⟨⟨_, _, ⟨pack_is (by omega) v wr at_⟩, ⟨rpack_is (by omega) v wr at_⟩⟩, ⟨_, _, _, _, ⟨unpack_is (by omega) hx⟩, ⟨runpack_is hx⟩⟩, ⟨_, _, _, _, ⟨split_is a h1⟩, ⟨rsplit_is a h1⟩⟩⟩
set_option maxHeartbeats 4000000 in
set_option maxRecDepth 100000 in
theorem PteWords.walk (v wr : Bool) (at_ : Int) (x a : Int) (w : World) (w0 : (Lit.int .i64 at_).wf = true) (w1 : (Lit.int .u64 x).wf = true) (w2 : (Lit.int .i64 a).wf = true) :
    Calls Try.prog 3 #[.agg #[.bool v, .bool wr, .int .i64 at_], .int .u64 x, .int .i64 a] w fun e w' => e = .returned (.bool true) ∧ Below w.heap.size w w' := by
  obtain ⟨x, rfl, hx⟩ := wu w1
  obtain ⟨a0, a1⟩ := wi w2
  obtain ⟨⟨r, s, A1, A2⟩, ⟨p1, p2, p3, p4, A3, A4⟩, ⟨q1, q2, q3, q4, A5, A6⟩⟩ := all_same v wr at_ x hx a a1
  clear w0 w1 w2 a0 a1 hx
  have hu23 := Try.underlying23
  have hu28 := Try.underlying28
  go_enter Try.func3, Try.ntmps3
  have N0 : Aside0 (Below w.heap.size w w) := ⟨Below.refl _ _⟩
  go_wp2_with (first
    | (go_at_call 7; (with_reducible refine (donjonlaw12_To.calls v wr at_ v wr at_ _ rfl).mono ?_); rintro e wa ⟨rfl, hb⟩; have Na := Aside0.mk (below_step (below_alloc N0.out _) hb); have Ka := Aside0.mk (blk_below (blk_new _ _) hb); clear hb)
    | (go_at_call 6; (with_reducible refine (pte_Pack.calls 10 v wr at_ r s _ A1.out).mono ?_); rintro e wb ⟨rfl, hb⟩; have Nb := Aside0.mk (below_step Na.out hb); have Kb := Aside0.mk (blk_below Ka.out hb); have c0 := blk_cell Kb.out 0; have c1 := blk_cell Kb.out 1; have c2 := blk_cell Kb.out 2; clear hb)
    | (go_at_call 8; (with_reducible refine (donjonref12_Pack.calls 10 v wr at_ r s _ A2.out).mono ?_); rintro e wc ⟨rfl, hb⟩; have Nc := Aside0.mk (below_step Nb.out hb); clear hb)
    | (go_at_call 9; (with_reducible refine (pte_Unpack.calls 10 x p1 p2 p3 p4 _ A3.out).mono ?_); rintro e wd ⟨rfl, hb⟩; have Nd := Aside0.mk (below_step Nc.out hb); clear hb)
    | (go_at_call 10; (with_reducible refine (donjonref12_Unpack.calls x p1 p2 p3 p4 _ A4.out).mono ?_); rintro e we ⟨rfl, hb⟩; have Ne := Aside0.mk (below_step (below_alloc Nd.out _) hb); have Ke := Aside0.mk (blk_below (blk_new _ _) hb); clear hb)
    | (go_at_call 11; (with_reducible refine (pte_Split.calls a q1 q2 q3 q4 _ A5.out).mono ?_); rintro e wf ⟨rfl, ⟨nd, rfl⟩⟩)
    | (go_at_call 12; (with_reducible refine (donjonref12_Split.calls a q1 q2 q3 q4 _ A6.out).mono ?_); rintro e wg ⟨rfl, ⟨nd, rfl⟩⟩)
    )
  have er : (r == r) = true := beq_self_eq_true r
  refine start_ (n := 40) (S := fun w' => w'.cell? ⟨wd.heap.size, 0, none⟩ = some (.bool p1) ∧ w'.cell? ⟨wd.heap.size, 1, none⟩ = some (.bool p2) ∧ w'.cell? ⟨wd.heap.size, 2, none⟩ = some (.int .i64 p3) ∧ w'.cell? ⟨we.heap.size, 0, none⟩ = some (.bool p1) ∧ w'.cell? ⟨we.heap.size, 1, none⟩ = some (.bool p2) ∧ w'.cell? ⟨we.heap.size, 2, none⟩ = some (.int .i64 p3)) (ds := []) #[false, false, false, false, false, false, false, false, false, false, false, false, false, false, false, false, false, false, false, false, false, false, false, false, false, false, false, false, false, false, false, false, false, false, false, false, false, false, false, false] (by kernel_rfl) rfl rfl ⟨blk_cell (blk_drew (blk_drewN (blk_alloc Ke.out _) _)) 0, blk_cell (blk_drew (blk_drewN (blk_alloc Ke.out _) _)) 1, blk_cell (blk_drew (blk_drewN (blk_alloc Ke.out _) _)) 2, blk_cell (blk_drew (blk_drewN (blk_new _ _) _)) 0, blk_cell (blk_drew (blk_drewN (blk_new _ _) _)) 1, blk_cell (blk_drew (blk_drewN (blk_new _ _) _)) 2⟩ (fun hHeld => ?_)
  refine pure_ (i := 0) (N := some 58) (v := ?_) (a' := ?_) #[true, false, false, false, false, false, false, false, false, false, false, false, false, false, false, false, false, false, false, false, false, false, false, false, false, false, false, false, false, false, false, false, false, false, false, false, false, false, false, false] rfl rfl (by kernel_rfl) (fun _ _ _ h => h) (Or.inl ⟨by rfl, ?_⟩) ?_ ?_
  rotate_left
  · intro w'
    go_simp
    with_reducible rfl
  rotate_left
  · simp only [Act.put, List.setIfInBounds_toArray, List.set_cons_zero, List.set_cons_succ, i64_w, i32_w]
    rfl
  refine pure_ (i := 1) (N := some 59) (v := ?_) (a' := ?_) #[true, true, false, false, false, false, false, false, false, false, false, false, false, false, false, false, false, false, false, false, false, false, false, false, false, false, false, false, false, false, false, false, false, false, false, false, false, false, false, false] rfl rfl (by kernel_rfl) (fun _ _ _ h => h) (Or.inl ⟨by rfl, ?_⟩) ?_ ?_
  rotate_left
  · intro w'
    go_simp
    with_reducible rfl
  rotate_left
  · simp only [Act.put, List.setIfInBounds_toArray, List.set_cons_zero, List.set_cons_succ, i64_w, i32_w]
    rfl
  refine pure_ (i := 2) (N := some 60) (v := ?_) (a' := ?_) #[true, true, true, false, false, false, false, false, false, false, false, false, false, false, false, false, false, false, false, false, false, false, false, false, false, false, false, false, false, false, false, false, false, false, false, false, false, false, false, false] rfl rfl (by kernel_rfl) (fun _ _ _ h => h) (Or.inl ⟨by rfl, ?_⟩) ?_ ?_
  rotate_left
  · intro w'
    go_simp
    with_reducible rfl
  rotate_left
  · simp only [Act.put, List.setIfInBounds_toArray, List.set_cons_zero, List.set_cons_succ, i64_w, i32_w]
    rfl
  refine pure_ (i := 3) (N := some 61) (v := ?_) (a' := ?_) #[true, true, true, true, false, false, false, false, false, false, false, false, false, false, false, false, false, false, false, false, false, false, false, false, false, false, false, false, false, false, false, false, false, false, false, false, false, false, false, false] rfl rfl (by kernel_rfl) (fun _ _ _ h => h) (Or.inl ⟨by rfl, ?_⟩) ?_ ?_
  rotate_left
  · intro w'
    go_simp
    with_reducible rfl
  rotate_left
  · simp only [Act.put, List.setIfInBounds_toArray, List.set_cons_zero, List.set_cons_succ, i64_w, i32_w]
    rfl
  refine pure_ (i := 4) (N := some 62) (v := ?_) (a' := ?_) #[true, true, true, true, true, false, false, false, false, false, false, false, false, false, false, false, false, false, false, false, false, false, false, false, false, false, false, false, false, false, false, false, false, false, false, false, false, false, false, false] rfl rfl (by kernel_rfl) (fun _ _ _ h => h) (Or.inl ⟨by rfl, ?_⟩) ?_ ?_
  rotate_left
  · intro w'
    go_simp
    with_reducible rfl
  rotate_left
  · simp only [Act.put, List.setIfInBounds_toArray, List.set_cons_zero, List.set_cons_succ, i64_w, i32_w]
    rfl
  refine pure_ (i := 5) (N := some 63) (v := ?_) (a' := ?_) #[true, true, true, true, true, true, false, false, false, false, false, false, false, false, false, false, false, false, false, false, false, false, false, false, false, false, false, false, false, false, false, false, false, false, false, false, false, false, false, false] rfl rfl (by kernel_rfl) (fun _ _ _ h => h) (Or.inl ⟨by rfl, ?_⟩) ?_ ?_
  rotate_left
  · intro w'
    go_simp
    with_reducible rfl
  rotate_left
  · simp only [Act.put, List.setIfInBounds_toArray, List.set_cons_zero, List.set_cons_succ, i64_w, i32_w]
    rfl
  refine pure_ (i := 6) (N := some 64) (v := ?_) (a' := ?_) #[true, true, true, true, true, true, true, false, false, false, false, false, false, false, false, false, false, false, false, false, false, false, false, false, false, false, false, false, false, false, false, false, false, false, false, false, false, false, false, false] rfl rfl (by kernel_rfl) (fun _ _ _ h => h) (Or.inl ⟨by rfl, ?_⟩) ?_ ?_
  rotate_left
  · intro w'
    go_simp
    with_reducible rfl
  rotate_left
  · simp only [Act.put, List.setIfInBounds_toArray, List.set_cons_zero, List.set_cons_succ, i64_w, i32_w]
    rfl
  refine pure_ (i := 7) (N := some 65) (v := ?_) (a' := ?_) #[true, true, true, true, true, true, true, true, false, false, false, false, false, false, false, false, false, false, false, false, false, false, false, false, false, false, false, false, false, false, false, false, false, false, false, false, false, false, false, false] rfl rfl (by kernel_rfl) (fun _ _ _ h => h) (Or.inl ⟨by rfl, ?_⟩) ?_ ?_
  rotate_left
  · intro w'
    go_simp
    with_reducible rfl
  rotate_left
  · simp only [Act.put, List.setIfInBounds_toArray, List.set_cons_zero, List.set_cons_succ, i64_w, i32_w]
    rfl
  refine pure_ (i := 8) (N := some 66) (v := ?_) (a' := ?_) #[true, true, true, true, true, true, true, true, true, false, false, false, false, false, false, false, false, false, false, false, false, false, false, false, false, false, false, false, false, false, false, false, false, false, false, false, false, false, false, false] rfl rfl (by kernel_rfl) (fun _ _ _ h => h) (Or.inl ⟨by rfl, ?_⟩) ?_ ?_
  rotate_left
  · intro w'
    go_simp
    with_reducible rfl
  rotate_left
  · simp only [Act.put, List.setIfInBounds_toArray, List.set_cons_zero, List.set_cons_succ, i64_w, i32_w]
    rfl
  refine take_ (i := 9) (N := some 67) (v := ?_) (a' := ?_) #[true, true, true, true, true, true, true, true, true, true, false, false, false, false, false, false, false, false, false, false, false, false, false, false, false, false, false, false, false, false, false, false, false, false, false, false, false, false, false, false] rfl rfl (by kernel_rfl) (fun _ _ _ h => h) (Or.inl ⟨by rfl, ?_⟩) hHeld ?_ ?_
  rotate_left
  · rintro w' ⟨s0, s1, s2, s3, s4, s5⟩
    go_simp
    with_reducible rfl
  rotate_left
  · simp only [Act.put, List.setIfInBounds_toArray, List.set_cons_zero, List.set_cons_succ, i64_w, i32_w]
    rfl
  refine take_ (i := 11) (N := some 69) (v := ?_) (a' := ?_) #[true, true, true, true, true, true, true, true, true, true, false, true, false, false, false, false, false, false, false, false, false, false, false, false, false, false, false, false, false, false, false, false, false, false, false, false, false, false, false, false] rfl rfl (by kernel_rfl) (fun _ _ _ h => h) (Or.inl ⟨by rfl, ?_⟩) hHeld ?_ ?_
  rotate_left
  · rintro w' ⟨s0, s1, s2, s3, s4, s5⟩
    go_simp
    with_reducible rfl
  rotate_left
  · simp only [Act.put, List.setIfInBounds_toArray, List.set_cons_zero, List.set_cons_succ, i64_w, i32_w]
    rfl
  refine one_ (i := 10) (N := some 68) #[true, true, true, true, true, true, true, true, true, true, true, true, false, false, false, false, false, false, false, false, false, false, false, false, false, false, false, false, false, false, false, false, false, false, false, false, false, false, false, false] rfl rfl (by kernel_rfl) (by decide) (fun K hK => ?_)
  refine goes_ Try.func13 (by kernel_rfl) rfl #[.agg #[.bool p1, .bool p2, .int .i64 p3]] (by rfl) rfl rfl (by simp only [List.map_toArray, List.map_cons, List.map_nil]; rfl) ?_
  with_reducible refine (donjonlaw12_From.calls p1 p2 p3 p1 p2 p3 _ rfl).mono ?_
  rintro e wh ⟨rfl, hb⟩
  refine ⟨_, rfl, ?_⟩
  refine hK.out _ _ ⟨pw_cell_below hb hHeld.1, pw_cell_below hb hHeld.2.1, pw_cell_below hb hHeld.2.2.1, pw_cell_below hb hHeld.2.2.2.1, pw_cell_below hb hHeld.2.2.2.2.1, pw_cell_below hb hHeld.2.2.2.2.2⟩ (fun hHeld => ?_)
  clear hK K
  refine norm_ (a' := ?_) ?_ ?_
  rotate_left
  · show Act.put _ (some 68) _ = _
    simp only [Act.put, List.setIfInBounds_toArray, List.set_cons_zero, List.set_cons_succ, i64_w, i32_w]
    rfl
  refine pure_ (i := 12) (N := some 70) (v := ?_) (a' := ?_) #[true, true, true, true, true, true, true, true, true, true, true, true, true, false, false, false, false, false, false, false, false, false, false, false, false, false, false, false, false, false, false, false, false, false, false, false, false, false, false, false] rfl rfl (by kernel_rfl) (fun _ _ _ h => h) (Or.inl ⟨by rfl, ?_⟩) ?_ ?_
  rotate_left
  · intro w'
    go_simp
    with_reducible rfl
  rotate_left
  · simp only [Act.put, List.setIfInBounds_toArray, List.set_cons_zero, List.set_cons_succ, i64_w, i32_w]
    rfl
  refine pure_ (i := 13) (N := some 71) (v := ?_) (a' := ?_) #[true, true, true, true, true, true, true, true, true, true, true, true, true, true, false, false, false, false, false, false, false, false, false, false, false, false, false, false, false, false, false, false, false, false, false, false, false, false, false, false] rfl rfl (by kernel_rfl) (fun _ _ _ h => h) (Or.inl ⟨by rfl, ?_⟩) ?_ ?_
  rotate_left
  · intro w'
    go_simp
    with_reducible rfl
  rotate_left
  · simp only [Act.put, List.setIfInBounds_toArray, List.set_cons_zero, List.set_cons_succ, i64_w, i32_w]
    rfl
  refine pure_ (i := 14) (N := some 72) (v := ?_) (a' := ?_) #[true, true, true, true, true, true, true, true, true, true, true, true, true, true, true, false, false, false, false, false, false, false, false, false, false, false, false, false, false, false, false, false, false, false, false, false, false, false, false, false] rfl rfl (by kernel_rfl) (fun _ _ _ h => h) (Or.inl ⟨by rfl, ?_⟩) ?_ ?_
  rotate_left
  · intro w'
    go_simp
    with_reducible rfl
  rotate_left
  · simp only [Act.put, List.setIfInBounds_toArray, List.set_cons_zero, List.set_cons_succ, i64_w, i32_w]
    rfl
  refine pure_ (i := 15) (N := some 73) (v := ?_) (a' := ?_) #[true, true, true, true, true, true, true, true, true, true, true, true, true, true, true, true, false, false, false, false, false, false, false, false, false, false, false, false, false, false, false, false, false, false, false, false, false, false, false, false] rfl rfl (by kernel_rfl) (fun _ _ _ h => h) (Or.inl ⟨by rfl, ?_⟩) ?_ ?_
  rotate_left
  · intro w'
    go_simp
    with_reducible rfl
  rotate_left
  · simp only [Act.put, List.setIfInBounds_toArray, List.set_cons_zero, List.set_cons_succ, i64_w, i32_w]
    rfl
  refine pure_ (i := 16) (N := some 74) (v := ?_) (a' := ?_) #[true, true, true, true, true, true, true, true, true, true, true, true, true, true, true, true, true, false, false, false, false, false, false, false, false, false, false, false, false, false, false, false, false, false, false, false, false, false, false, false] rfl rfl (by kernel_rfl) (fun _ _ _ h => h) (Or.inl ⟨by rfl, ?_⟩) ?_ ?_
  rotate_left
  · intro w'
    go_simp
    with_reducible rfl
  rotate_left
  · simp only [Act.put, List.setIfInBounds_toArray, List.set_cons_zero, List.set_cons_succ, i64_w, i32_w]
    rfl
  refine pure_ (i := 17) (N := some 75) (v := ?_) (a' := ?_) #[true, true, true, true, true, true, true, true, true, true, true, true, true, true, true, true, true, true, false, false, false, false, false, false, false, false, false, false, false, false, false, false, false, false, false, false, false, false, false, false] rfl rfl (by kernel_rfl) (fun _ _ _ h => h) (Or.inl ⟨by rfl, ?_⟩) ?_ ?_
  rotate_left
  · intro w'
    go_simp
    with_reducible rfl
  rotate_left
  · simp only [Act.put, List.setIfInBounds_toArray, List.set_cons_zero, List.set_cons_succ, i64_w, i32_w]
    rfl
  refine pure_ (i := 18) (N := some 76) (v := ?_) (a' := ?_) #[true, true, true, true, true, true, true, true, true, true, true, true, true, true, true, true, true, true, true, false, false, false, false, false, false, false, false, false, false, false, false, false, false, false, false, false, false, false, false, false] rfl rfl (by kernel_rfl) (fun _ _ _ h => h) (Or.inl ⟨by rfl, ?_⟩) ?_ ?_
  rotate_left
  · intro w'
    go_simp
    with_reducible rfl
  rotate_left
  · simp only [Act.put, List.setIfInBounds_toArray, List.set_cons_zero, List.set_cons_succ, i64_w, i32_w]
    rfl
  refine pure_ (i := 19) (N := some 77) (v := ?_) (a' := ?_) #[true, true, true, true, true, true, true, true, true, true, true, true, true, true, true, true, true, true, true, true, false, false, false, false, false, false, false, false, false, false, false, false, false, false, false, false, false, false, false, false] rfl rfl (by kernel_rfl) (fun _ _ _ h => h) (Or.inl ⟨by rfl, ?_⟩) ?_ ?_
  rotate_left
  · intro w'
    go_simp
    with_reducible rfl
  rotate_left
  · simp only [Act.put, List.setIfInBounds_toArray, List.set_cons_zero, List.set_cons_succ, i64_w, i32_w]
    rfl
  refine pure_ (i := 20) (N := some 78) (v := ?_) (a' := ?_) #[true, true, true, true, true, true, true, true, true, true, true, true, true, true, true, true, true, true, true, true, true, false, false, false, false, false, false, false, false, false, false, false, false, false, false, false, false, false, false, false] rfl rfl (by kernel_rfl) (fun _ _ _ h => h) (Or.inl ⟨by rfl, ?_⟩) ?_ ?_
  rotate_left
  · intro w'
    go_simp
    with_reducible rfl
  rotate_left
  · simp only [Act.put, List.setIfInBounds_toArray, List.set_cons_zero, List.set_cons_succ, i64_w, i32_w]
    rfl
  refine pure_ (i := 21) (N := some 79) (v := ?_) (a' := ?_) #[true, true, true, true, true, true, true, true, true, true, true, true, true, true, true, true, true, true, true, true, true, true, false, false, false, false, false, false, false, false, false, false, false, false, false, false, false, false, false, false] rfl rfl (by kernel_rfl) (fun _ _ _ h => h) (Or.inl ⟨by rfl, ?_⟩) ?_ ?_
  rotate_left
  · intro w'
    go_simp
    with_reducible rfl
  rotate_left
  · simp only [Act.put, List.setIfInBounds_toArray, List.set_cons_zero, List.set_cons_succ, i64_w, i32_w]
    rfl
  refine pure_ (i := 22) (N := some 80) (v := ?_) (a' := ?_) #[true, true, true, true, true, true, true, true, true, true, true, true, true, true, true, true, true, true, true, true, true, true, true, false, false, false, false, false, false, false, false, false, false, false, false, false, false, false, false, false] rfl rfl (by kernel_rfl) (fun _ _ _ h => h) (Or.inl ⟨by rfl, ?_⟩) ?_ ?_
  rotate_left
  · intro w'
    go_simp
    with_reducible rfl
  rotate_left
  · simp only [Act.put, List.setIfInBounds_toArray, List.set_cons_zero, List.set_cons_succ, i64_w, i32_w]
    rfl
  refine pure_ (i := 23) (N := some 81) (v := ?_) (a' := ?_) #[true, true, true, true, true, true, true, true, true, true, true, true, true, true, true, true, true, true, true, true, true, true, true, true, false, false, false, false, false, false, false, false, false, false, false, false, false, false, false, false] rfl rfl (by kernel_rfl) (fun _ _ _ h => h) (Or.inl ⟨by rfl, ?_⟩) ?_ ?_
  rotate_left
  · intro w'
    go_simp
    with_reducible rfl
  rotate_left
  · simp only [Act.put, List.setIfInBounds_toArray, List.set_cons_zero, List.set_cons_succ, i64_w, i32_w]
    rfl
  refine pure_ (i := 24) (N := some 82) (v := ?_) (a' := ?_) #[true, true, true, true, true, true, true, true, true, true, true, true, true, true, true, true, true, true, true, true, true, true, true, true, true, false, false, false, false, false, false, false, false, false, false, false, false, false, false, false] rfl rfl (by kernel_rfl) (fun _ _ _ h => h) (Or.inl ⟨by rfl, ?_⟩) ?_ ?_
  rotate_left
  · intro w'
    go_simp
    with_reducible rfl
  rotate_left
  · simp only [Act.put, List.setIfInBounds_toArray, List.set_cons_zero, List.set_cons_succ, i64_w, i32_w]
    rfl
  refine pure_ (i := 25) (N := some 83) (v := ?_) (a' := ?_) #[true, true, true, true, true, true, true, true, true, true, true, true, true, true, true, true, true, true, true, true, true, true, true, true, true, true, false, false, false, false, false, false, false, false, false, false, false, false, false, false] rfl rfl (by kernel_rfl) (fun _ _ _ h => h) (Or.inl ⟨by rfl, ?_⟩) ?_ ?_
  rotate_left
  · intro w'
    go_simp
    with_reducible rfl
  rotate_left
  · simp only [Act.put, List.setIfInBounds_toArray, List.set_cons_zero, List.set_cons_succ, i64_w, i32_w]
    rfl
  refine pure_ (i := 26) (N := some 84) (v := ?_) (a' := ?_) #[true, true, true, true, true, true, true, true, true, true, true, true, true, true, true, true, true, true, true, true, true, true, true, true, true, true, true, false, false, false, false, false, false, false, false, false, false, false, false, false] rfl rfl (by kernel_rfl) (fun _ _ _ h => h) (Or.inl ⟨by rfl, ?_⟩) ?_ ?_
  rotate_left
  · intro w'
    go_simp
    with_reducible rfl
  rotate_left
  · simp only [Act.put, List.setIfInBounds_toArray, List.set_cons_zero, List.set_cons_succ, i64_w, i32_w]
    rfl
  refine pure_ (i := 27) (N := some 85) (v := ?_) (a' := ?_) #[true, true, true, true, true, true, true, true, true, true, true, true, true, true, true, true, true, true, true, true, true, true, true, true, true, true, true, true, false, false, false, false, false, false, false, false, false, false, false, false] rfl rfl (by kernel_rfl) (fun _ _ _ h => h) (Or.inl ⟨by rfl, ?_⟩) ?_ ?_
  rotate_left
  · intro w'
    go_simp
    with_reducible rfl
  rotate_left
  · simp only [Act.put, List.setIfInBounds_toArray, List.set_cons_zero, List.set_cons_succ, i64_w, i32_w]
    rfl
  refine pure_ (i := 28) (N := some 86) (v := ?_) (a' := ?_) #[true, true, true, true, true, true, true, true, true, true, true, true, true, true, true, true, true, true, true, true, true, true, true, true, true, true, true, true, true, false, false, false, false, false, false, false, false, false, false, false] rfl rfl (by kernel_rfl) (fun _ _ _ h => h) (Or.inl ⟨by rfl, ?_⟩) ?_ ?_
  rotate_left
  · intro w'
    go_simp
    with_reducible rfl
  rotate_left
  · simp only [Act.put, List.setIfInBounds_toArray, List.set_cons_zero, List.set_cons_succ, i64_w, i32_w]
    rfl
  refine pure_ (i := 29) (N := some 87) (v := ?_) (a' := ?_) #[true, true, true, true, true, true, true, true, true, true, true, true, true, true, true, true, true, true, true, true, true, true, true, true, true, true, true, true, true, true, false, false, false, false, false, false, false, false, false, false] rfl rfl (by kernel_rfl) (fun _ _ _ h => h) (Or.inl ⟨by rfl, ?_⟩) ?_ ?_
  rotate_left
  · intro w'
    go_simp
    with_reducible rfl
  rotate_left
  · simp only [Act.put, List.setIfInBounds_toArray, List.set_cons_zero, List.set_cons_succ, i64_w, i32_w]
    rfl
  refine pure_ (i := 30) (N := some 88) (v := ?_) (a' := ?_) #[true, true, true, true, true, true, true, true, true, true, true, true, true, true, true, true, true, true, true, true, true, true, true, true, true, true, true, true, true, true, true, false, false, false, false, false, false, false, false, false] rfl rfl (by kernel_rfl) (fun _ _ _ h => h) (Or.inl ⟨by rfl, ?_⟩) ?_ ?_
  rotate_left
  · intro w'
    go_simp
    with_reducible rfl
  rotate_left
  · simp only [Act.put, List.setIfInBounds_toArray, List.set_cons_zero, List.set_cons_succ, i64_w, i32_w]
    rfl
  refine pure_ (i := 31) (N := some 89) (v := ?_) (a' := ?_) #[true, true, true, true, true, true, true, true, true, true, true, true, true, true, true, true, true, true, true, true, true, true, true, true, true, true, true, true, true, true, true, true, false, false, false, false, false, false, false, false] rfl rfl (by kernel_rfl) (fun _ _ _ h => h) (Or.inl ⟨by rfl, ?_⟩) ?_ ?_
  rotate_left
  · intro w'
    go_simp
    with_reducible rfl
  rotate_left
  · simp only [Act.put, List.setIfInBounds_toArray, List.set_cons_zero, List.set_cons_succ, i64_w, i32_w]
    rfl
  refine pure_ (i := 32) (N := some 90) (v := ?_) (a' := ?_) #[true, true, true, true, true, true, true, true, true, true, true, true, true, true, true, true, true, true, true, true, true, true, true, true, true, true, true, true, true, true, true, true, true, false, false, false, false, false, false, false] rfl rfl (by kernel_rfl) (fun _ _ _ h => h) (Or.inl ⟨by rfl, ?_⟩) ?_ ?_
  rotate_left
  · intro w'
    go_simp
    with_reducible rfl
  rotate_left
  · simp only [Act.put, List.setIfInBounds_toArray, List.set_cons_zero, List.set_cons_succ, i64_w, i32_w]
    rfl
  refine pure_ (i := 33) (N := some 91) (v := ?_) (a' := ?_) #[true, true, true, true, true, true, true, true, true, true, true, true, true, true, true, true, true, true, true, true, true, true, true, true, true, true, true, true, true, true, true, true, true, true, false, false, false, false, false, false] rfl rfl (by kernel_rfl) (fun _ _ _ h => h) (Or.inl ⟨by rfl, ?_⟩) ?_ ?_
  rotate_left
  · intro w'
    go_simp
    with_reducible rfl
  rotate_left
  · simp only [Act.put, List.setIfInBounds_toArray, List.set_cons_zero, List.set_cons_succ, i64_w, i32_w]
    rfl
  refine pure_ (i := 34) (N := some 92) (v := ?_) (a' := ?_) #[true, true, true, true, true, true, true, true, true, true, true, true, true, true, true, true, true, true, true, true, true, true, true, true, true, true, true, true, true, true, true, true, true, true, true, false, false, false, false, false] rfl rfl (by kernel_rfl) (fun _ _ _ h => h) (Or.inl ⟨by rfl, ?_⟩) ?_ ?_
  rotate_left
  · intro w'
    go_simp
    with_reducible rfl
  rotate_left
  · simp only [Act.put, List.setIfInBounds_toArray, List.set_cons_zero, List.set_cons_succ, i64_w, i32_w]
    rfl
  refine pure_ (i := 35) (N := some 93) (v := ?_) (a' := ?_) #[true, true, true, true, true, true, true, true, true, true, true, true, true, true, true, true, true, true, true, true, true, true, true, true, true, true, true, true, true, true, true, true, true, true, true, true, false, false, false, false] rfl rfl (by kernel_rfl) (fun _ _ _ h => h) (Or.inl ⟨by rfl, ?_⟩) ?_ ?_
  rotate_left
  · intro w'
    go_simp
    with_reducible rfl
  rotate_left
  · simp only [Act.put, List.setIfInBounds_toArray, List.set_cons_zero, List.set_cons_succ, i64_w, i32_w]
    rfl
  refine pure_ (i := 36) (N := some 94) (v := ?_) (a' := ?_) #[true, true, true, true, true, true, true, true, true, true, true, true, true, true, true, true, true, true, true, true, true, true, true, true, true, true, true, true, true, true, true, true, true, true, true, true, true, false, false, false] rfl rfl (by kernel_rfl) (fun _ _ _ h => h) (Or.inl ⟨by rfl, ?_⟩) ?_ ?_
  rotate_left
  · intro w'
    go_simp
    with_reducible rfl
  rotate_left
  · simp only [Act.put, List.setIfInBounds_toArray, List.set_cons_zero, List.set_cons_succ, i64_w, i32_w]
    rfl
  refine pure_ (i := 37) (N := some 95) (v := ?_) (a' := ?_) #[true, true, true, true, true, true, true, true, true, true, true, true, true, true, true, true, true, true, true, true, true, true, true, true, true, true, true, true, true, true, true, true, true, true, true, true, true, true, false, false] rfl rfl (by kernel_rfl) (fun _ _ _ h => h) (Or.inl ⟨by rfl, ?_⟩) ?_ ?_
  rotate_left
  · intro w'
    go_simp
    with_reducible rfl
  rotate_left
  · simp only [Act.put, List.setIfInBounds_toArray, List.set_cons_zero, List.set_cons_succ, i64_w, i32_w]
    rfl
  refine pure_ (i := 38) (N := some 96) (v := ?_) (a' := ?_) #[true, true, true, true, true, true, true, true, true, true, true, true, true, true, true, true, true, true, true, true, true, true, true, true, true, true, true, true, true, true, true, true, true, true, true, true, true, true, true, false] rfl rfl (by kernel_rfl) (fun _ _ _ h => h) (Or.inl ⟨by rfl, ?_⟩) ?_ ?_
  rotate_left
  · intro w'
    go_simp
    with_reducible rfl
  rotate_left
  · simp only [Act.put, List.setIfInBounds_toArray, List.set_cons_zero, List.set_cons_succ, i64_w, i32_w]
    rfl
  refine pure_ (i := 39) (N := some 6) (v := ?_) (a' := ?_) #[true, true, true, true, true, true, true, true, true, true, true, true, true, true, true, true, true, true, true, true, true, true, true, true, true, true, true, true, true, true, true, true, true, true, true, true, true, true, true, true] rfl rfl (by kernel_rfl) (fun _ _ _ h => h) (Or.inl ⟨by rfl, ?_⟩) ?_ ?_
  rotate_left
  · intro w'
    go_simp
    with_reducible rfl
  rotate_left
  · simp only [Act.put, List.setIfInBounds_toArray, List.set_cons_zero, List.set_cons_succ, i64_w, i32_w]
    rfl
  refine done_ (by kernel_rfl) ?_
  go_wp2
  go_ret
  exact ⟨rfl, below_step (below_drew (pw_below_drewN (below_alloc Ne.out _) _)) hb⟩
end Go.Proofs.Yteeejhdciohelaa.Pure
