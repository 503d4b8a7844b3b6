/- Plain numbers: words of 64 bits, their fields, shifts; no program in sight. -/
import Derived.Test.YtfcjlephhnddaaaWMore
namespace Go.Proofs.Ytfcjlephhnddaaa.Plain
open Go Go.RowKit Go.Proofs.YtfcjlephhnddaaaW.PrintWords Go.Proofs.YtfcjlephhnddaaaW.PrintLast Go.Proofs.YtfcjlephhnddaaaW.PrintMore
set_option linter.unusedVariables false
set_option linter.unusedSimpArgs false

theorem u64w (n : Int) : IntKind.u64.wrap n = n % 18446744073709551616 := by simp [IntKind.wrap, IntKind.bits, IntKind.signed]
theorem i64w (n : Int) : IntKind.i64.wrap n = wrap64 n := by
  unfold wrap64; simp [IntKind.wrap, IntKind.bits, IntKind.signed]; split <;> omega
theorem wu {a : Int} (h : (Lit.int .u64 a).wf = true) : ∃ n : Nat, a = (n : Int) ∧ n < 18446744073709551616 := by
  simp [Lit.wf, IntKind.min, IntKind.max, IntKind.signed, IntKind.bits] at h
  exact ⟨a.toNat, by omega, by omega⟩
theorem wi {a : Int} (h : (Lit.int .i64 a).wf = true) : -9223372036854775808 ≤ a ∧ a ≤ 9223372036854775807 := by
  simp [Lit.wf, IntKind.min, IntKind.max, IntKind.signed, IntKind.bits] at h
  omega
theorem w64 {n : Int} (h : -9223372036854775808 ≤ n) (h' : n ≤ 9223372036854775807) : wrap64 n = n := by unfold wrap64; omega
theorem u64n {n : Nat} (h : n < 18446744073709551616) : IntKind.u64.wrap (n : Int) = n := by rw [u64w]; omega

theorem band (a b : Nat) (ha : a < 18446744073709551616) (hb : b < 18446744073709551616) : Go.bits .and .u64 a b = ((a &&& b : Nat) : Int) := by
  have hl : a &&& b < 2 ^ 64 := Nat.and_lt_two_pow _ hb
  have ha' : a % 2 ^ 64 = a := Nat.mod_eq_of_lt ha
  have hb' : b % 2 ^ 64 = b := Nat.mod_eq_of_lt hb
  simp only [Go.bits, BitVec.ofInt_natCast, IntKind.bits]
  show IntKind.u64.wrap ((BitVec.ofNat 64 a &&& BitVec.ofNat 64 b).toNat : Int) = _
  rw [BitVec.toNat_and, BitVec.toNat_ofNat, BitVec.toNat_ofNat, ha', hb']
  exact u64n hl
theorem bor (a b : Nat) (ha : a < 18446744073709551616) (hb : b < 18446744073709551616) : Go.bits .or .u64 a b = ((a ||| b : Nat) : Int) := by
  have hl : a ||| b < 2 ^ 64 := Nat.or_lt_two_pow ha hb
  have ha' : a % 2 ^ 64 = a := Nat.mod_eq_of_lt ha
  have hb' : b % 2 ^ 64 = b := Nat.mod_eq_of_lt hb
  simp only [Go.bits, BitVec.ofInt_natCast, IntKind.bits]
  show IntKind.u64.wrap ((BitVec.ofNat 64 a ||| BitVec.ofNat 64 b).toNat : Int) = _
  rw [BitVec.toNat_or, BitVec.toNat_ofNat, BitVec.toNat_ofNat, ha', hb']
  exact u64n hl
theorem bxor (a b : Nat) (ha : a < 18446744073709551616) (hb : b < 18446744073709551616) : Go.bits .xor .u64 a b = ((a ^^^ b : Nat) : Int) := by
  have hl : a ^^^ b < 2 ^ 64 := Nat.xor_lt_two_pow ha hb
  have ha' : a % 2 ^ 64 = a := Nat.mod_eq_of_lt ha
  have hb' : b % 2 ^ 64 = b := Nat.mod_eq_of_lt hb
  simp only [Go.bits, BitVec.ofInt_natCast, IntKind.bits]
  show IntKind.u64.wrap ((BitVec.ofNat 64 a ^^^ BitVec.ofNat 64 b).toNat : Int) = _
  rw [BitVec.toNat_xor, BitVec.toNat_ofNat, BitVec.toNat_ofNat, ha', hb']
  exact u64n hl
/-- a without b's bits -/
def noN (a b : Nat) : Nat := a ^^^ (a &&& b)
theorem noN_test (a b i : Nat) : (noN a b).testBit i = (a.testBit i && !b.testBit i) := by
  unfold noN; rw [Nat.testBit_xor, Nat.testBit_and]; cases a.testBit i <;> cases b.testBit i <;> rfl
theorem noN_lt {a b : Nat} (ha : a < 18446744073709551616) : noN a b < 18446744073709551616 := by
  have h1 : noN a b < 2 ^ 64 := Nat.xor_lt_two_pow ha (Nat.lt_of_le_of_lt Nat.and_le_left ha)
  exact h1
theorem bnot (a b : Nat) (ha : a < 18446744073709551616) (hb : b < 18446744073709551616) : Go.bits .andNot .u64 a b = ((noN a b : Nat) : Int) := by
  have e : (BitVec.ofNat 64 a &&& ~~~ BitVec.ofNat 64 b).toNat = noN a b := by
    apply Nat.eq_of_testBit_eq
    intro i
    rw [noN_test, ← BitVec.getLsbD, BitVec.getLsbD_and, BitVec.getLsbD_not, BitVec.getLsbD_ofNat, BitVec.getLsbD_ofNat]
    by_cases hi : i < 64
    · simp [hi]
    · have h1 : a.testBit i = false := Nat.testBit_lt_two_pow (Nat.lt_of_lt_of_le ha (show 2 ^ 64 ≤ 2 ^ i from Nat.pow_le_pow_right (by decide) (by omega)))
      simp [hi, h1]
  simp only [Go.bits, BitVec.ofInt_natCast, IntKind.bits]
  show IntKind.u64.wrap ((BitVec.ofNat 64 a &&& ~~~ BitVec.ofNat 64 b).toNat : Int) = _
  rw [e]
  exact u64n (noN_lt ha)

theorem shl_n (v p : Nat) (hp : p ≤ 64) : shl .u64 (v : Int) (p : Int) = ((v * 2 ^ p % 18446744073709551616 : Nat) : Int) := by
  unfold shl
  rw [u64w, show min (p : Int).toNat IntKind.u64.bits = p from by simp only [IntKind.bits, Int.toNat_natCast]; omega]
  simp
theorem shr_n (v p : Nat) (hp : p ≤ 64) : shr .u64 (v : Int) (p : Int) = ((v / 2 ^ p : Nat) : Int) := by
  unfold shr
  rw [show min (p : Int).toNat IntKind.u64.bits = p from by simp only [IntKind.bits, Int.toNat_natCast]; omega]
  simp

theorem sub1_div (a b : Nat) (ha : 0 < a) (hb : 0 < b) : (a * b - 1) / b = a - 1 := by
  have h : a * b - 1 = (b - 1) + (a - 1) * b := by
    obtain ⟨a, rfl⟩ : ∃ m, a = m + 1 := ⟨a - 1, by omega⟩
    rw [Nat.succ_mul]; simp; omega
  rw [h, Nat.add_mul_div_right _ _ hb, Nat.div_eq_of_lt (by omega)]; omega
theorem ones_div (m : Nat) (hm : m ≤ 64) : 18446744073709551615 / 2 ^ (64 - m) = 2 ^ m - 1 := by
  have h := sub1_div (2 ^ m) (2 ^ (64 - m)) (Nat.two_pow_pos _) (Nat.two_pow_pos _)
  rw [← Nat.pow_add, show m + (64 - m) = 64 from by omega] at h
  exact h
theorem pow_le64 {m : Nat} (h : m ≤ 64) : 2 ^ m ≤ 18446744073709551616 := (show 2 ^ m ≤ 2 ^ 64 from Nat.pow_le_pow_right (by decide) h)
theorem pow_split (p m : Nat) (h : p + m ≤ 64) : 2 ^ p * 2 ^ m ≤ 18446744073709551616 := by rw [← Nat.pow_add]; exact pow_le64 h
theorem tb_lt {v m i : Nat} (h : v < 2 ^ m) (hi : m ≤ i) : v.testBit i = false := Nat.testBit_lt_two_pow (Nat.lt_of_lt_of_le h (Nat.pow_le_pow_right (by decide) hi))

/-- A field of a word, and a word with a field. -/
def getN (w p m : Nat) : Nat := w / 2 ^ p % 2 ^ m
def putN (w p m v : Nat) : Nat := 2 ^ p * (2 ^ m * (w / 2 ^ (p + m)) + v) + w % 2 ^ p

theorem getN_lt (w p m : Nat) : getN w p m < 2 ^ m := Nat.mod_lt _ (Nat.two_pow_pos _)
theorem getN_test (w p m i : Nat) : (getN w p m).testBit i = (decide (i < m) && w.testBit (p + i)) := by
  unfold getN
  rw [Nat.testBit_mod_two_pow, Nat.testBit_div_two_pow, Nat.add_comm i p]
theorem putN_test (w p m v i : Nat) (hv : v < 2 ^ m) : (putN w p m v).testBit i = if i < p then w.testBit i else if i < p + m then v.testBit (i - p) else w.testBit i := by
  unfold putN
  rw [Nat.testBit_two_pow_mul_add _ (Nat.mod_lt _ (Nat.two_pow_pos _)), Nat.testBit_two_pow_mul_add _ hv]
  by_cases h : i < p
  · rw [if_pos h, if_pos h, Nat.testBit_mod_two_pow]; simp [h]
  · rw [if_neg h, if_neg h]
    by_cases h2 : i < p + m
    · rw [if_pos h2, if_pos (by omega)]
    · rw [if_neg h2, if_neg (by omega), Nat.testBit_div_two_pow]; congr 1; omega
theorem lt64_of_test {a : Nat} (h : ∀ i, 64 ≤ i → a.testBit i = false) : a < 18446744073709551616 := by
  show a < 2 ^ 64
  exact Nat.lt_pow_two_of_testBit a fun i hi => h i hi
theorem test64 {a i : Nat} (h : a < 18446744073709551616) (hi : 64 ≤ i) : a.testBit i = false := tb_lt (m := 64) h hi
theorem putN_lt {w p m v : Nat} (hw : w < 18446744073709551616) (hv : v < 2 ^ m) (hpm : p + m ≤ 64) : putN w p m v < 18446744073709551616 := by
  apply lt64_of_test
  intro i hi
  rw [putN_test _ _ _ _ _ hv, if_neg (by omega), if_neg (by omega)]
  exact test64 hw hi
theorem getN_putN (w p m v : Nat) (hv : v < 2 ^ m) : getN (putN w p m v) p m = v := by
  apply Nat.eq_of_testBit_eq
  intro i
  rw [getN_test, putN_test _ _ _ _ _ hv]
  by_cases h : i < m
  · rw [if_neg (by omega), if_pos (by omega)]; simp [h]
  · simp [h]; rw [tb_lt hv (by omega)]
theorem putN_getN (w p m v : Nat) (hv : v < 2 ^ m) : putN (putN w p m v) p m (getN w p m) = w := by
  apply Nat.eq_of_testBit_eq
  intro i
  rw [putN_test _ _ _ _ _ (getN_lt _ _ _), getN_test, putN_test _ _ _ _ _ hv]
  by_cases h : i < p
  · simp [h]
  · by_cases h2 : i < p + m
    · simp [h, h2, show i - p < m from by omega, show p + (i - p) = i from by omega]
    · simp [h, h2]
theorem getN_putN_else (w p m v i : Nat) (hv : v < 2 ^ m) (hi : i < p ∨ p + m ≤ i) : getN (putN w p m v) i 1 = getN w i 1 := by
  apply Nat.eq_of_testBit_eq
  intro j
  rw [getN_test, getN_test, putN_test _ _ _ _ _ hv]
  by_cases h : j < 1
  · obtain rfl : j = 0 := by omega
    rcases hi with hi | hi
    · rw [if_pos (by omega)]
    · rw [if_neg (by omega), if_neg (by omega)]
  · simp [h]

/-- the word that is v's field alone, or'd into what is left of w -/
theorem or_put (w p m v : Nat) (hw : w < 18446744073709551616) (hv : v < 2 ^ m) (hpm : p + m ≤ 64) :
    noN w ((2 ^ m - 1) * 2 ^ p % 18446744073709551616) ||| (v * 2 ^ p % 18446744073709551616) = putN w p m v := by
  have hs := pow_split p m hpm
  have hp := Nat.two_pow_pos p
  have h1 : (2 ^ m - 1) * 2 ^ p < 18446744073709551616 := by
    have : (2 ^ m - 1) * 2 ^ p < 2 ^ m * 2 ^ p := Nat.mul_lt_mul_of_pos_right (by have := Nat.two_pow_pos m; omega) hp
    rw [Nat.mul_comm (2 ^ m)] at this; omega
  have h2 : v * 2 ^ p < 18446744073709551616 := by
    have : v * 2 ^ p < 2 ^ m * 2 ^ p := Nat.mul_lt_mul_of_pos_right hv hp
    rw [Nat.mul_comm (2 ^ m)] at this; omega
  rw [Nat.mod_eq_of_lt h1, Nat.mod_eq_of_lt h2]
  apply Nat.eq_of_testBit_eq
  intro i
  rw [Nat.testBit_or, noN_test, putN_test _ _ _ _ _ hv, Nat.mul_comm, Nat.testBit_two_pow_mul, Nat.mul_comm v, Nat.testBit_two_pow_mul, Nat.testBit_two_pow_sub_one]
  by_cases h : i < p
  · simp [h, show ¬ p ≤ i from by omega]
  · by_cases h3 : i < p + m
    · simp [h, h3, show p ≤ i from by omega, show i - p < m from by omega]
    · simp [h, h3, show p ≤ i from by omega, show ¬ i - p < m from by omega, tb_lt hv (show m ≤ i - p from by omega)]
theorem noN_mask (v m : Nat) : noN v (2 ^ m - 1) = 0 ↔ v < 2 ^ m := by
  constructor
  · intro h
    apply Nat.lt_pow_two_of_testBit
    intro i hi
    have := noN_test v (2 ^ m - 1) i
    rw [h, Nat.zero_testBit, Nat.testBit_two_pow_sub_one] at this
    simpa [show ¬ i < m from by omega] using this.symm
  · intro h
    apply Nat.eq_of_testBit_eq
    intro i
    rw [noN_test, Nat.zero_testBit, Nat.testBit_two_pow_sub_one]
    by_cases hi : i < m
    · simp [hi]
    · simp [tb_lt h (show m ≤ i from by omega)]
theorem and_mask (a m : Nat) : a &&& (2 ^ m - 1) = a % 2 ^ m := Nat.and_two_pow_sub_one_eq_mod a m
end Go.Proofs.Ytfcjlephhnddaaa.Plain
