/- Plain numbers, more: how many bits are 1, the highest and the lowest, multiples of powers of two. -/
import Derived.Test.YtfcjlephhnddaaaPlain
namespace Go.Proofs.Ytfcjlephhnddaaa.Plain
open Go Go.RowKit Go.Proofs.YtfcjlephhnddaaaW.PrintWords Go.Proofs.YtfcjlephhnddaaaW.PrintLast Go.Proofs.YtfcjlephhnddaaaW.PrintMore
set_option linter.unusedVariables false
set_option linter.unusedSimpArgs false

theorem noN_low (a k : Nat) : noN a (2 ^ k - 1) = a / 2 ^ k * 2 ^ k := by
  apply Nat.eq_of_testBit_eq
  intro i
  rw [noN_test, Nat.mul_comm, Nat.testBit_two_pow_mul, Nat.testBit_div_two_pow, Nat.testBit_two_pow_sub_one]
  by_cases h : i < k
  · simp [h, show ¬ k ≤ i from by omega]
  · simp [h, show k ≤ i from by omega, show i - k + k = i from by omega]
theorem bnot_i (a b : Nat) (ha : a < 9223372036854775808) (hb : b < 9223372036854775808) : Go.bits .andNot .i64 a b = ((noN a b : Nat) : Int) := by
  have e : (BitVec.ofNat 64 a &&& ~~~ BitVec.ofNat 64 b).toNat = noN a b := by
    apply Nat.eq_of_testBit_eq
    intro i
    rw [noN_test, ← BitVec.getLsbD, BitVec.getLsbD_and, BitVec.getLsbD_not, BitVec.getLsbD_ofNat, BitVec.getLsbD_ofNat]
    by_cases hi : i < 64
    · simp [hi]
    · have h1 : a.testBit i = false := tb_lt (m := 63) ha (by omega)
      simp [hi, h1]
  simp only [Go.bits, BitVec.ofInt_natCast, IntKind.bits]
  show IntKind.i64.wrap ((BitVec.ofNat 64 a &&& ~~~ BitVec.ofNat 64 b).toNat : Int) = _
  rw [e, i64w]
  have : noN a b < 2 ^ 63 := Nat.xor_lt_two_pow ha (Nat.lt_of_le_of_lt Nat.and_le_left ha)
  exact w64 (by omega) (by omega)
theorem shl_i (v p : Nat) (hp : p ≤ 64) (h : v * 2 ^ p < 9223372036854775808) : shl .i64 (v : Int) (p : Int) = ((v * 2 ^ p : Nat) : Int) := by
  unfold shl
  rw [i64w, show min (p : Int).toNat IntKind.i64.bits = p from by simp only [IntKind.bits, Int.toNat_natCast]; omega]
  rw [show ((v : Int) * 2 ^ p) = ((v * 2 ^ p : Nat) : Int) from by simp]
  exact w64 (by omega) (by omega)
/-- what is left of any number, as a number that is not below nought -/
theorem tmw (a m : Int) (h0 : 0 < m) (h1 : m ≤ 9223372036854775807) : ∃ n : Nat, (n : Int) < m ∧ wrap64 (Int.tmod (IntKind.u64.wrap a) m) = n := by
  have hu := u64w a
  have h2 : 0 ≤ IntKind.u64.wrap a := by omega
  have h3 := Int.emod_nonneg (IntKind.u64.wrap a) (show m ≠ 0 by omega)
  have h4 := Int.emod_lt_of_pos (IntKind.u64.wrap a) h0
  refine ⟨(IntKind.u64.wrap a % m).toNat, by omega, ?_⟩
  rw [Int.tmod_eq_emod_of_nonneg h2, w64 (by omega) (by omega)]; omega
theorem tmod_n (a m : Nat) : Int.tmod (a : Int) (m : Int) = ((a % m : Nat) : Int) := by
  rw [Int.tmod_eq_emod_of_nonneg (by omega)]; rfl
theorem tdiv_n (a m : Nat) : Int.tdiv (a : Int) (m : Int) = ((a / m : Nat) : Int) := by
  rw [Int.tdiv_eq_ediv_of_nonneg (by omega)]; rfl

/-- how many of the d lowest bits are 1 -/
def popL : Nat → Nat → Nat
  | 0, _ => 0
  | d + 1, w => w % 2 + popL d (w / 2)
theorem popL_le (d : Nat) : ∀ w, popL d w ≤ d := by
  induction d with
  | zero => intro w; simp [popL]
  | succ d ih => intro w; have := ih (w / 2); simp only [popL]; omega
theorem popL_zero (d : Nat) : popL d 0 = 0 := by
  induction d with
  | zero => rfl
  | succ d ih => simp only [popL]; rw [show (0 : Nat) / 2 = 0 from rfl, ih]
theorem popL_pos {d : Nat} : ∀ {w : Nat}, w ≠ 0 → w < 2 ^ d → 0 < popL d w := by
  induction d with
  | zero => intro w h0 h; simp at h; omega
  | succ d ih =>
    intro w h0 h
    simp only [popL]
    by_cases c : w / 2 = 0
    · omega
    · have := ih c (by rw [Nat.pow_succ] at h; omega); omega
theorem and_half (a b : Nat) : (a &&& b) / 2 = (a / 2) &&& (b / 2) := by
  apply Nat.eq_of_testBit_eq; intro i; simp only [Nat.testBit_div_two, Nat.testBit_and]
theorem or_half (a b : Nat) : (a ||| b) / 2 = (a / 2) ||| (b / 2) := by
  apply Nat.eq_of_testBit_eq; intro i; simp only [Nat.testBit_div_two, Nat.testBit_or]
theorem xor_half (a b : Nat) : (a ^^^ b) / 2 = (a / 2) ^^^ (b / 2) := by
  apply Nat.eq_of_testBit_eq; intro i; simp only [Nat.testBit_div_two, Nat.testBit_xor]
theorem mod2_tb (a : Nat) : a % 2 = (a.testBit 0).toNat := by
  rw [Nat.testBit_zero]
  by_cases h : a % 2 = 1
  · simp [h]
  · simp [h]; omega
/-- the lowest bit that is 1, taken away -/
theorem popL_drop (d : Nat) : ∀ w, w ≠ 0 → w < 2 ^ d → popL d (w &&& (w - 1)) + 1 = popL d w := by
  induction d with
  | zero => intro w h0 h; simp at h; omega
  | succ d ih =>
    intro w h0 h
    simp only [popL]
    rw [and_half, mod2_tb (w &&& (w - 1)), Nat.testBit_and, Nat.testBit_zero, Nat.testBit_zero]
    by_cases c : w % 2 = 1
    · have e1 : (w - 1) / 2 = w / 2 := by omega
      have e2 : (w - 1) % 2 = 0 := by omega
      rw [e1, e2, Nat.and_self]; simp [c]; omega
    · have e1 : (w - 1) / 2 = w / 2 - 1 := by omega
      have e2 : w % 2 = 0 := by omega
      have h3 := ih (w / 2) (by omega) (by rw [Nat.pow_succ] at h; omega)
      rw [e1, e2]; simp; omega
theorem popL_or (d : Nat) : ∀ a b, popL d a + popL d b = popL d (a ||| b) + popL d (a &&& b) := by
  induction d with
  | zero => intro a b; rfl
  | succ d ih =>
    intro a b
    simp only [popL]
    have := ih (a / 2) (b / 2)
    rw [or_half, and_half, mod2_tb (a ||| b), mod2_tb (a &&& b), mod2_tb a, mod2_tb b, Nat.testBit_or, Nat.testBit_and]
    cases a.testBit 0 <;> cases b.testBit 0 <;> simp <;> omega
theorem popL_xor (d : Nat) : ∀ a b, popL d (a ^^^ b) + popL d (a &&& b) = popL d (a ||| b) := by
  induction d with
  | zero => intro a b; rfl
  | succ d ih =>
    intro a b
    simp only [popL]
    have := ih (a / 2) (b / 2)
    rw [or_half, and_half, xor_half, mod2_tb (a ||| b), mod2_tb (a &&& b), mod2_tb (a ^^^ b), Nat.testBit_or, Nat.testBit_and, Nat.testBit_xor]
    cases a.testBit 0 <;> cases b.testBit 0 <;> simp <;> omega
/-- the highest bit that is 1; -1: none -/
def hi (w : Nat) : Int := if w = 0 then -1 else (Nat.log2 w : Int)
theorem hi_top {w d : Nat} (h : w < 2 ^ (d + 1)) (h2 : 2 ^ d ≤ w) : hi w = d := by
  have hp := Nat.two_pow_pos d
  unfold hi; rw [if_neg (by omega), (Nat.log2_eq_iff (by omega)).2 ⟨h2, h⟩]
theorem hi_div {w : Nat} (h : w ≠ 0) : ∃ d : Nat, hi w = d ∧ 2 ^ d ≤ w ∧ w < 2 ^ (d + 1) := by
  refine ⟨w.log2, by unfold hi; rw [if_neg h], ?_⟩
  exact (Nat.log2_eq_iff h).1 rfl
end Go.Proofs.Ytfcjlephhnddaaa.Plain
