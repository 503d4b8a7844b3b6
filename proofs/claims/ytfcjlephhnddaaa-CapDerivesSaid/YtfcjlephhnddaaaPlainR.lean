/- Plain numbers, more: what is no number from 0 to 7 has a bit beside the three lowest. -/
import Derived.Test.YtfcjlephhnddaaaPlainB
namespace Go.Proofs.Ytfcjlephhnddaaa.Plain
open Go Go.RowKit Go.Proofs.YtfcjlephhnddaaaW.PrintWords Go.Proofs.YtfcjlephhnddaaaW.PrintLast Go.Proofs.YtfcjlephhnddaaaW.PrintMore
set_option linter.unusedVariables false
set_option linter.unusedSimpArgs false

theorem bnot_any (a : Int) (b : Nat) (hb : b < 9223372036854775808) : Go.bits .andNot .i64 a b = wrap64 ((noN (a % 18446744073709551616).toNat b : Nat) : Int) := by
  have hn : (a % 18446744073709551616).toNat < 18446744073709551616 := by omega
  have e0 : BitVec.ofInt 64 a = BitVec.ofNat 64 (a % 18446744073709551616).toNat := by
    apply BitVec.eq_of_toNat_eq
    rw [BitVec.toNat_ofInt, BitVec.toNat_ofNat, Nat.mod_eq_of_lt (show _ < 2 ^ 64 from hn)]
    rfl
  have e : (BitVec.ofNat 64 (a % 18446744073709551616).toNat &&& ~~~ BitVec.ofNat 64 b).toNat = noN (a % 18446744073709551616).toNat b := by
    revert hn; generalize (a % 18446744073709551616).toNat = n; intro hn
    apply Nat.eq_of_testBit_eq
    intro i
    rw [noN_test, ← BitVec.getLsbD, BitVec.getLsbD_and, BitVec.getLsbD_not, BitVec.getLsbD_ofNat, BitVec.getLsbD_ofNat]
    by_cases hi : i < 64
    · simp [hi]
    · have h1 : n.testBit i = false := tb_lt (m := 64) hn (by omega)
      simp [hi, h1]
  simp only [Go.bits, BitVec.ofInt_natCast, IntKind.bits]
  show IntKind.i64.wrap ((BitVec.ofInt 64 a &&& ~~~ BitVec.ofNat 64 b).toNat : Int) = _
  rw [e0, e, i64w]
theorem three_bits {a : Int} (h0 : -9223372036854775808 ≤ a) (h1 : a ≤ 9223372036854775807) : Go.bits .andNot .i64 a 7 = 0 ↔ 0 ≤ a ∧ a ≤ 7 := by
  have e := bnot_any a 7 (by omega)
  rw [show ((7 : Nat) : Int) = 7 from rfl] at e
  rw [e, show (7 : Nat) = 2 ^ 3 - 1 from rfl, noN_low, show (2 : Nat) ^ 3 = 8 from rfl]
  unfold wrap64
  omega
end Go.Proofs.Ytfcjlephhnddaaa.Plain
