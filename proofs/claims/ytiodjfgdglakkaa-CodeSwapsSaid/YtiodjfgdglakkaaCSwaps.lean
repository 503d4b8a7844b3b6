/- The law CodeSwaps, walked. -/
import Derived.Test.YtiodjfgdglakkaaCV
set_option linter.unusedVariables false
set_option linter.unusedSimpArgs false
set_option maxRecDepth 100000
namespace Go.Proofs.Ytiodjfgdglakkaa.Wlk
open Go Go.Eng Go.Proofs Go.RowKit
theorem t_swaps (V : VF) (a b : Int) (k : Res → Option Res) : runG Try.prog (sG V) 100 9 [aint .u64 a, aint .u64 b] [] k = (cond (inI 8 && inI 0 && inI 1 && inI 0 && inI 0 && Go.Proofs.Ytiodjfgdglakkaa.Wlk.words [a, b, 0, 0, 0, 0, 0, 0]) (cond (inI 8 && inI 1 && inI 0 && inI 0 && inI 1 && Go.Proofs.Ytiodjfgdglakkaa.Wlk.words [V 8 a b 0, b, 0, 0, 0, 0, 0, 0]) (cond (inI 8 && inI 0 && inI 1 && inI 0 && inI (Int.tmod (IntKind.wrap IntKind.i64 (1 + 1)) 4096) && Go.Proofs.Ytiodjfgdglakkaa.Wlk.words [V 8 a b 0, V 8 b (V 8 a b 0) 0, 0, 0, 0, 0, 0, 0]) (cond (inI 6 && inI 0 && inI 1 && inI 0 && inI 0 && Go.Proofs.Ytiodjfgdglakkaa.Wlk.words [a, b, 0, 0, 0, 0, 0, 0]) (cond (inI 7 && inI 0 && inI 1 && inI 0 && inI 0 && Go.Proofs.Ytiodjfgdglakkaa.Wlk.words [a, b, 0, 0, 0, 0, 0, 0]) (cond (V 8 (V 8 a b 0) (V 8 b (V 8 a b 0) 0) 0 == b && (V 8 b (V 8 a b 0) 0 == a && (0 == 0 && (0 == 0 && (0 == 0 && (0 == 0 && (0 == 0 && (0 == 0 && true)))))))) (k (Res.mk (AV.e (AE.c (AC.bool (IntKind.wrap IntKind.u64 (V 6 a b 0 + V 7 a b 0) == IntKind.wrap IntKind.u64 (a + b))))) [])) (k (Res.mk (AV.e (AE.c (AC.bool false))) []))) none) none) none) none) none) := by kernel_rfl
theorem and_or_add : ∀ (k n q : Nat), n < 2 ^ k → q < 2 ^ k → (n &&& q) + (n ||| q) = n + q
  | 0, n, q, h1, h2 => by
    obtain rfl : n = 0 := by simpa using h1
    obtain rfl : q = 0 := by simpa using h2
    rfl
  | k + 1, n, q, h1, h2 => by
    have ih := and_or_add k (n / 2) (q / 2) (by rw [Nat.pow_succ] at h1; omega) (by rw [Nat.pow_succ] at h2; omega)
    rw [← Nat.and_div_two, ← Nat.or_div_two] at ih
    have a1 : (n &&& q) % 2 = 1 ↔ n % 2 = 1 ∧ q % 2 = 1 := Nat.and_mod_two_eq_one
    have a2 : (n ||| q) % 2 = 1 ↔ n % 2 = 1 ∨ q % 2 = 1 := Nat.or_mod_two_eq_one
    omega
theorem xor_valR (n q : Nat) (hn : n < 18446744073709551616) (hq : q < 18446744073709551616) : valR 8 n q 0 = ((n ^^^ q : Nat) : Int) := bxor n q hn hq
theorem and_valR (n q : Nat) (hn : n < 18446744073709551616) (hq : q < 18446744073709551616) : valR 6 n q 0 = ((n &&& q : Nat) : Int) := band n q hn hq
theorem or_valR (n q : Nat) (hn : n < 18446744073709551616) (hq : q < 18446744073709551616) : valR 7 n q 0 = ((n ||| q : Nat) : Int) := bor n q hn hq
theorem words8 {a b : Int} (ha : word a = true) (hb : word b = true) : words [a, b, 0, 0, 0, 0, 0, 0] = true := by
  simp only [words, List.all_cons, List.all_nil, ha, hb, show word 0 = true from by decide, Bool.and_self]
theorem swaps_walk (a b : Int) (W : World) (h0 : (Lit.int .u64 a).wf = true) (h1 : (Lit.int .u64 b).wf = true) :
    Calls Try.prog 9 #[.int .u64 a, .int .u64 b] W fun e w' => e = .returned (.bool true) ∧ Below W.heap.size W w' := by
  refine of_nums (args := [aint .u64 a, aint .u64 b]) (blks := []) (runG_sound sG_ok mix 100 9) (LR.cons rfl (LR.cons rfl LR.nil)) ((t_swaps valR a b some).trans ?_)
  obtain ⟨n, rfl, hn⟩ := word_spec (wfW h0)
  obtain ⟨q, rfl, hq⟩ := word_spec (wfW h1)
  have hx : n ^^^ q < 18446744073709551616 := Nat.xor_lt_two_pow (n := 64) hn hq
  have e1 : q ^^^ (n ^^^ q) = n := by rw [Nat.xor_comm n q, ← Nat.xor_assoc, Nat.xor_self, Nat.zero_xor]
  have e2 : (n ^^^ q) ^^^ n = q := by rw [Nat.xor_comm n q, Nat.xor_assoc, Nat.xor_self, Nat.xor_zero]
  have wn : ∀ m : Nat, m < 18446744073709551616 → word (m : Int) = true := fun m h => by simp only [word, Bool.and_eq_true, decide_eq_true_eq]; omega
  rw [xor_valR n q hn hq, xor_valR q _ hq hx, e1, xor_valR _ n hx hn, e2, and_valR n q hn hq, or_valR n q hn hq]
  rw [words8 (wn _ hn) (wn _ hq), words8 (wn _ hx) (wn _ hq), words8 (wn _ hx) (wn _ hn)]
  have e3 : ((n &&& q : Nat) : Int) + ((n ||| q : Nat) : Int) = (n : Int) + (q : Int) := by
    have := and_or_add 64 n q hn hq
    omega
  rw [e3]
  simp only [show inI 8 = true from by decide, show inI 7 = true from by decide, show inI 6 = true from by decide, show inI 0 = true from by decide, show inI 1 = true from by decide, show inI (Int.tmod (IntKind.wrap IntKind.i64 (1 + 1)) 4096) = true from by decide, Bool.and_self, cond_true, beq_self_eq_true]
end Go.Proofs.Ytiodjfgdglakkaa.Wlk
