/- The plain law: over numbers and lists alone, what the functions of BitsTogether compute answers true at every input. -/
import Derived.Test.YtgbpomcfmcnklaaMBitsTogetherx1
import Derived.Test.YtgbpomcfmcnklaaPlain
import Derived.Test.YtgbpomcfmcnklaaPlainB
namespace Go.Proofs.Ytgbpomcfmcnklaa.Pure
open Go Go.RowKit Go.Proofs.Ytgbpomcfmcnklaa.PBitsTogether Go.Proofs.YtgbpomcfmcnklaaW.PrintWords Go.Proofs.YtgbpomcfmcnklaaW.PrintLast Go.Proofs.YtgbpomcfmcnklaaW.PrintMore Go.Proofs.Ytgbpomcfmcnklaa.Plain
set_option linter.unusedVariables false
set_option linter.unusedSimpArgs false
theorem and1 (a : Nat) : a &&& 1 = (a.testBit 0).toNat := by
  rw [← mod2_tb]; exact Nat.and_one_is_mod a
theorem ones_loop {D : Nat} (hD : D ≤ 64) (d : Nat) : ∀ (w n k : Nat), w < 2 ^ D → popL D w = d → d + n ≤ 64 → d < k → bits_Ones.l0 k w n = some ((n + d : Nat) : Int) := by
  have hD2 := pow_le64 hD
  induction d with
  | zero =>
    intro w n k hw hp hn hk
    obtain ⟨k, rfl⟩ : ∃ m, k = m + 1 := ⟨k - 1, by omega⟩
    simp only [bits_Ones.l0]
    have : w = 0 := by
      apply Decidable.byContradiction; intro c
      have := popL_pos c hw
      omega
    subst this
    simp
  | succ d ih =>
    intro w n k hw hp hn hk
    obtain ⟨k, rfl⟩ : ∃ m, k = m + 1 := ⟨k - 1, by omega⟩
    have h0 : w ≠ 0 := by intro c; rw [c, popL_zero] at hp; omega
    have hd := popL_drop D w h0 hw
    have hw64 : w < 18446744073709551616 := Nat.lt_of_lt_of_le hw hD2
    simp only [bits_Ones.l0]
    have e1 : IntKind.u64.wrap ((w : Int) - 1) = ((w - 1 : Nat) : Int) := by rw [u64w]; omega
    have hl : w &&& (w - 1) < 2 ^ D := Nat.lt_of_le_of_lt Nat.and_le_left hw
    rw [if_neg (by omega), e1, band _ _ hw64 (by omega), w64 (by omega) (by omega)]
    have := ih (w &&& (w - 1)) (n + 1) k hl (by omega) (by omega) (by omega)
    rw [show (n : Int) + 1 = ((n + 1 : Nat) : Int) from by omega, this]
    congr 2; omega
theorem ones_yes {w k : Nat} (hw : w < 18446744073709551616) (hk : 64 < k) : bits_Ones.f k w = some ((popL 64 w : Nat) : Int) := by
  unfold bits_Ones.f
  have hw2 : w < 2 ^ 64 := hw
  have key : ∀ D : Nat, D = 64 → w < 2 ^ D → bits_Ones.l0 k w 0 = some ((popL D w : Nat) : Int) := by
    intro D hD hw3
    have := popL_le D w
    have h := ones_loop (D := D) (by omega) (popL D w) w 0 k hw3 rfl (by omega) (by omega)
    rw [Nat.zero_add] at h; exact h
  exact key 64 rfl hw2
theorem works_yes : donjonlaw01_works.f 100 = some true := by kernel_rfl
/-- how many bits are 1, by what it says alone -/
theorem some_pop {k : Nat} (hk : 64 < k) : ∃ p : Nat → Nat, (∀ w : Nat, w < 18446744073709551616 → bits_Ones.f k w = some ((p w : Nat) : Int)) ∧ (∀ w, p w ≤ 64) ∧ (∀ a b, p a + p b = p (a ||| b) + p (a &&& b)) ∧ (∀ a b, p (a ^^^ b) + p (a &&& b) = p (a ||| b)) :=
  ⟨popL 64, fun w hw => ones_yes hw (by omega), popL_le 64, popL_or 64, popL_xor 64⟩
theorem together_at {k a b : Nat} (hk : 64 < k) (ha : a < 18446744073709551616) (hb : b < 18446744073709551616) (hworks : donjonlaw01_works.f k = some true) :
    donjonlaw01_BitsTogether.f k a b = some true := by
  unfold donjonlaw01_BitsTogether.f
  have l1 : a ||| b < 18446744073709551616 := Nat.or_lt_two_pow (n := 64) ha hb
  have l2 : a &&& b < 18446744073709551616 := Nat.and_lt_two_pow (n := 64) _ hb
  have l3 : a ^^^ b < 18446744073709551616 := Nat.xor_lt_two_pow (n := 64) ha hb
  obtain ⟨p, hp, ple, por, pxor⟩ := some_pop hk
  have p1 := por a b
  have p2 := pxor a b
  have b1 := ple a
  have b2 := ple b
  have b3 := ple (a ||| b)
  have b4 := ple (a &&& b)
  rw [hworks]
  simp only [Option.bind_some, if_true]
  rw [bor _ _ ha hb, band _ _ ha hb, bxor _ _ ha hb, hp _ ha, hp _ hb, hp _ l1, hp _ l2, hp _ l3]
  rw [Option.bind_some, Option.bind_some, Option.bind_some, Option.bind_some, w64 (n := (p a : Int) + p b) (by omega) (by omega), w64 (n := (p (a ||| b) : Int) + p (a &&& b)) (by omega) (by omega), if_pos (by omega), Option.bind_some, Option.bind_some, Option.bind_some, w64 (n := (p (a ||| b) : Int) - p (a &&& b)) (by omega) (by omega)]
  have e : (p (a ^^^ b) : Int) = (p (a ||| b) : Int) - p (a &&& b) := by omega
  rw [e, beq_self_eq_true]
theorem BitsTogether : donjonlaw01_BitsTogether.Pure := by
  intro a b ha' hb'
  obtain ⟨a, rfl, ha⟩ := wu ha'
  obtain ⟨b, rfl, hb⟩ := wu hb'
  exact ⟨100, together_at (by omega) ha hb works_yes⟩
end Go.Proofs.Ytgbpomcfmcnklaa.Pure
