/- What the functions compute, over numbers and lists alone, and the law's walk over it. -/
import Derived.Test.YtfcjlephhnddaaaRef2
import Derived.Test.YtfcjlephhnddaaaRefW1
import Derived.Test.YtfcjlephhnddaaaPureCap
import Derived.Test.YtfcjlephhnddaaaPlain
import Derived.Test.YtfcjlephhnddaaaPlainB
import Derived.Test.YtfcjlephhnddaaaPlainR
namespace Go.Proofs.Ytfcjlephhnddaaa.Pure
open Go Go.RowKit Go.Proofs.YtfcjlephhnddaaaW.PrintWords Go.Proofs.YtfcjlephhnddaaaW.PrintLast Go.Proofs.YtfcjlephhnddaaaW.PrintMore Go.Proofs.Ytfcjlephhnddaaa.Plain Go.Proofs.Ytfcjlephhnddaaa.Base Go.Proofs.Ytfcjlephhnddaaa.Given Go.Proofs.Ytfcjlephhnddaaa.Weak Go.Proofs.Ytfcjlephhnddaaa.Wrk Go.Proofs.Ytfcjlephhnddaaa.Ref Go.Proofs.Ytfcjlephhnddaaa.RefW Go.Proofs.Ytfcjlephhnddaaa.Pure
set_option linter.unusedVariables false
set_option linter.unusedSimpArgs false
theorem bit_at {w i : Nat} (hi : i ≤ 64) : donjonref01_Bit.f w i = some (w.testBit i) := by
  unfold donjonref01_Bit.f
  rw [if_pos (by omega), shr_n _ _ hi, Nat.testBit_eq_decide_div_mod_eq]
  congr 1
  rw [Bool.eq_iff_iff]
  simp only [beq_iff_eq, decide_eq_true_eq]
  generalize w / 2 ^ i = q
  rw [Int.tmod_eq_emod_of_nonneg (by omega)]
  omega
theorem rfield_yes {p m : Nat} (h1 : 1 ≤ m) (h : p + m ≤ 64) : donjonref01_field.f p m = some true := by
  unfold donjonref01_field.f
  rw [if_pos (by omega), if_pos (by omega), if_pos (by omega), w64 (by omega) (by omega)]
  simp; omega
theorem rfield_no {p m : Int} (h : ¬ (1 ≤ m ∧ 0 ≤ p ∧ p + m ≤ 64)) : donjonref01_field.f p m = some false := by
  unfold donjonref01_field.f
  by_cases a : m ≥ 1
  · rw [if_pos a]
    by_cases b : m ≤ 64
    · rw [if_pos b, w64 (by omega) (by omega)]
      by_cases c : p ≥ 0
      · rw [if_pos c]; simp; omega
      · rw [if_neg c]
    · rw [if_neg b]
  · rw [if_neg a]
/-- a word, one bit more of it -/
theorem grow_bit (X d : Nat) : X / 2 ^ d = X / 2 ^ (d + 1) * 2 + (X.testBit d).toNat := by
  rw [Nat.testBit_eq_decide_div_mod_eq, Nat.pow_succ, ← Nat.div_div_eq_div_mul]
  have := Nat.div_add_mod (X / 2 ^ d) 2
  by_cases h : X / 2 ^ d % 2 = 1
  · simp [h]; omega
  · simp [h]; omega
theorem grow_wrap (X d : Nat) (hX : X < 18446744073709551616) (b : Bool) (hb : X.testBit d = b) :
    (if b = true then IntKind.u64.wrap (IntKind.u64.wrap (((X / 2 ^ (d + 1) : Nat) : Int) * 2) + 1) else IntKind.u64.wrap (((X / 2 ^ (d + 1) : Nat) : Int) * 2)) = ((X / 2 ^ d : Nat) : Int) := by
  have g := grow_bit X d
  have hl : X / 2 ^ d < 18446744073709551616 := Nat.lt_of_le_of_lt (Nat.div_le_self _ _) hX
  rw [hb] at g
  revert g hl
  generalize X / 2 ^ d = a
  generalize X / 2 ^ (d + 1) = c
  intro g hl
  cases b
  · simp at g ⊢; rw [u64w]; omega
  · simp at g ⊢; rw [u64w, u64w]; omega
theorem rget_loop {w p m : Nat} (hm : p + m ≤ 64) (d : Nat) : ∀ k, d ≤ m → d < k → donjonref01_Get.l0 k w p ((getN w p m / 2 ^ d : Nat) : Int) ((d : Int) - 1) = some ((getN w p m : Int), 0) := by
  have hX : getN w p m < 18446744073709551616 := Nat.lt_of_lt_of_le (getN_lt w p m) (pow_le64 (by omega))
  induction d with
  | zero =>
    intro k _ hk
    obtain ⟨k, rfl⟩ : ∃ m, k = m + 1 := ⟨k - 1, by omega⟩
    simp only [donjonref01_Get.l0]
    rw [if_neg (by omega)]; simp
  | succ d ih =>
    intro k hd hk
    obtain ⟨k, rfl⟩ : ∃ m, k = m + 1 := ⟨k - 1, by omega⟩
    simp only [donjonref01_Get.l0]
    rw [if_pos (by omega), w64 (by omega) (by omega), show (p : Int) + (((d + 1 : Nat) : Int) - 1) = ((p + d : Nat) : Int) from by omega, bit_at (by omega), w64 (by omega) (by omega), show ((d + 1 : Nat) : Int) - 1 - 1 = (d : Int) - 1 from by omega]
    simp only [Option.bind_some]
    have ht : (getN w p m).testBit d = w.testBit (p + d) := by rw [getN_test]; simp [show d < m from by omega]
    have g := grow_wrap (getN w p m) d hX _ ht
    have := ih k (by omega) (by omega)
    split
    · rename_i h; rw [if_pos h] at g; rw [g]; exact this
    · rename_i h; rw [if_neg h] at g; rw [g]; exact this
theorem rget_yes {w p m : Nat} (h1 : 1 ≤ m) (h : p + m ≤ 64) {k : Nat} (hk : 64 < k) : donjonref01_Get.f k w p m = some ((getN w p m : Int), 0) := by
  unfold donjonref01_Get.f
  rw [rfield_yes h1 h]
  simp only [Option.bind_some, if_true]
  have := rget_loop (w := w) (p := p) (m := m) h m k (Nat.le_refl _) (by omega)
  rw [Nat.div_eq_of_lt (getN_lt w p m)] at this
  rw [w64 (by omega) (by omega)]
  exact this
theorem rget_no {w p m : Int} (h : ¬ (1 ≤ m ∧ 0 ≤ p ∧ p + m ≤ 64)) {k : Nat} : donjonref01_Get.f k w p m = some (0, 1) := by
  unfold donjonref01_Get.f
  rw [rfield_no h]; rfl
theorem sif {P Q : Prop} [Decidable P] [Decidable Q] (h : P ↔ Q) : some (if P then (0 : Int) else 10) = some (if Q then 0 else 10) := by
  congr 1; exact ite_congr (propext h) (fun _ => rfl) (fun _ => rfl)
theorem badged_ref {a : Int} : donjonref05_Badged.f a = some (decide (a = 4 ∨ a = 5)) := by
  unfold donjonref05_Badged.f
  by_cases c : a = 4
  · rw [if_pos c, decide_eq_true (.inl c)]
  · rw [if_neg c]; congr 1; rw [Bool.eq_iff_iff]; simp [c]
theorem righted_ref {a : Int} : donjonref05_Righted.f a = some (decide (a = 4 ∨ a = 5 ∨ a = 6)) := by
  unfold donjonref05_Righted.f
  by_cases c : a = 4
  · rw [if_pos c, decide_eq_true (.inl c)]
  · rw [if_neg c]
    by_cases d : a = 5
    · rw [if_pos d, decide_eq_true (.inr (.inl d))]
    · rw [if_neg d]; congr 1; rw [Bool.eq_iff_iff]; simp [c, d]
theorem right_ref {a : Int} : donjonref04_Check.f a = some (decide (0 ≤ a ∧ a ≤ 7)) := by
  unfold donjonref04_Check.f
  by_cases c : a ≥ 0
  · rw [if_pos c]; congr 1; rw [Bool.eq_iff_iff]; simp; omega
  · rw [if_neg c, decide_eq_false (by omega)]
theorem guarded_ref {g n : Int} (hg : 0 ≤ g) : donjonref05_guarded.f g n = some (decide (0 ≤ n ∧ n ≤ 16 ∧ g < (2 : Int) ^ n.toNat)) := by
  unfold donjonref05_guarded.f
  by_cases a : n ≥ 0
  · rw [if_pos a]
    by_cases b : n ≤ 16
    · rw [if_pos b, if_pos a]
      obtain ⟨m, rfl⟩ : ∃ m : Nat, n = m := ⟨n.toNat, by omega⟩
      have e := shl_n 1 m (by omega)
      have hp : 2 ^ m ≤ 65536 := Nat.pow_le_pow_right (show 0 < 2 by decide) (show m ≤ 16 by omega)
      rw [Nat.one_mul, Nat.mod_eq_of_lt (by omega)] at e
      rw [show (1 : Int) = ((1 : Nat) : Int) from rfl, e]
      congr 1
      rw [Bool.eq_iff_iff]
      simp only [decide_eq_true_eq]
      rw [Int.toNat_natCast, show (2 : Int) ^ m = ((2 ^ m : Nat) : Int) from by simp]
      omega
    · rw [if_neg b, decide_eq_false (by omega)]
  · rw [if_neg a, decide_eq_false (by omega)]
theorem r5 {m : Nat} {x : Bool} {k o r b g n : Int} : donjonref05_Check.j5 (m + 1) x k o r b g n = some (if x = true ∧ (k ≠ 2 → n = 0) then 0 else 10) := by
  simp only [donjonref05_Check.j5]
  cases x <;> by_cases c : k = 2 <;> by_cases d : n = 0 <;> simp [c, d]
theorem r4 {m : Nat} {x : Bool} {k o r b g n : Int} : donjonref05_Check.j4 (m + 2) x k o r b g n = some (if x = true ∧ (¬ (k = 4 ∨ k = 5) → b = 0) ∧ (k ≠ 2 → n = 0) then 0 else 10) := by
  simp only [donjonref05_Check.j4, badged_ref, Option.bind_some, r5]
  by_cases c : k = 4 ∨ k = 5
  · rw [decide_eq_true c, if_pos rfl]; exact sif ⟨fun h => ⟨h.1, fun e => absurd c e, h.2⟩, fun h => ⟨h.1, h.2.2⟩⟩
  · rw [decide_eq_false c, if_neg (by decide)]
    cases x
    · rw [if_neg (by decide)]; exact sif ⟨fun h => absurd h.1 (by decide), fun h => absurd h.1 (by decide)⟩
    · rw [if_pos rfl]; exact sif ⟨fun h => ⟨rfl, fun _ => by simpa using h.1, h.2⟩, fun h => ⟨by simpa using h.2.1 c, h.2.2⟩⟩
theorem r3 {m : Nat} {x : Bool} {k o r b g n : Int} : donjonref05_Check.j3 (m + 3) x k o r b g n = some (if x = true ∧ (¬ (k = 4 ∨ k = 5 ∨ k = 6) → r = 0) ∧ (¬ (k = 4 ∨ k = 5) → b = 0) ∧ (k ≠ 2 → n = 0) then 0 else 10) := by
  simp only [donjonref05_Check.j3, righted_ref, Option.bind_some, r4]
  by_cases c : k = 4 ∨ k = 5 ∨ k = 6
  · rw [decide_eq_true c, if_pos rfl]; exact sif ⟨fun h => ⟨h.1, fun e => absurd c e, h.2⟩, fun h => ⟨h.1, h.2.2⟩⟩
  · rw [decide_eq_false c, if_neg (by decide)]
    cases x
    · rw [if_neg (by decide)]; exact sif ⟨fun h => absurd h.1 (by decide), fun h => absurd h.1 (by decide)⟩
    · rw [if_pos rfl]; exact sif ⟨fun h => ⟨rfl, fun _ => by simpa using h.1, h.2⟩, fun h => ⟨by simpa using h.2.1 c, h.2.2⟩⟩
theorem r2 {m : Nat} {x y : Bool} {k o r b g n : Int} : donjonref05_Check.j2 (m + 4) x y k o r b g n = some (if x = true ∧ (y = true → o = 0) ∧ (¬ (k = 4 ∨ k = 5 ∨ k = 6) → r = 0) ∧ (¬ (k = 4 ∨ k = 5) → b = 0) ∧ (k ≠ 2 → n = 0) then 0 else 10) := by
  simp only [donjonref05_Check.j2, r3]
  cases y
  · rw [if_neg (by decide)]; exact sif ⟨fun h => ⟨h.1, fun e => absurd e (by decide), h.2⟩, fun h => ⟨h.1, h.2.2⟩⟩
  · rw [if_pos rfl]
    cases x
    · rw [if_neg (by decide)]; exact sif ⟨fun h => absurd h.1 (by decide), fun h => absurd h.1 (by decide)⟩
    · rw [if_pos rfl]; exact sif ⟨fun h => ⟨rfl, fun _ => by simpa using h.1, h.2⟩, fun h => ⟨by simpa using h.2.1 rfl, h.2.2⟩⟩
theorem r1 {m : Nat} {x : Bool} {k o r b g n : Int} : donjonref05_Check.j1 (m + 5) x k o r b g n = some (if x = true ∧ (k = 0 ∨ k = 10 → o = 0) ∧ (¬ (k = 4 ∨ k = 5 ∨ k = 6) → r = 0) ∧ (¬ (k = 4 ∨ k = 5) → b = 0) ∧ (k ≠ 2 → n = 0) then 0 else 10) := by
  simp only [donjonref05_Check.j1, r2]
  by_cases c : k = 0
  · rw [if_pos c]; exact sif ⟨fun h => ⟨h.1, fun _ => h.2.1 trivial, h.2.2⟩, fun h => ⟨h.1, fun _ => h.2.1 (.inl c), h.2.2⟩⟩
  · rw [if_neg c]; exact sif ⟨fun h => ⟨h.1, fun e => h.2.1 (by rcases e with e | e; exact absurd e c; simp [e]), h.2.2⟩, fun h => ⟨h.1, fun e => h.2.1 (.inr (by simpa using e)), h.2.2⟩⟩
theorem r0 {m : Nat} {k o r b g n : Int} (hg : 0 ≤ g) : donjonref05_Check.j0 (m + 6) false k o r b g n = some (if okC k o r b g n then 0 else 10) := by
  have J : ∀ P : Prop, [Decidable P] → (P ↔ 0 ≤ o ∧ o ≤ 63 ∧ 0 ≤ r ∧ r ≤ 7 ∧ b < 268435456 ∧ 0 ≤ n ∧ n ≤ 16 ∧ g < (2 : Int) ^ n.toNat) → donjonref05_Check.j1 (m + 5) (decide P) k o r b g n = some (if okC k o r b g n then 0 else 10) := by
    intro P _ hP
    rw [r1]
    refine sif ?_
    rw [decide_eq_true_iff, hP]
    unfold okC
    constructor
    · rintro ⟨⟨a1, a2, a3, a4, a5, a6, a7, a8⟩, h⟩; exact ⟨a1, a2, a3, a4, a5, a6, a7, a8, h⟩
    · rintro ⟨a1, a2, a3, a4, a5, a6, a7, a8, h⟩; exact ⟨⟨a1, a2, a3, a4, a5, a6, a7, a8⟩, h⟩
  have F : ¬ (0 ≤ o ∧ o ≤ 63 ∧ 0 ≤ r ∧ r ≤ 7 ∧ b < 268435456 ∧ 0 ≤ n ∧ n ≤ 16 ∧ g < (2 : Int) ^ n.toNat) → donjonref05_Check.j1 (m + 5) false k o r b g n = some (if okC k o r b g n then 0 else 10) := by
    intro h
    have := J False ⟨fun e => e.elim, fun e => h e⟩
    simpa using this
  simp only [donjonref05_Check.j0]
  rw [if_neg (by decide)]
  by_cases c1 : o ≥ 0
  · rw [if_pos c1]
    by_cases c2 : o ≤ 63
    · rw [if_pos c2, right_ref, Option.bind_some]
      by_cases c3 : 0 ≤ r ∧ r ≤ 7
      · rw [decide_eq_true c3, if_pos rfl]
        by_cases c4 : b < 268435456
        · rw [if_pos c4, guarded_ref hg, Option.bind_some]
          exact J _ ⟨fun h => ⟨c1, c2, c3.1, c3.2, c4, h⟩, fun h => h.2.2.2.2.2⟩
        · rw [if_neg c4]; exact F fun h => c4 h.2.2.2.2.1
      · rw [decide_eq_false c3, if_neg (by decide)]; exact F fun h => c3 ⟨h.2.2.1, h.2.2.2.1⟩
    · rw [if_neg c2]; exact F fun h => c2 h.2.1
  · rw [if_neg c1]; exact F fun h => c1 h.1
theorem rcheck_ref {m : Nat} {k o r b g n : Int} (hg : 0 ≤ g) : donjonref05_Check.f (m + 6) k o r b g n = some (checkS k o r b g n) := by
  unfold donjonref05_Check.f checkS
  by_cases c0 : k < 0
  · rw [if_pos c0, if_pos (.inl c0)]; simp [donjonref05_Check.j0]
  · rw [if_neg c0]
    by_cases c1 : k > 11
    · rw [decide_eq_true c1, if_pos (.inr c1)]; simp [donjonref05_Check.j0]
    · rw [decide_eq_false c1, if_neg (by omega)]; exact r0 hg
theorem rwords_ref {m : Nat} {k o r b g n : Int} (hb : 0 ≤ b) (hg : 0 ≤ g) :
    donjonref05_Words.f (m + 6) k o r b g n = some (if checkS k o r b g n = 0 then (k + o * 16 + r * 1024 + n * 8192, b + g * 4294967296, 0) else (0, 0, checkS k o r b g n)) := by
  unfold donjonref05_Words.f
  rw [rcheck_ref hg, Option.bind_some]
  by_cases c : checkS k o r b g n = 0
  · rw [if_pos c, if_pos c]
    obtain ⟨hk, h⟩ := check_0.1 c
    unfold okC at h
    have hT : (2 : Int) ^ n.toNat ≤ 65536 := by
      have := Nat.pow_le_pow_right (show 0 < 2 by decide) (show n.toNat ≤ 16 by omega)
      have e : ((2 ^ n.toNat : Nat) : Int) = (2 : Int) ^ n.toNat := by simp
      omega
    simp only [u64w, Option.some.injEq, Prod.mk.injEq]
    refine ⟨by omega, by omega, trivial⟩
  · rw [if_neg c, if_neg c]
theorem rof_ref {m x y : Nat} (hx : x < 18446744073709551616) (hy : y < 18446744073709551616) : donjonref05_Of.f (m + 70) x y =
    (donjonref05_Words.f (m + 70) ((x % 16 : Nat) : Int) ((x / 16 % 64 : Nat) : Int) ((x / 1024 % 8 : Nat) : Int) ((y % 268435456 : Nat) : Int) ((y / 4294967296 % 65536 : Nat) : Int) ((x / 8192 % 32 : Nat) : Int)).bind fun u =>
      if u.2.2 = 0 ∧ u.1 = x ∧ u.2.1 = y then some (((x % 16 : Nat) : Int), ((x / 16 % 64 : Nat) : Int), ((x / 1024 % 8 : Nat) : Int), ((y % 268435456 : Nat) : Int), ((y / 4294967296 % 65536 : Nat) : Int), ((x / 8192 % 32 : Nat) : Int), 0) else some (0, 0, 0, 0, 0, 0, 10) := by
  unfold donjonref05_Of.f
  have e0 : ∀ z m : Nat, getN z 0 m = z % 2 ^ m := fun z m => by unfold getN; rw [Nat.pow_zero, Nat.div_one]
  have hk : 64 < m + 70 := by omega
  have g1 : donjonref01_Get.f (m + 70) x 0 4 = some (((x % 16 : Nat) : Int), 0) := by have := rget_yes (w := x) (p := 0) (m := 4) (by omega) (by omega) hk; rw [e0] at this; exact this
  have g2 : donjonref01_Get.f (m + 70) x 4 6 = some (((x / 16 % 64 : Nat) : Int), 0) := rget_yes (w := x) (p := 4) (m := 6) (by omega) (by omega) hk
  have g3 : donjonref01_Get.f (m + 70) x 10 3 = some (((x / 1024 % 8 : Nat) : Int), 0) := rget_yes (w := x) (p := 10) (m := 3) (by omega) (by omega) hk
  have g4 : donjonref01_Get.f (m + 70) x 13 5 = some (((x / 8192 % 32 : Nat) : Int), 0) := rget_yes (w := x) (p := 13) (m := 5) (by omega) (by omega) hk
  have g5 : donjonref01_Get.f (m + 70) y 0 28 = some (((y % 268435456 : Nat) : Int), 0) := by have := rget_yes (w := y) (p := 0) (m := 28) (by omega) (by omega) hk; rw [e0] at this; exact this
  have g6 : donjonref01_Get.f (m + 70) y 32 16 = some (((y / 4294967296 % 65536 : Nat) : Int), 0) := rget_yes (w := y) (p := 32) (m := 16) (by omega) (by omega) hk
  rw [g1, Option.bind_some, g2, Option.bind_some, g3, Option.bind_some, g4, Option.bind_some, g5, Option.bind_some, g6, Option.bind_some]
  simp only []
  rw [w64 (n := ((x % 16 : Nat) : Int)) (by omega) (by omega), w64 (n := ((x / 16 % 64 : Nat) : Int)) (by omega) (by omega), w64 (n := ((x / 1024 % 8 : Nat) : Int)) (by omega) (by omega), w64 (n := ((x / 8192 % 32 : Nat) : Int)) (by omega) (by omega)]
  rw [rwords_ref (m := m + 64) (by omega) (by omega), Option.bind_some, Option.bind_some]
  generalize (if checkS _ _ _ _ _ _ = 0 then _ else _ : Int × Int × Int) = u
  by_cases c1 : u.2.2 = 0
  · rw [if_pos c1]
    by_cases c2 : u.1 = x
    · rw [if_pos c2]
      by_cases c3 : u.2.1 = y
      · rw [if_pos c3, if_pos ⟨c1, c2, c3⟩]
      · rw [if_neg c3, if_neg fun h => c3 h.2.2]
    · rw [if_neg c2, if_neg fun h => c2 h.2.1]
  · rw [if_neg c1, if_neg fun h => c1 h.1]
end Go.Proofs.Ytfcjlephhnddaaa.Pure
