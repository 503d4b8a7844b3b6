/- What the functions compute, over numbers and lists alone, and the law's walk over it. -/
import Derived.Test.YtfcjlephhnddaaaRef2
import Derived.Test.YtfcjlephhnddaaaPureCap
import Derived.Test.YtfcjlephhnddaaaPlain
import Derived.Test.YtfcjlephhnddaaaPlainB
import Derived.Test.YtfcjlephhnddaaaPlainR
namespace Go.Proofs.Ytfcjlephhnddaaa.Pure
open Go Go.RowKit Go.Proofs.YtfcjlephhnddaaaW.PrintWords Go.Proofs.YtfcjlephhnddaaaW.PrintLast Go.Proofs.YtfcjlephhnddaaaW.PrintMore Go.Proofs.Ytfcjlephhnddaaa.Plain Go.Proofs.Ytfcjlephhnddaaa.Base Go.Proofs.Ytfcjlephhnddaaa.Given Go.Proofs.Ytfcjlephhnddaaa.Weak Go.Proofs.Ytfcjlephhnddaaa.Wrk Go.Proofs.Ytfcjlephhnddaaa.Ref Go.Proofs.Ytfcjlephhnddaaa.Pure
set_option linter.unusedVariables false
set_option linter.unusedSimpArgs false
theorem sif {P Q : Prop} [Decidable P] [Decidable Q] (h : P ↔ Q) : some (if P then (0 : Int) else 10) = some (if Q then 0 else 10) := by
  congr 1; exact ite_congr (propext h) (fun _ => rfl) (fun _ => rfl)
theorem badged_ref {a : Int} : donjonref05_Badged.f a = some (decide (a = 4 ∨ a = 5)) := by
  unfold donjonref05_Badged.f
  by_cases c : a = 4
  · rw [if_pos c, decide_eq_true (.inl c)]
  · rw [if_neg c]; congr 1; rw [Bool.eq_iff_iff]; simp [c]
theorem righted_ref {a : Int} : donjonref05_Righted.f a = some (decide (a = 4 ∨ a = 5 ∨ a = 6)) := by
  unfold donjonref05_Righted.f
  by_cases c : a = 4
  · rw [if_pos c, decide_eq_true (.inl c)]
  · rw [if_neg c]
    by_cases d : a = 5
    · rw [if_pos d, decide_eq_true (.inr (.inl d))]
    · rw [if_neg d]; congr 1; rw [Bool.eq_iff_iff]; simp [c, d]
theorem right_ref {a : Int} : donjonref04_Check.f a = some (decide (0 ≤ a ∧ a ≤ 7)) := by
  unfold donjonref04_Check.f
  by_cases c : a ≥ 0
  · rw [if_pos c]; congr 1; rw [Bool.eq_iff_iff]; simp; omega
  · rw [if_neg c, decide_eq_false (by omega)]
theorem guarded_ref {g n : Int} (hg : 0 ≤ g) : donjonref05_guarded.f g n = some (decide (0 ≤ n ∧ n ≤ 16 ∧ g < (2 : Int) ^ n.toNat)) := by
  unfold donjonref05_guarded.f
  by_cases a : n ≥ 0
  · rw [if_pos a]
    by_cases b : n ≤ 16
    · rw [if_pos b, if_pos a]
      obtain ⟨m, rfl⟩ : ∃ m : Nat, n = m := ⟨n.toNat, by omega⟩
      have e := shl_n 1 m (by omega)
      have hp : 2 ^ m ≤ 65536 := Nat.pow_le_pow_right (show 0 < 2 by decide) (show m ≤ 16 by omega)
      rw [Nat.one_mul, Nat.mod_eq_of_lt (by omega)] at e
      rw [show (1 : Int) = ((1 : Nat) : Int) from rfl, e]
      congr 1
      rw [Bool.eq_iff_iff]
      simp only [decide_eq_true_eq]
      rw [Int.toNat_natCast, show (2 : Int) ^ m = ((2 ^ m : Nat) : Int) from by simp]
      omega
    · rw [if_neg b, decide_eq_false (by omega)]
  · rw [if_neg a, decide_eq_false (by omega)]
theorem r5 {m : Nat} {x : Bool} {k o r b g n : Int} : donjonref05_Check.j5 (m + 1) x k o r b g n = some (if x = true ∧ (k ≠ 2 → n = 0) then 0 else 10) := by
  simp only [donjonref05_Check.j5]
  cases x <;> by_cases c : k = 2 <;> by_cases d : n = 0 <;> simp [c, d]
theorem r4 {m : Nat} {x : Bool} {k o r b g n : Int} : donjonref05_Check.j4 (m + 2) x k o r b g n = some (if x = true ∧ (¬ (k = 4 ∨ k = 5) → b = 0) ∧ (k ≠ 2 → n = 0) then 0 else 10) := by
  simp only [donjonref05_Check.j4, badged_ref, Option.bind_some, r5]
  by_cases c : k = 4 ∨ k = 5
  · rw [decide_eq_true c, if_pos rfl]; exact sif ⟨fun h => ⟨h.1, fun e => absurd c e, h.2⟩, fun h => ⟨h.1, h.2.2⟩⟩
  · rw [decide_eq_false c, if_neg (by decide)]
    cases x
    · rw [if_neg (by decide)]; exact sif ⟨fun h => absurd h.1 (by decide), fun h => absurd h.1 (by decide)⟩
    · rw [if_pos rfl]; exact sif ⟨fun h => ⟨rfl, fun _ => by simpa using h.1, h.2⟩, fun h => ⟨by simpa using h.2.1 c, h.2.2⟩⟩
theorem r3 {m : Nat} {x : Bool} {k o r b g n : Int} : donjonref05_Check.j3 (m + 3) x k o r b g n = some (if x = true ∧ (¬ (k = 4 ∨ k = 5 ∨ k = 6) → r = 0) ∧ (¬ (k = 4 ∨ k = 5) → b = 0) ∧ (k ≠ 2 → n = 0) then 0 else 10) := by
  simp only [donjonref05_Check.j3, righted_ref, Option.bind_some, r4]
  by_cases c : k = 4 ∨ k = 5 ∨ k = 6
  · rw [decide_eq_true c, if_pos rfl]; exact sif ⟨fun h => ⟨h.1, fun e => absurd c e, h.2⟩, fun h => ⟨h.1, h.2.2⟩⟩
  · rw [decide_eq_false c, if_neg (by decide)]
    cases x
    · rw [if_neg (by decide)]; exact sif ⟨fun h => absurd h.1 (by decide), fun h => absurd h.1 (by decide)⟩
    · rw [if_pos rfl]; exact sif ⟨fun h => ⟨rfl, fun _ => by simpa using h.1, h.2⟩, fun h => ⟨by simpa using h.2.1 c, h.2.2⟩⟩
theorem r2 {m : Nat} {x y : Bool} {k o r b g n : Int} : donjonref05_Check.j2 (m + 4) x y k o r b g n = some (if x = true ∧ (y = true → o = 0) ∧ (¬ (k = 4 ∨ k = 5 ∨ k = 6) → r = 0) ∧ (¬ (k = 4 ∨ k = 5) → b = 0) ∧ (k ≠ 2 → n = 0) then 0 else 10) := by
  simp only [donjonref05_Check.j2, r3]
  cases y
  · rw [if_neg (by decide)]; exact sif ⟨fun h => ⟨h.1, fun e => absurd e (by decide), h.2⟩, fun h => ⟨h.1, h.2.2⟩⟩
  · rw [if_pos rfl]
    cases x
    · rw [if_neg (by decide)]; exact sif ⟨fun h => absurd h.1 (by decide), fun h => absurd h.1 (by decide)⟩
    · rw [if_pos rfl]; exact sif ⟨fun h => ⟨rfl, fun _ => by simpa using h.1, h.2⟩, fun h => ⟨by simpa using h.2.1 rfl, h.2.2⟩⟩
theorem r1 {m : Nat} {x : Bool} {k o r b g n : Int} : donjonref05_Check.j1 (m + 5) x k o r b g n = some (if x = true ∧ (k = 0 ∨ k = 10 → o = 0) ∧ (¬ (k = 4 ∨ k = 5 ∨ k = 6) → r = 0) ∧ (¬ (k = 4 ∨ k = 5) → b = 0) ∧ (k ≠ 2 → n = 0) then 0 else 10) := by
  simp only [donjonref05_Check.j1, r2]
  by_cases c : k = 0
  · rw [if_pos c]; exact sif ⟨fun h => ⟨h.1, fun _ => h.2.1 trivial, h.2.2⟩, fun h => ⟨h.1, fun _ => h.2.1 (.inl c), h.2.2⟩⟩
  · rw [if_neg c]; exact sif ⟨fun h => ⟨h.1, fun e => h.2.1 (by rcases e with e | e; exact absurd e c; simp [e]), h.2.2⟩, fun h => ⟨h.1, fun e => h.2.1 (.inr (by simpa using e)), h.2.2⟩⟩
theorem r0 {m : Nat} {k o r b g n : Int} (hg : 0 ≤ g) : donjonref05_Check.j0 (m + 6) false k o r b g n = some (if okC k o r b g n then 0 else 10) := by
  have J : ∀ P : Prop, [Decidable P] → (P ↔ 0 ≤ o ∧ o ≤ 63 ∧ 0 ≤ r ∧ r ≤ 7 ∧ b < 268435456 ∧ 0 ≤ n ∧ n ≤ 16 ∧ g < (2 : Int) ^ n.toNat) → donjonref05_Check.j1 (m + 5) (decide P) k o r b g n = some (if okC k o r b g n then 0 else 10) := by
    intro P _ hP
    rw [r1]
    refine sif ?_
    rw [decide_eq_true_iff, hP]
    unfold okC
    constructor
    · rintro ⟨⟨a1, a2, a3, a4, a5, a6, a7, a8⟩, h⟩; exact ⟨a1, a2, a3, a4, a5, a6, a7, a8, h⟩
    · rintro ⟨a1, a2, a3, a4, a5, a6, a7, a8, h⟩; exact ⟨⟨a1, a2, a3, a4, a5, a6, a7, a8⟩, h⟩
  have F : ¬ (0 ≤ o ∧ o ≤ 63 ∧ 0 ≤ r ∧ r ≤ 7 ∧ b < 268435456 ∧ 0 ≤ n ∧ n ≤ 16 ∧ g < (2 : Int) ^ n.toNat) → donjonref05_Check.j1 (m + 5) false k o r b g n = some (if okC k o r b g n then 0 else 10) := by
    intro h
    have := J False ⟨fun e => e.elim, fun e => h e⟩
    simpa using this
  simp only [donjonref05_Check.j0]
  rw [if_neg (by decide)]
  by_cases c1 : o ≥ 0
  · rw [if_pos c1]
    by_cases c2 : o ≤ 63
    · rw [if_pos c2, right_ref, Option.bind_some]
      by_cases c3 : 0 ≤ r ∧ r ≤ 7
      · rw [decide_eq_true c3, if_pos rfl]
        by_cases c4 : b < 268435456
        · rw [if_pos c4, guarded_ref hg, Option.bind_some]
          exact J _ ⟨fun h => ⟨c1, c2, c3.1, c3.2, c4, h⟩, fun h => h.2.2.2.2.2⟩
        · rw [if_neg c4]; exact F fun h => c4 h.2.2.2.2.1
      · rw [decide_eq_false c3, if_neg (by decide)]; exact F fun h => c3 ⟨h.2.2.1, h.2.2.2.1⟩
    · rw [if_neg c2]; exact F fun h => c2 h.2.1
  · rw [if_neg c1]; exact F fun h => c1 h.1
theorem rcheck_ref {m : Nat} {k o r b g n : Int} (hg : 0 ≤ g) : donjonref05_Check.f (m + 6) k o r b g n = some (checkS k o r b g n) := by
  unfold donjonref05_Check.f checkS
  by_cases c0 : k < 0
  · rw [if_pos c0, if_pos (.inl c0)]; simp [donjonref05_Check.j0]
  · rw [if_neg c0]
    by_cases c1 : k > 11
    · rw [decide_eq_true c1, if_pos (.inr c1)]; simp [donjonref05_Check.j0]
    · rw [decide_eq_false c1, if_neg (by omega)]; exact r0 hg
end Go.Proofs.Ytfcjlephhnddaaa.Pure
