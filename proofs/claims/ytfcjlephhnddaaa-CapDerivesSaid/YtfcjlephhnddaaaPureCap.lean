/- What the functions compute, over numbers and lists alone, and the law's walk over it. -/
import Derived.Test.YtfcjlephhnddaaaBase2
import Derived.Test.YtfcjlephhnddaaaBase3
import Derived.Test.YtfcjlephhnddaaaBase4
import Derived.Test.YtfcjlephhnddaaaGivenO
import Derived.Test.YtfcjlephhnddaaaWeak1
import Derived.Test.YtfcjlephhnddaaaWrk2
import Derived.Test.YtfcjlephhnddaaaPlain
import Derived.Test.YtfcjlephhnddaaaPlainB
import Derived.Test.YtfcjlephhnddaaaPlainR
namespace Go.Proofs.Ytfcjlephhnddaaa.Pure
open Go Go.RowKit Go.Proofs.YtfcjlephhnddaaaW.PrintWords Go.Proofs.YtfcjlephhnddaaaW.PrintLast Go.Proofs.YtfcjlephhnddaaaW.PrintMore Go.Proofs.Ytfcjlephhnddaaa.Plain Go.Proofs.Ytfcjlephhnddaaa.Base Go.Proofs.Ytfcjlephhnddaaa.Given Go.Proofs.Ytfcjlephhnddaaa.Weak Go.Proofs.Ytfcjlephhnddaaa.Wrk
set_option linter.unusedVariables false
set_option linter.unusedSimpArgs false
/-- a capability is right -/
def okC (k o r b g n : Int) : Prop :=
  0 ≤ o ∧ o ≤ 63 ∧ 0 ≤ r ∧ r ≤ 7 ∧ b < 268435456 ∧ 0 ≤ n ∧ n ≤ 16 ∧ g < (2 : Int) ^ n.toNat ∧ (k = 0 ∨ k = 10 → o = 0) ∧ (¬ (k = 4 ∨ k = 5 ∨ k = 6) → r = 0) ∧ (¬ (k = 4 ∨ k = 5) → b = 0) ∧ (k ≠ 2 → n = 0)
instance (k o r b g n : Int) : Decidable (okC k o r b g n) := by unfold okC; infer_instance
def checkS (k o r b g n : Int) : Int := if k < 0 ∨ k > 11 then 2 else if okC k o r b g n then 0 else 10
theorem rcheck_is {a : Int} (h0 : -9223372036854775808 ≤ a) (h1 : a ≤ 9223372036854775807) : rights_Check.f a = some (decide (0 ≤ a ∧ a ≤ 7)) := by
  unfold rights_Check.f
  by_cases h : 0 ≤ a ∧ a ≤ 7
  · rw [(three_bits h0 h1).2 h, decide_eq_true h]; rfl
  · rw [decide_eq_false h]
    have := mt (three_bits h0 h1).1 h
    simp [this]
theorem fits_is {g n : Int} (hg : 0 ≤ g) : cap_fits.f g n = some (decide (0 ≤ n ∧ n ≤ 16 ∧ g < (2 : Int) ^ n.toNat)) := by
  unfold cap_fits.f
  by_cases a : n ≥ 0
  · rw [if_pos a]
    by_cases b : n ≤ 16
    · rw [if_pos b, if_pos a]
      obtain ⟨m, rfl⟩ : ∃ m : Nat, n = m := ⟨n.toNat, by omega⟩
      obtain ⟨x, rfl⟩ : ∃ x : Nat, g = x := ⟨g.toNat, by omega⟩
      rw [shr_n _ _ (by omega)]
      congr 1
      rw [Bool.eq_iff_iff]
      simp only [beq_iff_eq, decide_eq_true_eq]
      have hp := Nat.two_pow_pos m
      have h1 : x / 2 ^ m = 0 ↔ x < 2 ^ m := by
        rw [Nat.div_eq_zero_iff]; omega
      have h2 : ((x : Int) < (2 : Int) ^ ((m : Int)).toNat) ↔ x < 2 ^ m := by
        rw [Int.toNat_natCast, show (2 : Int) ^ m = ((2 ^ m : Nat) : Int) from by simp]; omega
      rw [h2, ← h1]
      constructor
      · intro h; exact ⟨by omega, by omega, by omega⟩
      · intro h; have := h.2.2; omega
    · rw [if_neg b, decide_eq_false (by omega)]
  · rw [if_neg a, decide_eq_false (by omega)]
theorem cmp6 {p1 p2 p3 p4 p5 p6 k o r b g n : Int} : (!(p1 == k) || (!(p2 == o) || (!(p3 == r) || (!(p4 == b) || (!(p5 == g) || (!(p6 == n))))))) = true ↔ ¬ (p1 = k ∧ p2 = o ∧ p3 = r ∧ p4 = b ∧ p5 = g ∧ p6 = n) := by
  simp only [Bool.or_eq_true, Bool.not_eq_true', beq_eq_false_iff_ne, ne_eq]
  omega
theorem j1_is {m : Nat} {x : Bool} {k o r b g n : Int} (hr0 : -9223372036854775808 ≤ r) (hr1 : r ≤ 9223372036854775807) (hg : 0 ≤ g) :
    cap_Check.j1 (m + 1) x k o r b g n = some (if x = false ∧ (0 ≤ r ∧ r ≤ 7) ∧ b / 268435456 = 0 ∧ (0 ≤ n ∧ n ≤ 16 ∧ g < (2 : Int) ^ n.toNat) then 0 else 10) := by
  simp only [cap_Check.j1]
  cases x
  · rw [if_neg (by decide), rcheck_is hr0 hr1, Option.bind_some]
    by_cases c1 : 0 ≤ r ∧ r ≤ 7
    · rw [decide_eq_true c1, if_pos rfl]
      by_cases c2 : b / 268435456 = 0
      · rw [if_pos c2, fits_is hg, Option.bind_some]
        by_cases c3 : 0 ≤ n ∧ n ≤ 16 ∧ g < (2 : Int) ^ n.toNat
        · rw [decide_eq_true c3, if_pos rfl, if_pos ⟨rfl, c1, c2, c3⟩]
        · rw [decide_eq_false c3, if_neg (by decide), if_neg (fun h => c3 h.2.2.2)]
      · rw [if_neg c2, if_neg (fun h => c2 h.2.2.1)]
    · rw [decide_eq_false c1, if_neg (by decide), if_neg (fun h => c1 h.2.1)]
  · rw [if_pos rfl, if_neg (by simp)]
theorem check_of {k o r b g n p1 p2 p3 p4 p5 p6 : Int} (hk0 : 0 ≤ k) (hk1 : k ≤ 11) (hp : cap_plain.f 9 k o r b g n = some (p1, p2, p3, p4, p5, p6)) (hr0 : -9223372036854775808 ≤ r) (hr1 : r ≤ 9223372036854775807) (hg : 0 ≤ g) :
    cap_Check.f 10 k o r b g n = some (if (p1 = k ∧ p2 = o ∧ p3 = r ∧ p4 = b ∧ p5 = g ∧ p6 = n) ∧ 0 ≤ o ∧ o / 64 = 0 ∧ (0 ≤ r ∧ r ≤ 7) ∧ b / 268435456 = 0 ∧ (0 ≤ n ∧ n ≤ 16 ∧ g < (2 : Int) ^ n.toNat) then 0 else 10) := by
  unfold cap_Check.f
  rw [if_neg (by omega), decide_eq_false (by omega)]
  show cap_Check.j0 (9 + 1) false k o r b g n = _
  simp only [cap_Check.j0]
  rw [if_neg (by decide), hp, Option.bind_some]
  by_cases c : p1 = k ∧ p2 = o ∧ p3 = r ∧ p4 = b ∧ p5 = g ∧ p6 = n
  · rw [if_neg (fun h => cmp6.1 h c)]
    by_cases c1 : o < 0
    · rw [if_pos c1, j1_is hr0 hr1 hg, if_neg (by simp), if_neg (by omega)]
    · rw [if_neg c1, j1_is hr0 hr1 hg]
      by_cases c2 : o / 64 = 0
      · congr 1
        apply ite_congr
        · apply propext
          constructor
          · intro h; exact ⟨c, by omega, c2, h.2⟩
          · intro h; exact ⟨by simp [c2], h.2.2.2⟩
        · intro _; rfl
        · intro _; rfl
      · rw [if_neg (by simp [c2]), if_neg (fun h => c2 h.2.2.1)]
  · rw [if_pos (cmp6.2 c), if_neg (fun h => c h.1)]
theorem check_is {k o r b g n : Int} (hr0 : -9223372036854775808 ≤ r) (hr1 : r ≤ 9223372036854775807) (hb : 0 ≤ b) (hg : 0 ≤ g) : cap_Check.f 10 k o r b g n = some (checkS k o r b g n) := by
  unfold checkS
  by_cases c0 : k < 0
  · unfold cap_Check.f
    rw [if_pos c0, if_pos (Or.inl c0)]; rfl
  · by_cases c1 : k > 11
    · unfold cap_Check.f
      rw [if_neg c0, decide_eq_true c1, if_pos (Or.inr c1)]; rfl
    · rw [if_neg (by omega)]
      have hT : n = 0 → (2 : Int) ^ n.toNat = 1 := by rintro rfl; rfl
      have fin : ∀ p1 p2 p3 p4 p5 p6 : Int, cap_plain.f 9 k o r b g n = some (p1, p2, p3, p4, p5, p6) → (((p1 = k ∧ p2 = o ∧ p3 = r ∧ p4 = b ∧ p5 = g ∧ p6 = n) ∧ 0 ≤ o ∧ o / 64 = 0 ∧ (0 ≤ r ∧ r ≤ 7) ∧ b / 268435456 = 0 ∧ (0 ≤ n ∧ n ≤ 16 ∧ g < (2 : Int) ^ n.toNat)) ↔ okC k o r b g n) → cap_Check.f 10 k o r b g n = some (if okC k o r b g n then 0 else 10) := by
        intro p1 p2 p3 p4 p5 p6 hp he
        rw [check_of (by omega) (by omega) hp hr0 hr1 hg]
        congr 1
        exact ite_congr (propext he) (fun _ => rfl) (fun _ => rfl)
      have hk : k = 0 ∨ k = 1 ∨ k = 2 ∨ k = 3 ∨ k = 4 ∨ k = 5 ∨ k = 6 ∨ k = 7 ∨ k = 8 ∨ k = 9 ∨ k = 10 ∨ k = 11 := by omega
      revert hT
      generalize hTT : (2 : Int) ^ n.toNat = T at *
      intro hT
      rcases hk with rfl | rfl | rfl | rfl | rfl | rfl | rfl | rfl | rfl | rfl | rfl | rfl
      all_goals (refine fin _ _ _ _ _ _ rfl ?_; unfold okC; rw [hTT]; omega)
theorem works_yes : donjonlaw05_works.f 10 = some true := by kernel_rfl
theorem check_0 {k o r b g n : Int} : checkS k o r b g n = 0 ↔ (0 ≤ k ∧ k ≤ 11) ∧ okC k o r b g n := by
  unfold checkS
  by_cases c : k < 0 ∨ k > 11
  · rw [if_pos c]; omega
  · rw [if_neg c]
    by_cases d : okC k o r b g n
    · rw [if_pos d]; exact ⟨fun _ => ⟨by omega, d⟩, fun _ => rfl⟩
    · rw [if_neg d]; exact ⟨fun h => by omega, fun h => absurd h.2 d⟩
theorem ok_r {k o r b g n : Int} (h : okC k o r b g n) : 0 ≤ r ∧ r ≤ 7 := by unfold okC at h; omega
theorem within_fin : ∀ a b : Fin 8, rights_Within.f (a.val : Int) (b.val : Int) = some (decide (a.val &&& b.val = a.val)) := by decide +kernel
theorem within_is {a b : Int} (ha : 0 ≤ a ∧ a ≤ 7) (hb : 0 ≤ b ∧ b ≤ 7) : rights_Within.f a b = some (decide (a.toNat &&& b.toNat = a.toNat)) := by
  have := within_fin ⟨a.toNat, by omega⟩ ⟨b.toNat, by omega⟩
  simp only at this
  rw [show ((a.toNat : Nat) : Int) = a by omega, show ((b.toNat : Nat) : Int) = b by omega] at this
  exact this
/-- the one gives no more than the other -/
def weakC (k o r b g n k' o' r' b' g' n' : Int) : Prop :=
  checkS k o r b g n = 0 ∧ checkS k' o' r' b' g' n' = 0 ∧ k = k' ∧ o = o' ∧ r.toNat &&& r'.toNat = r.toNat ∧ (b' = 0 ∨ b = b')
instance (k o r b g n k' o' r' b' g' n' : Int) : Decidable (weakC k o r b g n k' o' r' b' g' n') := by unfold weakC; infer_instance
theorem weak_is {k o r b g n k' o' r' b' g' n' : Int} (hr0 : -9223372036854775808 ≤ r) (hr1 : r ≤ 9223372036854775807) (hb : 0 ≤ b) (hg : 0 ≤ g)
    (hr0' : -9223372036854775808 ≤ r') (hr1' : r' ≤ 9223372036854775807) (hb' : 0 ≤ b') (hg' : 0 ≤ g') :
    cap_Weaker.f 10 k o r b g n k' o' r' b' g' n' = some (decide (weakC k o r b g n k' o' r' b' g' n')) := by
  unfold cap_Weaker.f
  rw [check_is hr0 hr1 hb hg, Option.bind_some]
  by_cases c : checkS k o r b g n = 0
  · rw [if_pos c, check_is hr0' hr1' hb' hg', Option.bind_some]
    by_cases d : checkS k' o' r' b' g' n' = 0
    · rw [if_pos d]
      by_cases e1 : k = k'
      · rw [if_pos e1]
        by_cases e2 : o = o'
        · rw [if_pos e2, within_is (ok_r (check_0.1 c).2) (ok_r (check_0.1 d).2), Option.bind_some]
          by_cases e3 : r.toNat &&& r'.toNat = r.toNat
          · rw [decide_eq_true e3, if_pos rfl]
            by_cases e4 : b' = 0
            · rw [if_pos e4, decide_eq_true ⟨c, d, e1, e2, e3, .inl e4⟩]
            · rw [if_neg e4]
              congr 1
              rw [Bool.eq_iff_iff]
              simp only [beq_iff_eq, decide_eq_true_eq]
              constructor
              · intro h; exact ⟨c, d, e1, e2, e3, .inr h⟩
              · intro h; rcases h.2.2.2.2.2 with h | h
                · exact absurd h e4
                · exact h
          · rw [decide_eq_false e3, if_neg (by decide), decide_eq_false (fun h => e3 h.2.2.2.2.1)]
        · rw [if_neg e2, decide_eq_false (fun h => e2 h.2.2.2.1)]
      · rw [if_neg e1, decide_eq_false (fun h => e1 h.2.2.1)]
    · rw [if_neg d, decide_eq_false (fun h => d h.2.1)]
  · rw [if_neg c, decide_eq_false (fun h => c h.1)]
theorem and_trans {a b c : Nat} (h1 : a &&& b = a) (h2 : b &&& c = b) : a &&& c = a := by
  calc a &&& c = (a &&& b) &&& c := by rw [h1]
    _ = a &&& (b &&& c) := Nat.and_assoc _ _ _
    _ = a := by rw [h2, h1]
theorem weak_trans {k o r b g n k' o' r' b' g' n' k2 o2 r2 b2 g2 n2 : Int} (h1 : weakC k o r b g n k' o' r' b' g' n') (h2 : weakC k' o' r' b' g' n' k2 o2 r2 b2 g2 n2) : weakC k o r b g n k2 o2 r2 b2 g2 n2 := by
  unfold weakC at *
  refine ⟨h1.1, h2.2.1, by omega, by omega, and_trans h1.2.2.2.2.1 h2.2.2.2.2.1, ?_⟩
  have := h1.2.2.2.2.2
  have := h2.2.2.2.2.2
  omega
end Go.Proofs.Ytfcjlephhnddaaa.Pure
