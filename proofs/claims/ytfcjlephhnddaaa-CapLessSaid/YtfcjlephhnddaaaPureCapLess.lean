/- What the functions compute, over numbers and lists alone, and the law's walk over it. -/
import Derived.Test.YtfcjlephhnddaaaTCapLess2
import Derived.Test.YtfcjlephhnddaaaPureCap
import Derived.Test.YtfcjlephhnddaaaBase4
import Derived.Test.YtfcjlephhnddaaaPlain
import Derived.Test.YtfcjlephhnddaaaPlainB
import Derived.Test.YtfcjlephhnddaaaPlainR
namespace Go.Proofs.Ytfcjlephhnddaaa.Pure
open Go Go.RowKit Go.Proofs.YtfcjlephhnddaaaW.PrintWords Go.Proofs.YtfcjlephhnddaaaW.PrintLast Go.Proofs.YtfcjlephhnddaaaW.PrintMore Go.Proofs.Ytfcjlephhnddaaa.Plain Go.Proofs.Ytfcjlephhnddaaa.TCapLess Go.Proofs.Ytfcjlephhnddaaa.Base Go.Proofs.Ytfcjlephhnddaaa.Given Go.Proofs.Ytfcjlephhnddaaa.Weak Go.Proofs.Ytfcjlephhnddaaa.Wrk Go.Proofs.Ytfcjlephhnddaaa.Pure
set_option linter.unusedVariables false
set_option linter.unusedSimpArgs false
theorem mask_fin : ∀ a b : Fin 8, rights_Mask.f (a.val : Int) (b.val : Int) = some (((a.val &&& b.val : Nat) : Int)) := by decide +kernel
theorem mask_is {a b : Int} (ha : 0 ≤ a ∧ a ≤ 7) (hb : 0 ≤ b ∧ b ≤ 7) : rights_Mask.f a b = some (((a.toNat &&& b.toNat : Nat) : Int)) := by
  have := mask_fin ⟨a.toNat, by omega⟩ ⟨b.toNat, by omega⟩
  simp only at this
  rw [show ((a.toNat : Nat) : Int) = a by omega, show ((b.toNat : Nat) : Int) = b by omega] at this
  exact this
theorem and_le7 {a b : Nat} (h : a ≤ 7) : a &&& b ≤ 7 := Nat.le_trans Nat.and_le_left h
theorem and_and {a b : Nat} : (a &&& b) &&& a = a &&& b := by rw [Nat.and_comm a b, Nat.and_assoc, Nat.and_self]
/-- what is derived is right, of the same kind and object, and gives no more; or nothing is -/
def derC (k o r b g n k2 o2 r2 b2 g2 n2 e : Int) : Prop :=
  (e ≠ 0 ∧ k2 = 0 ∧ o2 = 0 ∧ r2 = 0 ∧ b2 = 0 ∧ g2 = 0 ∧ n2 = 0) ∨
  (e = 0 ∧ checkS k o r b g n = 0 ∧ checkS k2 o2 r2 b2 g2 n2 = 0 ∧ k2 = k ∧ o2 = o ∧ r2.toNat &&& r.toNat = r2.toNat ∧ (b = 0 ∨ b2 = b) ∧ 0 ≤ b2 ∧ 0 ≤ g2)
theorem derive_is {k o r b g n r' b' g' n' : Int} (hr0 : -9223372036854775808 ≤ r) (hr1 : r ≤ 9223372036854775807) (hb : 0 ≤ b) (hg : 0 ≤ g)
    (hr0' : -9223372036854775808 ≤ r') (hr1' : r' ≤ 9223372036854775807) (hb' : 0 ≤ b') (hg' : 0 ≤ g') :
    ∃ k2 o2 r2 b2 g2 n2 e, cap_Derive.f k o r b g n r' b' g' n' = some (k2, o2, r2, b2, g2, n2, e) ∧ derC k o r b g n k2 o2 r2 b2 g2 n2 e := by
  unfold cap_Derive.f
  rw [check_is hr0 hr1 hb hg, Option.bind_some]
  have Z : ∀ e : Int, e ≠ 0 → ∃ k2 o2 r2 b2 g2 n2 e2, (some ((0 : Int), (0 : Int), (0 : Int), (0 : Int), (0 : Int), (0 : Int), e) : Option (Int × Int × Int × Int × Int × Int × Int)) = some (k2, o2, r2, b2, g2, n2, e2) ∧ derC k o r b g n k2 o2 r2 b2 g2 n2 e2 :=
    fun e he => ⟨0, 0, 0, 0, 0, 0, e, rfl, .inl ⟨he, rfl, rfl, rfl, rfl, rfl, rfl⟩⟩
  by_cases c : checkS k o r b g n = 0
  · rw [if_pos c]
    obtain ⟨hk, h⟩ := check_0.1 c
    have hr := ok_r h
    by_cases c0 : k = 0
    · rw [if_pos c0]; exact Z 3 (by decide)
    · rw [if_neg c0]
      by_cases c1 : k = 1 ∨ k = 10 ∨ k = 11
      · rw [if_pos c1]; exact Z 2 (by decide)
      · rw [if_neg c1, rcheck_is hr0' hr1', Option.bind_some]
        by_cases c2 : 0 ≤ r' ∧ r' ≤ 7
        · rw [decide_eq_true c2, if_pos rfl]
          have hm7 := and_le7 (a := r.toNat) (b := r'.toNat) (by omega)
          have hmm := and_and (a := r.toNat) (b := r'.toNat)
          by_cases c6 : k = 6
          · rw [if_pos c6, mask_is hr c2, Option.bind_some]
            refine ⟨_, _, _, _, _, _, _, rfl, .inr ⟨rfl, c, check_0.2 ⟨hk, ?_⟩, rfl, rfl, by rw [Int.toNat_natCast]; exact hmm, .inr rfl, hb, hg⟩⟩
            unfold okC at h ⊢; subst c6; omega
          · rw [if_neg c6]
            by_cases c22 : k = 2
            · rw [if_pos c22, fits_is hg', Option.bind_some]
              by_cases f : 0 ≤ n' ∧ n' ≤ 16 ∧ g' < (2 : Int) ^ n'.toNat
              · rw [decide_eq_true f, if_pos rfl]
                refine ⟨_, _, _, _, _, _, _, rfl, .inr ⟨rfl, c, check_0.2 ⟨hk, ?_⟩, rfl, rfl, Nat.and_self _, .inr rfl, hb, hg'⟩⟩
                unfold okC at h ⊢; subst c22; omega
              · rw [decide_eq_false f, if_neg (by decide)]; exact Z 10 (by decide)
            · rw [if_neg c22]
              by_cases c45 : k = 4 ∨ k = 5
              · rw [if_pos c45, mask_is hr c2, Option.bind_some]
                by_cases d1 : b' = 0
                · rw [if_pos d1]
                  by_cases d2 : b / 268435456 = 0
                  · rw [if_pos d2]
                    refine ⟨_, _, _, _, _, _, _, rfl, .inr ⟨rfl, c, check_0.2 ⟨hk, ?_⟩, rfl, rfl, by rw [Int.toNat_natCast]; exact hmm, .inr rfl, hb, hg⟩⟩
                    unfold okC at h ⊢; omega
                  · rw [if_neg d2]; exact Z 10 (by decide)
                · rw [if_neg d1]
                  by_cases d2 : b = 0
                  · rw [if_pos d2]
                    by_cases d3 : b' / 268435456 = 0
                    · rw [if_pos d3]
                      refine ⟨_, _, _, _, _, _, _, rfl, .inr ⟨rfl, c, check_0.2 ⟨hk, ?_⟩, rfl, rfl, by rw [Int.toNat_natCast]; exact hmm, .inl d2, hb', hg⟩⟩
                      unfold okC at h ⊢; omega
                    · rw [if_neg d3]; exact Z 10 (by decide)
                  · rw [if_neg d2]; exact Z 8 (by decide)
              · rw [if_neg c45]
                exact ⟨_, _, _, _, _, _, _, rfl, .inr ⟨rfl, c, c, rfl, rfl, Nat.and_self _, .inr rfl, hb, hg⟩⟩
        · rw [decide_eq_false c2, if_neg (by decide)]; exact Z 5 (by decide)
  · rw [if_neg c]; exact Z _ c
theorem der_weak {k o r b g n k2 o2 r2 b2 g2 n2 : Int} (h : derC k o r b g n k2 o2 r2 b2 g2 n2 0) : weakC k2 o2 r2 b2 g2 n2 k o r b g n := by
  rcases h with h | h
  · exact absurd rfl h.1
  · exact ⟨h.2.2.1, h.2.1, h.2.2.2.1, h.2.2.2.2.1, h.2.2.2.2.2.1, h.2.2.2.2.2.2.1⟩
theorem wu0 {a : Int} (h : (Lit.int .u64 a).wf = true) : 0 ≤ a := by obtain ⟨n, rfl, _⟩ := wu h; omega
theorem less_all {k o r b g n r1 b1 g1 n1 r2 b2 g2 n2 : Int} (hr0 : -9223372036854775808 ≤ r) (hr1 : r ≤ 9223372036854775807) (hb : 0 ≤ b) (hg : 0 ≤ g)
    (hr10 : -9223372036854775808 ≤ r1) (hr11 : r1 ≤ 9223372036854775807) (hb1 : 0 ≤ b1) (hg1 : 0 ≤ g1) (hr20 : -9223372036854775808 ≤ r2) (hr21 : r2 ≤ 9223372036854775807) (hb2 : 0 ≤ b2) (hg2 : 0 ≤ g2) :
    donjonlaw05_CapLess.f 10 k o r b g n r1 b1 g1 n1 r2 b2 g2 n2 = some true := by
  unfold donjonlaw05_CapLess.f
  rw [works_yes, Option.bind_some, if_pos rfl]
  obtain ⟨dk, dO, dr, db, dg, dn, de, d1, d2⟩ := derive_is (k := k) (o := o) (r := r) (b := b) (g := g) (n := n) (n' := n1) hr0 hr1 hb hg hr10 hr11 hb1 hg1
  rw [d1, Option.bind_some]
  simp only []
  by_cases c : de = 0
  · subst c
    have D := d2
    rcases d2 with d2 | d2
    · exact absurd rfl d2.1
    · obtain ⟨_, q1, q2, rfl, rfl, q5, q6, q7, q8⟩ := d2
      have hrr := ok_r (check_0.1 q2).2
      rw [if_pos rfl]
      obtain ⟨xk, xo, xr, xb, xg, xn, xe, x1, x2⟩ := derive_is (k := dk) (o := dO) (r := dr) (b := db) (g := dg) (n := dn) (n' := n2) (by omega) (by omega) q7 q8 hr20 hr21 hb2 hg2
      rw [x1, Option.bind_some, check_is (by omega) (by omega) q7 q8, q2, Option.bind_some, if_pos rfl, weak_is (by omega) (by omega) q7 q8 hr0 hr1 hb hg, decide_eq_true (der_weak D), Option.bind_some, if_pos rfl, if_pos rfl, if_pos rfl]
      simp only []
      by_cases c2 : xe = 0
      · subst c2
        have W := der_weak x2
        rcases x2 with x2 | x2
        · exact absurd rfl x2.1
        · obtain ⟨_, _, z2, _, _, _, _, z7, z8⟩ := x2
          have hxr := ok_r (check_0.1 z2).2
          rw [if_pos rfl, weak_is (by omega) (by omega) z7 z8 (by omega) (by omega) q7 q8, decide_eq_true W, Option.bind_some, if_pos rfl, weak_is (by omega) (by omega) z7 z8 hr0 hr1 hb hg, decide_eq_true (weak_trans W (der_weak D)), Option.bind_some]
      · rw [if_neg c2]
  · rw [if_neg c]
    rcases d2 with d2 | d2
    · obtain ⟨_, rfl, rfl, rfl, rfl, rfl, rfl⟩ := d2; rfl
    · exact absurd d2.1 c
theorem CapLess.walk (k o r b g n r1 b1 g1 n1 r2 b2 g2 n2 : Int) (w : World)
    (_ : (Lit.int .i64 k).wf = true) (_ : (Lit.int .i64 o).wf = true) (hr : (Lit.int .i64 r).wf = true) (hb : (Lit.int .u64 b).wf = true) (hg : (Lit.int .u64 g).wf = true) (_ : (Lit.int .i64 n).wf = true)
    (h1 : (Lit.int .i64 r1).wf = true) (hb1 : (Lit.int .u64 b1).wf = true) (hg1 : (Lit.int .u64 g1).wf = true) (_ : (Lit.int .i64 n1).wf = true)
    (h2 : (Lit.int .i64 r2).wf = true) (hb2 : (Lit.int .u64 b2).wf = true) (hg2 : (Lit.int .u64 g2).wf = true) (_ : (Lit.int .i64 n2).wf = true) :
    Calls Try.prog 6 #[.agg #[.int .i64 k, .int .i64 o, .int .i64 r, .int .u64 b, .int .u64 g, .int .i64 n], .agg #[.int .i64 r1, .int .u64 b1, .int .u64 g1, .int .i64 n1], .agg #[.int .i64 r2, .int .u64 b2, .int .u64 g2, .int .i64 n2]] w
      fun e w' => e = .returned (.bool true) ∧ Below w.heap.size w w' :=
  (donjonlaw05_CapLess.calls 10 k o r b g n r1 b1 g1 n1 r2 b2 g2 n2 true w (less_all (wi hr).1 (wi hr).2 (wu0 hb) (wu0 hg) (wi h1).1 (wi h1).2 (wu0 hb1) (wu0 hg1) (wi h2).1 (wi h2).2 (wu0 hb2) (wu0 hg2))).mono fun _ _ h => h
end Go.Proofs.Ytfcjlephhnddaaa.Pure
