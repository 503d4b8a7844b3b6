/- What the functions compute, over numbers and lists alone, and the law's walk over it. -/
import Derived.Test.YtfcjlephhnddaaaTCapDerives2
import Derived.Test.YtfcjlephhnddaaaPureCapRefC
import Derived.Test.YtfcjlephhnddaaaBase4
import Derived.Test.YtfcjlephhnddaaaPlain
import Derived.Test.YtfcjlephhnddaaaPlainB
import Derived.Test.YtfcjlephhnddaaaPlainR
namespace Go.Proofs.Ytfcjlephhnddaaa.Pure
open Go Go.RowKit Go.Proofs.YtfcjlephhnddaaaW.PrintWords Go.Proofs.YtfcjlephhnddaaaW.PrintLast Go.Proofs.YtfcjlephhnddaaaW.PrintMore Go.Proofs.Ytfcjlephhnddaaa.Plain Go.Proofs.Ytfcjlephhnddaaa.TCapDerives Go.Proofs.Ytfcjlephhnddaaa.Base Go.Proofs.Ytfcjlephhnddaaa.Given Go.Proofs.Ytfcjlephhnddaaa.Weak Go.Proofs.Ytfcjlephhnddaaa.Wrk Go.Proofs.Ytfcjlephhnddaaa.Ref Go.Proofs.Ytfcjlephhnddaaa.Pure
set_option linter.unusedVariables false
set_option linter.unusedSimpArgs false
theorem mask_fin : ∀ a b : Fin 8, rights_Mask.f (a.val : Int) (b.val : Int) = some (((a.val &&& b.val : Nat) : Int)) := by decide +kernel
theorem mask_is {a b : Int} (ha : 0 ≤ a ∧ a ≤ 7) (hb : 0 ≤ b ∧ b ≤ 7) : rights_Mask.f a b = some (((a.toNat &&& b.toNat : Nat) : Int)) := by
  have := mask_fin ⟨a.toNat, by omega⟩ ⟨b.toNat, by omega⟩
  simp only at this
  rw [show ((a.toNat : Nat) : Int) = a by omega, show ((b.toNat : Nat) : Int) = b by omega] at this
  exact this
theorem and_le7 {a b : Nat} (h : a ≤ 7) : a &&& b ≤ 7 := Nat.le_trans Nat.and_le_left h
theorem and_and {a b : Nat} : (a &&& b) &&& a = a &&& b := by rw [Nat.and_comm a b, Nat.and_assoc, Nat.and_self]
/-- what is derived is right, of the same kind and object, and gives no more; or nothing is -/
def derC (k o r b g n k2 o2 r2 b2 g2 n2 e : Int) : Prop :=
  (e ≠ 0 ∧ k2 = 0 ∧ o2 = 0 ∧ r2 = 0 ∧ b2 = 0 ∧ g2 = 0 ∧ n2 = 0) ∨
  (e = 0 ∧ checkS k o r b g n = 0 ∧ checkS k2 o2 r2 b2 g2 n2 = 0 ∧ k2 = k ∧ o2 = o ∧ r2.toNat &&& r.toNat = r2.toNat ∧ (b = 0 ∨ b2 = b) ∧ 0 ≤ b2 ∧ 0 ≤ g2)
theorem derive_is {k o r b g n r' b' g' n' : Int} (hr0 : -9223372036854775808 ≤ r) (hr1 : r ≤ 9223372036854775807) (hb : 0 ≤ b) (hg : 0 ≤ g)
    (hr0' : -9223372036854775808 ≤ r') (hr1' : r' ≤ 9223372036854775807) (hb' : 0 ≤ b') (hg' : 0 ≤ g') :
    ∃ k2 o2 r2 b2 g2 n2 e, cap_Derive.f k o r b g n r' b' g' n' = some (k2, o2, r2, b2, g2, n2, e) ∧ derC k o r b g n k2 o2 r2 b2 g2 n2 e := by
  unfold cap_Derive.f
  rw [check_is hr0 hr1 hb hg, Option.bind_some]
  have Z : ∀ e : Int, e ≠ 0 → ∃ k2 o2 r2 b2 g2 n2 e2, (some ((0 : Int), (0 : Int), (0 : Int), (0 : Int), (0 : Int), (0 : Int), e) : Option (Int × Int × Int × Int × Int × Int × Int)) = some (k2, o2, r2, b2, g2, n2, e2) ∧ derC k o r b g n k2 o2 r2 b2 g2 n2 e2 :=
    fun e he => ⟨0, 0, 0, 0, 0, 0, e, rfl, .inl ⟨he, rfl, rfl, rfl, rfl, rfl, rfl⟩⟩
  by_cases c : checkS k o r b g n = 0
  · rw [if_pos c]
    obtain ⟨hk, h⟩ := check_0.1 c
    have hr := ok_r h
    by_cases c0 : k = 0
    · rw [if_pos c0]; exact Z 3 (by decide)
    · rw [if_neg c0]
      by_cases c1 : k = 1 ∨ k = 10 ∨ k = 11
      · rw [if_pos c1]; exact Z 2 (by decide)
      · rw [if_neg c1, rcheck_is hr0' hr1', Option.bind_some]
        by_cases c2 : 0 ≤ r' ∧ r' ≤ 7
        · rw [decide_eq_true c2, if_pos rfl]
          have hm7 := and_le7 (a := r.toNat) (b := r'.toNat) (by omega)
          have hmm := and_and (a := r.toNat) (b := r'.toNat)
          by_cases c6 : k = 6
          · rw [if_pos c6, mask_is hr c2, Option.bind_some]
            refine ⟨_, _, _, _, _, _, _, rfl, .inr ⟨rfl, c, check_0.2 ⟨hk, ?_⟩, rfl, rfl, by rw [Int.toNat_natCast]; exact hmm, .inr rfl, hb, hg⟩⟩
            unfold okC at h ⊢; subst c6; omega
          · rw [if_neg c6]
            by_cases c22 : k = 2
            · rw [if_pos c22, fits_is hg', Option.bind_some]
              by_cases f : 0 ≤ n' ∧ n' ≤ 16 ∧ g' < (2 : Int) ^ n'.toNat
              · rw [decide_eq_true f, if_pos rfl]
                refine ⟨_, _, _, _, _, _, _, rfl, .inr ⟨rfl, c, check_0.2 ⟨hk, ?_⟩, rfl, rfl, Nat.and_self _, .inr rfl, hb, hg'⟩⟩
                unfold okC at h ⊢; subst c22; omega
              · rw [decide_eq_false f, if_neg (by decide)]; exact Z 10 (by decide)
            · rw [if_neg c22]
              by_cases c45 : k = 4 ∨ k = 5
              · rw [if_pos c45, mask_is hr c2, Option.bind_some]
                by_cases d1 : b' = 0
                · rw [if_pos d1]
                  by_cases d2 : b / 268435456 = 0
                  · rw [if_pos d2]
                    refine ⟨_, _, _, _, _, _, _, rfl, .inr ⟨rfl, c, check_0.2 ⟨hk, ?_⟩, rfl, rfl, by rw [Int.toNat_natCast]; exact hmm, .inr rfl, hb, hg⟩⟩
                    unfold okC at h ⊢; omega
                  · rw [if_neg d2]; exact Z 10 (by decide)
                · rw [if_neg d1]
                  by_cases d2 : b = 0
                  · rw [if_pos d2]
                    by_cases d3 : b' / 268435456 = 0
                    · rw [if_pos d3]
                      refine ⟨_, _, _, _, _, _, _, rfl, .inr ⟨rfl, c, check_0.2 ⟨hk, ?_⟩, rfl, rfl, by rw [Int.toNat_natCast]; exact hmm, .inl d2, hb', hg⟩⟩
                      unfold okC at h ⊢; omega
                    · rw [if_neg d3]; exact Z 10 (by decide)
                  · rw [if_neg d2]; exact Z 8 (by decide)
              · rw [if_neg c45]
                exact ⟨_, _, _, _, _, _, _, rfl, .inr ⟨rfl, c, c, rfl, rfl, Nat.and_self _, .inr rfl, hb, hg⟩⟩
        · rw [decide_eq_false c2, if_neg (by decide)]; exact Z 5 (by decide)
  · rw [if_neg c]; exact Z _ c
theorem der_weak {k o r b g n k2 o2 r2 b2 g2 n2 : Int} (h : derC k o r b g n k2 o2 r2 b2 g2 n2 0) : weakC k2 o2 r2 b2 g2 n2 k o r b g n := by
  rcases h with h | h
  · exact absurd rfl h.1
  · exact ⟨h.2.2.1, h.2.1, h.2.2.2.1, h.2.2.2.2.1, h.2.2.2.2.2.1, h.2.2.2.2.2.2.1⟩
theorem wu0 {a : Int} (h : (Lit.int .u64 a).wf = true) : 0 ≤ a := by obtain ⟨n, rfl, _⟩ := wu h; omega
theorem rmask_fin : ∀ a b : Fin 8, donjonref04_Mask.f 20 (a.val : Int) (b.val : Int) = some (((a.val &&& b.val : Nat) : Int)) := by decide +kernel
theorem rmask_is {a b : Int} (ha : 0 ≤ a ∧ a ≤ 7) (hb : 0 ≤ b ∧ b ≤ 7) : donjonref04_Mask.f 20 a b = some (((a.toNat &&& b.toNat : Nat) : Int)) := by
  have := rmask_fin ⟨a.toNat, by omega⟩ ⟨b.toNat, by omega⟩
  simp only at this
  rw [show ((a.toNat : Nat) : Int) = a by omega, show ((b.toNat : Nat) : Int) = b by omega] at this
  exact this
theorem rwithin_fin : ∀ a b : Fin 8, donjonref04_Within.f 20 (a.val : Int) (b.val : Int) = some (decide (a.val &&& b.val = a.val)) := by decide +kernel
theorem rwithin_is {a b : Int} (ha : 0 ≤ a ∧ a ≤ 7) (hb : 0 ≤ b ∧ b ≤ 7) : donjonref04_Within.f 20 a b = some (decide (a.toNat &&& b.toNat = a.toNat)) := by
  have := rwithin_fin ⟨a.toNat, by omega⟩ ⟨b.toNat, by omega⟩
  simp only at this
  rw [show ((a.toNat : Nat) : Int) = a by omega, show ((b.toNat : Nat) : Int) = b by omega] at this
  exact this
theorem rweak_is {k o r b g n k' o' r' b' g' n' : Int} (hg : 0 ≤ g) (hg' : 0 ≤ g') :
    donjonref05_Weaker.f 20 k o r b g n k' o' r' b' g' n' = some (decide (weakC k o r b g n k' o' r' b' g' n')) := by
  unfold donjonref05_Weaker.f
  rw [rcheck_ref (m := 14) hg, Option.bind_some]
  by_cases c : checkS k o r b g n = 0
  · rw [if_pos c, rcheck_ref (m := 14) hg', Option.bind_some]
    by_cases d : checkS k' o' r' b' g' n' = 0
    · rw [if_pos d]
      by_cases e1 : k = k'
      · rw [if_pos e1]
        by_cases e2 : o = o'
        · rw [if_pos e2, rwithin_is (ok_r (check_0.1 c).2) (ok_r (check_0.1 d).2), Option.bind_some]
          by_cases e3 : r.toNat &&& r'.toNat = r.toNat
          · rw [decide_eq_true e3, if_pos rfl]
            by_cases e4 : b' = 0
            · rw [if_pos e4, decide_eq_true ⟨c, d, e1, e2, e3, .inl e4⟩]
            · rw [if_neg e4]
              congr 1
              rw [Bool.eq_iff_iff]
              simp only [beq_iff_eq, decide_eq_true_eq]
              constructor
              · intro h; exact ⟨c, d, e1, e2, e3, .inr h⟩
              · intro h; rcases h.2.2.2.2.2 with h | h
                · exact absurd h e4
                · exact h
          · rw [decide_eq_false e3, if_neg (by decide), decide_eq_false (fun h => e3 h.2.2.2.2.1)]
        · rw [if_neg e2, decide_eq_false (fun h => e2 h.2.2.2.1)]
      · rw [if_neg e1, decide_eq_false (fun h => e1 h.2.2.1)]
    · rw [if_neg d, decide_eq_false (fun h => d h.2.1)]
  · rw [if_neg c, decide_eq_false (fun h => c h.1)]
theorem derive_same {k o r b g n r' b' g' n' : Int} (hr0 : -9223372036854775808 ≤ r) (hr1 : r ≤ 9223372036854775807) (hb : 0 ≤ b) (hg : 0 ≤ g)
    (hr0' : -9223372036854775808 ≤ r') (hr1' : r' ≤ 9223372036854775807) (hb' : 0 ≤ b') (hg' : 0 ≤ g') : cap_Derive.f k o r b g n r' b' g' n' = donjonref05_Derive.f k o r b g n r' b' g' n' := by
  unfold cap_Derive.f donjonref05_Derive.f
  rw [check_is hr0 hr1 hb hg, rcheck_ref (m := 14) hg, Option.bind_some, Option.bind_some]
  have e1 : rights_Check.f r' = donjonref04_Check.f r' := by rw [rcheck_is hr0' hr1', right_ref]
  have e3 : cap_fits.f g' n' = donjonref05_guarded.f g' n' := by rw [fits_is hg', guarded_ref hg']
  by_cases c : checkS k o r b g n = 0
  · rw [if_pos c, if_pos c, e1, e3]
    obtain ⟨hk, h⟩ := check_0.1 c
    have hr := ok_r h
    by_cases c2 : 0 ≤ r' ∧ r' ≤ 7
    · have e2 : rights_Mask.f r r' = donjonref04_Mask.f 20 r r' := by rw [mask_is hr c2, rmask_is hr c2]
      rw [e2]
      have q : b / 268435456 = 0 := by unfold okC at h; omega
      by_cases d : b' ≥ 268435456
      · have d' : ¬ b' / 268435456 = 0 := by omega
        simp only [if_pos d, if_neg d', if_pos q]
      · have d' : b' / 268435456 = 0 := by omega
        simp only [if_neg d, if_pos d', if_pos q]
    · rw [right_ref, decide_eq_false c2]
      simp only [Option.bind_some, Bool.false_eq_true, if_false]
  · rw [if_neg c, if_neg c]
theorem derives_all {k o r b g n k1 o1 r1 b1 g1 n1 r' b' g' n' : Int} (hr0 : -9223372036854775808 ≤ r) (hr1 : r ≤ 9223372036854775807) (hb : 0 ≤ b) (hg : 0 ≤ g)
    (hs0 : -9223372036854775808 ≤ r1) (hs1 : r1 ≤ 9223372036854775807) (hsb : 0 ≤ b1) (hsg : 0 ≤ g1)
    (hr0' : -9223372036854775808 ≤ r') (hr1' : r' ≤ 9223372036854775807) (hb' : 0 ≤ b') (hg' : 0 ≤ g') : donjonlaw05_CapDerives.f 20 k o r b g n k1 o1 r1 b1 g1 n1 r' b' g' n' = some true := by
  obtain ⟨dk, dO, dr, db, dg, dn, de, hd, _⟩ := derive_is (k := k) (o := o) (r := r) (b := b) (g := g) (n := n) (n' := n') hr0 hr1 hb hg hr0' hr1' hb' hg'
  have hd' : donjonref05_Derive.f k o r b g n r' b' g' n' = some (dk, dO, dr, db, dg, dn, de) := by rw [← derive_same hr0 hr1 hb hg hr0' hr1' hb' hg']; exact hd
  have hw : cap_Weaker.f 20 k o r b g n k1 o1 r1 b1 g1 n1 = some (decide (weakC k o r b g n k1 o1 r1 b1 g1 n1)) :=
    at_rounds (g := fun j => cap_Weaker.f j k o r b g n k1 o1 r1 b1 g1 n1) (fun j => cap_Weaker.mono k o r b g n k1 o1 r1 b1 g1 n1 j) (show 10 ≤ 20 by decide) (weak_is hr0 hr1 hb hg hs0 hs1 hsb hsg)
  unfold donjonlaw05_CapDerives.f
  rw [hd, Option.bind_some, hd', Option.bind_some, hw, Option.bind_some, rweak_is hg hsg, Option.bind_some]
  simp
theorem CapDerives.walk (k o r b g n k1 o1 r1 b1 g1 n1 r' b' g' n' : Int) (w : World)
    (_ : (Lit.int .i64 k).wf = true) (_ : (Lit.int .i64 o).wf = true) (hr : (Lit.int .i64 r).wf = true) (hb : (Lit.int .u64 b).wf = true) (hg : (Lit.int .u64 g).wf = true) (_ : (Lit.int .i64 n).wf = true)
    (_ : (Lit.int .i64 k1).wf = true) (_ : (Lit.int .i64 o1).wf = true) (hs : (Lit.int .i64 r1).wf = true) (hsb : (Lit.int .u64 b1).wf = true) (hsg : (Lit.int .u64 g1).wf = true) (_ : (Lit.int .i64 n1).wf = true)
    (h1 : (Lit.int .i64 r').wf = true) (hb1 : (Lit.int .u64 b').wf = true) (hg1 : (Lit.int .u64 g').wf = true) (_ : (Lit.int .i64 n').wf = true) :
    Calls Try.prog 3 #[.agg #[.int .i64 k, .int .i64 o, .int .i64 r, .int .u64 b, .int .u64 g, .int .i64 n], .agg #[.int .i64 k1, .int .i64 o1, .int .i64 r1, .int .u64 b1, .int .u64 g1, .int .i64 n1], .agg #[.int .i64 r', .int .u64 b', .int .u64 g', .int .i64 n']] w
      fun e w' => e = .returned (.bool true) ∧ Below w.heap.size w w' :=
  (donjonlaw05_CapDerives.calls 20 k o r b g n k1 o1 r1 b1 g1 n1 r' b' g' n' true w (derives_all (wi hr).1 (wi hr).2 (wu0 hb) (wu0 hg) (wi hs).1 (wi hs).2 (wu0 hsb) (wu0 hsg) (wi h1).1 (wi h1).2 (wu0 hb1) (wu0 hg1))).mono fun _ _ h => h
end Go.Proofs.Ytfcjlephhnddaaa.Pure
