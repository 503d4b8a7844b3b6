/- What the functions compute, over numbers and lists alone, and the law's walk over it. -/
import Derived.Test.YtfcjlephhnddaaaTCapBadges2
import Derived.Test.YtfcjlephhnddaaaPureCap
import Derived.Test.YtfcjlephhnddaaaPlain
import Derived.Test.YtfcjlephhnddaaaPlainB
import Derived.Test.YtfcjlephhnddaaaPlainR
namespace Go.Proofs.Ytfcjlephhnddaaa.Pure
open Go Go.RowKit Go.Proofs.YtfcjlephhnddaaaW.PrintWords Go.Proofs.YtfcjlephhnddaaaW.PrintLast Go.Proofs.YtfcjlephhnddaaaW.PrintMore Go.Proofs.Ytfcjlephhnddaaa.Plain Go.Proofs.Ytfcjlephhnddaaa.TCapBadges Go.Proofs.Ytfcjlephhnddaaa.Base Go.Proofs.Ytfcjlephhnddaaa.Given Go.Proofs.Ytfcjlephhnddaaa.Weak Go.Proofs.Ytfcjlephhnddaaa.Wrk Go.Proofs.Ytfcjlephhnddaaa.Pure
set_option linter.unusedVariables false
set_option linter.unusedSimpArgs false
theorem mask_fin : ∀ a b : Fin 8, rights_Mask.f (a.val : Int) (b.val : Int) = some (((a.val &&& b.val : Nat) : Int)) := by decide +kernel
theorem mask_is {a b : Int} (ha : 0 ≤ a ∧ a ≤ 7) (hb : 0 ≤ b ∧ b ≤ 7) : rights_Mask.f a b = some (((a.toNat &&& b.toNat : Nat) : Int)) := by
  have := mask_fin ⟨a.toNat, by omega⟩ ⟨b.toNat, by omega⟩
  simp only at this
  rw [show ((a.toNat : Nat) : Int) = a by omega, show ((b.toNat : Nat) : Int) = b by omega] at this
  exact this
theorem and_le7 {a b : Nat} (h : a ≤ 7) : a &&& b ≤ 7 := Nat.le_trans Nat.and_le_left h
theorem and_and {a b : Nat} : (a &&& b) &&& a = a &&& b := by rw [Nat.and_comm a b, Nat.and_assoc, Nat.and_self]
/-- what is derived is right, of the same kind and object, and gives no more; or nothing is -/
def derC (k o r b g n k2 o2 r2 b2 g2 n2 e : Int) : Prop :=
  (e ≠ 0 ∧ k2 = 0 ∧ o2 = 0 ∧ r2 = 0 ∧ b2 = 0 ∧ g2 = 0 ∧ n2 = 0) ∨
  (e = 0 ∧ checkS k o r b g n = 0 ∧ checkS k2 o2 r2 b2 g2 n2 = 0 ∧ k2 = k ∧ o2 = o ∧ r2.toNat &&& r.toNat = r2.toNat ∧ (b = 0 ∨ b2 = b) ∧ 0 ≤ b2 ∧ 0 ≤ g2)
theorem derive_is {k o r b g n r' b' g' n' : Int} (hr0 : -9223372036854775808 ≤ r) (hr1 : r ≤ 9223372036854775807) (hb : 0 ≤ b) (hg : 0 ≤ g)
    (hr0' : -9223372036854775808 ≤ r') (hr1' : r' ≤ 9223372036854775807) (hb' : 0 ≤ b') (hg' : 0 ≤ g') :
    ∃ k2 o2 r2 b2 g2 n2 e, cap_Derive.f k o r b g n r' b' g' n' = some (k2, o2, r2, b2, g2, n2, e) ∧ derC k o r b g n k2 o2 r2 b2 g2 n2 e := by
  unfold cap_Derive.f
  rw [check_is hr0 hr1 hb hg, Option.bind_some]
  have Z : ∀ e : Int, e ≠ 0 → ∃ k2 o2 r2 b2 g2 n2 e2, (some ((0 : Int), (0 : Int), (0 : Int), (0 : Int), (0 : Int), (0 : Int), e) : Option (Int × Int × Int × Int × Int × Int × Int)) = some (k2, o2, r2, b2, g2, n2, e2) ∧ derC k o r b g n k2 o2 r2 b2 g2 n2 e2 :=
    fun e he => ⟨0, 0, 0, 0, 0, 0, e, rfl, .inl ⟨he, rfl, rfl, rfl, rfl, rfl, rfl⟩⟩
  by_cases c : checkS k o r b g n = 0
  · rw [if_pos c]
    obtain ⟨hk, h⟩ := check_0.1 c
    have hr := ok_r h
    by_cases c0 : k = 0
    · rw [if_pos c0]; exact Z 3 (by decide)
    · rw [if_neg c0]
      by_cases c1 : k = 1 ∨ k = 10 ∨ k = 11
      · rw [if_pos c1]; exact Z 2 (by decide)
      · rw [if_neg c1, rcheck_is hr0' hr1', Option.bind_some]
        by_cases c2 : 0 ≤ r' ∧ r' ≤ 7
        · rw [decide_eq_true c2, if_pos rfl]
          have hm7 := and_le7 (a := r.toNat) (b := r'.toNat) (by omega)
          have hmm := and_and (a := r.toNat) (b := r'.toNat)
          by_cases c6 : k = 6
          · rw [if_pos c6, mask_is hr c2, Option.bind_some]
            refine ⟨_, _, _, _, _, _, _, rfl, .inr ⟨rfl, c, check_0.2 ⟨hk, ?_⟩, rfl, rfl, by rw [Int.toNat_natCast]; exact hmm, .inr rfl, hb, hg⟩⟩
            unfold okC at h ⊢; subst c6; omega
          · rw [if_neg c6]
            by_cases c22 : k = 2
            · rw [if_pos c22, fits_is hg', Option.bind_some]
              by_cases f : 0 ≤ n' ∧ n' ≤ 16 ∧ g' < (2 : Int) ^ n'.toNat
              · rw [decide_eq_true f, if_pos rfl]
                refine ⟨_, _, _, _, _, _, _, rfl, .inr ⟨rfl, c, check_0.2 ⟨hk, ?_⟩, rfl, rfl, Nat.and_self _, .inr rfl, hb, hg'⟩⟩
                unfold okC at h ⊢; subst c22; omega
              · rw [decide_eq_false f, if_neg (by decide)]; exact Z 10 (by decide)
            · rw [if_neg c22]
              by_cases c45 : k = 4 ∨ k = 5
              · rw [if_pos c45, mask_is hr c2, Option.bind_some]
                by_cases d1 : b' = 0
                · rw [if_pos d1]
                  by_cases d2 : b / 268435456 = 0
                  · rw [if_pos d2]
                    refine ⟨_, _, _, _, _, _, _, rfl, .inr ⟨rfl, c, check_0.2 ⟨hk, ?_⟩, rfl, rfl, by rw [Int.toNat_natCast]; exact hmm, .inr rfl, hb, hg⟩⟩
                    unfold okC at h ⊢; omega
                  · rw [if_neg d2]; exact Z 10 (by decide)
                · rw [if_neg d1]
                  by_cases d2 : b = 0
                  · rw [if_pos d2]
                    by_cases d3 : b' / 268435456 = 0
                    · rw [if_pos d3]
                      refine ⟨_, _, _, _, _, _, _, rfl, .inr ⟨rfl, c, check_0.2 ⟨hk, ?_⟩, rfl, rfl, by rw [Int.toNat_natCast]; exact hmm, .inl d2, hb', hg⟩⟩
                      unfold okC at h ⊢; omega
                    · rw [if_neg d3]; exact Z 10 (by decide)
                  · rw [if_neg d2]; exact Z 8 (by decide)
              · rw [if_neg c45]
                exact ⟨_, _, _, _, _, _, _, rfl, .inr ⟨rfl, c, c, rfl, rfl, Nat.and_self _, .inr rfl, hb, hg⟩⟩
        · rw [decide_eq_false c2, if_neg (by decide)]; exact Z 5 (by decide)
  · rw [if_neg c]; exact Z _ c
theorem der_weak {k o r b g n k2 o2 r2 b2 g2 n2 : Int} (h : derC k o r b g n k2 o2 r2 b2 g2 n2 0) : weakC k2 o2 r2 b2 g2 n2 k o r b g n := by
  rcases h with h | h
  · exact absurd rfl h.1
  · exact ⟨h.2.2.1, h.2.1, h.2.2.2.1, h.2.2.2.2.1, h.2.2.2.2.2.1, h.2.2.2.2.2.2.1⟩
theorem wu0 {a : Int} (h : (Lit.int .u64 a).wf = true) : 0 ≤ a := by obtain ⟨n, rfl, _⟩ := wu h; omega
theorem derive_ep {k r b r' b' : Int} (hk : k = 4 ∨ k = 5) (c : checkS k 1 r b 0 0 = 0) (hb : 0 ≤ b) (c2 : 0 ≤ r' ∧ r' ≤ 7) : cap_Derive.f k 1 r b 0 0 r' b' 0 0 =
    if b' = 0 then (if b / 268435456 = 0 then some (k, 1, ((r.toNat &&& r'.toNat : Nat) : Int), b, 0, 0, 0) else some (0, 0, 0, 0, 0, 0, 10))
    else if b = 0 then (if b' / 268435456 = 0 then some (k, 1, ((r.toNat &&& r'.toNat : Nat) : Int), b', 0, 0, 0) else some (0, 0, 0, 0, 0, 0, 10)) else some (0, 0, 0, 0, 0, 0, 8) := by
  have hr := ok_r (check_0.1 c).2
  unfold cap_Derive.f
  rw [check_is (by omega) (by omega) hb (by decide), c, Option.bind_some, if_pos rfl, if_neg (by omega), if_neg (by omega), rcheck_is (by omega) (by omega), decide_eq_true c2, Option.bind_some, if_pos rfl, if_neg (by omega), if_neg (by omega), if_pos hk, mask_is hr c2, Option.bind_some]
theorem ep_ok {k r b : Int} (hk : k = 4 ∨ k = 5) (hr : 0 ≤ r ∧ r ≤ 7) (hb : b < 268435456) : checkS k 1 r b 0 0 = 0 :=
  check_0.2 ⟨by omega, by decide, by decide, hr.1, hr.2, hb, by decide, by decide, by decide, by omega, by omega, by omega, by omega⟩
theorem and_fin : ∀ a b : Fin 8, Go.bits .and .i64 (a.val : Int) (b.val : Int) = ((a.val &&& b.val : Nat) : Int) := by decide +kernel
theorem and7_fin : ∀ a : Fin 8, a.val &&& 7 = a.val := by decide
theorem badges_j0 {m : Nat} {k : Int} (hk : k = 4 ∨ k = 5) (x2 x3 x4 : Int) (h3 : 0 ≤ x3) (h4 : 0 ≤ x4) (r : Nat) (hr : r < 8) : donjonlaw05_CapBadges.j0 (m + 1) x2 x3 x4 k 1 r 0 0 0 = some true := by
  simp only [donjonlaw05_CapBadges.j0]
  obtain ⟨q, hq, eq⟩ := tmw x2 8 (by omega) (by omega)
  have eB : IntKind.u64.wrap (1 + Int.tmod x3 268435455) = 1 + x3 % 268435455 := by rw [Int.tmod_eq_emod_of_nonneg h3, u64w]; omega
  have eN : IntKind.u64.wrap (1 + Int.tmod x4 268435455) = 1 + x4 % 268435455 := by rw [Int.tmod_eq_emod_of_nonneg h4, u64w]; omega
  rw [eq, eB, eN]
  have hB : 1 ≤ 1 + x3 % 268435455 ∧ 1 + x3 % 268435455 ≤ 268435455 := by omega
  have hN : 1 ≤ 1 + x4 % 268435455 ∧ 1 + x4 % 268435455 ≤ 268435455 := by omega
  generalize 1 + x3 % 268435455 = B at *
  generalize 1 + x4 % 268435455 = N at *
  have h7 := and_le7 (a := r) (b := q) (by omega)
  have e7 := and7_fin ⟨r &&& q, by omega⟩
  have ea := and_fin ⟨r, hr⟩ ⟨q, by omega⟩
  simp only at e7 ea
  have d1 := derive_ep (k := k) (r := (r : Int)) (b := 0) (r' := (q : Int)) (b' := B) hk (ep_ok hk (by omega) (by decide)) (by decide) (by omega)
  rw [if_neg (by omega), if_pos rfl, if_pos (by omega), Int.toNat_natCast, Int.toNat_natCast] at d1
  have d2 := derive_ep (k := k) (r := ((r &&& q : Nat) : Int)) (b := B) (r' := 7) (b' := N) hk (ep_ok hk (by omega) (by omega)) (by omega) (by omega)
  rw [if_neg (by omega), if_neg (by omega)] at d2
  have d3 := derive_ep (k := k) (r := ((r &&& q : Nat) : Int)) (b := B) (r' := 7) (b' := 0) hk (ep_ok hk (by omega) (by omega)) (by omega) (by omega)
  rw [if_pos rfl, if_pos (by omega), Int.toNat_natCast, show (7 : Int).toNat = 7 from rfl, e7] at d3
  have d4 := derive_ep (k := k) (r := (r : Int)) (b := 0) (r' := (q : Int)) (b' := 268435456) hk (ep_ok hk (by omega) (by decide)) (by decide) (by omega)
  rw [if_neg (by omega), if_pos rfl, if_neg (by omega)] at d4
  rw [d1, Option.bind_some]
  simp only []
  rw [d2, Option.bind_some, d3, Option.bind_some, d4, Option.bind_some]
  simp only []
  rw [if_pos trivial, if_pos trivial, if_pos ea.symm, if_pos trivial, if_pos trivial, if_pos (by simp)]; rfl
theorem badges_all {a : Bool} {r x2 x3 x4 : Int} (h3 : 0 ≤ x3) (h4 : 0 ≤ x4) : donjonlaw05_CapBadges.f 10 a r x2 x3 x4 = some true := by
  unfold donjonlaw05_CapBadges.f
  obtain ⟨q, hq, eq⟩ := tmw r 8 (by omega) (by omega)
  rw [works_yes, Option.bind_some, if_pos rfl, eq]
  cases a
  · rw [if_neg (by decide)]; exact badges_j0 (.inl rfl) x2 x3 x4 h3 h4 q (by omega)
  · rw [if_pos rfl]; exact badges_j0 (.inr rfl) x2 x3 x4 h3 h4 q (by omega)
theorem CapBadges.walk (a : Bool) (r x2 x3 x4 : Int) (w : World) (_ : (Lit.int .i64 r).wf = true) (_ : (Lit.int .i64 x2).wf = true) (h3 : (Lit.int .u64 x3).wf = true) (h4 : (Lit.int .u64 x4).wf = true) :
    Calls Try.prog 9 #[.bool a, .int .i64 r, .int .i64 x2, .int .u64 x3, .int .u64 x4] w fun e w' => e = .returned (.bool true) ∧ Below w.heap.size w w' :=
  (donjonlaw05_CapBadges.calls 10 a r x2 x3 x4 true w (badges_all (wu0 h3) (wu0 h4))).mono fun _ _ h => h
end Go.Proofs.Ytfcjlephhnddaaa.Pure
