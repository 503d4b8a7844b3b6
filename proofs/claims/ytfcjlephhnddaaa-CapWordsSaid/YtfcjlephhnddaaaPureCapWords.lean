/- What the functions compute, over numbers and lists alone, and the law's walk over it. -/
import Derived.Test.YtfcjlephhnddaaaTCapWords2
import Derived.Test.YtfcjlephhnddaaaPureCapRef
import Derived.Test.YtfcjlephhnddaaaBase4
import Derived.Test.YtfcjlephhnddaaaPlain
import Derived.Test.YtfcjlephhnddaaaPlainB
import Derived.Test.YtfcjlephhnddaaaPlainR
namespace Go.Proofs.Ytfcjlephhnddaaa.Pure
open Go Go.RowKit Go.Proofs.YtfcjlephhnddaaaW.PrintWords Go.Proofs.YtfcjlephhnddaaaW.PrintLast Go.Proofs.YtfcjlephhnddaaaW.PrintMore Go.Proofs.Ytfcjlephhnddaaa.Plain Go.Proofs.Ytfcjlephhnddaaa.TCapWords Go.Proofs.Ytfcjlephhnddaaa.Base Go.Proofs.Ytfcjlephhnddaaa.Given Go.Proofs.Ytfcjlephhnddaaa.Weak Go.Proofs.Ytfcjlephhnddaaa.Wrk Go.Proofs.Ytfcjlephhnddaaa.Ref Go.Proofs.Ytfcjlephhnddaaa.RefW Go.Proofs.Ytfcjlephhnddaaa.Pure
set_option linter.unusedVariables false
set_option linter.unusedSimpArgs false
theorem field_yes {p m : Nat} (h1 : 1 ≤ m) (h : p + m ≤ 64) : bits_field.f p m = some true := by
  unfold bits_field.f
  rw [if_pos (by omega), if_pos (by omega), if_pos (by omega), w64 (by omega) (by omega)]
  simp; omega
theorem field_no {p m : Int} (h : ¬ (1 ≤ m ∧ 0 ≤ p ∧ p + m ≤ 64)) : bits_field.f p m = some false := by
  unfold bits_field.f
  by_cases a : m ≥ 1
  · rw [if_pos a]
    by_cases b : m ≤ 64
    · rw [if_pos b, w64 (by omega) (by omega)]
      by_cases c : p ≥ 0
      · rw [if_pos c]; simp; omega
      · rw [if_neg c]
    · rw [if_neg b]
  · rw [if_neg a]
theorem mask_yes {m : Nat} (h1 : 1 ≤ m) (h : m ≤ 64) : bits_mask.f m = some ((2 ^ m - 1 : Nat) : Int) := by
  unfold bits_mask.f
  have e : wrap64 (64 - (m : Int)) = ((64 - m : Nat) : Int) := by rw [w64 (by omega) (by omega)]; omega
  rw [e, if_pos (by omega), show (18446744073709551615 : Int) = ((18446744073709551615 : Nat) : Int) from rfl, shr_n _ _ (by omega), ones_div m h]
theorem get_yes {w p m : Nat} (hw : w < 18446744073709551616) (h1 : 1 ≤ m) (h : p + m ≤ 64) : bits_Get.f w p m = some ((getN w p m : Int), 0) := by
  unfold bits_Get.f
  rw [field_yes h1 h]
  simp only [Option.bind_some, if_true]
  rw [if_pos (by omega), mask_yes h1 (by omega)]
  simp only [Option.bind_some]
  have h2 : w / 2 ^ p < 18446744073709551616 := Nat.lt_of_le_of_lt (Nat.div_le_self _ _) hw
  have h3 : 2 ^ m - 1 < 18446744073709551616 := by have := pow_le64 (show m ≤ 64 by omega); have := Nat.two_pow_pos m; omega
  rw [shr_n _ _ (by omega), band _ _ h2 h3, and_mask]
  rfl
theorem get_no {w p m : Int} (h : ¬ (1 ≤ m ∧ 0 ≤ p ∧ p + m ≤ 64)) : bits_Get.f w p m = some (0, 1) := by
  unfold bits_Get.f
  rw [field_no h]; rfl
theorem put_yes {w p m v : Nat} (hw : w < 18446744073709551616) (h1 : 1 ≤ m) (h : p + m ≤ 64) (hv : v < 2 ^ m) : bits_Put.f w p m v = some ((putN w p m v : Int), 0) := by
  unfold bits_Put.f
  have hm := pow_le64 (show m ≤ 64 by omega)
  have hp := Nat.two_pow_pos m
  rw [field_yes h1 h]
  simp only [Option.bind_some, if_true]
  rw [mask_yes h1 (by omega)]
  simp only [Option.bind_some]
  rw [bnot _ _ (by omega) (by omega), (noN_mask v m).2 hv, if_pos (by rfl), if_pos (by omega), shl_n _ _ (by omega), shl_n _ _ (by omega), bnot _ _ hw (Nat.mod_lt _ (by decide)), bor _ _ (noN_lt hw) (Nat.mod_lt _ (by decide)), or_put w p m v hw hv h]
theorem put_big {w p m v : Nat} (hv64 : v < 18446744073709551616) (h1 : 1 ≤ m) (h : p + m ≤ 64) (hv : ¬ v < 2 ^ m) : bits_Put.f w p m v = some (0, 10) := by
  unfold bits_Put.f
  have hm := pow_le64 (show m ≤ 64 by omega)
  have hp := Nat.two_pow_pos m
  rw [field_yes h1 h]
  simp only [Option.bind_some, if_true]
  rw [mask_yes h1 (by omega)]
  simp only [Option.bind_some]
  rw [bnot _ _ hv64 (by omega), if_neg (by have := mt (noN_mask v m).1 hv; omega)]
theorem put_no {w p m v : Int} (h : ¬ (1 ≤ m ∧ 0 ≤ p ∧ p + m ≤ 64)) : bits_Put.f w p m v = some (0, 1) := by
  unfold bits_Put.f
  rw [field_no h]; rfl
theorem putN_small {w p m v : Nat} (hw : w < 2 ^ p) : putN w p m v = 2 ^ p * v + w := by
  unfold putN
  have h : w < 2 ^ (p + m) := Nat.lt_of_lt_of_le hw (Nat.pow_le_pow_right (by decide) (by omega))
  rw [Nat.div_eq_of_lt h, Nat.mod_eq_of_lt hw, Nat.mul_zero, Nat.zero_add]
theorem put_small {w p m v : Nat} (hp : p + m ≤ 64) (h1 : 1 ≤ m) (hw : w < 2 ^ p) (hv : v < 2 ^ m) : bits_Put.f w p m v = some (((2 ^ p * v + w : Nat) : Int), 0) := by
  have hw64 : w < 18446744073709551616 := Nat.lt_of_lt_of_le hw (pow_le64 (by omega))
  rw [put_yes hw64 h1 hp hv, putN_small hw]
theorem words_is {k o r b g n : Int} (hr0 : -9223372036854775808 ≤ r) (hr1 : r ≤ 9223372036854775807) (hb : 0 ≤ b) (hg : 0 ≤ g) :
    cap_Words.f k o r b g n = some (if checkS k o r b g n = 0 then (k + o * 16 + r * 1024 + n * 8192, b + g * 4294967296, 0) else (0, 0, checkS k o r b g n)) := by
  unfold cap_Words.f
  rw [check_is hr0 hr1 hb hg, Option.bind_some]
  by_cases c : checkS k o r b g n = 0
  · rw [if_pos c, if_pos c]
    obtain ⟨hk, h⟩ := check_0.1 c
    unfold okC at h
    have hT : (2 : Int) ^ n.toNat ≤ 65536 := by
      have := Nat.pow_le_pow_right (show 0 < 2 by decide) (show n.toNat ≤ 16 by omega)
      have e : ((2 ^ n.toNat : Nat) : Int) = (2 : Int) ^ n.toNat := by simp
      omega
    obtain ⟨k, rfl⟩ : ∃ m : Nat, k = m := ⟨k.toNat, by omega⟩
    obtain ⟨o, rfl⟩ : ∃ m : Nat, o = m := ⟨o.toNat, by omega⟩
    obtain ⟨r, rfl⟩ : ∃ m : Nat, r = m := ⟨r.toNat, by omega⟩
    obtain ⟨b, rfl⟩ : ∃ m : Nat, b = m := ⟨b.toNat, by omega⟩
    obtain ⟨g, rfl⟩ : ∃ m : Nat, g = m := ⟨g.toNat, by omega⟩
    obtain ⟨n, rfl⟩ : ∃ m : Nat, n = m := ⟨n.toNat, by omega⟩
    have p1 : bits_Put.f 0 0 4 (k : Int) = some (((2 ^ 0 * k + 0 : Nat) : Int), 0) := put_small (w := 0) (p := 0) (m := 4) (by omega) (by omega) (by omega) (by omega)
    have p2 : bits_Put.f ((2 ^ 0 * k + 0 : Nat) : Int) 4 6 (o : Int) = some (((2 ^ 4 * o + (2 ^ 0 * k + 0) : Nat) : Int), 0) := put_small (p := 4) (m := 6) (by omega) (by omega) (by omega) (by omega)
    have p3 : bits_Put.f ((2 ^ 4 * o + (2 ^ 0 * k + 0) : Nat) : Int) 10 3 (r : Int) = some (((2 ^ 10 * r + (2 ^ 4 * o + (2 ^ 0 * k + 0)) : Nat) : Int), 0) := put_small (p := 10) (m := 3) (by omega) (by omega) (by omega) (by omega)
    have p4 : bits_Put.f ((2 ^ 10 * r + (2 ^ 4 * o + (2 ^ 0 * k + 0)) : Nat) : Int) 13 5 (n : Int) = some (((2 ^ 13 * n + (2 ^ 10 * r + (2 ^ 4 * o + (2 ^ 0 * k + 0))) : Nat) : Int), 0) := put_small (p := 13) (m := 5) (by omega) (by omega) (by omega) (by omega)
    have p5 : bits_Put.f 0 0 28 (b : Int) = some (((2 ^ 0 * b + 0 : Nat) : Int), 0) := put_small (w := 0) (p := 0) (m := 28) (by omega) (by omega) (by omega) (by omega)
    have p6 : bits_Put.f ((2 ^ 0 * b + 0 : Nat) : Int) 32 16 (g : Int) = some (((2 ^ 32 * g + (2 ^ 0 * b + 0) : Nat) : Int), 0) := put_small (p := 32) (m := 16) (by omega) (by omega) (by omega) (by omega)
    rw [u64n (by omega), u64n (by omega), u64n (by omega), u64n (by omega), p1, Option.bind_some]
    simp only []
    rw [p2, Option.bind_some]
    simp only []
    rw [p3, Option.bind_some]
    simp only []
    rw [p4, Option.bind_some, p5, Option.bind_some]
    simp only []
    rw [p6, Option.bind_some]
    simp only [Option.some.injEq, Prod.mk.injEq]
    refine ⟨by omega, by omega, trivial⟩
  · rw [if_neg c, if_neg c]
/-- the fields of two words -/
theorem of_is {x y : Nat} (hx : x < 18446744073709551616) (hy : y < 18446744073709551616) : cap_Of.f x y =
    (cap_Words.f ((x % 16 : Nat) : Int) ((x / 16 % 64 : Nat) : Int) ((x / 1024 % 8 : Nat) : Int) ((y % 268435456 : Nat) : Int) ((y / 4294967296 % 65536 : Nat) : Int) ((x / 8192 % 32 : Nat) : Int)).bind fun u =>
      if u.2.2 = 0 ∧ u.1 = x ∧ u.2.1 = y then some (((x % 16 : Nat) : Int), ((x / 16 % 64 : Nat) : Int), ((x / 1024 % 8 : Nat) : Int), ((y % 268435456 : Nat) : Int), ((y / 4294967296 % 65536 : Nat) : Int), ((x / 8192 % 32 : Nat) : Int), 0) else some (0, 0, 0, 0, 0, 0, 10) := by
  unfold cap_Of.f
  have e0 : ∀ z m : Nat, getN z 0 m = z % 2 ^ m := fun z m => by unfold getN; rw [Nat.pow_zero, Nat.div_one]
  have g1 : bits_Get.f x 0 4 = some (((x % 16 : Nat) : Int), 0) := by have := get_yes (p := 0) (m := 4) hx (by omega) (by omega); rw [e0] at this; exact this
  have g2 : bits_Get.f x 4 6 = some (((x / 16 % 64 : Nat) : Int), 0) := get_yes (p := 4) (m := 6) hx (by omega) (by omega)
  have g3 : bits_Get.f x 10 3 = some (((x / 1024 % 8 : Nat) : Int), 0) := get_yes (p := 10) (m := 3) hx (by omega) (by omega)
  have g4 : bits_Get.f x 13 5 = some (((x / 8192 % 32 : Nat) : Int), 0) := get_yes (p := 13) (m := 5) hx (by omega) (by omega)
  have g5 : bits_Get.f y 0 28 = some (((y % 268435456 : Nat) : Int), 0) := by have := get_yes (p := 0) (m := 28) hy (by omega) (by omega); rw [e0] at this; exact this
  have g6 : bits_Get.f y 32 16 = some (((y / 4294967296 % 65536 : Nat) : Int), 0) := get_yes (p := 32) (m := 16) hy (by omega) (by omega)
  rw [g1, Option.bind_some, g2, Option.bind_some, g3, Option.bind_some, g4, Option.bind_some, g5, Option.bind_some, g6, Option.bind_some]
  simp only []
  rw [w64 (n := ((x % 16 : Nat) : Int)) (by omega) (by omega), w64 (n := ((x / 16 % 64 : Nat) : Int)) (by omega) (by omega), w64 (n := ((x / 1024 % 8 : Nat) : Int)) (by omega) (by omega), w64 (n := ((x / 8192 % 32 : Nat) : Int)) (by omega) (by omega)]
theorem of_words {k o r b g n : Int} (c : checkS k o r b g n = 0) (hb : 0 ≤ b) (hg : 0 ≤ g) : cap_Of.f (k + o * 16 + r * 1024 + n * 8192) (b + g * 4294967296) = some (k, o, r, b, g, n, 0) := by
  obtain ⟨hk, h⟩ := check_0.1 c
  have h' := h
  unfold okC at h
  have hT : (2 : Int) ^ n.toNat ≤ 65536 := by
    have := Nat.pow_le_pow_right (show 0 < 2 by decide) (show n.toNat ≤ 16 by omega)
    have e : ((2 ^ n.toNat : Nat) : Int) = (2 : Int) ^ n.toNat := by simp
    omega
  have W := words_is (k := k) (o := o) (r := r) (b := b) (g := g) (n := n) (by omega) (by omega) hb hg
  rw [if_pos c] at W
  obtain ⟨x, hx⟩ : ∃ x : Nat, k + o * 16 + r * 1024 + n * 8192 = x := ⟨(k + o * 16 + r * 1024 + n * 8192).toNat, by omega⟩
  obtain ⟨y, hy⟩ : ∃ y : Nat, b + g * 4294967296 = y := ⟨(b + g * 4294967296).toNat, by omega⟩
  rw [hx, hy] at W ⊢
  rw [of_is (by omega) (by omega)]
  have e1 : ((x % 16 : Nat) : Int) = k := by omega
  have e2 : ((x / 16 % 64 : Nat) : Int) = o := by omega
  have e3 : ((x / 1024 % 8 : Nat) : Int) = r := by omega
  have e4 : ((y % 268435456 : Nat) : Int) = b := by omega
  have e5 : ((y / 4294967296 % 65536 : Nat) : Int) = g := by omega
  have e6 : ((x / 8192 % 32 : Nat) : Int) = n := by omega
  rw [e1, e2, e3, e4, e5, e6, W, Option.bind_some]
  simp only []
  rw [if_pos ⟨trivial, trivial, trivial⟩]
theorem wu0 {a : Int} (h : (Lit.int .u64 a).wf = true) : 0 ≤ a := by obtain ⟨n, rfl, _⟩ := wu h; omega
theorem check_100 {k o r b g n : Int} (hr0 : -9223372036854775808 ≤ r) (hr1 : r ≤ 9223372036854775807) (hb : 0 ≤ b) (hg : 0 ≤ g) : cap_Check.f 100 k o r b g n = some (checkS k o r b g n) :=
  at_rounds (g := fun j => cap_Check.f j k o r b g n) (fun j => cap_Check.mono k o r b g n j) (show 10 ≤ 100 by decide) (check_is hr0 hr1 hb hg)
theorem of_same {x y : Nat} (hx : x < 18446744073709551616) (hy : y < 18446744073709551616) : ∃ o, cap_Of.f x y = some o ∧ donjonref05_Of.f 100 x y = some o := by
  have W := words_is (k := ((x % 16 : Nat) : Int)) (o := ((x / 16 % 64 : Nat) : Int)) (r := ((x / 1024 % 8 : Nat) : Int)) (b := ((y % 268435456 : Nat) : Int)) (g := ((y / 4294967296 % 65536 : Nat) : Int)) (n := ((x / 8192 % 32 : Nat) : Int)) (by omega) (by omega) (by omega) (by omega)
  have R := rwords_ref (m := 94) (k := ((x % 16 : Nat) : Int)) (o := ((x / 16 % 64 : Nat) : Int)) (r := ((x / 1024 % 8 : Nat) : Int)) (b := ((y % 268435456 : Nat) : Int)) (g := ((y / 4294967296 % 65536 : Nat) : Int)) (n := ((x / 8192 % 32 : Nat) : Int)) (by omega) (by omega)
  have A := of_is hx hy
  have B := rof_ref (m := 30) hx hy
  rw [W] at A
  rw [R] at B
  rw [Option.bind_some] at A B
  by_cases c : (if checkS ((x % 16 : Nat) : Int) ((x / 16 % 64 : Nat) : Int) ((x / 1024 % 8 : Nat) : Int) ((y % 268435456 : Nat) : Int) ((y / 4294967296 % 65536 : Nat) : Int) ((x / 8192 % 32 : Nat) : Int) = 0 then (((x % 16 : Nat) : Int) + ((x / 16 % 64 : Nat) : Int) * 16 + ((x / 1024 % 8 : Nat) : Int) * 1024 + ((x / 8192 % 32 : Nat) : Int) * 8192, ((y % 268435456 : Nat) : Int) + ((y / 4294967296 % 65536 : Nat) : Int) * 4294967296, (0 : Int)) else ((0 : Int), (0 : Int), checkS ((x % 16 : Nat) : Int) ((x / 16 % 64 : Nat) : Int) ((x / 1024 % 8 : Nat) : Int) ((y % 268435456 : Nat) : Int) ((y / 4294967296 % 65536 : Nat) : Int) ((x / 8192 % 32 : Nat) : Int))) = ((x : Int), (y : Int), (0 : Int))
  · rw [c, if_pos ⟨rfl, rfl, rfl⟩] at A B
    exact ⟨_, A, B⟩
  · rw [if_neg (fun h => c (Prod.ext h.2.1 (Prod.ext h.2.2 h.1)))] at A B
    exact ⟨_, A, B⟩
theorem words_all {k o r b g n : Int} {x y : Nat} (hr0 : -9223372036854775808 ≤ r) (hr1 : r ≤ 9223372036854775807) (hb : 0 ≤ b) (hg : 0 ≤ g) (hx : x < 18446744073709551616) (hy : y < 18446744073709551616) :
    donjonlaw05_CapWords.f 100 k o r b g n x y = some true := by
  obtain ⟨u, hu, hu'⟩ : ∃ u, cap_Words.f k o r b g n = some u ∧ donjonref05_Words.f 100 k o r b g n = some u := ⟨_, words_is hr0 hr1 hb hg, rwords_ref (m := 94) hb hg⟩
  obtain ⟨v, hv, hv'⟩ := of_same hx hy
  unfold donjonlaw05_CapWords.f
  rw [hu, Option.bind_some, hu', Option.bind_some, hv, Option.bind_some, hv', Option.bind_some, check_100 hr0 hr1 hb hg, Option.bind_some, rcheck_ref (m := 94) hg, Option.bind_some]
  simp
theorem CapWords.walk (k o r b g n x y : Int) (w : World)
    (_ : (Lit.int .i64 k).wf = true) (_ : (Lit.int .i64 o).wf = true) (hr : (Lit.int .i64 r).wf = true) (hb : (Lit.int .u64 b).wf = true) (hg : (Lit.int .u64 g).wf = true) (_ : (Lit.int .i64 n).wf = true)
    (hx : (Lit.int .u64 x).wf = true) (hy : (Lit.int .u64 y).wf = true) :
    Calls Try.prog 4 #[.agg #[.int .i64 k, .int .i64 o, .int .i64 r, .int .u64 b, .int .u64 g, .int .i64 n], .int .u64 x, .int .u64 y] w fun e w' => e = .returned (.bool true) ∧ Below w.heap.size w w' := by
  obtain ⟨x, rfl, hx⟩ := wu hx
  obtain ⟨y, rfl, hy⟩ := wu hy
  exact (donjonlaw05_CapWords.calls 100 k o r b g n x y true w (words_all (wi hr).1 (wi hr).2 (wu0 hb) (wu0 hg) (by assumption) (by assumption))).mono fun _ _ h => h
end Go.Proofs.Ytfcjlephhnddaaa.Pure
