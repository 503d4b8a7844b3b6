/- The plain law: over numbers and lists alone, what the functions of MsgInfos compute answers true at every input. -/
import Derived.Test.YtefnfmbmabpkoaaMMsgInfosx1
import Derived.Test.YtefnfmbmabpkoaaPlain
import Derived.Test.YtefnfmbmabpkoaaPlainB
namespace Go.Proofs.Ytefnfmbmabpkoaa.Pure
open Go Go.RowKit Go.Proofs.Ytefnfmbmabpkoaa.PMsgInfos Go.Proofs.YtefnfmbmabpkoaaW.PrintWords Go.Proofs.YtefnfmbmabpkoaaW.PrintLast Go.Proofs.YtefnfmbmabpkoaaW.PrintMore Go.Proofs.Ytefnfmbmabpkoaa.Plain
set_option linter.unusedVariables false
set_option linter.unusedSimpArgs false
theorem field_yes {p m : Nat} (h1 : 1 ≤ m) (h : p + m ≤ 64) : bits_field.f p m = some true := by
  unfold bits_field.f
  rw [if_pos (by omega), if_pos (by omega), if_pos (by omega), w64 (by omega) (by omega)]
  simp; omega
theorem field_no {p m : Int} (h : ¬ (1 ≤ m ∧ 0 ≤ p ∧ p + m ≤ 64)) : bits_field.f p m = some false := by
  unfold bits_field.f
  by_cases a : m ≥ 1
  · rw [if_pos a]
    by_cases b : m ≤ 64
    · rw [if_pos b, w64 (by omega) (by omega)]
      by_cases c : p ≥ 0
      · rw [if_pos c]; simp; omega
      · rw [if_neg c]
    · rw [if_neg b]
  · rw [if_neg a]
theorem mask_yes {m : Nat} (h1 : 1 ≤ m) (h : m ≤ 64) : bits_mask.f m = some ((2 ^ m - 1 : Nat) : Int) := by
  unfold bits_mask.f
  have e : wrap64 (64 - (m : Int)) = ((64 - m : Nat) : Int) := by rw [w64 (by omega) (by omega)]; omega
  rw [e, if_pos (by omega), show (18446744073709551615 : Int) = ((18446744073709551615 : Nat) : Int) from rfl, shr_n _ _ (by omega), ones_div m h]
theorem get_yes {w p m : Nat} (hw : w < 18446744073709551616) (h1 : 1 ≤ m) (h : p + m ≤ 64) : bits_Get.f w p m = some ((getN w p m : Int), 0) := by
  unfold bits_Get.f
  rw [field_yes h1 h]
  simp only [Option.bind_some, if_true]
  rw [if_pos (by omega), mask_yes h1 (by omega)]
  simp only [Option.bind_some]
  have h2 : w / 2 ^ p < 18446744073709551616 := Nat.lt_of_le_of_lt (Nat.div_le_self _ _) hw
  have h3 : 2 ^ m - 1 < 18446744073709551616 := by have := pow_le64 (show m ≤ 64 by omega); have := Nat.two_pow_pos m; omega
  rw [shr_n _ _ (by omega), band _ _ h2 h3, and_mask]
  rfl
theorem get_no {w p m : Int} (h : ¬ (1 ≤ m ∧ 0 ≤ p ∧ p + m ≤ 64)) : bits_Get.f w p m = some (0, 1) := by
  unfold bits_Get.f
  rw [field_no h]; rfl
theorem put_yes {w p m v : Nat} (hw : w < 18446744073709551616) (h1 : 1 ≤ m) (h : p + m ≤ 64) (hv : v < 2 ^ m) : bits_Put.f w p m v = some ((putN w p m v : Int), 0) := by
  unfold bits_Put.f
  have hm := pow_le64 (show m ≤ 64 by omega)
  have hp := Nat.two_pow_pos m
  rw [field_yes h1 h]
  simp only [Option.bind_some, if_true]
  rw [mask_yes h1 (by omega)]
  simp only [Option.bind_some]
  rw [bnot _ _ (by omega) (by omega), (noN_mask v m).2 hv, if_pos (by rfl), if_pos (by omega), shl_n _ _ (by omega), shl_n _ _ (by omega), bnot _ _ hw (Nat.mod_lt _ (by decide)), bor _ _ (noN_lt hw) (Nat.mod_lt _ (by decide)), or_put w p m v hw hv h]
theorem put_big {w p m v : Nat} (hv64 : v < 18446744073709551616) (h1 : 1 ≤ m) (h : p + m ≤ 64) (hv : ¬ v < 2 ^ m) : bits_Put.f w p m v = some (0, 10) := by
  unfold bits_Put.f
  have hm := pow_le64 (show m ≤ 64 by omega)
  have hp := Nat.two_pow_pos m
  rw [field_yes h1 h]
  simp only [Option.bind_some, if_true]
  rw [mask_yes h1 (by omega)]
  simp only [Option.bind_some]
  rw [bnot _ _ hv64 (by omega), if_neg (by have := mt (noN_mask v m).1 hv; omega)]
theorem put_no {w p m v : Int} (h : ¬ (1 ≤ m ∧ 0 ≤ p ∧ p + m ≤ 64)) : bits_Put.f w p m v = some (0, 1) := by
  unfold bits_Put.f
  rw [field_no h]; rfl
/-- an info's word, or what is wrong with it -/
def packM (label : Nat) (len : Int) (c : Bool) : Int × Int :=
  if len < 0 ∨ len > 4 then (0, 1) else if label ≥ 65536 then (0, 10) else ((label : Int) * 16 + len + (if c then 8 else 0), 0)
theorem low8 (label len : Nat) (h : len ≤ 4) : (16 * label + len) ||| 8 = 16 * label + (len + 8) := by
  have e : ∀ c : Nat, 16 * label + c = 2 ^ 4 * label + c := fun c => rfl
  rw [e len, e (len + 8)]
  apply Nat.eq_of_testBit_eq
  intro j
  rw [Nat.testBit_or, Nat.testBit_two_pow_mul_add _ (show len < 2 ^ 4 by omega), Nat.testBit_two_pow_mul_add _ (show len + 8 < 2 ^ 4 by omega)]
  by_cases hj : j < 4
  · rw [if_pos hj, if_pos hj]
    have : ∀ a : Fin 5, ∀ i : Fin 4, (a.val.testBit i.val || Nat.testBit 8 i.val) = (a.val + 8).testBit i.val := by decide +kernel
    exact this ⟨len, by omega⟩ ⟨j, hj⟩
  · rw [if_neg hj, if_neg hj, tb_lt (m := 4) (v := 8) (by decide) (by omega), Bool.or_false]
theorem mpack_is {k : Nat} (hk : 0 < k) (label : Nat) (hl : label < 18446744073709551616) (len : Int) (h0 : -9223372036854775808 ≤ len) (h1 : len ≤ 9223372036854775807) (c : Bool) : msg_Pack.f k label len c = some (packM label len c) := by
  obtain ⟨k, rfl⟩ : ∃ m, k = m + 1 := ⟨k - 1, by omega⟩
  have J : ∀ b : Bool, b = true → msg_Pack.j0 (k + 1) b label len c = some (0, 1) := by
    intro b hb; subst hb; simp only [msg_Pack.j0]; rw [if_pos trivial]
  unfold msg_Pack.f packM
  by_cases c0 : len < 0
  · rw [if_pos c0, if_pos (Or.inl c0)]; exact J _ rfl
  · rw [if_neg c0]
    by_cases c4 : len > 4
    · rw [if_pos (Or.inr c4), decide_eq_true c4]; exact J _ rfl
    · rw [if_neg (by omega), decide_eq_false c4]
      obtain ⟨n, rfl⟩ : ∃ n : Nat, len = n := ⟨len.toNat, by omega⟩
      simp only [msg_Pack.j0]
      rw [if_neg (by decide), u64n (by omega)]
      by_cases cl : label ≥ 65536
      · have p : bits_Put.f n 4 16 label = some (0, 10) := put_big (p := 4) (m := 16) hl (by omega) (by omega) (by omega)
        rw [if_pos cl, p, Option.bind_some]
        simp only []
        rw [if_neg (by decide)]
      · have p : bits_Put.f n 4 16 label = some ((putN n 4 16 label : Int), 0) := put_yes (p := 4) (m := 16) (by omega) (by omega) (by omega) (by omega)
        have e : putN n 4 16 label = 16 * label + n := by
          unfold putN
          rw [show n / 2 ^ (4 + 16) = 0 from by omega, show n % 2 ^ 4 = n from by omega, Nat.mul_zero, Nat.zero_add]
        rw [if_neg cl, p, e, Option.bind_some]
        simp only []
        rw [if_pos trivial]
        cases c
        · rw [if_neg (by decide)]; simp; omega
        · rw [if_pos (by rfl), show (8 : Int) = ((8 : Nat) : Int) from rfl, bor _ _ (by omega) (by omega), low8 _ _ (by omega)]; simp; omega
/-- the info of a word -/
def unpackM (w : Nat) : Int × Int × Bool × Int :=
  if w ≥ 1048576 ∨ w % 8 > 4 then (0, 0, false, 10) else (((w / 16 : Nat) : Int), ((w % 8 : Nat) : Int), decide (w / 8 % 2 = 1), 0)
theorem munpack_is {k w : Nat} (hk : 0 < k) (hw : w < 18446744073709551616) : msg_Unpack.f k w = some (unpackM w) := by
  unfold msg_Unpack.f unpackM
  have g1 : bits_Get.f w 0 3 = some ((getN w 0 3 : Int), 0) := get_yes (p := 0) (m := 3) hw (by omega) (by omega)
  have g2 : bits_Get.f w 4 16 = some ((getN w 4 16 : Int), 0) := get_yes (p := 4) (m := 16) hw (by omega) (by omega)
  have e1 : getN w 0 3 = w % 8 := by unfold getN; rw [Nat.pow_zero, Nat.div_one]
  have e2 : getN w 4 16 = w / 16 % 65536 := rfl
  have e3 : (Go.bits .and .u64 ((w : Int) / 8) 1 == 1) = decide (w / 8 % 2 = 1) := by
    rw [show (w : Int) / 8 = ((w / 8 : Nat) : Int) from by omega, show (1 : Int) = ((1 : Nat) : Int) from rfl, band _ _ (by omega) (by omega), Nat.and_one_is_mod, Bool.eq_iff_iff]; simp; omega
  rw [g1, g2, e1, e2, e3, Option.bind_some, Option.bind_some]
  simp only []
  rw [w64 (n := ((w % 8 : Nat) : Int)) (by omega) (by omega), mpack_is hk _ (by omega) _ (by omega) (by omega), Option.bind_some]
  unfold packM
  by_cases c : w % 8 > 4
  · rw [if_pos (show ((w % 8 : Nat) : Int) < 0 ∨ ((w % 8 : Nat) : Int) > 4 by omega), if_pos (Or.inr c)]
    simp only []
    rw [if_neg (by decide)]
  · rw [if_neg (show ¬ (((w % 8 : Nat) : Int) < 0 ∨ ((w % 8 : Nat) : Int) > 4) by omega), if_neg (show ¬ (w / 16 % 65536 ≥ 65536) by omega)]
    simp only []
    rw [if_pos trivial]
    by_cases c2 : w / 8 % 2 = 1
    · rw [decide_eq_true c2]
      simp only [if_true]
      by_cases c3 : w ≥ 1048576
      · rw [if_pos (show w ≥ 1048576 ∨ w % 8 > 4 from Or.inl c3), if_neg (by omega)]
      · rw [if_neg (show ¬ (w ≥ 1048576 ∨ w % 8 > 4) by omega), if_pos (by omega), show w / 16 % 65536 = w / 16 from by omega]
    · rw [decide_eq_false c2]
      simp only [Bool.false_eq_true, if_false]
      by_cases c3 : w ≥ 1048576
      · rw [if_pos (show w ≥ 1048576 ∨ w % 8 > 4 from Or.inl c3), if_neg (by omega)]
      · rw [if_neg (show ¬ (w ≥ 1048576 ∨ w % 8 > 4) by omega), if_pos (by omega), show w / 16 % 65536 = w / 16 from by omega]
theorem rpack_is {k : Nat} (hk : 0 < k) (label : Nat) (hl : label < 18446744073709551616) (len : Int) (c : Bool) : donjonref16_Pack.f k label len c = some (packM label len c) := by
  obtain ⟨k, rfl⟩ : ∃ m, k = m + 1 := ⟨k - 1, by omega⟩
  have J : ∀ b : Bool, b = true → donjonref16_Pack.j0 (k + 1) b label len c = some (0, 1) := by
    intro b hb; subst hb; simp only [donjonref16_Pack.j0]; rw [if_pos trivial]
  unfold donjonref16_Pack.f packM
  by_cases c0 : len < 0
  · rw [if_pos c0, if_pos (Or.inl c0)]; exact J _ rfl
  · rw [if_neg c0]
    by_cases c4 : len > 4
    · rw [if_pos (Or.inr c4), decide_eq_true c4]; exact J _ rfl
    · rw [if_neg (by omega), decide_eq_false c4]
      obtain ⟨n, rfl⟩ : ∃ n : Nat, len = n := ⟨len.toNat, by omega⟩
      simp only [donjonref16_Pack.j0]
      rw [if_neg (by decide), u64n (by omega)]
      by_cases cl : label ≥ 65536
      · rw [if_pos (by omega), if_pos cl]
      · rw [if_neg (by omega), if_neg cl, u64w, u64w, u64w]
        cases c
        · rw [if_neg (by decide)]; simp; omega
        · rw [if_pos (by rfl)]; simp; omega
theorem runpack_is {w : Nat} (hw : w < 18446744073709551616) : donjonref16_Unpack.f w = some (unpackM w) := by
  unfold donjonref16_Unpack.f unpackM
  have t8 := tmod_n w 8
  have d8 := tdiv_n w 8
  have d16 := tdiv_n w 16
  have t2 := tmod_n (w / 8) 2
  simp only [Int.cast_ofNat_Int] at t8 d8 d16 t2
  rw [t8, d8, d16, u64n (by omega), u64n (by omega), t2, w64 (by omega) (by omega)]
  by_cases c3 : w ≥ 1048576
  · rw [if_pos (by omega), if_pos (Or.inl c3)]
  · rw [if_neg (by omega)]
    by_cases c : w % 8 > 4
    · rw [if_pos (by omega), if_pos (Or.inr c)]
    · rw [if_neg (by omega), if_neg (by omega)]
      congr 4
      rw [Bool.eq_iff_iff]; simp; omega
theorem MsgInfos (label : Int) (len : Int) (c : Bool) (w : Int) (hl' : (Lit.int .u64 label).wf = true) (hn : (Lit.int .i64 len).wf = true) (hw' : (Lit.int .u64 w).wf = true) : donjonlaw16_MsgInfos.f 10 label len c w = some true := by
  obtain ⟨label, rfl, hl⟩ := wu hl'
  obtain ⟨w, rfl, hw⟩ := wu hw'
  obtain ⟨n0, n1⟩ := wi hn
  unfold donjonlaw16_MsgInfos.f
  rw [mpack_is (by omega) _ hl _ n0 n1, rpack_is (by omega) _ hl, munpack_is (by omega) hw, runpack_is hw, Option.bind_some, Option.bind_some, Option.bind_some, Option.bind_some]
  simp
theorem MsgInfos.walk (label len : Int) (c : Bool) (x : Int) (w : World) (w0 : (Lit.int .u64 label).wf = true) (w1 : (Lit.int .i64 len).wf = true) (w2 : (Lit.int .u64 x).wf = true) :
    Calls Try.prog 3 #[.agg #[.int .u64 label, .int .i64 len, .bool c], .int .u64 x] w fun e w' => e = .returned (.bool true) ∧ Below w.heap.size w w' := by
  refine (donjonlaw16_MsgInfos.calls 10 label len c x true w (MsgInfos label len c x w0 w1 w2)).mono ?_
  rintro e w' ⟨rfl, hd⟩
  exact ⟨rfl, hd⟩
end Go.Proofs.Ytefnfmbmabpkoaa.Pure
