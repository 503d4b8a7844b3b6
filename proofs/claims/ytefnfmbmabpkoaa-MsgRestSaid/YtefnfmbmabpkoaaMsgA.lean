/- Infos in words, told in short. -/
import Derived.Test.YtefnfmbmabpkoaaMsg
set_option linter.unusedVariables false
set_option linter.unusedSimpArgs false
set_option maxRecDepth 100000
namespace Go.Proofs.Ytefnfmbmabpkoaa.Wlk
open Go Go.Eng Go.Proofs Go.RowKit

theorem u64wf {n : Int} (h : word n = true) : 0 ≤ n ∧ n < 18446744073709551616 := by
  simpa [word] using h
theorem iwf {n : Int} (h : inI n = true) : -9223372036854775808 ≤ n ∧ n ≤ 9223372036854775807 := by
  simpa [inI] using h
theorem or8 {x : Nat} (h : x % 16 < 8) : x ||| 8 = x + 8 := by
  have e : x = 2 ^ 4 * (x / 16) + x % 16 := by omega
  have h2 : ∀ y, y < 8 → y ||| 8 = y + 8 := by decide
  have h3 : x ||| 8 = 2 ^ 4 * (x / 16) + (x % 16 + 8) := by
    apply Nat.eq_of_testBit_eq
    intro i
    rw [Nat.testBit_or, ← h2 _ h]
    rw [Nat.testBit_two_pow_mul_add (x / 16) (show (x % 16 ||| 8) < 2 ^ 4 from by rw [h2 _ h]; omega)]
    conv => lhs; arg 1; rw [e]
    rw [Nat.testBit_two_pow_mul_add (x / 16) (show x % 16 < 2 ^ 4 from by omega)]
    by_cases hi : i < 4
    · simp [hi, Nat.testBit_or]
    · simp only [hi, if_false]
      have : (8 : Nat).testBit i = false := Nat.testBit_lt_two_pow (Nat.lt_of_lt_of_le (show 8 < 2 ^ 4 by decide) (Nat.pow_le_pow_right (by decide) (by omega)))
      rw [this, Bool.or_false]
  omega

theorem gMPack_sound : FunSound Try.prog 9 gMPack := by
  refine (runG_sound sGP_ok mix 100 9).short fun args sub κ r h => ?_
  unfold gMPack gMPackV at h
  split at h
  · rename_i l n c
    split at h
    · rename_i hc
      simp only [Bool.and_eq_true] at hc
      have h1 := u64wf hc.1
      have h2 := iwf hc.2
      refine (t_pack l n c κ).trans ?_
      by_cases n0 : n < 0
      · rw [decide_eq_true n0]; simp only [mW, mE, if_pos n0] at h; simpa using h
      rw [decide_eq_false n0]
      by_cases n4 : n > 4
      · rw [decide_eq_true n4]; simp only [mW, mE, if_neg n0, if_pos n4] at h; simpa using h
      rw [decide_eq_false n4]
      have hw : IntKind.u64.wrap n = n := wrap_u64 (by omega) (by omega)
      have hwd : word n = true := by simp [word]; omega
      rw [hw, hwd, hc.1]
      rw [show fld 4 16 = true from rfl]
      simp only [cond_false, cond_true, Bool.and_self, Bool.true_and]
      by_cases hl : l < 65536
      · have hE : mE l n = 0 := by simp [mE, n0, n4, hl]
        have hp : putI n 4 16 l = n + 16 * l := by
          have := putI_add (w := n) (v := l) (p := 4) (m := 16) (by omega) (by show n < 16; omega) (by omega) (by show l < 65536; omega)
          simpa using this
        have he : putE 16 l = 0 := by simp [putE, hl]
        rw [he, hp]
        simp only [mW, hE, if_true] at h
        cases c with
        | true =>
          rw [show ((0 : Int) != 0) = false from rfl]
          simp only [cond_false, cond_true]
          obtain ⟨x, hx⟩ : ∃ x : Nat, n + 16 * l = x := ⟨(n + 16 * l).toNat, by omega⟩
          rw [hx, show BitVec.ofInt 64 8 = BitVec.ofInt 64 ((8 : Nat) : Int) from rfl, bor x 8 (by omega) (by decide), or8 (by omega)]
          rw [← h, hx]; simp
        | false => rw [show ((0 : Int) != 0) = false from rfl]; simp only [cond_false]; simpa using h
      · have hE : mE l n = 10 := by simp [mE, n0, n4, hl]
        have he : putE 16 l = 10 := by simp [putE, hl]
        rw [he]
        simp only [mW, hE] at h
        rw [show ((10 : Int) != 0) = true from rfl]
        simpa using h
    · cases h
  · cases h

theorem gRefPack_sound : FunSound Try.prog 10 gMPack := by
  refine (runG_sound sNil_ok mix 100 10).short fun args sub κ r h => ?_
  unfold gMPack gMPackV at h
  split at h
  · rename_i l n c
    split at h
    · rename_i hc
      simp only [Bool.and_eq_true] at hc
      have h1 := u64wf hc.1
      have h2 := iwf hc.2
      refine (t_refPack l n c κ).trans ?_
      by_cases n0 : n < 0
      · rw [decide_eq_true n0]; simp only [mW, mE, if_pos n0] at h; simpa using h
      rw [decide_eq_false n0]
      by_cases n4 : n > 4
      · rw [decide_eq_true n4]; simp only [mW, mE, if_neg n0, if_pos n4] at h; simpa using h
      rw [decide_eq_false n4]
      by_cases hl : l < 65536
      · have hE : mE l n = 0 := by simp [mE, n0, n4, hl]
        rw [decide_eq_false (show ¬ l ≥ 65536 by omega), wrap_u64 (n := 16 * l) (by omega) (by omega), wrap_u64 (n := n) (by omega) (by omega), wrap_u64 (n := n + 16 * l) (by omega) (by omega), wrap_u64 (n := n + 16 * l + 8) (by omega) (by omega)]
        simp only [mW, hE, if_true] at h
        cases c <;> simpa using h
      · have hE : mE l n = 10 := by simp [mE, n0, n4, hl]
        rw [decide_eq_true (show l ≥ 65536 by omega)]
        simp only [mW, hE] at h
        simpa using h
    · cases h
  · cases h

/- the other way -/
def uOk (w : Int) : Bool := decide (w < 1048576) && decide (w % 8 ≤ 4)
def uL (w : Int) : Int := if uOk w = true then w / 16 else 0
def uN (w : Int) : Int := if uOk w = true then w % 8 else 0
def uC (w : Int) : Bool := uOk w && decide (w / 8 % 2 = 1)
def uE (w : Int) : Int := if uOk w = true then 0 else 10
def gUnV (L N E : Int → Int) (C : Int → Bool) : Fun := fun args sub κ => match args, sub with
  | [.e (.c (.int .u64 w))], [] => match word w with
    | true => κ ⟨.tup [.agg [.int .u64 (L w), .int .i64 (N w), .bool (C w)], .c (.int .i64 (E w))], []⟩
    | false => none
  | _, _ => none
abbrev gUn : Fun := gUnV uL uN uE uC

theorem gRefUn_sound : FunSound Try.prog 12 gUn := by
  refine (runG_sound sNil_ok mix 100 12).short fun args sub κ r h => ?_
  unfold gUn gUnV at h
  split at h
  · rename_i w
    split at h
    · rename_i hc
      have h1 := u64wf hc
      refine (t_refUnpack w κ).trans ?_
      have e1 : Int.tmod w 8 = w % 8 := by rw [Int.tmod_eq_emod_of_nonneg h1.1]
      have e2 : Int.tdiv w 16 = w / 16 := by rw [Int.tdiv_eq_ediv_of_nonneg h1.1]
      have e3 : Int.tdiv w 8 = w / 8 := by rw [Int.tdiv_eq_ediv_of_nonneg h1.1]
      rw [e1, e2, e3, wrap_u64 (n := w / 16) (by omega) (by omega), wrap_u64 (n := w / 8) (by omega) (by omega), wrap_i64 (n := w % 8) (by omega) (by omega)]
      rw [show Int.tmod (w / 8) 2 = w / 8 % 2 from Int.tmod_eq_emod_of_nonneg (by omega)]
      rw [← h]
      by_cases a : w < 1048576
      · by_cases b : w % 8 ≤ 4
        · have ho : uOk w = true := by simp [uOk, a, b]
          rw [decide_eq_false (show ¬ w ≥ 1048576 by omega), decide_eq_false (show ¬ w % 8 > 4 by omega)]
          simp only [uL, uN, uC, uE, ho, if_true, cond_false, Bool.true_and]
          rfl
        · have ho : uOk w = false := by simp [uOk, b]
          rw [decide_eq_false (show ¬ w ≥ 1048576 by omega), decide_eq_true (show w % 8 > 4 by omega)]
          simp [uL, uN, uC, uE, ho]
      · have ho : uOk w = false := by simp [uOk, a]
        rw [decide_eq_true (show w ≥ 1048576 by omega)]
        simp [uL, uN, uC, uE, ho]
    · cases h
  · cases h

theorem sMU_ok : SummOk Try.prog (sMU mW mE getI) := by
  have hG : FunSound Try.prog 20 (gGetV getI) := by rw [gGetV_eq]; exact gGet_sound
  exact sAdd_ok (sAdd_ok sGP_ok hG (enters Try.func20 rfl (by kernel_rfl))) gMPack_sound (enters Try.func9 rfl (by kernel_rfl))

theorem gUn_sound : FunSound Try.prog 11 gUn := by
  refine (runG_sound sMU_ok mix 100 11).short fun args sub κ r h => ?_
  unfold gUn gUnV at h
  split at h
  · rename_i w
    split at h
    · rename_i hc
      have h1 := u64wf hc
      obtain ⟨x, rfl⟩ : ∃ x : Nat, w = x := ⟨w.toNat, by omega⟩
      refine (t_unpack mW mE getI x κ).trans ?_
      have hx : x < 18446744073709551616 := by omega
      have g3 : getI x 0 3 = x % 8 := by have := getI_div (w := (x : Int)) (by omega) 0 3; simpa using this
      have g4 : getI x 4 16 = x / 16 % 65536 := by have := getI_div (w := (x : Int)) (by omega) 4 16; simpa using this
      rw [hc, show fld 0 3 = true from rfl, show fld 4 16 = true from rfl, g3, g4, wrap_i64 (n := (x : Int) % 8) (by omega) (by omega)]
      have hw : word ((x : Int) / 16 % 65536) = true := by simp [word]; omega
      have hi : inI ((x : Int) % 8) = true := by simp [inI]; omega
      rw [hw, hi]
      have hb : (IntKind.u64.wrap (↑(BitVec.toNat (BitVec.ofInt 64 (Int.fdiv x 8) &&& BitVec.ofInt 64 1)) : Int) == 1) = decide ((x : Int) / 8 % 2 = 1) := by
        have e8 : Int.fdiv (x : Int) 8 = ((x / 8 : Nat) : Int) := by have := shr_n x 3; simpa using this
        rw [e8, show BitVec.ofInt 64 1 = BitVec.ofInt 64 ((1 : Nat) : Int) from rfl, band _ 1 (by omega) (by decide), show x / 8 &&& 1 = x / 8 % 2 from Nat.and_one_is_mod _]
        by_cases hq : (x : Int) / 8 % 2 = 1
        · rw [decide_eq_true hq, show ((x / 8 % 2 : Nat) : Int) = 1 from by omega]; rfl
        · rw [decide_eq_false hq, show ((x / 8 % 2 : Nat) : Int) = 0 from by omega]; rfl
      rw [hb]
      simp only [Bool.and_self, cond_true]
      rw [← h]
      by_cases b : (x : Int) % 8 ≤ 4
      · have hE : mE ((x : Int) / 16 % 65536) ((x : Int) % 8) = 0 := by
          simp only [mE]; rw [if_neg (by omega), if_neg (by omega), if_pos (by omega)]
        rw [hE, show ((0 : Int) != 0) = false from rfl]
        simp only [cond_false, mW, hE, if_true]
        by_cases a : (x : Int) < 1048576
        · have ho : uOk x = true := by simp [uOk]; omega
          have hq : ((x : Int) % 8 + 16 * ((x : Int) / 16 % 65536) + (if decide ((x : Int) / 8 % 2 = 1) = true then 8 else 0) != x) = false := by
            by_cases hq : (x : Int) / 8 % 2 = 1
            · rw [decide_eq_true hq, if_pos rfl]; simp; omega
            · rw [decide_eq_false hq, if_neg (by simp)]; simp; omega
          rw [hq]
          simp only [cond_false, uL, uN, uC, uE, ho, if_true, Bool.true_and]
          rw [show (x : Int) / 16 % 65536 = x / 16 from by omega]
        · have ho : uOk x = false := by simp [uOk]; omega
          have hq : ((x : Int) % 8 + 16 * ((x : Int) / 16 % 65536) + (if decide ((x : Int) / 8 % 2 = 1) = true then 8 else 0) != x) = true := by
            have : ∀ z : Int, z < 1048576 → (z != (x : Int)) = true := fun z hz => by simp; omega
            apply this
            split <;> omega
          rw [hq]
          simp [uL, uN, uC, uE, ho]
      · have ho : uOk x = false := by simp [uOk]; omega
        have hE : mE ((x : Int) / 16 % 65536) ((x : Int) % 8) = 1 := by
          simp only [mE]; rw [if_neg (by omega), if_pos (by omega)]
        rw [hE, show ((1 : Int) != 0) = true from rfl]
        simp [uL, uN, uC, uE, ho]
    · cases h
  · cases h
end Go.Proofs.Ytefnfmbmabpkoaa.Wlk
