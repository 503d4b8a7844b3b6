/- Entries in words, told in short. -/
import Derived.Test.YtnloobnpgkpbhaaMemB
import Derived.Test.YtnloobnpgkpbhaaBits
set_option linter.unusedVariables false
set_option linter.unusedSimpArgs false
set_option maxRecDepth 100000
namespace Go.Proofs.Ytnloobnpgkpbhaa.Wlk
open Go Go.Eng Go.Proofs Go.RowKit
abbrev GF := Int → Int → Int → Int
abbrev PF := Bool → Bool → Int → Int
def gGetV (G : GF) : Fun := fun args sub κ => match args, sub with
  | [.e (.c (.int .u64 w)), .e (.c (.int .i64 p)), .e (.c (.int .i64 m))], [] => match word w && fld p m with
    | true => κ ⟨.tup [.c (.int .u64 (G w p m)), .c (.int .i64 0)], []⟩
    | false => none
  | _, _ => none
theorem gGetV_eq : gGetV getI = Go.Eng.gGet := by
  funext args sub κ
  unfold gGetV Go.Eng.gGet
  rfl
def gPutV (W : Int → Int → Int → Int → Int) (E : Int → Int → Int) : Fun := fun args sub κ => match args, sub with
  | [.e (.c (.int .u64 w)), .e (.c (.int .i64 p)), .e (.c (.int .i64 m)), .e (.c (.int .u64 v))], [] => match word w && fld p m && word v with
    | true => κ ⟨.tup [.c (.int .u64 (W w p m v)), .c (.int .i64 (E m v))], []⟩
    | false => none
  | _, _ => none
theorem gPutV_eq : gPutV putI putE = Go.Eng.gPut := by
  funext args sub κ
  unfold gPutV Go.Eng.gPut
  rfl
/-- An entry's error, its word. -/
def epE (v w : Bool) (a : Int) : Int := if v = true then (if 0 ≤ a ∧ a ≤ 65520 ∧ a % 16 = 0 then 0 else 9) else (if w = true ∨ a ≠ 0 then 10 else 0)
def epW (v w : Bool) (a : Int) : Int := if v = true then (if 0 ≤ a ∧ a ≤ 65520 ∧ a % 16 = 0 then a + 1 + (if w = true then 2 else 0) else 0) else 0
def gEPackV (W E : PF) : Fun := fun args sub κ => match args, sub with
  | [.e (.agg [.bool v, .bool w, .int .i64 a])], [] => match inI a with
    | true => κ ⟨.tup [.c (.int .u64 (W v w a)), .c (.int .i64 (E v w a))], []⟩
    | false => none
  | _, _ => none
abbrev gEPack : Fun := gEPackV epW epE
noncomputable def sPp (W : Int → Int → Int → Int → Int) (E : Int → Int → Int) : Summ := sAdd sNil 50 (gPutV W E)
noncomputable def sPu (G : GF) (W E : PF) : Summ := sAdd (sAdd sNil 58 (gGetV G)) 33 (gEPackV W E)
theorem t_split (a : Int) (k : Res → Option Res) : runG Try.prog sNil 100 40 [aint .i64 a] [] k = (cond (decide (a < 0)) (k (Res.mk (AV.tup [(AE.c (AC.int (IntKind.i64) (0))), (AE.c (AC.int (IntKind.i64) (0))), (AE.c (AC.int (IntKind.i64) (0))), (AE.c (AC.int (IntKind.i64) (1)))]) [])) (cond (decide (a ≥ 4096)) (k (Res.mk (AV.tup [(AE.c (AC.int (IntKind.i64) (0))), (AE.c (AC.int (IntKind.i64) (0))), (AE.c (AC.int (IntKind.i64) (0))), (AE.c (AC.int (IntKind.i64) (1)))]) [])) (k (Res.mk (AV.tup [(AE.c (AC.int (IntKind.i64) (Int.fdiv a 256))), (AE.c (AC.int (IntKind.i64) (IntKind.wrap IntKind.i64 (↑(BitVec.toNat (BitVec.ofInt 64 (Int.fdiv a 16) &&& BitVec.ofInt 64 15)) : Int)))), (AE.c (AC.int (IntKind.i64) (IntKind.wrap IntKind.i64 (↑(BitVec.toNat (BitVec.ofInt 64 a &&& BitVec.ofInt 64 15)) : Int)))), (AE.c (AC.int (IntKind.i64) (0)))]) [])))) := by kernel_rfl
theorem t_refSplit (a : Int) (k : Res → Option Res) : runG Try.prog sNil 100 42 [aint .i64 a] [] k = (cond (decide (a < 0)) (k (Res.mk (AV.tup [(AE.c (AC.int (IntKind.i64) (0))), (AE.c (AC.int (IntKind.i64) (0))), (AE.c (AC.int (IntKind.i64) (0))), (AE.c (AC.int (IntKind.i64) (1)))]) [])) (cond (decide (a > 4095)) (k (Res.mk (AV.tup [(AE.c (AC.int (IntKind.i64) (0))), (AE.c (AC.int (IntKind.i64) (0))), (AE.c (AC.int (IntKind.i64) (0))), (AE.c (AC.int (IntKind.i64) (1)))]) [])) (k (Res.mk (AV.tup [(AE.c (AC.int (IntKind.i64) (IntKind.wrap IntKind.i64 (Int.tdiv a 256)))), (AE.c (AC.int (IntKind.i64) (Int.tmod (IntKind.wrap IntKind.i64 (Int.tdiv a 16)) 16))), (AE.c (AC.int (IntKind.i64) (Int.tmod a 16))), (AE.c (AC.int (IntKind.i64) (0)))]) [])))) := by kernel_rfl
theorem t_epack (W : Int → Int → Int → Int → Int) (E : Int → Int → Int) (v w : Bool) (a : Int) (k : Res → Option Res) : runG Try.prog (sPp W E) 100 33 [.e (.agg [.bool v, .bool w, .int .i64 a])] [] k = (cond (v == false && (w == false && (a == 0 && true))) (k (Res.mk (AV.tup [(AE.c (AC.int (IntKind.u64) (0))), (AE.c (AC.int (IntKind.i64) (0)))]) [])) (cond (!v) (k (Res.mk (AV.tup [(AE.c (AC.int (IntKind.u64) (0))), (AE.c (AC.int (IntKind.i64) (10)))]) [])) (cond (decide (a < 0)) (k (Res.mk (AV.tup [(AE.c (AC.int (IntKind.u64) (0))), (AE.c (AC.int (IntKind.i64) (9)))]) [])) (cond (decide (a > 65520)) (k (Res.mk (AV.tup [(AE.c (AC.int (IntKind.u64) (0))), (AE.c (AC.int (IntKind.i64) (9)))]) [])) (cond (Int.tmod a 16 != 0) (k (Res.mk (AV.tup [(AE.c (AC.int (IntKind.u64) (0))), (AE.c (AC.int (IntKind.i64) (9)))]) [])) (cond (word 1 && fld 4 12 && word (IntKind.wrap IntKind.u64 (IntKind.wrap IntKind.i64 (Int.tdiv a 16)))) (cond (w) (k (Res.mk (AV.tup [(AE.c (AC.int (IntKind.u64) (IntKind.wrap IntKind.u64 (↑(BitVec.toNat (BitVec.ofInt 64 (W 1 4 12 (IntKind.wrap IntKind.u64 (IntKind.wrap IntKind.i64 (Int.tdiv a 16)))) ||| BitVec.ofInt 64 2)) : Int)))), (AE.c (AC.int (IntKind.i64) (0)))]) [])) (k (Res.mk (AV.tup [(AE.c (AC.int (IntKind.u64) (W 1 4 12 (IntKind.wrap IntKind.u64 (IntKind.wrap IntKind.i64 (Int.tdiv a 16)))))), (AE.c (AC.int (IntKind.i64) (0)))]) []))) none)))))) := by kernel_rfl
theorem t_refEpack (v w : Bool) (a : Int) (k : Res → Option Res) : runG Try.prog sNil 100 45 [.e (.agg [.bool v, .bool w, .int .i64 a])] [] k = (cond (!v) (cond (w) (k (Res.mk (AV.tup [(AE.c (AC.int (IntKind.u64) (0))), (AE.c (AC.int (IntKind.i64) (10)))]) [])) (cond (a != 0) (k (Res.mk (AV.tup [(AE.c (AC.int (IntKind.u64) (0))), (AE.c (AC.int (IntKind.i64) (10)))]) [])) (k (Res.mk (AV.tup [(AE.c (AC.int (IntKind.u64) (0))), (AE.c (AC.int (IntKind.i64) (0)))]) [])))) (cond (decide (a < 0)) (k (Res.mk (AV.tup [(AE.c (AC.int (IntKind.u64) (0))), (AE.c (AC.int (IntKind.i64) (9)))]) [])) (cond (decide (a > 65520)) (k (Res.mk (AV.tup [(AE.c (AC.int (IntKind.u64) (0))), (AE.c (AC.int (IntKind.i64) (9)))]) [])) (cond (Int.tmod a 16 != 0) (k (Res.mk (AV.tup [(AE.c (AC.int (IntKind.u64) (0))), (AE.c (AC.int (IntKind.i64) (9)))]) [])) (cond (w) (k (Res.mk (AV.tup [(AE.c (AC.int (IntKind.u64) (IntKind.wrap IntKind.u64 (IntKind.wrap IntKind.u64 (IntKind.wrap IntKind.u64 a + 1) + 2)))), (AE.c (AC.int (IntKind.i64) (0)))]) [])) (k (Res.mk (AV.tup [(AE.c (AC.int (IntKind.u64) (IntKind.wrap IntKind.u64 (IntKind.wrap IntKind.u64 a + 1)))), (AE.c (AC.int (IntKind.i64) (0)))]) []))))))) := by kernel_rfl
theorem t_eunpack (G : GF) (W E : PF) (w : Int) (k : Res → Option Res) : runG Try.prog (sPu G W E) 100 53 [aint .u64 w] [] k = (cond (w == 0) (k (Res.mk (AV.tup [(AE.agg [(AC.bool false), (AC.bool false), (AC.int (IntKind.i64) (0))]), (AE.c (AC.int (IntKind.i64) (0)))]) [])) (cond (word w && fld 4 12) (cond (inI (IntKind.wrap IntKind.i64 (IntKind.wrap IntKind.i64 (G w 4 12) * 16))) (cond (E (IntKind.wrap IntKind.u64 (↑(BitVec.toNat (BitVec.ofInt 64 w &&& BitVec.ofInt 64 1)) : Int) == 1) (IntKind.wrap IntKind.u64 (↑(BitVec.toNat (BitVec.ofInt 64 w &&& BitVec.ofInt 64 2)) : Int) != 0) (IntKind.wrap IntKind.i64 (IntKind.wrap IntKind.i64 (G w 4 12) * 16)) != 0) (k (Res.mk (AV.tup [(AE.agg [(AC.bool false), (AC.bool false), (AC.int (IntKind.i64) (0))]), (AE.c (AC.int (IntKind.i64) (10)))]) [])) (cond (W (IntKind.wrap IntKind.u64 (↑(BitVec.toNat (BitVec.ofInt 64 w &&& BitVec.ofInt 64 1)) : Int) == 1) (IntKind.wrap IntKind.u64 (↑(BitVec.toNat (BitVec.ofInt 64 w &&& BitVec.ofInt 64 2)) : Int) != 0) (IntKind.wrap IntKind.i64 (IntKind.wrap IntKind.i64 (G w 4 12) * 16)) != w) (k (Res.mk (AV.tup [(AE.agg [(AC.bool false), (AC.bool false), (AC.int (IntKind.i64) (0))]), (AE.c (AC.int (IntKind.i64) (10)))]) [])) (k (Res.mk (AV.tup [(AE.agg [(AC.bool (IntKind.wrap IntKind.u64 (↑(BitVec.toNat (BitVec.ofInt 64 w &&& BitVec.ofInt 64 1)) : Int) == 1)), (AC.bool (IntKind.wrap IntKind.u64 (↑(BitVec.toNat (BitVec.ofInt 64 w &&& BitVec.ofInt 64 2)) : Int) != 0)), (AC.int (IntKind.i64) (IntKind.wrap IntKind.i64 (IntKind.wrap IntKind.i64 (G w 4 12) * 16)))]), (AE.c (AC.int (IntKind.i64) (0)))]) [])))) none) none)) := by kernel_rfl
theorem t_refEunpack (w : Int) (k : Res → Option Res) : runG Try.prog sNil 100 60 [aint .u64 w] [] k = (cond (w == 0) (k (Res.mk (AV.tup [(AE.agg [(AC.bool false), (AC.bool false), (AC.int (IntKind.i64) (0))]), (AE.c (AC.int (IntKind.i64) (0)))]) [])) (cond (decide (w ≥ 65536)) (k (Res.mk (AV.tup [(AE.agg [(AC.bool false), (AC.bool false), (AC.int (IntKind.i64) (0))]), (AE.c (AC.int (IntKind.i64) (10)))]) [])) (cond (Int.tmod w 2 != 1) (k (Res.mk (AV.tup [(AE.agg [(AC.bool false), (AC.bool false), (AC.int (IntKind.i64) (0))]), (AE.c (AC.int (IntKind.i64) (10)))]) [])) (cond (Int.tmod (IntKind.wrap IntKind.u64 (Int.tdiv w 4)) 4 != 0) (k (Res.mk (AV.tup [(AE.agg [(AC.bool false), (AC.bool false), (AC.int (IntKind.i64) (0))]), (AE.c (AC.int (IntKind.i64) (10)))]) [])) (k (Res.mk (AV.tup [(AE.agg [(AC.bool true), (AC.bool (Int.tmod (IntKind.wrap IntKind.u64 (Int.tdiv w 2)) 2 == 1)), (AC.int (IntKind.i64) (IntKind.wrap IntKind.i64 (IntKind.wrap IntKind.u64 (IntKind.wrap IntKind.u64 (Int.tdiv w 16) * 16))))]), (AE.c (AC.int (IntKind.i64) (0)))]) [])))))) := by kernel_rfl
theorem or2 {x : Nat} (h : x % 4 < 2) : x ||| 2 = x + 2 := by
  have e : x = 2 ^ 2 * (x / 4) + x % 4 := by omega
  have h2 : ∀ y, y < 2 → y ||| 2 = y + 2 := by decide
  have h3 : x ||| 2 = 2 ^ 2 * (x / 4) + (x % 4 + 2) := by
    apply Nat.eq_of_testBit_eq
    intro i
    rw [Nat.testBit_or, ← h2 _ h]
    rw [Nat.testBit_two_pow_mul_add (x / 4) (show (x % 4 ||| 2) < 2 ^ 2 from by rw [h2 _ h]; omega)]
    conv => lhs; arg 1; rw [e]
    rw [Nat.testBit_two_pow_mul_add (x / 4) (show x % 4 < 2 ^ 2 from by omega)]
    by_cases hi : i < 2
    · simp [hi, Nat.testBit_or]
    · simp only [hi, if_false]
      have : (2 : Nat).testBit i = false := Nat.testBit_lt_two_pow (Nat.lt_of_lt_of_le (show 2 < 2 ^ 2 by decide) (Nat.pow_le_pow_right (by decide) (by omega)))
      rw [this, Bool.or_false]
  omega
theorem and2 (x : Nat) : x &&& 2 = 2 * (x / 2 % 2) := by
  have h1 : (x &&& 2) % 2 ^ 2 = (x % 2 ^ 2) &&& (2 % 2 ^ 2) := Nat.and_mod_two_pow
  have h2 : x &&& 2 < 4 := Nat.lt_of_le_of_lt Nat.and_le_right (by decide)
  have h3 : ∀ y, y < 4 → y &&& 2 = 2 * (y / 2 % 2) := by decide
  have h4 := h3 (x % 4) (Nat.mod_lt _ (by decide))
  have h5 : (2 : Nat) % 2 ^ 2 = 2 := rfl
  rw [h5] at h1
  have h6 : (x &&& 2) % 2 ^ 2 = x &&& 2 := Nat.mod_eq_of_lt h2
  rw [h6] at h1
  rw [h1, show x % 2 ^ 2 = x % 4 from rfl, h4]
  omega
/- an address in its places -/
def spOk (a : Int) : Bool := decide (0 ≤ a) && decide (a < 4096)
def sp1 (a : Int) : Int := if spOk a = true then a / 256 else 0
def sp2 (a : Int) : Int := if spOk a = true then a / 16 % 16 else 0
def sp3 (a : Int) : Int := if spOk a = true then a % 16 else 0
def spE (a : Int) : Int := if spOk a = true then 0 else 1
def gSplitV (A B C E : Int → Int) : Fun := fun args sub κ => match args, sub with
  | [.e (.c (.int .i64 a))], [] => match inI a with
    | true => κ ⟨.tup [.c (.int .i64 (A a)), .c (.int .i64 (B a)), .c (.int .i64 (C a)), .c (.int .i64 (E a))], []⟩
    | false => none
  | _, _ => none
abbrev gSplit : Fun := gSplitV sp1 sp2 sp3 spE
theorem and15 {x : Int} (h0 : 0 ≤ x) (h1 : x < 4096) : IntKind.i64.wrap (↑(BitVec.toNat (BitVec.ofInt 64 x &&& BitVec.ofInt 64 15)) : Int) = x % 16 := by
  have := and_low (a := x) (n := 4) h0 (by omega) (by decide)
  rw [show ((2 : Int) ^ 4 - 1) = 15 from rfl, show ((2 : Int) ^ 4) = 16 from rfl] at this
  rw [this, wrap_i64 (by omega) (by omega)]
theorem gSplit_sound : FunSound Try.prog 40 gSplit := by
  refine (runG_sound sNil_ok mix 100 40).short fun args sub κ r h => ?_
  unfold gSplit gSplitV at h
  split at h
  · rename_i a
    split at h
    · refine (t_split a κ).trans ?_
      by_cases h1 : a < 0
      · have : spOk a = false := by simp [spOk]; omega
        rw [decide_eq_true h1]; simpa [sp1, sp2, sp3, spE, this] using h
      rw [decide_eq_false h1]
      by_cases h2 : a ≥ 4096
      · have : spOk a = false := by simp [spOk]; omega
        rw [decide_eq_true h2]; simpa [sp1, sp2, sp3, spE, this] using h
      have : spOk a = true := by simp [spOk]; omega
      have e1 : Int.fdiv a 256 = a / 256 := Int.fdiv_eq_ediv_of_nonneg _ (by decide)
      have e2 : Int.fdiv a 16 = a / 16 := Int.fdiv_eq_ediv_of_nonneg _ (by decide)
      rw [decide_eq_false h2, e1, e2, and15 (x := a / 16) (by omega) (by omega), and15 (x := a) (by omega) (by omega)]
      simpa [sp1, sp2, sp3, spE, this] using h
    · cases h
  · cases h
theorem gRefSplit_sound : FunSound Try.prog 42 gSplit := by
  refine (runG_sound sNil_ok mix 100 42).short fun args sub κ r h => ?_
  unfold gSplit gSplitV at h
  split at h
  · rename_i a
    split at h
    · refine (t_refSplit a κ).trans ?_
      by_cases h1 : a < 0
      · have : spOk a = false := by simp [spOk]; omega
        rw [decide_eq_true h1]; simpa [sp1, sp2, sp3, spE, this] using h
      rw [decide_eq_false h1]
      by_cases h2 : a > 4095
      · have : spOk a = false := by simp [spOk]; omega
        rw [decide_eq_true h2]; simpa [sp1, sp2, sp3, spE, this] using h
      have : spOk a = true := by simp [spOk]; omega
      have e1 : Int.tdiv a 256 = a / 256 := Int.tdiv_eq_ediv_of_nonneg (by omega)
      have e2 : Int.tdiv a 16 = a / 16 := Int.tdiv_eq_ediv_of_nonneg (by omega)
      have e3 : Int.tmod a 16 = a % 16 := Int.tmod_eq_emod_of_nonneg (by omega)
      have e4 : Int.tmod (a / 16) 16 = a / 16 % 16 := Int.tmod_eq_emod_of_nonneg (by omega)
      rw [decide_eq_false h2, e1, e2, e3, wrap_i64 (n := a / 256) (by omega) (by omega), wrap_i64 (n := a / 16) (by omega) (by omega), e4]
      simpa [sp1, sp2, sp3, spE, this] using h
    · cases h
  · cases h
theorem sPp_ok : SummOk Try.prog (sPp putI putE) := by
  have h : FunSound Try.prog 50 (gPutV putI putE) := by rw [gPutV_eq]; exact bPut_sound
  exact sAdd_ok sNil_ok h (enters Try.func50 rfl (by kernel_rfl))
theorem gEPack_sound : FunSound Try.prog 33 gEPack := by
  refine (runG_sound sPp_ok mix 100 33).short fun args sub κ r h => ?_
  unfold gEPack gEPackV at h
  split at h
  · rename_i v w a
    split at h
    · rename_i hc
      have hi := iwf hc
      refine (t_epack putI putE v w a κ).trans ?_
      cases v with
      | false =>
        by_cases c : w = true ∨ a ≠ 0
        · have : (false == false && (w == false && (a == 0 && true))) = false := by
            rcases c with rfl | c
            · rfl
            · have : (a == 0) = false := by simpa using c
              rw [this]; simp
          rw [this]
          simpa [epE, epW, c] using h
        · have hw : w = false := by cases w; rfl; exact absurd (.inl rfl) c
          have ha : a = 0 := Classical.byContradiction fun q => c (.inr q)
          subst hw; subst ha
          simpa [epE, epW] using h
      | true =>
        rw [show (true == false && (w == false && (a == 0 && true))) = false from rfl]
        simp only [cond_false, Bool.not_true]
        by_cases h1 : a < 0
        · have : ¬ (0 ≤ a ∧ a ≤ 65520 ∧ a % 16 = 0) := by omega
          rw [decide_eq_true h1]; simpa [epE, epW, this] using h
        rw [decide_eq_false h1]
        by_cases h2 : a > 65520
        · have : ¬ (0 ≤ a ∧ a ≤ 65520 ∧ a % 16 = 0) := by omega
          rw [decide_eq_true h2]; simpa [epE, epW, this] using h
        rw [decide_eq_false h2]
        have e1 : Int.tmod a 16 = a % 16 := Int.tmod_eq_emod_of_nonneg (by omega)
        have e2 : Int.tdiv a 16 = a / 16 := Int.tdiv_eq_ediv_of_nonneg (by omega)
        rw [e1, e2]
        by_cases h3 : a % 16 = 0
        rotate_left
        · have : ¬ (0 ≤ a ∧ a ≤ 65520 ∧ a % 16 = 0) := by omega
          rw [show (a % 16 != 0) = true from by simpa using h3]; simpa [epE, epW, this] using h
        have h4 : 0 ≤ a ∧ a ≤ 65520 ∧ a % 16 = 0 := by omega
        rw [h3, wrap_i64 (n := a / 16) (by omega) (by omega), wrap_u64 (n := a / 16) (by omega) (by omega)]
        have hw : word (a / 16) = true := by simp [word]; omega
        have hp : putI 1 4 12 (a / 16) = a + 1 := by
          have := putI_add (w := 1) (v := a / 16) (p := 4) (m := 12) (by omega) (by decide) (by omega) (by show a / 16 < 4096; omega)
          have h5 : (2 : Int) ^ 4 = 16 := rfl
          rw [h5] at this
          refine Eq.trans this ?_
          omega
        rw [hw, hp, show word 1 = true from rfl, show fld 4 12 = true from rfl]
        simp only [bne_self_eq_false, cond_false, Bool.and_self, cond_true]
        simp only [epE, epW, if_true, h4] at h
        cases w with
        | false => simpa [h4] using h
        | true =>
          obtain ⟨x, hx⟩ : ∃ x : Nat, a + 1 = x := ⟨(a + 1).toNat, by omega⟩
          have ho : IntKind.u64.wrap (↑(BitVec.toNat (BitVec.ofInt 64 (a + 1) ||| BitVec.ofInt 64 2)) : Int) = a + 1 + 2 := by
            rw [hx, show BitVec.ofInt 64 2 = BitVec.ofInt 64 ((2 : Nat) : Int) from rfl, bor x 2 (by omega) (by decide), or2 (by omega)]; rfl
          rw [ho]
          simpa [h4] using h
    · cases h
  · cases h
theorem gRefEPack_sound : FunSound Try.prog 45 gEPack := by
  refine (runG_sound sNil_ok mix 100 45).short fun args sub κ r h => ?_
  unfold gEPack gEPackV at h
  split at h
  · rename_i v w a
    split at h
    · rename_i hc
      have hi := iwf hc
      refine (t_refEpack v w a κ).trans ?_
      cases v with
      | false =>
        cases w with
        | true => simpa [epE, epW] using h
        | false =>
          by_cases c : a = 0
          · subst c; simpa [epE, epW] using h
          · have : (a != 0) = true := by simpa using c
            simpa [epE, epW, c, this] using h
      | true =>
        simp only [cond_false, Bool.not_true]
        by_cases h1 : a < 0
        · have : ¬ (0 ≤ a ∧ a ≤ 65520 ∧ a % 16 = 0) := by omega
          rw [decide_eq_true h1]; simpa [epE, epW, this] using h
        rw [decide_eq_false h1]
        by_cases h2 : a > 65520
        · have : ¬ (0 ≤ a ∧ a ≤ 65520 ∧ a % 16 = 0) := by omega
          rw [decide_eq_true h2]; simpa [epE, epW, this] using h
        rw [decide_eq_false h2]
        have e1 : Int.tmod a 16 = a % 16 := Int.tmod_eq_emod_of_nonneg (by omega)
        rw [e1]
        by_cases h3 : a % 16 = 0
        rotate_left
        · have : ¬ (0 ≤ a ∧ a ≤ 65520 ∧ a % 16 = 0) := by omega
          rw [show (a % 16 != 0) = true from by simpa using h3]; simpa [epE, epW, this] using h
        have h4 : 0 ≤ a ∧ a ≤ 65520 ∧ a % 16 = 0 := by omega
        rw [h3]
        simp only [epE, epW, if_true, h4] at h
        rw [wrap_u64 (n := a) (by omega) (by omega), wrap_u64 (n := a + 1) (by omega) (by omega)]
        cases w with
        | false => simpa [h4] using h
        | true =>
          rw [wrap_u64 (n := a + 1 + 2) (by omega) (by omega)]
          simpa [h4] using h
    · cases h
  · cases h
/- a word as an entry -/
def eOk (w : Int) : Bool := decide (w = 0) || (decide (w < 65536) && decide (w % 2 = 1) && decide (w / 4 % 4 = 0))
def eV (w : Int) : Bool := eOk w && decide (w % 2 = 1)
def eWr (w : Int) : Bool := eOk w && decide (w / 2 % 2 = 1)
def eA (w : Int) : Int := if eOk w = true then w / 16 * 16 else 0
def eE (w : Int) : Int := if eOk w = true then 0 else 10
def gEUnV (V Wr : Int → Bool) (A E : Int → Int) : Fun := fun args sub κ => match args, sub with
  | [.e (.c (.int .u64 w))], [] => match word w with
    | true => κ ⟨.tup [.agg [.bool (V w), .bool (Wr w), .int .i64 (A w)], .c (.int .i64 (E w))], []⟩
    | false => none
  | _, _ => none
abbrev gEUn : Fun := gEUnV eV eWr eA eE
theorem e_zero {x : Int} (h : x = 0) : eV x = false ∧ eWr x = false ∧ eA x = 0 ∧ eE x = 0 := by
  subst h; decide
theorem gRefEUn_sound : FunSound Try.prog 60 gEUn := by
  refine (runG_sound sNil_ok mix 100 60).short fun args sub κ r h => ?_
  unfold gEUn gEUnV at h
  split at h
  · rename_i w
    split at h
    · rename_i hc
      have h1 := u64wf hc
      refine (t_refEunpack w κ).trans ?_
      by_cases h0 : w = 0
      · rw [show (w == 0) = true from by simpa using h0]
        obtain ⟨z1, z2, z3, z4⟩ := e_zero h0
        rw [z1, z2, z3, z4] at h
        exact h
      rw [show (w == 0) = false from by simpa using h0]
      simp only [cond_false]
      by_cases h2 : w ≥ 65536
      · have : eOk w = false := by simp [eOk, h0]; omega
        rw [decide_eq_true h2]; simpa [eV, eWr, eA, eE, this] using h
      have e1 : Int.tmod w 2 = w % 2 := Int.tmod_eq_emod_of_nonneg h1.1
      have e2 : Int.tdiv w 4 = w / 4 := Int.tdiv_eq_ediv_of_nonneg h1.1
      have e3 : Int.tdiv w 2 = w / 2 := Int.tdiv_eq_ediv_of_nonneg h1.1
      have e4 : Int.tdiv w 16 = w / 16 := Int.tdiv_eq_ediv_of_nonneg h1.1
      rw [decide_eq_false h2, e1, e2, e3, e4, wrap_u64 (n := w / 4) (by omega) (by omega), wrap_u64 (n := w / 2) (by omega) (by omega), wrap_u64 (n := w / 16) (by omega) (by omega), wrap_u64 (n := w / 16 * 16) (by omega) (by omega), wrap_i64 (n := w / 16 * 16) (by omega) (by omega),
        show Int.tmod (w / 4) 4 = w / 4 % 4 from Int.tmod_eq_emod_of_nonneg (by omega), show Int.tmod (w / 2) 2 = w / 2 % 2 from Int.tmod_eq_emod_of_nonneg (by omega)]
      by_cases h3 : w % 2 = 1
      rotate_left
      · have : eOk w = false := by simp [eOk, h0]; omega
        rw [show (w % 2 != 1) = true from by simpa using h3]; simpa [eV, eWr, eA, eE, this] using h
      by_cases h4 : w / 4 % 4 = 0
      rotate_left
      · have : eOk w = false := by simp [eOk, h0]; omega
        rw [show (w / 4 % 4 != 0) = true from by simpa using h4, h3]; simpa [eV, eWr, eA, eE, this] using h
      have : eOk w = true := by simp [eOk]; omega
      rw [h3, h4]
      simp only [eV, eWr, eA, eE, this, h3, if_true, Bool.true_and, decide_true] at h
      exact h
    · cases h
  · cases h
theorem sPu_ok : SummOk Try.prog (sPu getI epW epE) := by
  have h : FunSound Try.prog 58 (gGetV getI) := by rw [gGetV_eq]; exact bGet_sound
  exact sAdd_ok (sAdd_ok sNil_ok h (enters Try.func58 rfl (by kernel_rfl))) gEPack_sound (enters Try.func33 rfl (by kernel_rfl))
theorem bit0 (x : Nat) (hx : x < 18446744073709551616) : (IntKind.u64.wrap (↑(BitVec.toNat (BitVec.ofInt 64 (x : Int) &&& BitVec.ofInt 64 1)) : Int) == 1) = decide ((x : Int) % 2 = 1) := by
  rw [show BitVec.ofInt 64 1 = BitVec.ofInt 64 ((1 : Nat) : Int) from rfl, band x 1 hx (by decide), show x &&& 1 = x % 2 from Nat.and_one_is_mod _]
  by_cases q : (x : Int) % 2 = 1
  · rw [decide_eq_true q, show ((x % 2 : Nat) : Int) = 1 from by omega]; rfl
  · rw [decide_eq_false q, show ((x % 2 : Nat) : Int) = 0 from by omega]; rfl
theorem bit1 (x : Nat) (hx : x < 18446744073709551616) : (IntKind.u64.wrap (↑(BitVec.toNat (BitVec.ofInt 64 (x : Int) &&& BitVec.ofInt 64 2)) : Int) != 0) = decide ((x : Int) / 2 % 2 = 1) := by
  rw [show BitVec.ofInt 64 2 = BitVec.ofInt 64 ((2 : Nat) : Int) from rfl, band x 2 hx (by decide), and2]
  by_cases q : (x : Int) / 2 % 2 = 1
  · rw [decide_eq_true q, show ((2 * (x / 2 % 2) : Nat) : Int) = 2 from by omega]; rfl
  · rw [decide_eq_false q, show ((2 * (x / 2 % 2) : Nat) : Int) = 0 from by omega]; rfl
theorem e_yes {x : Int} (h : 0 ≤ x) (h0 : x ≠ 0) (ho : eOk x = true) : x % 2 = 1 ∧ x < 65536 ∧ x / 4 % 4 = 0 := by
  simp only [eOk, decide_eq_false h0, Bool.false_or, Bool.and_eq_true, decide_eq_true_eq] at ho
  exact ⟨ho.1.2, ho.1.1, ho.2⟩
theorem e_back {x : Int} (h : 0 ≤ x) (h0 : x ≠ 0) (ho : eOk x = true) : epE (decide (x % 2 = 1)) (decide (x / 2 % 2 = 1)) (x / 16 % 4096 * 16) = 0 ∧ epW (decide (x % 2 = 1)) (decide (x / 2 % 2 = 1)) (x / 16 % 4096 * 16) = x ∧ x / 16 % 4096 * 16 = x / 16 * 16 := by
  obtain ⟨q1, q2, q3⟩ := e_yes h h0 ho
  have h5 : 0 ≤ x / 16 % 4096 * 16 ∧ x / 16 % 4096 * 16 ≤ 65520 ∧ x / 16 % 4096 * 16 % 16 = 0 := by omega
  rw [decide_eq_true q1]
  refine ⟨?_, ?_, by omega⟩
  · unfold epE; rw [if_pos rfl, if_pos h5]
  · unfold epW; rw [if_pos rfl, if_pos h5]
    by_cases q : x / 2 % 2 = 1
    · rw [decide_eq_true q, if_pos rfl]; omega
    · rw [decide_eq_false q, if_neg (by simp)]; omega
theorem e_no {x : Int} (h : 0 ≤ x) (h0 : x ≠ 0) (ho : eOk x = false) : epE (decide (x % 2 = 1)) (decide (x / 2 % 2 = 1)) (x / 16 % 4096 * 16) ≠ 0 ∨ epW (decide (x % 2 = 1)) (decide (x / 2 % 2 = 1)) (x / 16 % 4096 * 16) ≠ x := by
  by_cases q1 : x % 2 = 1
  · have h5 : 0 ≤ x / 16 % 4096 * 16 ∧ x / 16 % 4096 * 16 ≤ 65520 ∧ x / 16 % 4096 * 16 % 16 = 0 := by omega
    right
    rw [decide_eq_true q1]
    unfold epW; rw [if_pos rfl, if_pos h5]
    simp only [eOk, decide_eq_false h0, Bool.false_or, Bool.and_eq_false_iff, decide_eq_false_iff_not] at ho
    by_cases q : x / 2 % 2 = 1
    · rw [decide_eq_true q, if_pos rfl]; omega
    · rw [decide_eq_false q, if_neg (by simp)]; omega
  · rw [decide_eq_false q1]
    unfold epE epW
    rw [if_neg (by simp)]
    right; exact fun e => h0 e.symm
end Go.Proofs.Ytnloobnpgkpbhaa.Wlk
