/- Plain numbers: words of 64 bits, their fields, shifts; no program in sight. -/
import Derived.Test.YtanchmbopllimaaEngE
set_option linter.unusedVariables false
set_option linter.unusedSimpArgs false
namespace Go.Eng
open Go Go.RowKit

theorem u64n {n : Nat} (h : n < 18446744073709551616) : IntKind.u64.wrap (n : Int) = n := wrap_u64 (by omega) (by omega)
theorem ofI (a : Nat) : BitVec.ofInt 64 (a : Int) = BitVec.ofNat 64 a := by simp

theorem band (a b : Nat) (ha : a < 18446744073709551616) (hb : b < 18446744073709551616) : IntKind.u64.wrap ((BitVec.ofInt 64 (a : Int) &&& BitVec.ofInt 64 (b : Int)).toNat : Int) = ((a &&& b : Nat) : Int) := by
  have hl : a &&& b < 2 ^ 64 := Nat.and_lt_two_pow _ hb
  have ha' : a % 2 ^ 64 = a := Nat.mod_eq_of_lt ha
  have hb' : b % 2 ^ 64 = b := Nat.mod_eq_of_lt hb
  rw [ofI, ofI, BitVec.toNat_and, BitVec.toNat_ofNat, BitVec.toNat_ofNat, ha', hb']
  exact u64n hl
theorem bor (a b : Nat) (ha : a < 18446744073709551616) (hb : b < 18446744073709551616) : IntKind.u64.wrap ((BitVec.ofInt 64 (a : Int) ||| BitVec.ofInt 64 (b : Int)).toNat : Int) = ((a ||| b : Nat) : Int) := by
  have hl : a ||| b < 2 ^ 64 := Nat.or_lt_two_pow ha hb
  have ha' : a % 2 ^ 64 = a := Nat.mod_eq_of_lt ha
  have hb' : b % 2 ^ 64 = b := Nat.mod_eq_of_lt hb
  rw [ofI, ofI, BitVec.toNat_or, BitVec.toNat_ofNat, BitVec.toNat_ofNat, ha', hb']
  exact u64n hl
theorem bxor (a b : Nat) (ha : a < 18446744073709551616) (hb : b < 18446744073709551616) : IntKind.u64.wrap ((BitVec.ofInt 64 (a : Int) ^^^ BitVec.ofInt 64 (b : Int)).toNat : Int) = ((a ^^^ b : Nat) : Int) := by
  have hl : a ^^^ b < 2 ^ 64 := Nat.xor_lt_two_pow ha hb
  have ha' : a % 2 ^ 64 = a := Nat.mod_eq_of_lt ha
  have hb' : b % 2 ^ 64 = b := Nat.mod_eq_of_lt hb
  rw [ofI, ofI, BitVec.toNat_xor, BitVec.toNat_ofNat, BitVec.toNat_ofNat, ha', hb']
  exact u64n hl
/-- a without b's bits -/
def noN (a b : Nat) : Nat := a ^^^ (a &&& b)
theorem noN_test (a b i : Nat) : (noN a b).testBit i = (a.testBit i && !b.testBit i) := by
  unfold noN; rw [Nat.testBit_xor, Nat.testBit_and]; cases a.testBit i <;> cases b.testBit i <;> rfl
theorem noN_lt {a b : Nat} (ha : a < 18446744073709551616) : noN a b < 18446744073709551616 := by
  have h1 : noN a b < 2 ^ 64 := Nat.xor_lt_two_pow ha (Nat.lt_of_le_of_lt Nat.and_le_left ha)
  exact h1
theorem bnot (a b : Nat) (ha : a < 18446744073709551616) : IntKind.u64.wrap ((BitVec.ofInt 64 (a : Int) &&& ~~~BitVec.ofInt 64 (b : Int)).toNat : Int) = ((noN a b : Nat) : Int) := by
  have e : (BitVec.ofNat 64 a &&& ~~~ BitVec.ofNat 64 b).toNat = noN a b := by
    apply Nat.eq_of_testBit_eq
    intro i
    rw [noN_test, ← BitVec.getLsbD, BitVec.getLsbD_and, BitVec.getLsbD_not, BitVec.getLsbD_ofNat, BitVec.getLsbD_ofNat]
    by_cases hi : i < 64
    · simp [hi]
    · have h1 : a.testBit i = false := Nat.testBit_lt_two_pow (Nat.lt_of_lt_of_le ha (show 2 ^ 64 ≤ 2 ^ i from Nat.pow_le_pow_right (by decide) (by omega)))
      simp [hi, h1]
  rw [ofI, ofI, e]
  exact u64n (noN_lt ha)

theorem pow_cast (p : Nat) : (2 : Int) ^ p = ((2 ^ p : Nat) : Int) := by simp
theorem shl_n (v p : Nat) : IntKind.u64.wrap ((v : Int) * 2 ^ p) = ((v * 2 ^ p % 18446744073709551616 : Nat) : Int) := by
  rw [wrap_u64_emod, pow_cast]; omega
theorem shr_n (v p : Nat) : Int.fdiv (v : Int) (2 ^ p) = ((v / 2 ^ p : Nat) : Int) := by
  rw [pow_cast, Int.fdiv_eq_ediv_of_nonneg _ (Int.natCast_nonneg _)]; rfl

theorem sub1_div (a b : Nat) (ha : 0 < a) (hb : 0 < b) : (a * b - 1) / b = a - 1 := by
  have h : a * b - 1 = (b - 1) + (a - 1) * b := by
    obtain ⟨a, rfl⟩ : ∃ m, a = m + 1 := ⟨a - 1, by omega⟩
    rw [Nat.succ_mul]; simp; omega
  rw [h, Nat.add_mul_div_right _ _ hb, Nat.div_eq_of_lt (by omega)]; omega
theorem ones_div (m : Nat) (hm : m ≤ 64) : 18446744073709551615 / 2 ^ (64 - m) = 2 ^ m - 1 := by
  have h := sub1_div (2 ^ m) (2 ^ (64 - m)) (Nat.two_pow_pos _) (Nat.two_pow_pos _)
  rw [← Nat.pow_add, show m + (64 - m) = 64 from by omega] at h
  exact h
theorem ones_shr (m : Nat) (hm : m ≤ 64) : Int.fdiv 18446744073709551615 (2 ^ (64 - m)) = ((2 ^ m - 1 : Nat) : Int) := by
  rw [show (18446744073709551615 : Int) = ((18446744073709551615 : Nat) : Int) from rfl, shr_n, ones_div m hm]
theorem pow_le64 {m : Nat} (h : m ≤ 64) : 2 ^ m ≤ 18446744073709551616 := (show 2 ^ m ≤ 2 ^ 64 from Nat.pow_le_pow_right (by decide) h)
theorem pow_split (p m : Nat) (h : p + m ≤ 64) : 2 ^ p * 2 ^ m ≤ 18446744073709551616 := by rw [← Nat.pow_add]; exact pow_le64 h
theorem tb_lt {v m i : Nat} (h : v < 2 ^ m) (hi : m ≤ i) : v.testBit i = false := Nat.testBit_lt_two_pow (Nat.lt_of_lt_of_le h (Nat.pow_le_pow_right (by decide) hi))

/-- A field of a word, and a word with a field. -/
def getN (w p m : Nat) : Nat := w / 2 ^ p % 2 ^ m
def putN (w p m v : Nat) : Nat := 2 ^ p * (2 ^ m * (w / 2 ^ (p + m)) + v) + w % 2 ^ p

theorem getN_lt (w p m : Nat) : getN w p m < 2 ^ m := Nat.mod_lt _ (Nat.two_pow_pos _)
theorem getN_test (w p m i : Nat) : (getN w p m).testBit i = (decide (i < m) && w.testBit (p + i)) := by
  unfold getN
  rw [Nat.testBit_mod_two_pow, Nat.testBit_div_two_pow, Nat.add_comm i p]
theorem putN_test (w p m v i : Nat) (hv : v < 2 ^ m) : (putN w p m v).testBit i = if i < p then w.testBit i else if i < p + m then v.testBit (i - p) else w.testBit i := by
  unfold putN
  rw [Nat.testBit_two_pow_mul_add _ (Nat.mod_lt _ (Nat.two_pow_pos _)), Nat.testBit_two_pow_mul_add _ hv]
  by_cases h : i < p
  · rw [if_pos h, if_pos h, Nat.testBit_mod_two_pow]; simp [h]
  · rw [if_neg h, if_neg h]
    by_cases h2 : i < p + m
    · rw [if_pos h2, if_pos (by omega)]
    · rw [if_neg h2, if_neg (by omega), Nat.testBit_div_two_pow]; congr 1; omega
theorem test64 {a i : Nat} (h : a < 18446744073709551616) (hi : 64 ≤ i) : a.testBit i = false := tb_lt (m := 64) h hi
theorem putN_lt {w p m v : Nat} (hw : w < 18446744073709551616) (hv : v < 2 ^ m) (hpm : p + m ≤ 64) : putN w p m v < 18446744073709551616 := by
  show putN w p m v < 2 ^ 64
  refine Nat.lt_pow_two_of_testBit _ fun i hi => ?_
  rw [putN_test _ _ _ _ _ hv, if_neg (by omega), if_neg (by omega)]
  exact test64 hw hi
theorem or_put (w p m v : Nat) (hw : w < 18446744073709551616) (hv : v < 2 ^ m) (hpm : p + m ≤ 64) :
    noN w ((2 ^ m - 1) * 2 ^ p % 18446744073709551616) ||| (v * 2 ^ p % 18446744073709551616) = putN w p m v := by
  have hs := pow_split p m hpm
  have hp := Nat.two_pow_pos p
  have h1 : (2 ^ m - 1) * 2 ^ p < 18446744073709551616 := by
    have : (2 ^ m - 1) * 2 ^ p < 2 ^ m * 2 ^ p := Nat.mul_lt_mul_of_pos_right (by have := Nat.two_pow_pos m; omega) hp
    rw [Nat.mul_comm (2 ^ m)] at this; omega
  have h2 : v * 2 ^ p < 18446744073709551616 := by
    have : v * 2 ^ p < 2 ^ m * 2 ^ p := Nat.mul_lt_mul_of_pos_right hv hp
    rw [Nat.mul_comm (2 ^ m)] at this; omega
  rw [Nat.mod_eq_of_lt h1, Nat.mod_eq_of_lt h2]
  apply Nat.eq_of_testBit_eq
  intro i
  rw [Nat.testBit_or, noN_test, putN_test _ _ _ _ _ hv, Nat.mul_comm, Nat.testBit_two_pow_mul, Nat.mul_comm v, Nat.testBit_two_pow_mul, Nat.testBit_two_pow_sub_one]
  by_cases h : i < p
  · simp [h, show ¬ p ≤ i from by omega]
  · by_cases h3 : i < p + m
    · simp [h, h3, show p ≤ i from by omega, show i - p < m from by omega]
    · simp [h, h3, show p ≤ i from by omega, show ¬ i - p < m from by omega, tb_lt hv (show m ≤ i - p from by omega)]
theorem noN_mask (v m : Nat) : noN v (2 ^ m - 1) = 0 ↔ v < 2 ^ m := by
  constructor
  · intro h
    apply Nat.lt_pow_two_of_testBit
    intro i hi
    have := noN_test v (2 ^ m - 1) i
    rw [h, Nat.zero_testBit, Nat.testBit_two_pow_sub_one] at this
    simpa [show ¬ i < m from by omega] using this.symm
  · intro h
    apply Nat.eq_of_testBit_eq
    intro i
    rw [noN_test, Nat.zero_testBit, Nat.testBit_two_pow_sub_one]
    by_cases hi : i < m
    · simp [hi]
    · simp [tb_lt h (show m ≤ i from by omega)]
theorem and_mask (a m : Nat) : a &&& (2 ^ m - 1) = a % 2 ^ m := Nat.and_two_pow_sub_one_eq_mod a m

/-- A field of a word, over whole numbers. -/
def getI (w p m : Int) : Int := (getN w.toNat p.toNat m.toNat : Nat)
def putI (w p m v : Int) : Int := if v < 2 ^ m.toNat then ((putN w.toNat p.toNat m.toNat v.toNat : Nat) : Int) else 0
def putE (m v : Int) : Int := if v < 2 ^ m.toNat then 0 else 10
def word (w : Int) : Bool := decide (0 ≤ w) && decide (w < 18446744073709551616)
def fld (p m : Int) : Bool := decide (1 ≤ m) && decide (0 ≤ p) && decide (p + m ≤ 64)

theorem word_spec {w : Int} (h : word w = true) : ∃ n : Nat, w = n ∧ n < 18446744073709551616 := by
  simp only [word, Bool.and_eq_true, decide_eq_true_eq] at h
  exact ⟨w.toNat, by omega, by omega⟩
theorem fld_spec {p m : Int} (h : fld p m = true) : ∃ a b : Nat, p = a ∧ m = b ∧ 1 ≤ b ∧ a + b ≤ 64 := by
  simp only [fld, Bool.and_eq_true, decide_eq_true_eq] at h
  exact ⟨p.toNat, m.toNat, by omega, by omega, by omega, by omega⟩

theorem getI_div {w : Int} (hw : 0 ≤ w) (p m : Nat) : getI w p m = w / 2 ^ p % 2 ^ m := by
  obtain ⟨n, rfl⟩ : ∃ n : Nat, w = n := ⟨w.toNat, by omega⟩
  simp [getI, getN]
theorem putI_add {w v : Int} {p m : Nat} (h0 : 0 ≤ w) (hw : w < 2 ^ p) (hv0 : 0 ≤ v) (hv : v < 2 ^ m) : putI w p m v = w + 2 ^ p * v := by
  obtain ⟨a, rfl⟩ : ∃ n : Nat, w = n := ⟨w.toNat, by omega⟩
  obtain ⟨b, rfl⟩ : ∃ n : Nat, v = n := ⟨v.toNat, by omega⟩
  have ha : a < 2 ^ p := by rw [pow_cast] at hw; exact Int.ofNat_lt.1 hw
  simp only [putI, Int.toNat_natCast, if_pos hv, putN]
  rw [Nat.div_eq_of_lt (Nat.lt_of_lt_of_le ha (Nat.pow_le_pow_right (by decide) (by omega))), Nat.mod_eq_of_lt ha]
  push_cast
  simp [Int.add_comm]

/-- whole numbers of 64 bits -/
def inI (n : Int) : Bool := decide (-9223372036854775808 ≤ n) && decide (n ≤ 9223372036854775807)
theorem wfI {n : Int} (h : (Lit.int .i64 n).wf = true) : inI n = true := by
  simp only [Lit.wf, Bool.and_eq_true, decide_eq_true_eq] at h
  obtain ⟨h1, h2⟩ := h
  have e1 : IntKind.min .i64 = -9223372036854775808 := by decide
  have e2 : IntKind.max .i64 = 9223372036854775807 := by decide
  rw [e1] at h1; rw [e2] at h2
  simp [inI, h1, h2]
theorem wfW {n : Int} (h : (Lit.int .u64 n).wf = true) : word n = true := by
  simp only [Lit.wf, Bool.and_eq_true, decide_eq_true_eq] at h
  obtain ⟨h1, h2⟩ := h
  have e1 : IntKind.min .u64 = 0 := by decide
  have e2 : IntKind.max .u64 = 18446744073709551615 := by decide
  rw [e1] at h1; rw [e2] at h2
  simp only [word, Bool.and_eq_true, decide_eq_true_eq]; omega
theorem inv_nil {w : World} : Inv (fun _ => none) (subGet []) w := ⟨fun i b h => by simp [subGet] at h, fun i j b c r s _ h => by simp [subGet] at h⟩
/-- A law over numbers alone. -/
theorem of_nums {P : Program} {f : FuncId} {F : Fun} (hF : FunSound P f F) {args : List AV} {cargs : Array Value} {w : World} (hargs : LR (AR fun _ => none) args cargs.toList) {t : Bool} {blks : List (Option (Option Block))}
    (h : F args [] some = some ⟨.e (.c (.bool t)), blks⟩) : Calls P f cargs w fun e w' => e = .returned (.bool t) ∧ Below w.heap.size w w' :=
  of_fun hF inv_nil (fun i b h => by simp [subGet] at h) (fun _ _ => rfl) hargs h

theorem word_getD {l : List Int} (h : ∀ n ∈ l, IntKind.u64.min ≤ n ∧ n ≤ IntKind.u64.max) (i : Nat) : word (List.getD l i 0) = true := by
  rw [List.getD_eq_getElem?_getD]
  cases e : l[i]? with
  | none => rfl
  | some x =>
    obtain ⟨h1, h2⟩ := h x (List.mem_of_getElem? e)
    have e1 : IntKind.min .u64 = 0 := by decide
    have e2 : IntKind.max .u64 = 18446744073709551615 := by decide
    rw [e1] at h1; rw [e2] at h2
    simp only [word, Option.getD_some, Bool.and_eq_true, decide_eq_true_eq]; omega
/-- A law over slices. -/
theorem of_rows {P : Program} {f : FuncId} {F : Fun} (hF : FunSound P f F) {args : List AV} {sl : List SlArg} {cargs : Array Value} {w : World} (hok : ∀ (i : Nat) (s : SlArg), sl[i]? = some s → SlOk w s) (hargs : LR (AR fun i => (sl[i]?).map SlArg.place) args cargs.toList) {t : Bool} {blks : List (Option (Option Block))}
    (h : F args (sl.map SlArg.blk) some = some ⟨.e (.c (.bool t)), blks⟩) : Calls P f cargs w fun e w' => e = .returned (.bool t) ∧ Below w.heap.size w w' :=
  of_fun hF (args_inv hok) args_ro args_fresh hargs h
theorem ok1 {w : World} {s : SlArg} (h : SlOk w s) : ∀ (i : Nat) (s' : SlArg), [s][i]? = some s' → SlOk w s' := by
  intro i s' hs
  cases i with
  | zero => simp at hs; subst hs; exact h
  | succ i => simp at hs

/-- bits.Get, bits.Put in short. -/
def gGet : Fun := fun args sub κ => match args, sub with
  | [.e (.c (.int .u64 w)), .e (.c (.int .i64 p)), .e (.c (.int .i64 m))], [] => match word w && fld p m with
    | true => κ ⟨.tup [.c (.int .u64 (getI w p m)), .c (.int .i64 0)], []⟩
    | false => none
  | _, _ => none
def gPut : Fun := fun args sub κ => match args, sub with
  | [.e (.c (.int .u64 w)), .e (.c (.int .i64 p)), .e (.c (.int .i64 m)), .e (.c (.int .u64 v))], [] => match word w && fld p m && word v with
    | true => κ ⟨.tup [.c (.int .u64 (putI w p m v)), .c (.int .i64 (putE m v))], []⟩
    | false => none
  | _, _ => none

end Go.Eng
