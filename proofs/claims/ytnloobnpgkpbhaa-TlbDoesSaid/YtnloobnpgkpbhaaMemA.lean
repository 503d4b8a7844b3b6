/- A machine's memory, told in short. -/
import Derived.Test.YtnloobnpgkpbhaaMemL
set_option linter.unusedVariables false
set_option linter.unusedSimpArgs false
set_option maxRecDepth 100000
namespace Go.Proofs.Ytnloobnpgkpbhaa.Wlk
open Go Go.Eng Go.Proofs Go.RowKit

theorem u64wf {n : Int} (h : word n = true) : 0 ≤ n ∧ n < 18446744073709551616 := by
  simpa [word] using h
theorem iwf {n : Int} (h : inI n = true) : -9223372036854775808 ≤ n ∧ n ≤ 9223372036854775807 := by
  simpa [inI] using h
/-- Are m words from a on there? -/
def inM (n : Nat) (a m : Int) : Bool := decide (0 ≤ a) && decide (0 ≤ m) && decide (a + m ≤ n)
def pE (b : Bool) : Int := if b = true then 0 else 1
def putW (ws : List Int) (a v : Int) : List Int := if inM ws.length a 1 = true then ws.set a.toNat v else ws
def getW (ws : List Int) (a : Int) : Int := if inM ws.length a 1 = true then ws.getD a.toNat 0 else 0
def zeroW (ws : List Int) (a m : Int) : List Int := if inM ws.length a m = true then ws.take a.toNat ++ List.replicate m.toNat 0 ++ ws.drop (a.toNat + m.toNat) else ws
def copyW (ws : List Int) (a b m : Int) : List Int := if (inM ws.length a m && inM ws.length b m) = true then ws.take a.toNat ++ (ws.drop b.toNat).take m.toNat ++ ws.drop (a.toNat + m.toNat) else ws
theorem putW_len (ws : List Int) (a v : Int) : (putW ws a v).length = ws.length := by unfold putW; split <;> simp
theorem zeroW_len (ws : List Int) (a m : Int) : (zeroW ws a m).length = ws.length := by
  unfold zeroW
  split
  · rename_i h
    simp only [inM, Bool.and_eq_true, decide_eq_true_eq] at h
    simp only [List.length_append, List.length_take, List.length_replicate, List.length_drop]; omega
  · rfl
theorem copyW_len (ws : List Int) (a b m : Int) : (copyW ws a b m).length = ws.length := by
  unfold copyW
  split
  · rename_i h
    simp only [inM, Bool.and_eq_true, decide_eq_true_eq] at h
    simp only [List.length_append, List.length_take, List.length_drop]; omega
  · rfl
def newOk (n : Int) : Bool := decide (64 ≤ n) && decide (n ≤ 65536)
def okM (n : Nat) (ws : List Int) : Bool := Nat.beq n ws.length && decide (ws.length ≤ 65536)
theorem okM_spec {n : Nat} {ws : List Int} (h : okM n ws = true) : n = ws.length ∧ ws.length ≤ 65536 := by
  simp only [okM, Bool.and_eq_true, decide_eq_true_eq] at h
  exact ⟨Nat.eq_of_beq_eq_true h.1, h.2⟩

def gNew : Fun := fun args sub κ => match args, sub with
  | [.e (.c (.int .i64 n))], [] => match newOk n with
    | true => κ ⟨.tup [.c (.ptr ⟨0, 0, 0, 0, 0, 0, 0⟩), .c (.int .i64 0)], [some (some ⟨false, .mix [.slice ⟨1, 0, 1, 0, 0, 0, 0⟩ 1 n.toNat 0 true]⟩), some (some ⟨false, .rows [.ints .u64 (List.replicate n.toNat (0 : Int))]⟩)]⟩
    | false => κ ⟨.tup [.c .nilp, .c (.int .i64 1)], []⟩
  | _, _ => none
def gPut : Fun := fun args sub κ => match args, sub with
  | [.e (.c (.ptr ⟨0, 0, 0, 0, 0, 0, 0⟩)), .e (.c (.int .i64 a)), .e (.c (.int .u64 v))], [some ⟨false, .mix [.slice ⟨1, 0, 1, 0, 0, 0, 0⟩ 1 n x true]⟩, some ⟨false, .rows [.ints .u64 ws]⟩] => match okM n ws && inI a with
    | true => κ ⟨.e (.c (.int .i64 (pE (inM n a 1)))), [some (some ⟨false, .mix [.slice ⟨1, 0, 1, 0, 0, 0, 0⟩ 1 n x true]⟩), some (some ⟨false, .rows [.ints .u64 (putW ws a v)]⟩)]⟩
    | false => none
  | _, _ => none
def gGet : Fun := fun args sub κ => match args, sub with
  | [.e (.c (.ptr ⟨0, 0, 0, 0, 0, 0, 0⟩)), .e (.c (.int .i64 a))], [some ⟨false, .mix [.slice ⟨1, 0, 1, 0, 0, 0, 0⟩ 1 n x true]⟩, some ⟨false, .rows [.ints .u64 ws]⟩] => match okM n ws && inI a with
    | true => κ ⟨.tup [.c (.int .u64 (getW ws a)), .c (.int .i64 (pE (inM n a 1)))], [none, none]⟩
    | false => none
  | _, _ => none
def gRead : Fun := fun args sub κ => match args, sub with
  | [.e (.c (.ptr ⟨0, 0, 0, 0, 0, 0, 0⟩)), .e (.c (.int .i64 a)), .e (.c (.int .i64 m))], [some ⟨false, .mix [.slice ⟨1, 0, 1, 0, 0, 0, 0⟩ 1 n x true]⟩, some ⟨false, .rows [.ints .u64 ws]⟩] => match okM n ws && inI a && inI m with
    | true => match inM n a m with
      | true => κ ⟨.tup [.c (.slice ⟨2, 0, 1, 0, 0, 0, 0⟩ 1 m.toNat 0 true), .c (.int .i64 0)], [none, none, some (some ⟨false, .rows [.ints .u64 ((ws.drop a.toNat).take m.toNat)]⟩)]⟩
      | false => κ ⟨.tup [.c .nils, .c (.int .i64 1)], [none, none]⟩
    | false => none
  | _, _ => none
def gZero : Fun := fun args sub κ => match args, sub with
  | [.e (.c (.ptr ⟨0, 0, 0, 0, 0, 0, 0⟩)), .e (.c (.int .i64 a)), .e (.c (.int .i64 m))], [some ⟨false, .mix [.slice ⟨1, 0, 1, 0, 0, 0, 0⟩ 1 n x true]⟩, some ⟨false, .rows [.ints .u64 ws]⟩] => match okM n ws && inI a && inI m with
    | true => κ ⟨.e (.c (.int .i64 (pE (inM n a m)))), [some (some ⟨false, .mix [.slice ⟨1, 0, 1, 0, 0, 0, 0⟩ 1 n x true]⟩), some (some ⟨false, .rows [.ints .u64 (zeroW ws a m)]⟩)]⟩
    | false => none
  | _, _ => none
def gCopy : Fun := fun args sub κ => match args, sub with
  | [.e (.c (.ptr ⟨0, 0, 0, 0, 0, 0, 0⟩)), .e (.c (.int .i64 a)), .e (.c (.int .i64 b)), .e (.c (.int .i64 m))], [some ⟨false, .mix [.slice ⟨1, 0, 1, 0, 0, 0, 0⟩ 1 n x true]⟩, some ⟨false, .rows [.ints .u64 ws]⟩] => match okM n ws && inI a && inI b && inI m with
    | true => κ ⟨.e (.c (.int .i64 (pE (inM n a m && inM n b m)))), [some (some ⟨false, .mix [.slice ⟨1, 0, 1, 0, 0, 0, 0⟩ 1 n x true]⟩), some (some ⟨false, .rows [.ints .u64 (copyW ws a b m)]⟩)]⟩
    | false => none
  | _, _ => none
def gSize : Fun := fun args sub κ => match args, sub with
  | [.e (.c (.ptr ⟨0, 0, 0, 0, 0, 0, 0⟩))], [some ⟨false, .mix [.slice ⟨1, 0, 1, 0, 0, 0, 0⟩ 1 n x true]⟩, some ⟨false, .rows [.ints .u64 ws]⟩] => κ ⟨.e (.c (.int .i64 (n : Int))), [none, none]⟩
  | _, _ => none
def gSame : Fun := fun args sub κ => match args, sub with
  | [.e (.c (.slice ⟨0, 0, 1, 0, 0, 0, 0⟩ 1 n e0 nn0)), .e (.c (.slice ⟨1, 0, 1, 0, 0, 0, 0⟩ 1 m e1 nn1))], [some ⟨r0, .rows [.ints .u64 xs]⟩, some ⟨r1, .rows [.ints .u64 ys]⟩] =>
    match Nat.beq n xs.length && Nat.beq m ys.length && decide (xs.length < 4611686018427387904) && decide (ys.length < 4611686018427387904) with
    | true => κ ⟨.e (.c (.bool (decide (xs = ys)))), [none, none]⟩
    | false => none
  | [.e (.c .nils), .e (.c .nils)], [] => κ ⟨.e (.c (.bool true)), []⟩
  | _, _ => none
theorem t_same (n m e0 e1 : Nat) (nn0 nn1 r0 r1 : Bool) (xs ys : List Int) (k : Res → Option Res) : runLG Try.prog sNil lSame 2 100 28 [.e (.c (.slice ⟨0, 0, 1, 0, 0, 0, 0⟩ 1 n e0 nn0)), .e (.c (.slice ⟨1, 0, 1, 0, 0, 0, 0⟩ 1 m e1 nn1))] [some ⟨r0, .rows [.ints .u64 xs]⟩, some ⟨r1, .rows [.ints .u64 ys]⟩] k = (cond ((↑n : Int) != (↑m : Int)) (k (Res.mk (AV.e (AE.c (AC.bool false))) [(none), (none)])) (cond (true && Nat.beq n (List.length xs) && Nat.beq m n && Nat.beq (List.length ys) n && decide (List.length xs < 4611686018427387904)) (cond (decide (xs = ys)) (k (Res.mk (AV.e (AE.c (AC.bool true))) [(none), (none)])) (k (Res.mk (AV.e (AE.c (AC.bool false))) [(none), (none)]))) none)) := by kernel_rfl
theorem t_sameN (k : Res → Option Res) : runG Try.prog sNil 100 28 [.e (.c .nils), .e (.c .nils)] [] k = (k (Res.mk (AV.e (AE.c (AC.bool true))) [])) := by kernel_rfl
theorem gNew_of {f : FuncId} {F : Fun} (hF : FunSound Try.prog f F) (ht : ∀ n k, F [aint .i64 n] [] k = (cond (decide (n < 64)) (k (Res.mk (AV.tup [(AE.c (AC.nilp)), (AE.c (AC.int (IntKind.i64) (1)))]) [])) (cond (decide (n > 65536)) (k (Res.mk (AV.tup [(AE.c (AC.nilp)), (AE.c (AC.int (IntKind.i64) (1)))]) [])) (cond (decide (0 ≤ n) && decide (n = n) && decide (n * 8 ≤ 140737488355328) && decide (n ≤ 140737488355328)) (k (Res.mk (AV.tup [(AE.c (AC.ptr (Loc.mk 0 0 0 0 0 0 0))), (AE.c (AC.int (IntKind.i64) (0)))]) [(some (some (Block.mk false (Data.mix [(AC.slice (Loc.mk 1 0 1 0 0 0 0) 1 (Int.toNat n) 0 true)])))), (some (some (Block.mk false (Data.rows [(Col.ints (IntKind.u64) (List.replicate (Int.toNat n) (0 : Int)))]))))])) none)))) : FunSound Try.prog f gNew := by
  refine hF.short fun args sub κ r h => ?_
  unfold gNew at h
  split at h
  · rename_i n
    refine (ht n κ).trans ?_
    split at h
    · rename_i hc
      simp only [newOk, Bool.and_eq_true, decide_eq_true_eq] at hc
      rw [decide_eq_false (show ¬ n < 64 by omega), decide_eq_false (show ¬ n > 65536 by omega), decide_eq_true (show 0 ≤ n by omega), decide_eq_true (show n * 8 ≤ 140737488355328 by omega), decide_eq_true (show n ≤ 140737488355328 by omega), decide_eq_true (rfl : n = n)]
      exact h
    · rename_i hc
      simp only [newOk, Bool.and_eq_false_iff, decide_eq_false_iff_not] at hc
      by_cases h1 : n < 64
      · rw [decide_eq_true h1]; exact h
      · rw [decide_eq_false h1, decide_eq_true (show n > 65536 by omega)]; exact h
  · cases h
theorem gNew_sound : FunSound Try.prog 31 gNew := gNew_of (runG_sound sNil_ok mix 100 31) t_new
theorem gRefNew_sound : FunSound Try.prog 39 gNew := gNew_of (runG_sound sNil_ok mix 100 39) t_refNew

theorem gPut_sound : FunSound Try.prog 22 gPut := by
  refine (runG_sound sPt_ok mix 100 22).fill.short fun args sub κ r h => ?_
  unfold gPut at h
  split at h
  · rename_i a v n x ws
    split at h
    · rename_i hc
      simp only [Bool.and_eq_true] at hc
      obtain ⟨rfl, hn⟩ := okM_spec hc.1
      have ha := iwf hc.2
      refine (t_put a v ws.length x ws _).trans ?_
      simp only [putW] at h
      by_cases h1 : a < 0
      · have : inM ws.length a 1 = false := by simp [inM]; omega
        rw [decide_eq_true h1]; simpa [this, pE, fillB] using h
      rw [decide_eq_false h1]
      by_cases h2 : a > ws.length
      · have : inM ws.length a 1 = false := by simp [inM]; omega
        rw [decide_eq_true h2]; simpa [this, pE, fillB] using h
      rw [decide_eq_false h2, wrap_i64 (by omega) (by omega)]
      by_cases h3 : (1 : Int) > (ws.length : Int) - a
      · have : inM ws.length a 1 = false := by simp [inM]; omega
        rw [decide_eq_true h3]; simpa [this, pE, fillB] using h
      · have : inM ws.length a 1 = true := by simp [inM]; omega
        rw [decide_eq_false h3, decide_eq_true (show 0 ≤ a by omega), decide_eq_true (show a ≤ ws.length by omega), decide_eq_true (show (1 : Int) ≤ ((ws.length - a.toNat : Nat) : Int) by omega), decide_eq_true (show 0 + a.toNat + 0 < ws.length by omega)]
        simpa [this, pE, fillB] using h
    · cases h
  · cases h
theorem gRefPut_sound : FunSound Try.prog 23 gPut := by
  refine (runG_sound sPt_ok mix 100 23).fill.short fun args sub κ r h => ?_
  unfold gPut at h
  split at h
  · rename_i a v n x ws
    split at h
    · rename_i hc
      simp only [Bool.and_eq_true] at hc
      obtain ⟨rfl, hn⟩ := okM_spec hc.1
      refine (t_refPut a v ws.length x ws _).trans ?_
      simp only [putW] at h
      by_cases h1 : a < 0
      · have : inM ws.length a 1 = false := by simp [inM]; omega
        rw [decide_eq_true h1]; simpa [this, pE, fillB] using h
      rw [decide_eq_false h1]
      by_cases h2 : a ≥ ws.length
      · have : inM ws.length a 1 = false := by simp [inM]; omega
        rw [decide_eq_true h2]; simpa [this, pE, fillB] using h
      · have : inM ws.length a 1 = true := by simp [inM]; omega
        rw [decide_eq_false h2, decide_eq_true (show 0 ≤ a by omega), decide_eq_true (show a < ws.length by omega), decide_eq_true (show 0 + a.toNat < ws.length by omega)]
        simpa [this, pE, fillB] using h
    · cases h
  · cases h
theorem gGet_sound : FunSound Try.prog 52 gGet := by
  refine (runG_sound sPt_ok mix 100 52).short fun args sub κ r h => ?_
  unfold gGet at h
  split at h
  · rename_i a n x ws
    split at h
    · rename_i hc
      simp only [Bool.and_eq_true] at hc
      obtain ⟨rfl, hn⟩ := okM_spec hc.1
      have ha := iwf hc.2
      refine (t_get a ws.length x ws _).trans ?_
      simp only [getW] at h
      by_cases h1 : a < 0
      · have : inM ws.length a 1 = false := by simp [inM]; omega
        rw [decide_eq_true h1]; simpa [this, pE] using h
      rw [decide_eq_false h1]
      by_cases h2 : a > ws.length
      · have : inM ws.length a 1 = false := by simp [inM]; omega
        rw [decide_eq_true h2]; simpa [this, pE] using h
      rw [decide_eq_false h2, wrap_i64 (by omega) (by omega)]
      by_cases h3 : (1 : Int) > (ws.length : Int) - a
      · have : inM ws.length a 1 = false := by simp [inM]; omega
        rw [decide_eq_true h3]; simpa [this, pE] using h
      · have : inM ws.length a 1 = true := by simp [inM]; omega
        rw [decide_eq_false h3, decide_eq_true (show 0 ≤ a by omega), decide_eq_true (show a ≤ ws.length by omega), decide_eq_true (show (1 : Int) ≤ ((ws.length - a.toNat : Nat) : Int) by omega), decide_eq_true (show 0 + a.toNat + 0 < ws.length by omega)]
        simp only [this, pE, if_true] at h
        simpa using h
    · cases h
  · cases h
theorem gRefGet_sound : FunSound Try.prog 59 gGet := by
  refine (runG_sound sPt_ok mix 100 59).short fun args sub κ r h => ?_
  unfold gGet at h
  split at h
  · rename_i a n x ws
    split at h
    · rename_i hc
      simp only [Bool.and_eq_true] at hc
      obtain ⟨rfl, hn⟩ := okM_spec hc.1
      refine (t_refGet a ws.length x ws _).trans ?_
      simp only [getW] at h
      by_cases h1 : a < 0
      · have : inM ws.length a 1 = false := by simp [inM]; omega
        rw [decide_eq_true h1]; simpa [this, pE] using h
      rw [decide_eq_false h1]
      by_cases h2 : a ≥ ws.length
      · have : inM ws.length a 1 = false := by simp [inM]; omega
        rw [decide_eq_true h2]; simpa [this, pE] using h
      · have : inM ws.length a 1 = true := by simp [inM]; omega
        rw [decide_eq_false h2, decide_eq_true (show 0 ≤ a by omega), decide_eq_true (show a < ws.length by omega), decide_eq_true (show 0 + a.toNat < ws.length by omega)]
        simp only [this, pE, if_true] at h
        simpa using h
    · cases h
  · cases h
theorem gSize_sound : FunSound Try.prog 49 gSize := by
  refine (runG_sound sPt_ok mix 100 49).short fun args sub κ r h => ?_
  unfold gSize at h
  split at h
  · exact (t_size _ _ _ _).trans h
  · cases h
theorem gRead_sound : FunSound Try.prog 48 gRead := by
  refine (runG_sound sPt_ok mix 100 48).short fun args sub κ r h => ?_
  unfold gRead at h
  split at h
  · rename_i a m n x ws
    split at h
    · rename_i hc
      simp only [Bool.and_eq_true] at hc
      obtain ⟨rfl, hn⟩ := okM_spec hc.1.1
      have ha := iwf hc.1.2
      have hm := iwf hc.2
      refine (t_read a m ws.length x ws _).trans ?_
      by_cases h1 : a < 0
      · have : inM ws.length a m = false := by simp [inM]; omega
        rw [decide_eq_true h1]; simpa [this] using h
      rw [decide_eq_false h1]
      by_cases h0 : m < 0
      · have : inM ws.length a m = false := by simp [inM]; omega
        rw [decide_eq_true h0]; simpa [this] using h
      rw [decide_eq_false h0]
      by_cases h2 : a > ws.length
      · have : inM ws.length a m = false := by simp [inM]; omega
        rw [decide_eq_true h2]; simpa [this] using h
      rw [decide_eq_false h2, wrap_i64 (n := (ws.length : Int) - a) (by omega) (by omega)]
      by_cases h3 : m > (ws.length : Int) - a
      · have : inM ws.length a m = false := by simp [inM]; omega
        rw [decide_eq_true h3]; simpa [this] using h
      · have : inM ws.length a m = true := by simp [inM]; omega
        rw [decide_eq_false h3, decide_eq_true (show 0 ≤ a by omega), decide_eq_true (show a ≤ ws.length by omega), decide_eq_true (show 0 ≤ m by omega), decide_eq_true (show m ≤ ((ws.length - a.toNat : Nat) : Int) by omega), decide_eq_true (show 0 + a.toNat + m.toNat ≤ ws.length by omega), decide_eq_true (show (0 + m.toNat) * 8 ≤ 140737488355328 by omega), decide_eq_true (show 0 + m.toNat ≤ 140737488355328 by omega)]
        simp only [this] at h
        simpa using h
    · cases h
  · cases h
theorem gSame_sound : FunSound Try.prog 28 gSame := by
  intro args sub κ r h
  unfold gSame at h
  split at h
  · rename_i n e0 nn0 m e1 nn1 r0 xs r1 ys
    split at h
    · rename_i hc
      simp only [Bool.and_eq_true, decide_eq_true_eq] at hc
      obtain ⟨⟨⟨h1, h2⟩, h3⟩, h4⟩ := hc
      have h1 := Nat.eq_of_beq_eq_true h1
      have h2 := Nat.eq_of_beq_eq_true h2
      subst h1; subst h2
      refine (runL_sound sNil_ok mix 100 28 same_dis lSame_for).gc _ _ κ r ((t_same xs.length ys.length e0 e1 nn0 nn1 r0 r1 xs ys κ).trans ?_)
      by_cases e : xs.length = ys.length
      · rw [show ((xs.length : Int) != (ys.length : Int)) = false from by simp [e], show Nat.beq ys.length xs.length = true from by rw [e]; exact Nat.beq_refl _, Nat.beq_refl, decide_eq_true h3]
        by_cases q : xs = ys
        · rw [decide_eq_true q] at h ⊢; exact h
        · rw [decide_eq_false q] at h ⊢; exact h
      · rw [show ((xs.length : Int) != (ys.length : Int)) = true from by simp; omega]
        rw [decide_eq_false (show ¬ xs = ys from fun c => e (by rw [c]))] at h
        exact h
    · cases h
  · exact runG_sound sNil_ok mix 100 28 _ _ κ r ((t_sameN κ).trans h)
  · cases h
end Go.Proofs.Ytnloobnpgkpbhaa.Wlk
