/- The document's Zero and Copy: their loops. -/
import Derived.Test.YtggkddpimcikaaaMemF
set_option linter.unusedVariables false
set_option linter.unusedSimpArgs false
set_option maxRecDepth 100000
namespace Go.Proofs.Ytggkddpimcikaaa.Wlk
open Go Go.Eng Go.Proofs Go.RowKit
noncomputable def sTh : Summ := sAdd sNil 24 gThere
theorem sTh_ok : SummOk Try.prog sTh := sAdd_ok sNil_ok gThere_sound (enters Try.func24 rfl (by kernel_rfl))
noncomputable def iRz : LI := ⟨2, nT 17, [0, 1, 2, 7], [], [6]⟩
noncomputable def iRc : LI := ⟨2, nT 18, [0, 1, 3, 9, 10], [], [8]⟩
abbrev rzV (a n i : Int) : List AV := [.e (.c (.ptr ⟨0, 0, 0, 0, 0, 0, 0⟩)), .e (.c (.int .i64 a)), .e (.c (.int .i64 n)), .e (.c (.int .i64 i))]
abbrev rcV (a n : Int) (l : Nat) (i : Int) : List AV := [.e (.c (.ptr ⟨0, 0, 0, 0, 0, 0, 0⟩)), .e (.c (.int .i64 a)), .e (.c (.int .i64 n)), .e (.c (.slice ⟨2, 0, 1, 0, 0, 0, 0⟩ 1 l 0 true)), .e (.c (.int .i64 i))]
abbrev rzH (b : Bool) (n x : Nat) (ws : List Int) : Heap := [(false, some ⟨false, .mix [.slice ⟨1, 0, 1, 0, 0, 0, 0⟩ 1 n x true]⟩), (b, some ⟨false, .rows [.ints .u64 ws]⟩)]
abbrev rcH (b : Bool) (n x : Nat) (ws l : List Int) : Heap := [(false, some ⟨false, .mix [.slice ⟨1, 0, 1, 0, 0, 0, 0⟩ 1 n x true]⟩), (b, some ⟨false, .rows [.ints .u64 ws]⟩), (true, some ⟨false, .rows [.ints .u64 l]⟩)]
theorem t_rz0 (a m i : Int) (n x : Nat) (ws : List Int) (k : HeadK) : bodyR Try.prog sTh lNil iRz 60 (loopOf Try.prog 17 0) (rzV a m i) (rzH false n x ws) k = (cond (decide (i < m)) (cond (decide (0 ≤ IntKind.wrap IntKind.i64 (a + i)) && decide (IntKind.wrap IntKind.i64 (a + i) < (↑n : Int))) (cond (decide (0 + Int.toNat (IntKind.wrap IntKind.i64 (a + i)) < List.length ws) && true) (k (Ex.normal) [(AV.e (AE.c (AC.ptr (Loc.mk 0 0 0 0 0 0 0)))), (AV.e (AE.c (AC.int (IntKind.i64) (a)))), (AV.e (AE.c (AC.int (IntKind.i64) (m)))), (AV.e (AE.c (AC.int (IntKind.i64) (IntKind.wrap IntKind.i64 (i + 1)))))] [(Prod.mk false (some (Block.mk false (Data.mix [(AC.slice (Loc.mk 1 0 1 0 0 0 0) 1 (n) (x) true)])))), (Prod.mk true (some (Block.mk false (Data.rows [(Col.ints (IntKind.u64) (List.set ws (0 + Int.toNat (IntKind.wrap IntKind.i64 (a + i))) 0))]))))]) none) none) (k (Ex.exit 0) [] [(Prod.mk false (some (Block.mk false (Data.mix [(AC.slice (Loc.mk 1 0 1 0 0 0 0) 1 (n) (x) true)])))), (Prod.mk false (some (Block.mk false (Data.rows [(Col.ints (IntKind.u64) (ws))]))))])) := by kernel_rfl
theorem t_rz1 (a m i : Int) (n x : Nat) (ws : List Int) (k : HeadK) : bodyR Try.prog sTh lNil iRz 60 (loopOf Try.prog 17 0) (rzV a m i) (rzH true n x ws) k = (cond (decide (i < m)) (cond (decide (0 ≤ IntKind.wrap IntKind.i64 (a + i)) && decide (IntKind.wrap IntKind.i64 (a + i) < (↑n : Int))) (cond (decide (0 + Int.toNat (IntKind.wrap IntKind.i64 (a + i)) < List.length ws) && true) (k (Ex.normal) [(AV.e (AE.c (AC.ptr (Loc.mk 0 0 0 0 0 0 0)))), (AV.e (AE.c (AC.int (IntKind.i64) (a)))), (AV.e (AE.c (AC.int (IntKind.i64) (m)))), (AV.e (AE.c (AC.int (IntKind.i64) (IntKind.wrap IntKind.i64 (i + 1)))))] [(Prod.mk false (some (Block.mk false (Data.mix [(AC.slice (Loc.mk 1 0 1 0 0 0 0) 1 (n) (x) true)])))), (Prod.mk true (some (Block.mk false (Data.rows [(Col.ints (IntKind.u64) (List.set ws (0 + Int.toNat (IntKind.wrap IntKind.i64 (a + i))) 0))]))))]) none) none) (k (Ex.exit 0) [] [(Prod.mk false (some (Block.mk false (Data.mix [(AC.slice (Loc.mk 1 0 1 0 0 0 0) 1 (n) (x) true)])))), (Prod.mk true (some (Block.mk false (Data.rows [(Col.ints (IntKind.u64) (ws))]))))])) := by kernel_rfl
theorem t_rc0 (a m i : Int) (n x p : Nat) (ws l : List Int) (k : HeadK) : bodyR Try.prog sTh lNil iRc 60 (loopOf Try.prog 18 0) (rcV a m p i) (rcH false n x ws l) k = (cond (decide (i < m)) (cond (decide (0 ≤ i) && decide (i < (↑p : Int))) (cond (decide (0 + Int.toNat i < List.length l)) (cond (decide (0 ≤ IntKind.wrap IntKind.i64 (a + i)) && decide (IntKind.wrap IntKind.i64 (a + i) < (↑n : Int))) (cond (decide (0 + Int.toNat (IntKind.wrap IntKind.i64 (a + i)) < List.length ws) && true) (k (Ex.normal) [(AV.e (AE.c (AC.ptr (Loc.mk 0 0 0 0 0 0 0)))), (AV.e (AE.c (AC.int (IntKind.i64) (a)))), (AV.e (AE.c (AC.int (IntKind.i64) (m)))), (AV.e (AE.c (AC.slice (Loc.mk 2 0 1 0 0 0 0) 1 (p) 0 true))), (AV.e (AE.c (AC.int (IntKind.i64) (IntKind.wrap IntKind.i64 (i + 1)))))] [(Prod.mk false (some (Block.mk false (Data.mix [(AC.slice (Loc.mk 1 0 1 0 0 0 0) 1 (n) (x) true)])))), (Prod.mk true (some (Block.mk false (Data.rows [(Col.ints (IntKind.u64) (List.set ws (0 + Int.toNat (IntKind.wrap IntKind.i64 (a + i))) (List.getD l (0 + Int.toNat i) 0)))])))), (Prod.mk true (some (Block.mk false (Data.rows [(Col.ints (IntKind.u64) (l))]))))]) none) none) none) none) (k (Ex.exit 0) [] [(Prod.mk false (some (Block.mk false (Data.mix [(AC.slice (Loc.mk 1 0 1 0 0 0 0) 1 (n) (x) true)])))), (Prod.mk false (some (Block.mk false (Data.rows [(Col.ints (IntKind.u64) (ws))]))))])) := by kernel_rfl
theorem t_rc1 (a m i : Int) (n x p : Nat) (ws l : List Int) (k : HeadK) : bodyR Try.prog sTh lNil iRc 60 (loopOf Try.prog 18 0) (rcV a m p i) (rcH true n x ws l) k = (cond (decide (i < m)) (cond (decide (0 ≤ i) && decide (i < (↑p : Int))) (cond (decide (0 + Int.toNat i < List.length l)) (cond (decide (0 ≤ IntKind.wrap IntKind.i64 (a + i)) && decide (IntKind.wrap IntKind.i64 (a + i) < (↑n : Int))) (cond (decide (0 + Int.toNat (IntKind.wrap IntKind.i64 (a + i)) < List.length ws) && true) (k (Ex.normal) [(AV.e (AE.c (AC.ptr (Loc.mk 0 0 0 0 0 0 0)))), (AV.e (AE.c (AC.int (IntKind.i64) (a)))), (AV.e (AE.c (AC.int (IntKind.i64) (m)))), (AV.e (AE.c (AC.slice (Loc.mk 2 0 1 0 0 0 0) 1 (p) 0 true))), (AV.e (AE.c (AC.int (IntKind.i64) (IntKind.wrap IntKind.i64 (i + 1)))))] [(Prod.mk false (some (Block.mk false (Data.mix [(AC.slice (Loc.mk 1 0 1 0 0 0 0) 1 (n) (x) true)])))), (Prod.mk true (some (Block.mk false (Data.rows [(Col.ints (IntKind.u64) (List.set ws (0 + Int.toNat (IntKind.wrap IntKind.i64 (a + i))) (List.getD l (0 + Int.toNat i) 0)))])))), (Prod.mk true (some (Block.mk false (Data.rows [(Col.ints (IntKind.u64) (l))]))))]) none) none) none) none) (k (Ex.exit 0) [] [(Prod.mk false (some (Block.mk false (Data.mix [(AC.slice (Loc.mk 1 0 1 0 0 0 0) 1 (n) (x) true)])))), (Prod.mk true (some (Block.mk false (Data.rows [(Col.ints (IntKind.u64) (ws))]))))])) := by kernel_rfl
def blit (ws : List Int) (a : Nat) (l : List Int) (i : Nat) : List Int := ws.take a ++ l.take i ++ ws.drop (a + i)
theorem blit_len {ws l : List Int} {a i : Nat} (h : a + i ≤ ws.length) (hi : i ≤ l.length) : (blit ws a l i).length = ws.length := by
  unfold blit; simp only [List.length_append, List.length_take, List.length_drop]; omega
theorem blit_get {ws l : List Int} {a i : Nat} (h : a + i ≤ ws.length) (hi : i ≤ l.length) (k : Nat) : (blit ws a l i)[k]? = if a ≤ k ∧ k < a + i then l[k - a]? else ws[k]? := by
  unfold blit
  rw [List.append_assoc, List.getElem?_append]
  simp only [List.length_take]
  rw [show min a ws.length = a from by omega]
  by_cases c : k < a
  · rw [if_pos c, if_neg (by omega), List.getElem?_take, if_pos c]
  · rw [if_neg c, List.getElem?_append]
    simp only [List.length_take]
    rw [show min i l.length = i from by omega]
    by_cases d : k - a < i
    · rw [if_pos d, if_pos (by omega), List.getElem?_take, if_pos d]
    · rw [if_neg d, if_neg (by omega), List.getElem?_drop]; congr 1; omega
theorem blit_succ {ws l : List Int} {a i : Nat} (h : a + i < ws.length) (hi : i < l.length) : (blit ws a l i).set (a + i) (l.getD i 0) = blit ws a l (i + 1) := by
  apply List.ext_getElem?
  intro k
  rw [List.getElem?_set, blit_get (by omega) (by omega), blit_get (by omega) (by omega), blit_len (by omega) (by omega)]
  by_cases c : a + i = k
  · subst c
    rw [if_pos rfl, if_pos h, if_pos (by omega), show a + i - a = i from by omega, List.getD_eq_getElem?_getD, List.getElem?_eq_getElem hi]; rfl
  · rw [if_neg c]
    by_cases d : a ≤ k ∧ k < a + i
    · rw [if_pos d, if_pos (by omega)]
    · rw [if_neg d, if_neg (by omega)]
theorem blit_zero (ws l : List Int) (a : Nat) : blit ws a l 0 = ws := by unfold blit; simp
theorem loopRz (ws : List Int) (a m x : Nat) (h : a + m ≤ ws.length) (hl : ws.length ≤ 65536) (K : HeadK) : ∀ j i : Nat, i + j = m →
    iterR Try.prog sTh lNil iRz 60 (loopOf Try.prog 17 0) (j + 1) (rzV a m i) (rzH true ws.length x (blit ws a (List.replicate m 0) i)) K = K (.exit 0) [] (rzH true ws.length x (blit ws a (List.replicate m 0) m))
  | 0, i, hi => by
    obtain rfl : i = m := by omega
    rw [iterR]
    refine (t_rz1 a i i ws.length x _ _).trans ?_
    rw [decide_eq_false (show ¬ (i : Int) < i by omega), cond_false]
  | j + 1, i, hi => by
    rw [iterR]
    refine (t_rz1 a m i ws.length x _ _).trans ?_
    have ih := loopRz ws a m x h hl K j (i + 1) (by omega)
    have hb := blit_len (ws := ws) (l := List.replicate m (0 : Int)) (a := a) (i := i) (by omega) (by simp; omega)
    rw [wrap_i64 (n := (a : Int) + i) (by omega) (by omega), wrap_i64 (n := (i : Int) + 1) (by omega) (by omega), show (a : Int) + i = ((a + i : Nat) : Int) from by omega, show (i : Int) + 1 = ((i + 1 : Nat) : Int) from by omega]
    rw [decide_eq_true (show (i : Int) < m by omega), cond_true, decide_eq_true (show (0 : Int) ≤ ((a + i : Nat) : Int) by omega), decide_eq_true (show ((a + i : Nat) : Int) < (ws.length : Int) by omega), Bool.and_self, cond_true, Int.toNat_natCast, Nat.zero_add, hb, decide_eq_true (show a + i < ws.length by omega), Bool.and_self, cond_true]
    have hs := blit_succ (ws := ws) (l := List.replicate m (0 : Int)) (a := a) (i := i) (by omega) (by simp; omega)
    rw [List.getD_eq_getElem?_getD, List.getElem?_replicate, if_pos (by omega)] at hs
    simp only [Option.getD_some] at hs
    rw [hs]
    exact ih
theorem loopRc (ws l : List Int) (a m x : Nat) (h : a + m ≤ ws.length) (hlm : l.length = m) (hl : ws.length ≤ 65536) (K : HeadK) : ∀ j i : Nat, i + j = m →
    iterR Try.prog sTh lNil iRc 60 (loopOf Try.prog 18 0) (j + 1) (rcV a m m i) (rcH true ws.length x (blit ws a l i) l) K = K (.exit 0) [] (rzH true ws.length x (blit ws a l m))
  | 0, i, hi => by
    obtain rfl : i = m := by omega
    rw [iterR]
    refine (t_rc1 a i i ws.length x i _ l _).trans ?_
    rw [decide_eq_false (show ¬ (i : Int) < i by omega), cond_false]
  | j + 1, i, hi => by
    rw [iterR]
    refine (t_rc1 a m i ws.length x m _ l _).trans ?_
    have ih := loopRc ws l a m x h hlm hl K j (i + 1) (by omega)
    have hb := blit_len (ws := ws) (l := l) (a := a) (i := i) (by omega) (by omega)
    rw [wrap_i64 (n := (a : Int) + i) (by omega) (by omega), wrap_i64 (n := (i : Int) + 1) (by omega) (by omega), show (a : Int) + i = ((a + i : Nat) : Int) from by omega, show (i : Int) + 1 = ((i + 1 : Nat) : Int) from by omega]
    rw [decide_eq_true (show (i : Int) < m by omega), cond_true, decide_eq_true (show (0 : Int) ≤ i by omega), Bool.and_self, cond_true, Int.toNat_natCast, Nat.zero_add, decide_eq_true (show i < l.length by omega), cond_true,
      decide_eq_true (show (0 : Int) ≤ ((a + i : Nat) : Int) by omega), decide_eq_true (show ((a + i : Nat) : Int) < (ws.length : Int) by omega), Bool.and_self, cond_true, Int.toNat_natCast, Nat.zero_add, hb, decide_eq_true (show a + i < ws.length by omega), Bool.and_self, cond_true]
    rw [blit_succ (by omega) (by omega)]
    exact ih
theorem loopRz0 (ws : List Int) (a m x : Nat) (h : a + m ≤ ws.length) (hl : ws.length ≤ 65536) (K : HeadK) :
    iterR Try.prog sTh lNil iRz 60 (loopOf Try.prog 17 0) (m + 1) (rzV a m 0) (rzH false ws.length x ws) K = K (.exit 0) [] (rzH (decide (0 < m)) ws.length x (blit ws a (List.replicate m 0) m)) := by
  cases m with
  | zero =>
    rw [iterR]
    refine (t_rz0 a 0 0 ws.length x ws _).trans ?_
    rw [decide_eq_false (show ¬ (0 : Int) < 0 by omega), cond_false, blit_zero]
    rfl
  | succ m =>
    rw [iterR]
    refine (t_rz0 a ((m + 1 : Nat) : Int) 0 ws.length x ws _).trans ?_
    have ih := loopRz ws a (m + 1) x h hl K m 1 (by omega)
    rw [wrap_i64 (n := (a : Int) + 0) (by omega) (by omega), wrap_i64 (n := (0 : Int) + 1) (by omega) (by omega), show (a : Int) + 0 = (a : Int) from by omega, show (0 : Int) + 1 = ((1 : Nat) : Int) from by omega]
    rw [decide_eq_true (show (0 : Int) < ((m + 1 : Nat) : Int) by omega), cond_true, decide_eq_true (show (0 : Int) ≤ a by omega), decide_eq_true (show (a : Int) < (ws.length : Int) by omega), Bool.and_self, cond_true, Int.toNat_natCast, Nat.zero_add, decide_eq_true (show a < ws.length by omega), Bool.and_self, cond_true]
    have hs := blit_succ (ws := ws) (l := List.replicate (m + 1) (0 : Int)) (a := a) (i := 0) (by omega) (by simp)
    rw [blit_zero, List.getD_eq_getElem?_getD, List.getElem?_replicate, if_pos (by omega)] at hs
    simp only [Option.getD_some, Nat.add_zero, Nat.zero_add] at hs
    rw [hs, show decide (0 < m + 1) = true from by simp]
    exact ih
theorem loopRc0 (ws l : List Int) (a m x : Nat) (h : a + m ≤ ws.length) (hlm : l.length = m) (hl : ws.length ≤ 65536) (K : HeadK) :
    iterR Try.prog sTh lNil iRc 60 (loopOf Try.prog 18 0) (m + 1) (rcV a m m 0) (rcH false ws.length x ws l) K = K (.exit 0) [] (rzH (decide (0 < m)) ws.length x (blit ws a l m)) := by
  cases m with
  | zero =>
    rw [iterR]
    refine (t_rc0 a 0 0 ws.length x 0 ws l _).trans ?_
    rw [decide_eq_false (show ¬ (0 : Int) < 0 by omega), cond_false, blit_zero]
    rfl
  | succ m =>
    rw [iterR]
    refine (t_rc0 a ((m + 1 : Nat) : Int) 0 ws.length x (m + 1) ws l _).trans ?_
    have ih := loopRc ws l a (m + 1) x h hlm hl K m 1 (by omega)
    rw [wrap_i64 (n := (a : Int) + 0) (by omega) (by omega), wrap_i64 (n := (0 : Int) + 1) (by omega) (by omega), show (a : Int) + 0 = (a : Int) from by omega, show (0 : Int) + 1 = ((1 : Nat) : Int) from by omega]
    rw [decide_eq_true (show (0 : Int) < ((m + 1 : Nat) : Int) by omega), cond_true, decide_eq_true (show (0 : Int) ≤ 0 by omega), Bool.and_self, cond_true, show (0 : Int).toNat = 0 from rfl, Nat.zero_add, decide_eq_true (show 0 < l.length by omega), cond_true,
      decide_eq_true (show (0 : Int) ≤ a by omega), decide_eq_true (show (a : Int) < (ws.length : Int) by omega), Bool.and_self, cond_true, Int.toNat_natCast, Nat.zero_add, decide_eq_true (show a < ws.length by omega), Bool.and_self, cond_true]
    have hs := blit_succ (ws := ws) (l := l) (a := a) (i := 0) (by omega) (by omega)
    rw [blit_zero] at hs
    simp only [Nat.add_zero, Nat.zero_add] at hs
    rw [hs, show decide (0 < m + 1) = true from by simp]
    exact ih
end Go.Proofs.Ytggkddpimcikaaa.Wlk
