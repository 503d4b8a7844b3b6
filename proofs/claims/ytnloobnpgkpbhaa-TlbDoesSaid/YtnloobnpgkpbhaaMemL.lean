/- Loops of a machine's memory, walked. -/
import Derived.Test.YtnloobnpgkpbhaaMem
set_option linter.unusedVariables false
set_option linter.unusedSimpArgs false
set_option maxRecDepth 100000
namespace Go.Proofs.Ytnloobnpgkpbhaa.Wlk
open Go Go.Eng Go.Proofs Go.RowKit
noncomputable def nT (f : FuncId) : Nat := match Try.prog.funcs[f]? with | some f => f.ntmps | none => 0
noncomputable def iSame : LI := ⟨2, nT 28, [0, 1, 5], [], [4]⟩
abbrev sameV (n m e0 e1 : Nat) (nn0 nn1 : Bool) (i : Int) : List AV := [.e (.c (.slice ⟨0, 0, 1, 0, 0, 0, 0⟩ 1 n e0 nn0)), .e (.c (.slice ⟨1, 0, 1, 0, 0, 0, 0⟩ 1 m e1 nn1)), .e (.c (.int .i64 i))]
abbrev sameH (r0 r1 : Bool) (xs ys : List Int) : Heap := [(false, some ⟨r0, .rows [.ints .u64 xs]⟩), (false, some ⟨r1, .rows [.ints .u64 ys]⟩)]
theorem t_sameB (i : Int) (n m e0 e1 : Nat) (nn0 nn1 r0 r1 : Bool) (xs ys : List Int) (k : HeadK) : bodyR Try.prog sNil lNil iSame 50 (loopOf Try.prog 28 0) (sameV n m e0 e1 nn0 nn1 i) (sameH r0 r1 xs ys) k = (cond (decide (i < (↑n : Int))) (cond (decide (0 ≤ i) && decide (i < (↑n : Int))) (cond (decide (0 + Int.toNat i < List.length xs)) (cond (decide (0 ≤ i) && decide (i < (↑m : Int))) (cond (decide (0 + Int.toNat i < List.length ys)) (cond (List.getD xs (0 + Int.toNat i) 0 != List.getD ys (0 + Int.toNat i) 0) (k (Ex.ret) [(AV.e (AE.c (AC.bool false)))] [(Prod.mk false (some (Block.mk (r0) (Data.rows [(Col.ints (IntKind.u64) (xs))])))), (Prod.mk false (some (Block.mk (r1) (Data.rows [(Col.ints (IntKind.u64) (ys))]))))]) (k (Ex.normal) [(AV.e (AE.c (AC.slice (Loc.mk 0 0 1 0 0 0 0) 1 (n) (e0) (nn0)))), (AV.e (AE.c (AC.slice (Loc.mk 1 0 1 0 0 0 0) 1 (m) (e1) (nn1)))), (AV.e (AE.c (AC.int (IntKind.i64) (IntKind.wrap IntKind.i64 (i + 1)))))] [(Prod.mk false (some (Block.mk (r0) (Data.rows [(Col.ints (IntKind.u64) (xs))])))), (Prod.mk false (some (Block.mk (r1) (Data.rows [(Col.ints (IntKind.u64) (ys))]))))])) none) none) none) none) (k (Ex.exit 0) [] [(Prod.mk false (some (Block.mk (r0) (Data.rows [(Col.ints (IntKind.u64) (xs))])))), (Prod.mk false (some (Block.mk (r1) (Data.rows [(Col.ints (IntKind.u64) (ys))]))))])) := by kernel_rfl
theorem drop_cons {l : List Int} {i : Nat} (h : i < l.length) : l.drop i = l.getD i 0 :: l.drop (i + 1) := by
  rw [List.drop_eq_getElem_cons h, List.getD_eq_getElem?_getD, List.getElem?_eq_getElem h]; rfl
theorem cnd {α : Type} (b : Bool) (x y : α) : cond b x y = if b = true then x else y := by cases b <;> rfl
theorem same_loop (e0 e1 : Nat) (nn0 nn1 r0 r1 : Bool) (xs ys : List Int) (hl : ys.length = xs.length) (hm : xs.length < 4611686018427387904) (K : HeadK) : ∀ j i : Nat, i + j = xs.length →
    iterR Try.prog sNil lNil iSame 50 (loopOf Try.prog 28 0) (j + 1) (sameV xs.length xs.length e0 e1 nn0 nn1 i) (sameH r0 r1 xs ys) K = if xs.drop i = ys.drop i then K (.exit 0) [] (sameH r0 r1 xs ys) else K .ret [.e (.c (.bool false))] (sameH r0 r1 xs ys)
  | 0, i, hi => by
    rw [iterR]
    refine (t_sameB i xs.length xs.length e0 e1 nn0 nn1 r0 r1 xs ys _).trans ?_
    rw [decide_eq_false (show ¬ (i : Int) < xs.length by omega)]
    rw [List.drop_eq_nil_of_le (show xs.length ≤ i by omega), List.drop_eq_nil_of_le (show ys.length ≤ i by omega)]
    simp
  | j + 1, i, hi => by
    rw [iterR]
    refine (t_sameB i xs.length xs.length e0 e1 nn0 nn1 r0 r1 xs ys _).trans ?_
    rw [decide_eq_true (show (i : Int) < xs.length by omega), decide_eq_true (show (0 : Int) ≤ i by omega)]
    simp only [Int.toNat_natCast, Nat.zero_add, Bool.and_self, cond_true]
    rw [decide_eq_true (show i < xs.length by omega), decide_eq_true (show i < ys.length by omega)]
    simp only [cond_true]
    rw [wrap_i64 (by omega) (by omega), show (i : Int) + 1 = ((i + 1 : Nat) : Int) from by omega, same_loop e0 e1 nn0 nn1 r0 r1 xs ys hl hm K j (i + 1) (by omega)]
    rw [drop_cons (l := xs) (i := i) (by omega), drop_cons (l := ys) (i := i) (by omega)]
    by_cases e : xs.getD i 0 = ys.getD i 0
    · rw [show (xs.getD i 0 != ys.getD i 0) = false from by simpa using e]
      simp only [cond_false, List.cons.injEq, e, true_and]
    · rw [show (xs.getD i 0 != ys.getD i 0) = true from by simpa using e]
      simp only [cond_true, List.cons.injEq, e, false_and, if_false]
def cSame : HeadO := fun vs h K => match vs, h with
  | [.e (.c (.slice ⟨0, 0, 1, 0, 0, 0, 0⟩ 1 n e0 nn0)), .e (.c (.slice ⟨1, 0, 1, 0, 0, 0, 0⟩ 1 m e1 nn1)), .e (.c (.int .i64 i))], [(false, some ⟨r0, .rows [.ints .u64 xs]⟩), (false, some ⟨r1, .rows [.ints .u64 ys]⟩)] =>
    match decide (i = 0) && Nat.beq n xs.length && Nat.beq m n && Nat.beq ys.length n && decide (xs.length < 4611686018427387904) with
    | true => match decide (xs = ys) with
      | true => K (.exit 0) [] [(false, some ⟨r0, .rows [.ints .u64 xs]⟩), (false, some ⟨r1, .rows [.ints .u64 ys]⟩)]
      | false => K .ret [.e (.c (.bool false))] [(false, some ⟨r0, .rows [.ints .u64 xs]⟩), (false, some ⟨r1, .rows [.ints .u64 ys]⟩)]
    | false => none
  | _, _ => none
theorem cSame_sound : HeadSound Try.prog iSame (loopOf Try.prog 28 0) cSame := by
  refine HeadSound.short (iterR_sound (F := 50) sNil_ok mix lNil_ok) fun vs h K r e => ?_
  unfold cSame at e
  split at e
  · rename_i n e0 nn0 m e1 nn1 i r0 xs r1 ys
    split at e
    · rename_i hc
      simp only [Bool.and_eq_true, decide_eq_true_eq] at hc
      obtain ⟨⟨⟨⟨rfl, h1⟩, h2⟩, h3⟩, h4⟩ := hc
      have h1 := Nat.eq_of_beq_eq_true h1
      have h2 := Nat.eq_of_beq_eq_true h2
      have h3 := Nat.eq_of_beq_eq_true h3
      subst h2; subst h1
      refine ⟨xs.length + 1, (same_loop e0 e1 nn0 nn1 r0 r1 xs ys h3 h4 K xs.length 0 (by omega)).trans ?_⟩
      simp only [List.drop_zero]
      split at e
      · rename_i hd; rw [if_pos (of_decide_eq_true hd)]; exact e
      · rename_i hd; rw [if_neg (of_decide_eq_false hd)]; exact e
    · cases e
  · cases e
noncomputable def lSame : Nat → Option Orc := lAdd lNil 0 (wrapO iSame 0 cSame)
theorem lSame_for : LFor 2 Try.prog 28 lSame := lAdd_for lNil_for (by kernel_rfl) cSame_sound
theorem same_dis : Go.Eng.distinct (blockIds (codeOf Try.prog 28)) = true := by kernel_rfl
end Go.Proofs.Ytnloobnpgkpbhaa.Wlk
