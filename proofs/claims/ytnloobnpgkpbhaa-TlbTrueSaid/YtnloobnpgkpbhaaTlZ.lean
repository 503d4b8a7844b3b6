/- The youngest: the inner loops, told in short. -/
import Derived.Test.YtnloobnpgkpbhaaTlY
set_option linter.unusedVariables false
set_option linter.unusedSimpArgs false
set_option maxRecDepth 100000
namespace Go.Proofs.Ytnloobnpgkpbhaa.Wlk
open Go Go.Eng Go.Proofs Go.RowKit
abbrev Ky := Int × Int
def neK (x y : Int) (q : Ky) : Bool := !(q.1 == x && (q.2 == y && true))
def flK (x y : Int) (I : List Ky) : List Ky := I.filter (neK x y)
def kys (n : Nat) (s p : List Int) : List Ky := List.zip s p
def y2V (u1 u2 m : Nat) (b : Bool) (i : Int) (j : Nat) : List Ky → List AV
  | [] => [vS0 u1, vS1 u2, vPt 2, vI 3 m b, aint .i64 i, vPt 4, .e (.c .nils), aint .i64 j]
  | q :: R => [vS0 u1, vS1 u2, vPt 2, vI 3 m b, aint .i64 i, vPt 4, vI 5 (q :: R).length false, aint .i64 j]
def y2H (n e : Nat) (x y : Int) (l1 l2 : List Int) (I : List Ky) (s p : List Int) (v w : List Bool) (a : List Int) : List Ky → Heap
  | [] => [bR1 l1, bR1 l2, bT 5 n e, bC2 (I.map Prod.fst) (I.map Prod.snd), bK2 x y, bC5 s p v w a]
  | q :: R => [bR1 l1, bR1 l2, bT 6 n e, bC2 (I.map Prod.fst) (I.map Prod.snd), bK2 x y, bC2 ((q :: R).map Prod.fst) ((q :: R).map Prod.snd), bC5 s p v w a]
def o2V (u1 u2 : Nat) (i : Int) : List Ky → List AV
  | [] => [vS0 u1, vS1 u2, vPt 2, aint .i64 i, vPt 3, .e (.c .nils)]
  | q :: R => [vS0 u1, vS1 u2, vPt 2, aint .i64 i, vPt 3, vI 4 (q :: R).length false]
def o2H (n e : Nat) (x y : Int) (l1 l2 : List Int) (s p : List Int) (v w : List Bool) (a : List Int) : List Ky → Heap
  | [] => [bR1 l1, bR1 l2, bT 4 n e, bK2 x y, bC5 s p v w a]
  | q :: R => [bR1 l1, bR1 l2, bT 5 n e, bK2 x y, bC2 ((q :: R).map Prod.fst) ((q :: R).map Prod.snd), bC5 s p v w a]
theorem map_getD1 (I : List Ky) (j : Nat) (h : j < I.length) : (I.map Prod.fst).getD j 0 = I[j].1 := by
  rw [List.getD_eq_getElem?_getD, List.getElem?_map, List.getElem?_eq_getElem h]; rfl
theorem map_getD2 (I : List Ky) (j : Nat) (h : j < I.length) : (I.map Prod.snd).getD j 0 = I[j].2 := by
  rw [List.getD_eq_getElem?_getD, List.getElem?_map, List.getElem?_eq_getElem h]; rfl
theorem snoc_map {α β : Type} (f : α → β) (R : List α) (q : α) : List.take R.length (List.drop 0 (R.map f)) ++ List.take 1 (List.drop 0 [f q]) = (R ++ [q]).map f := by
  rw [List.drop_zero, List.take_of_length_le (Nat.le_of_eq (List.length_map ..)), List.map_append]; rfl
theorem y2V_ne (u1 u2 m : Nat) (b : Bool) (i : Int) (j : Nat) {R : List Ky} (h : R ≠ []) : y2V u1 u2 m b i j R = [vS0 u1, vS1 u2, vPt 2, vI 3 m b, aint .i64 i, vPt 4, vI 5 R.length false, aint .i64 j] := by
  cases R with
  | nil => exact absurd rfl h
  | cons q R => rfl
theorem y2H_ne (n e : Nat) (x y : Int) (l1 l2 : List Int) (I : List Ky) (s p : List Int) (v w : List Bool) (a : List Int) {R : List Ky} (h : R ≠ []) : y2H n e x y l1 l2 I s p v w a R = [bR1 l1, bR1 l2, bT 6 n e, bC2 (I.map Prod.fst) (I.map Prod.snd), bK2 x y, bC2 (R.map Prod.fst) (R.map Prod.snd), bC5 s p v w a] := by
  cases R with
  | nil => exact absurd rfl h
  | cons q R => rfl
theorem o2V_ne (u1 u2 : Nat) (i : Int) {R : List Ky} (h : R ≠ []) : o2V u1 u2 i R = [vS0 u1, vS1 u2, vPt 2, aint .i64 i, vPt 3, vI 4 R.length false] := by
  cases R with
  | nil => exact absurd rfl h
  | cons q R => rfl
theorem o2H_ne (n e : Nat) (x y : Int) (l1 l2 : List Int) (s p : List Int) (v w : List Bool) (a : List Int) {R : List Ky} (h : R ≠ []) : o2H n e x y l1 l2 s p v w a R = [bR1 l1, bR1 l2, bT 5 n e, bK2 x y, bC2 (R.map Prod.fst) (R.map Prod.snd), bC5 s p v w a] := by
  cases R with
  | nil => exact absurd rfl h
  | cons q R => rfl
set_option maxHeartbeats 2000000 in
theorem loopY2 (u1 u2 n e : Nat) (b : Bool) (i x y : Int) (l1 l2 : List Int) (I : List Ky) (s p : List Int) (v w : List Bool) (a : List Int) (hI : I.length ≤ 16) (K : HeadK) : ∀ (c j : Nat) (R : List Ky), j + c = I.length → R.length ≤ j →
    iterR Try.prog sNil lNil iY2 60 (loopOf Try.prog 3 2) (c + 1) (y2V u1 u2 I.length b i j R) (y2H n e x y l1 l2 I s p v w a R) K = K (.exit 2) (o2V u1 u2 i (R ++ flK x y (I.drop j))) (o2H n e x y l1 l2 s p v w a (R ++ flK x y (I.drop j)))
  | 0, j, R, hj, hR => by
    have hd : I.drop j = [] := List.drop_of_length_le (by omega)
    rw [iterR, hd, show flK x y [] = [] from rfl, List.append_nil]
    by_cases hn : R = []
    · subst hn
      refine (t_y2N u1 u2 n e I.length b i j x y l1 l2 _ _ s p v w a _).trans ?_
      rw [decide_eq_false (show ¬ (j : Int) < (I.length : Int) by omega), cF] <;> rfl
    · rw [y2V_ne _ _ _ _ _ _ hn, y2H_ne _ _ _ _ _ _ _ _ _ _ _ _ hn, o2V_ne _ _ _ hn, o2H_ne _ _ _ _ _ _ _ _ _ _ _ hn]
      refine (t_y2S u1 u2 n e I.length R.length b i j x y l1 l2 _ _ _ _ s p v w a _).trans ?_
      rw [decide_eq_false (show ¬ (j : Int) < (I.length : Int) by omega), cF] <;> rfl
  | c + 1, j, R, hj, hR => by
    have hjl : j < I.length := by omega
    have hd : I.drop j = I[j] :: I.drop (j + 1) := List.drop_eq_getElem_cons hjl
    have hne : (!((I.map Prod.fst).getD j 0 == x && ((I.map Prod.snd).getD j 0 == y && true))) = neK x y I[j] := by rw [map_getD1 I j hjl, map_getD2 I j hjl] <;> rfl
    have w1 : IntKind.wrap IntKind.i64 ((j : Int) + 1) = ((j + 1 : Nat) : Int) := by rw [wrap_i64 (by omega) (by omega)]; omega
    have hl : ∀ {β : Type} (f : Ky → β), (I.map f).length = I.length := fun f => List.length_map ..
    rw [iterR, hd]
    cases cq : neK x y I[j] with
    | false =>
      have ih := loopY2 u1 u2 n e b i x y l1 l2 I s p v w a hI K c (j + 1) R (by omega) (by omega)
      rw [flK, List.filter_cons_of_neg (by rw [cq]; exact Bool.false_ne_true)]
      refine Eq.trans ?_ ih
      by_cases hn : R = []
      · subst hn
        refine (t_y2N u1 u2 n e I.length b i j x y l1 l2 _ _ s p v w a _).trans ?_
        rw [decide_eq_true (show (j : Int) < (I.length : Int) by omega), cT, decide_eq_true (show (0 : Int) ≤ (j : Int) by omega), Int.toNat_natCast, Nat.zero_add, hl, hl, decide_eq_true hjl, Bool.and_self, Bool.and_self, cT, cT, hne, cq, cF, w1] <;> rfl
      · rw [y2V_ne _ _ _ _ _ _ hn, y2H_ne _ _ _ _ _ _ _ _ _ _ _ _ hn, y2V_ne _ _ _ _ _ _ hn]
        refine (t_y2S u1 u2 n e I.length R.length b i j x y l1 l2 _ _ _ _ s p v w a _).trans ?_
        rw [decide_eq_true (show (j : Int) < (I.length : Int) by omega), cT, decide_eq_true (show (0 : Int) ≤ (j : Int) by omega), Int.toNat_natCast, Nat.zero_add, hl (Prod.fst), hl (Prod.snd), decide_eq_true hjl, Bool.and_self, Bool.and_self, cT, cT, hne, cq, cF, w1] <;> rfl
    | true =>
      have ih := loopY2 u1 u2 n e b i x y l1 l2 I s p v w a hI K c (j + 1) (R ++ [I[j]]) (by omega) (by rw [List.length_append]; simp; omega)
      rw [List.append_assoc] at ih
      rw [flK, List.filter_cons_of_pos cq]
      refine Eq.trans ?_ ih
      by_cases hn : R = []
      · subst hn
        refine (t_y2N u1 u2 n e I.length b i j x y l1 l2 _ _ s p v w a _).trans ?_
        rw [decide_eq_true (show (j : Int) < (I.length : Int) by omega), cT, decide_eq_true (show (0 : Int) ≤ (j : Int) by omega), Int.toNat_natCast, Nat.zero_add, hl, hl, decide_eq_true hjl, Bool.and_self, Bool.and_self, cT, cT, hne, cq, cT, cT, cT, w1, map_getD1 I j hjl, map_getD2 I j hjl] <;> rfl
      · have hn' : R ++ [I[j]] ≠ [] := by simp
        rw [y2V_ne _ _ _ _ _ _ hn, y2H_ne _ _ _ _ _ _ _ _ _ _ _ _ hn, y2V_ne _ _ _ _ _ _ hn', y2H_ne _ _ _ _ _ _ _ _ _ _ _ _ hn']
        refine (t_y2S u1 u2 n e I.length R.length b i j x y l1 l2 _ _ _ _ s p v w a _).trans ?_
        have k1 := snoc_map Prod.fst R I[j]
        have k2 := snoc_map Prod.snd R I[j]
        have z1 : (R.map Prod.fst).length = R.length := List.length_map ..
        have z2 : (R.map Prod.snd).length = R.length := List.length_map ..
        have z3 : ∀ t : Int, [t].length = 1 := fun _ => rfl
        rw [decide_eq_true (show (j : Int) < (I.length : Int) by omega), cT, decide_eq_true (show (0 : Int) ≤ (j : Int) by omega), Int.toNat_natCast, Nat.zero_add, hl (Prod.fst), hl (Prod.snd), decide_eq_true hjl, Bool.and_self, Bool.and_self, cT, cT, hne, cq, cT, cT, cT, w1, map_getD1 I j hjl, map_getD2 I j hjl, k1, k2, z1, z2, z3, z3, decide_eq_true (show 0 + R.length ≤ R.length by omega), decide_eq_true (show 0 + 1 ≤ 1 by omega), decide_eq_true (show (R.length + 1) * 16 ≤ 140737488355328 by omega), decide_eq_true (show R.length + 1 ≤ 140737488355328 by omega)]
        repeat rw [Bool.and_self]
        rw [cT]
        have z4 : (R ++ [I[j]]).length = R.length + 1 := by simp
        rw [← z4] <;> rfl
/-- Each key is kept, or too old. -/
def chkB (F : Int → Int → Bool) : List Ky → Bool
  | [] => true
  | q :: r => (F q.1 q.2 == decide ((r.length + 1 : Nat) ≤ 8)) && chkB F r
theorem loopY4 (u1 u2 e : Nat) (b : Bool) (i : Int) (l1 l2 : List Int) (I : List Ky) (L : List Ro) (hI : I.length ≤ 16) (hL : L.length + e < 4611686018427387904) (K : HeadK) (c : Nat) : ∀ (j : Nat), j + c = I.length → chkB (fun x y => ktI x y L) (I.drop j) = true →
    iterR Try.prog sY lNil iY4 60 (loopOf Try.prog 3 4) (c + 1) [vS0 u1, vS1 u2, vPt 2, vI 3 I.length b, aint .i64 i, aint .i64 j] [bR1 l1, bR1 l2, bT 4 L.length e, bC2 (I.map Prod.fst) (I.map Prod.snd), bC5 (cS L e) (cP L e) (cV L e) (cW L e) (cA L e)] K =
      K (.exit 4) [vS0 u1, vS1 u2, vPt 2, vI 3 I.length b, aint .i64 i] [bR1 l1, bR1 l2, bT 4 L.length e, bC2 (I.map Prod.fst) (I.map Prod.snd), bC5 (cS L e) (cP L e) (cV L e) (cW L e) (cA L e)] := by
  induction c with
  | zero =>
    intro j hj hc
    rw [iterR]
    refine (t_y4 ktV ktW ktA ktI u1 u2 L.length e I.length b i j l1 l2 _ _ _ _ _ _ _ _).trans ?_
    rw [decide_eq_false (show ¬ (j : Int) < (I.length : Int) by omega), cF]; rfl
  | succ c ihc =>
    intro j hj hc
    have hjl : j < I.length := by omega
    have hd : I.drop j = I[j] :: I.drop (j + 1) := List.drop_eq_getElem_cons hjl
    have w1 : IntKind.wrap IntKind.i64 ((j : Int) + 1) = ((j + 1 : Nat) : Int) := by rw [wrap_i64 (by omega) (by omega)]; omega
    have w2 : IntKind.wrap IntKind.i64 ((I.length : Int) - (j : Int)) = ((I.length - j : Nat) : Int) := by rw [wrap_i64 (by omega) (by omega)]; omega
    have hl : ∀ {β : Type} (f : Ky → β), (I.map f).length = I.length := fun f => List.length_map ..
    rw [hd] at hc
    have hc1 : (ktI I[j].1 I[j].2 L == decide (((I.drop (j + 1)).length + 1 : Nat) ≤ 8)) = true := (Bool.and_eq_true _ _ ▸ hc : _ ∧ _).1
    have hc2 : chkB (fun x y => ktI x y L) (I.drop (j + 1)) = true := (Bool.and_eq_true _ _ ▸ hc : _ ∧ _).2
    have ih := ihc (j + 1) (by omega) hc2
    clear ihc
    have hk : (ktI I[j].1 I[j].2 L == decide (((I.length - j : Nat) : Int) ≤ 8)) = true := by
      rw [List.length_drop] at hc1
      rw [show decide (((I.length - j : Nat) : Int) ≤ 8) = decide (I.length - (j + 1) + 1 ≤ 8) from decide_eq_decide.mpr (by omega)]
      exact hc1
    rw [iterR]
    refine (t_y4 ktV ktW ktA ktI u1 u2 L.length e I.length b i j l1 l2 _ _ _ _ _ _ _ _).trans ?_
    rw [decide_eq_true (show (j : Int) < (I.length : Int) by omega), cT, decide_eq_true (show (0 : Int) ≤ (j : Int) by omega), Int.toNat_natCast, Nat.zero_add, hl, hl, decide_eq_true hjl, Bool.and_self, cT, cT, cT, cT, okK_self L e hL, cT, rowsN_cols, map_getD1 I j hjl, map_getD2 I j hjl, w2, hk, Bool.not_true, cF, w1]
    exact ih
end Go.Proofs.Ytnloobnpgkpbhaa.Wlk
