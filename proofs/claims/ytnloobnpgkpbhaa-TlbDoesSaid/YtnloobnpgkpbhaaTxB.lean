/- The reference's list of what is kept: dropped, flushed: the loops. -/
import Derived.Test.YtnloobnpgkpbhaaTxA
set_option linter.unusedVariables false
set_option linter.unusedSimpArgs false
set_option maxRecDepth 100000
namespace Go.Proofs.Ytnloobnpgkpbhaa.Wlk
open Go Go.Eng Go.Proofs Go.RowKit
def xH (n : Nat) (b : Bool) (L : List Ro) : List Ro → Heap
  | [] => [bO (xT 1 n b), bO (kR L 0)]
  | q :: R => [bO (xT 1 n b), bO (kR L 0), bCL (q :: R) 0]
def xV : List Ro → AV
  | [] => .e (.c .nils)
  | q :: R => vL 2 (q :: R).length
theorem xH_ne (n : Nat) (b : Bool) (L : List Ro) {R : List Ro} (h : R ≠ []) : xH n b L R = [bO (xT 1 n b), bO (kR L 0), bCL R 0] := by
  cases R with
  | nil => exact absurd rfl h
  | cons q R => rfl
theorem xV_ne {R : List Ro} (h : R ≠ []) : xV R = vL 2 R.length := by
  cases R with
  | nil => exact absurd rfl h
  | cons q R => rfl
theorem rep0 {α : Type} (l : List α) (d : α) : l ++ List.replicate 0 d = l := by rw [List.replicate_zero, List.append_nil]
theorem snocS (M : List Ro) (r : Ro) : List.take M.length (List.drop 0 (cS M 0)) ++ List.take 1 (List.drop 0 [r.s]) = cS (M ++ [r]) 0 := col_snoc0 Ro.s 0 M r
theorem snocP (M : List Ro) (r : Ro) : List.take M.length (List.drop 0 (cP M 0)) ++ List.take 1 (List.drop 0 [r.p]) = cP (M ++ [r]) 0 := col_snoc0 Ro.p 0 M r
theorem snocV (M : List Ro) (r : Ro) : List.take M.length (List.drop 0 (cV M 0)) ++ List.take 1 (List.drop 0 [r.v]) = cV (M ++ [r]) 0 := col_snoc0 Ro.v false M r
theorem snocW (M : List Ro) (r : Ro) : List.take M.length (List.drop 0 (cW M 0)) ++ List.take 1 (List.drop 0 [r.w]) = cW (M ++ [r]) 0 := col_snoc0 Ro.w false M r
theorem snocA (M : List Ro) (r : Ro) : List.take M.length (List.drop 0 (cA M 0)) ++ List.take 1 (List.drop 0 [r.a]) = cA (M ++ [r]) 0 := col_snoc0 Ro.a 0 M r
theorem one_len {α : Type} (t : α) : [t].length = 1 := rfl
set_option maxHeartbeats 4000000 in
theorem loopXd (x y : Int) (b : Bool) (L : List Ro) (hL : L.length ≤ 16) (K : HeadK) (j : Nat) : ∀ (i : Nat) (R : List Ro), i + j = L.length → R.length ≤ i →
    iterR Try.prog sNil lNil iXd 60 (loopOf Try.prog 20 0) (j + 1) [vPt 0, aint .i64 x, aint .i64 y, xV R, aint .i64 i] (xH L.length b L R) K = K (.exit 0) [vPt 0, xV (R ++ dropL x y (L.drop i))] (xH L.length b L (R ++ dropL x y (L.drop i))) := by
  induction j with
  | zero =>
    intro i R hi hR
    rw [iterR, List.drop_of_length_le (show L.length ≤ i by omega), show dropL x y [] = [] from rfl, List.append_nil]
    by_cases hn : R = []
    · subst hn
      refine (t_xdN L.length b x y i _ _ _ _ _ _).trans ?_
      rw [decide_eq_false (show ¬ (i : Int) < (L.length : Int) by omega), cF]; rfl
    · rw [xV_ne hn, xH_ne _ _ _ hn]
      refine (t_xdS L.length R.length b x y i _ _ _ _ _ _ _ _ _ _ _).trans ?_
      rw [decide_eq_false (show ¬ (i : Int) < (L.length : Int) by omega), cF] <;> rfl
  | succ j ih =>
    intro i R hi hR
    have hil : i < L.length := by omega
    have gs : (cS L 0).getD i 0 = L[i].s := col_getD Ro.s 0 L 0 i hil
    have gp : (cP L 0).getD i 0 = L[i].p := col_getD Ro.p 0 L 0 i hil
    have gv : (cV L 0).getD i false = L[i].v := col_getD Ro.v false L 0 i hil
    have gw : (cW L 0).getD i false = L[i].w := col_getD Ro.w false L 0 i hil
    have ga : (cA L 0).getD i 0 = L[i].a := col_getD Ro.a 0 L 0 i hil
    have w1 : IntKind.wrap IntKind.i64 ((i : Int) + 1) = ((i + 1 : Nat) : Int) := by rw [wrap_i64 (by omega) (by omega)]; omega
    rw [iterR, List.drop_eq_getElem_cons hil]
    have yes : (L[i].s = x → ¬ L[i].p = y) → dropL x y (L[i] :: L.drop (i + 1)) = L[i] :: dropL x y (L.drop (i + 1)) := fun c => by
      unfold dropL
      rw [List.filter_cons_of_pos (by cases h1 : (L[i].s == x) <;> cases h2 : (L[i].p == y) <;> simp_all)]
    have no : (L[i].s = x ∧ L[i].p = y) → dropL x y (L[i] :: L.drop (i + 1)) = dropL x y (L.drop (i + 1)) := fun c => by
      unfold dropL
      rw [List.filter_cons_of_neg (by simpa using c)]
    have ihY := ih (i + 1) (R ++ [L[i]]) (by omega) (by rw [List.length_append]; simp; omega)
    have ihN := ih (i + 1) R (by omega) (by omega)
    rw [List.append_assoc] at ihY
    clear ih
    by_cases c1 : L[i].s = x
    · by_cases c2 : L[i].p = y
      · rw [no ⟨c1, c2⟩]
        refine Eq.trans ?_ ihN
        by_cases hn : R = []
        · subst hn
          refine (t_xdN L.length b x y i _ _ _ _ _ _).trans ?_
          rw [decide_eq_true (show (i : Int) < (L.length : Int) by omega), cT, decide_eq_true (show (0 : Int) ≤ (i : Int) by omega), Bool.and_self, cT, Int.toNat_natCast, Nat.zero_add, cS_len, decide_eq_true (show i < L.length + 0 by omega), cT, gs, show (L[i].s != x) = false from by simp [c1], cF, cT, cP_len, decide_eq_true (show i < L.length + 0 by omega), cT, gp, show (L[i].p != y) = false from by simp [c2], cF, w1] <;> rfl
        · rw [xV_ne hn, xH_ne _ _ _ hn]
          refine (t_xdS L.length R.length b x y i _ _ _ _ _ _ _ _ _ _ _).trans ?_
          rw [decide_eq_true (show (i : Int) < (L.length : Int) by omega), cT, decide_eq_true (show (0 : Int) ≤ (i : Int) by omega), Bool.and_self, cT, Int.toNat_natCast, Nat.zero_add, cS_len, decide_eq_true (show i < L.length + 0 by omega), cT, gs, show (L[i].s != x) = false from by simp [c1], cF, cT, cP_len, decide_eq_true (show i < L.length + 0 by omega), cT, gp, show (L[i].p != y) = false from by simp [c2], cF, w1] <;> rfl
      · rw [yes (fun _ => c2)]
        refine Eq.trans ?_ ihY
        by_cases hn : R = []
        · subst hn
          refine (t_xdN L.length b x y i _ _ _ _ _ _).trans ?_
          rw [decide_eq_true (show (i : Int) < (L.length : Int) by omega), cT, decide_eq_true (show (0 : Int) ≤ (i : Int) by omega), Bool.and_self, cT, Int.toNat_natCast, Nat.zero_add, cS_len, decide_eq_true (show i < L.length + 0 by omega), cT, gs, show (L[i].s != x) = false from by simp [c1], cF, gp, show (L[i].p != y) = true from by simp [c2], cP_len, cV_len, cW_len, cA_len, decide_eq_true (show i < L.length + 0 by omega)]
          repeat rw [Bool.and_self]
          rw [cT, cT, cT, cT, cT, w1, gv, gw, ga] <;> rfl
        · have hn' : R ++ [L[i]] ≠ [] := by simp
          rw [xV_ne hn, xH_ne _ _ _ hn, xV_ne hn', xH_ne _ _ _ hn']
          refine (t_xdS L.length R.length b x y i _ _ _ _ _ _ _ _ _ _ _).trans ?_
          rw [decide_eq_true (show (i : Int) < (L.length : Int) by omega), cT, decide_eq_true (show (0 : Int) ≤ (i : Int) by omega), Bool.and_self, cT, Int.toNat_natCast, Nat.zero_add, cS_len, decide_eq_true (show i < L.length + 0 by omega), cT, gs, show (L[i].s != x) = false from by simp [c1], cF, gp, show (L[i].p != y) = true from by simp [c2], cP_len, cV_len, cW_len, cA_len, gv, gw, ga, snocS, snocP, snocV, snocW, snocA, cS_len, cP_len, cV_len, cW_len, cA_len, one_len, one_len, one_len, one_len, one_len, decide_eq_true (show i < L.length + 0 by omega), decide_eq_true (show 0 + R.length ≤ R.length + 0 by omega), decide_eq_true (show 0 + 1 ≤ 1 by omega), decide_eq_true (show (R.length + 1) * 32 ≤ 140737488355328 by omega), decide_eq_true (show R.length + 1 ≤ 140737488355328 by omega)]
          repeat rw [Bool.and_self]
          rw [cT, cT, cT, cT, cT, cT, w1, show R.length + 1 = (R ++ [L[i]]).length from by simp] <;> rfl
    · rw [yes (fun h => absurd h c1)]
      refine Eq.trans ?_ ihY
      · skip
        by_cases hn : R = []
        · subst hn
          refine (t_xdN L.length b x y i _ _ _ _ _ _).trans ?_
          rw [decide_eq_true (show (i : Int) < (L.length : Int) by omega), cT, decide_eq_true (show (0 : Int) ≤ (i : Int) by omega), Bool.and_self, cT, Int.toNat_natCast, Nat.zero_add, cS_len, decide_eq_true (show i < L.length + 0 by omega), cT, gs, show (L[i].s != x) = true from by simp [c1], cT, cP_len, cV_len, cW_len, cA_len, decide_eq_true (show i < L.length + 0 by omega)]
          repeat rw [Bool.and_self]
          rw [cT, cT, w1, gp, gv, gw, ga] <;> rfl
        · have hn' : R ++ [L[i]] ≠ [] := by simp
          rw [xV_ne hn, xH_ne _ _ _ hn, xV_ne hn', xH_ne _ _ _ hn']
          refine (t_xdS L.length R.length b x y i _ _ _ _ _ _ _ _ _ _ _).trans ?_
          rw [decide_eq_true (show (i : Int) < (L.length : Int) by omega), cT, decide_eq_true (show (0 : Int) ≤ (i : Int) by omega), Bool.and_self, cT, Int.toNat_natCast, Nat.zero_add, cS_len, decide_eq_true (show i < L.length + 0 by omega), cT, gs, show (L[i].s != x) = true from by simp [c1], cT, cP_len, cV_len, cW_len, cA_len, gp, gv, gw, ga, snocS, snocP, snocV, snocW, snocA, cS_len, cP_len, cV_len, cW_len, cA_len, one_len, one_len, one_len, one_len, one_len, decide_eq_true (show i < L.length + 0 by omega), decide_eq_true (show 0 + R.length ≤ R.length + 0 by omega), decide_eq_true (show 0 + 1 ≤ 1 by omega), decide_eq_true (show (R.length + 1) * 32 ≤ 140737488355328 by omega), decide_eq_true (show R.length + 1 ≤ 140737488355328 by omega)]
          repeat rw [Bool.and_self]
          rw [cT, cT, cT, w1, show R.length + 1 = (R ++ [L[i]]).length from by simp] <;> rfl
set_option maxHeartbeats 4000000 in
theorem loopXf (x : Int) (b : Bool) (L : List Ro) (hL : L.length ≤ 16) (K : HeadK) (j : Nat) : ∀ (i : Nat) (R : List Ro), i + j = L.length → R.length ≤ i →
    iterR Try.prog sNil lNil iXf 60 (loopOf Try.prog 21 0) (j + 1) [vPt 0, aint .i64 x, xV R, aint .i64 i] (xH L.length b L R) K = K (.exit 0) [vPt 0, xV (R ++ flushL x (L.drop i))] (xH L.length b L (R ++ flushL x (L.drop i))) := by
  induction j with
  | zero =>
    intro i R hi hR
    rw [iterR, List.drop_of_length_le (show L.length ≤ i by omega), show flushL x [] = [] from rfl, List.append_nil]
    by_cases hn : R = []
    · subst hn
      refine (t_xfN L.length b x i _ _ _ _ _ _).trans ?_
      rw [decide_eq_false (show ¬ (i : Int) < (L.length : Int) by omega), cF]; rfl
    · rw [xV_ne hn, xH_ne _ _ _ hn]
      refine (t_xfS L.length R.length b x i _ _ _ _ _ _ _ _ _ _ _).trans ?_
      rw [decide_eq_false (show ¬ (i : Int) < (L.length : Int) by omega), cF] <;> rfl
  | succ j ih =>
    intro i R hi hR
    have hil : i < L.length := by omega
    have gs : (cS L 0).getD i 0 = L[i].s := col_getD Ro.s 0 L 0 i hil
    have gp : (cP L 0).getD i 0 = L[i].p := col_getD Ro.p 0 L 0 i hil
    have gv : (cV L 0).getD i false = L[i].v := col_getD Ro.v false L 0 i hil
    have gw : (cW L 0).getD i false = L[i].w := col_getD Ro.w false L 0 i hil
    have ga : (cA L 0).getD i 0 = L[i].a := col_getD Ro.a 0 L 0 i hil
    have w1 : IntKind.wrap IntKind.i64 ((i : Int) + 1) = ((i + 1 : Nat) : Int) := by rw [wrap_i64 (by omega) (by omega)]; omega
    rw [iterR, List.drop_eq_getElem_cons hil]
    have yes : (¬ L[i].s = x) → flushL x (L[i] :: L.drop (i + 1)) = L[i] :: flushL x (L.drop (i + 1)) := fun c => by
      unfold flushL
      rw [List.filter_cons_of_pos (by simpa using c)]
    have no : (L[i].s = x) → flushL x (L[i] :: L.drop (i + 1)) = flushL x (L.drop (i + 1)) := fun c => by
      unfold flushL
      rw [List.filter_cons_of_neg (by simpa using c)]
    have ihY := ih (i + 1) (R ++ [L[i]]) (by omega) (by rw [List.length_append]; simp; omega)
    have ihN := ih (i + 1) R (by omega) (by omega)
    rw [List.append_assoc] at ihY
    clear ih
    by_cases c1 : L[i].s = x
    · rw [no c1]
      refine Eq.trans ?_ ihN
      · skip
        by_cases hn : R = []
        · subst hn
          refine (t_xfN L.length b x i _ _ _ _ _ _).trans ?_
          rw [decide_eq_true (show (i : Int) < (L.length : Int) by omega), cT, decide_eq_true (show (0 : Int) ≤ (i : Int) by omega), Bool.and_self, cT, Int.toNat_natCast, Nat.zero_add, cS_len, decide_eq_true (show i < L.length + 0 by omega), cT, gs, show (L[i].s != x) = false from by simp [c1], cF, w1] <;> rfl
        · rw [xV_ne hn, xH_ne _ _ _ hn]
          refine (t_xfS L.length R.length b x i _ _ _ _ _ _ _ _ _ _ _).trans ?_
          rw [decide_eq_true (show (i : Int) < (L.length : Int) by omega), cT, decide_eq_true (show (0 : Int) ≤ (i : Int) by omega), Bool.and_self, cT, Int.toNat_natCast, Nat.zero_add, cS_len, decide_eq_true (show i < L.length + 0 by omega), cT, gs, show (L[i].s != x) = false from by simp [c1], cF, w1] <;> rfl
    · rw [yes c1]
      refine Eq.trans ?_ ihY
      · skip
        by_cases hn : R = []
        · subst hn
          refine (t_xfN L.length b x i _ _ _ _ _ _).trans ?_
          rw [decide_eq_true (show (i : Int) < (L.length : Int) by omega), cT, decide_eq_true (show (0 : Int) ≤ (i : Int) by omega), Bool.and_self, cT, Int.toNat_natCast, Nat.zero_add, cS_len, decide_eq_true (show i < L.length + 0 by omega), cT, gs, show (L[i].s != x) = true from by simp [c1], cT, cP_len, cV_len, cW_len, cA_len, decide_eq_true (show i < L.length + 0 by omega)]
          repeat rw [Bool.and_self]
          rw [cT, cT, w1, gp, gv, gw, ga] <;> rfl
        · have hn' : R ++ [L[i]] ≠ [] := by simp
          rw [xV_ne hn, xH_ne _ _ _ hn, xV_ne hn', xH_ne _ _ _ hn']
          refine (t_xfS L.length R.length b x i _ _ _ _ _ _ _ _ _ _ _).trans ?_
          rw [decide_eq_true (show (i : Int) < (L.length : Int) by omega), cT, decide_eq_true (show (0 : Int) ≤ (i : Int) by omega), Bool.and_self, cT, Int.toNat_natCast, Nat.zero_add, cS_len, decide_eq_true (show i < L.length + 0 by omega), cT, gs, show (L[i].s != x) = true from by simp [c1], cT, cP_len, cV_len, cW_len, cA_len, gp, gv, gw, ga, snocS, snocP, snocV, snocW, snocA, cS_len, cP_len, cV_len, cW_len, cA_len, one_len, one_len, one_len, one_len, one_len, decide_eq_true (show i < L.length + 0 by omega), decide_eq_true (show 0 + R.length ≤ R.length + 0 by omega), decide_eq_true (show 0 + 1 ≤ 1 by omega), decide_eq_true (show (R.length + 1) * 32 ≤ 140737488355328 by omega), decide_eq_true (show R.length + 1 ≤ 140737488355328 by omega)]
          repeat rw [Bool.and_self]
          rw [cT, cT, cT, w1, show R.length + 1 = (R ++ [L[i]]).length from by simp] <;> rfl
end Go.Proofs.Ytnloobnpgkpbhaa.Wlk
