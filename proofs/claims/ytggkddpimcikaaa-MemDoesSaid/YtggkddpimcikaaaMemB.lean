/- A machine's memory: copies; the table. -/
import Derived.Test.YtggkddpimcikaaaMemA
set_option linter.unusedVariables false
set_option linter.unusedSimpArgs false
set_option maxRecDepth 100000
namespace Go.Proofs.Ytggkddpimcikaaa.Wlk
open Go Go.Eng Go.Proofs Go.RowKit
def gPart : Fun := fun args sub κ => match args, sub with
  | [.e (.c (.ptr ⟨0, 0, 0, 0, 0, 0, 0⟩)), .e (.c (.int .i64 a)), .e (.c (.int .i64 m))], [some ⟨false, .mix [.slice ⟨1, 0, 1, 0, 0, 0, 0⟩ 1 n x true]⟩, some ⟨false, .rows [.ints .u64 ws]⟩] => match okM n ws && inI a && inI m with
    | true => match inM n a m with
      | true => κ ⟨.tup [.c (.slice ⟨1, a.toNat, 1, 0, 0, 0, 0⟩ 1 m.toNat (addExt (addExt x none) (some (n - a.toNat - m.toNat))) true), .c (.bool true)], [none, none]⟩
      | false => κ ⟨.tup [.c .nils, .c (.bool false)], [none, none]⟩
    | false => none
  | _, _ => none
def gThere : Fun := fun args sub κ => match args, sub with
  | [.e (.c (.ptr ⟨0, 0, 0, 0, 0, 0, 0⟩)), .e (.c (.int .i64 a)), .e (.c (.int .i64 m))], [some ⟨false, .mix [.slice ⟨1, 0, 1, 0, 0, 0, 0⟩ 1 n x true]⟩, some ⟨false, .rows [.ints .u64 ws]⟩] => match okM n ws && inI a && inI m with
    | true => κ ⟨.e (.c (.bool (inM n a m))), [none, none]⟩
    | false => none
  | _, _ => none
noncomputable def sPc : Summ := sAdd sNil 23 gPart
theorem t_part (a m : Int) (n x : Nat) (ws : List Int) (k : Res → Option Res) : runG Try.prog sNil 100 23 [mP, aint .i64 a, aint .i64 m] (mB n x ws) k = (cond (decide (a < 0)) (k (Res.mk (AV.tup [(AE.c (AC.nils)), (AE.c (AC.bool false))]) [(none), (none)])) (cond (decide (m < 0)) (k (Res.mk (AV.tup [(AE.c (AC.nils)), (AE.c (AC.bool false))]) [(none), (none)])) (cond (decide (a > (↑n : Int))) (k (Res.mk (AV.tup [(AE.c (AC.nils)), (AE.c (AC.bool false))]) [(none), (none)])) (cond (decide (m > IntKind.wrap IntKind.i64 ((↑n : Int) - a))) (k (Res.mk (AV.tup [(AE.c (AC.nils)), (AE.c (AC.bool false))]) [(none), (none)])) (cond (decide (0 ≤ a) && decide (a ≤ (↑n : Int))) (cond (decide (0 ≤ m) && decide (m ≤ (↑(n - Int.toNat a) : Int))) (k (Res.mk (AV.tup [(AE.c (AC.slice (Loc.mk 1 (0 + Int.toNat a) 1 0 0 0 0) 1 (Int.toNat m) (addExt (addExt x none) (some (n - Int.toNat a - Int.toNat m))) true)), (AE.c (AC.bool true))]) [(none), (none)])) none) none))))) := by kernel_rfl
theorem t_there (a m : Int) (n x : Nat) (ws : List Int) (k : Res → Option Res) : runG Try.prog sNil 100 24 [mP, aint .i64 a, aint .i64 m] (mB n x ws) k = (cond (decide (a ≥ 0)) (cond (decide (m ≥ 0)) (cond (decide (a ≤ (↑n : Int))) (k (Res.mk (AV.e (AE.c (AC.bool (decide (m ≤ IntKind.wrap IntKind.i64 ((↑n : Int) - a)))))) [(none), (none)])) (k (Res.mk (AV.e (AE.c (AC.bool false))) [(none), (none)]))) (k (Res.mk (AV.e (AE.c (AC.bool false))) [(none), (none)]))) (k (Res.mk (AV.e (AE.c (AC.bool false))) [(none), (none)]))) := by kernel_rfl
theorem t_copyC (a b m : Int) (n x : Nat) (ws : List Int) (k : Res → Option Res) : runG Try.prog sPc 100 13 [mP, aint .i64 a, aint .i64 b, aint .i64 m] (mB n x ws) k = (cond (Go.Proofs.Ytggkddpimcikaaa.Wlk.okM n ws && inI a && inI m) (cond (Go.Proofs.Ytggkddpimcikaaa.Wlk.inM n a m) (cond (Go.Proofs.Ytggkddpimcikaaa.Wlk.okM n ws && inI b && inI m) (cond (Go.Proofs.Ytggkddpimcikaaa.Wlk.inM n b m) (cond (decide (Int.toNat b + minN (Int.toNat m) (Int.toNat m) ≤ List.length ws) && true && (decide (Int.toNat a + List.length (List.take (minN (Int.toNat m) (Int.toNat m)) (List.drop (Int.toNat b) ws)) ≤ List.length ws) && true)) (k (Res.mk (AV.e (AE.c (AC.int (IntKind.i64) (0)))) [(none), (some (some (Block.mk false (Data.rows [(Col.ints (IntKind.u64) (List.take (Int.toNat a) ws ++ List.take (minN (Int.toNat m) (Int.toNat m)) (List.drop (Int.toNat b) ws) ++ List.drop (Int.toNat a + List.length (List.take (minN (Int.toNat m) (Int.toNat m)) (List.drop (Int.toNat b) ws))) ws))]))))])) none) (k (Res.mk (AV.e (AE.c (AC.int (IntKind.i64) (1)))) [(none), (none)]))) none) (cond (Go.Proofs.Ytggkddpimcikaaa.Wlk.okM n ws && inI b && inI m) (cond (Go.Proofs.Ytggkddpimcikaaa.Wlk.inM n b m) (k (Res.mk (AV.e (AE.c (AC.int (IntKind.i64) (1)))) [(none), (none)])) (k (Res.mk (AV.e (AE.c (AC.int (IntKind.i64) (1)))) [(none), (none)]))) none)) none) := by kernel_rfl
theorem gPart_sound : FunSound Try.prog 23 gPart := by
  refine (runG_sound sNil_ok mix 100 23).short fun args sub κ r h => ?_
  unfold gPart at h
  split at h
  · rename_i a m n x ws
    split at h
    · rename_i hc
      simp only [Bool.and_eq_true] at hc
      obtain ⟨rfl, hn⟩ := okM_spec hc.1.1
      have ha := iwf hc.1.2
      have hm := iwf hc.2
      refine (t_part a m ws.length x ws _).trans ?_
      by_cases h1 : a < 0
      · have : inM ws.length a m = false := by simp [inM]; omega
        rw [decide_eq_true h1]; simpa [this] using h
      rw [decide_eq_false h1]
      by_cases h0 : m < 0
      · have : inM ws.length a m = false := by simp [inM]; omega
        rw [decide_eq_true h0]; simpa [this] using h
      rw [decide_eq_false h0]
      by_cases h2 : a > ws.length
      · have : inM ws.length a m = false := by simp [inM]; omega
        rw [decide_eq_true h2]; simpa [this] using h
      rw [decide_eq_false h2, wrap_i64 (n := (ws.length : Int) - a) (by omega) (by omega)]
      by_cases h3 : m > (ws.length : Int) - a
      · have : inM ws.length a m = false := by simp [inM]; omega
        rw [decide_eq_true h3]; simpa [this] using h
      · have : inM ws.length a m = true := by simp [inM]; omega
        rw [decide_eq_false h3, decide_eq_true (show 0 ≤ a by omega), decide_eq_true (show a ≤ ws.length by omega), decide_eq_true (show 0 ≤ m by omega), decide_eq_true (show m ≤ ((ws.length - a.toNat : Nat) : Int) by omega)]
        simp only [this] at h
        simpa using h
    · cases h
  · cases h
theorem gThere_sound : FunSound Try.prog 24 gThere := by
  refine (runG_sound sNil_ok mix 100 24).short fun args sub κ r h => ?_
  unfold gThere at h
  split at h
  · rename_i a m n x ws
    split at h
    · rename_i hc
      simp only [Bool.and_eq_true] at hc
      obtain ⟨rfl, hn⟩ := okM_spec hc.1.1
      have ha := iwf hc.1.2
      have hm := iwf hc.2
      refine (t_there a m ws.length x ws _).trans ?_
      by_cases h1 : a ≥ 0
      rotate_left
      · have : inM ws.length a m = false := by simp [inM]; omega
        rw [decide_eq_false h1]; simpa [this] using h
      rw [decide_eq_true h1]
      by_cases h0 : m ≥ 0
      rotate_left
      · have : inM ws.length a m = false := by simp [inM]; omega
        rw [decide_eq_false h0]; simpa [this] using h
      rw [decide_eq_true h0]
      by_cases h2 : a ≤ ws.length
      rotate_left
      · have : inM ws.length a m = false := by simp [inM]; omega
        rw [decide_eq_false h2]; simpa [this] using h
      rw [decide_eq_true h2, wrap_i64 (n := (ws.length : Int) - a) (by omega) (by omega)]
      have : inM ws.length a m = decide (m ≤ (ws.length : Int) - a) := by
        simp only [inM]; rw [decide_eq_true (show 0 ≤ a from h1), decide_eq_true (show 0 ≤ m from h0)]; simp only [Bool.true_and]; exact decide_eq_decide.2 (by omega)
      simpa [this] using h
    · cases h
  · cases h
theorem sPc_ok : SummOk Try.prog sPc := sAdd_ok sNil_ok gPart_sound (enters Try.func23 rfl (by kernel_rfl))
theorem gCopy_sound : FunSound Try.prog 13 gCopy := by
  refine (runG_sound sPc_ok mix 100 13).fill.short fun args sub κ r h => ?_
  unfold gCopy at h
  split at h
  · rename_i a b m n x ws
    split at h
    · rename_i hc
      have hc' := hc
      simp only [Bool.and_eq_true] at hc
      obtain ⟨rfl, hn⟩ := okM_spec hc.1.1.1
      refine (t_copyC a b m ws.length x ws _).trans ?_
      simp only [hc.1.1.1, hc.1.1.2, hc.1.2, hc.2, Bool.and_self, cond_true]
      simp only [copyW] at h
      cases h1 : inM ws.length a m
      · cases h2 : inM ws.length b m <;> simpa [h1, h2, pE, fillB] using h
      · cases h2 : inM ws.length b m
        · simpa [h1, h2, pE, fillB] using h
        · have k1 := h1
          have k2 := h2
          simp only [inM, Bool.and_eq_true, decide_eq_true_eq] at k1 k2
          simp only [h1, h2, pE, Bool.and_self, if_true] at h
          simp only [minN_eq, show Nat.min m.toNat m.toNat = m.toNat from Nat.min_self _, cond_true]
          have e1 : (List.take m.toNat (List.drop b.toNat ws)).length = m.toNat := by simp only [List.length_take, List.length_drop]; omega
          rw [e1, decide_eq_true (show b.toNat + m.toNat ≤ ws.length by omega), decide_eq_true (show a.toNat + m.toNat ≤ ws.length by omega)]
          simpa [fillB] using h
    · cases h
  · cases h
end Go.Proofs.Ytggkddpimcikaaa.Wlk
