/- A machine's memory: copies; the table. -/
import Derived.Test.YtnloobnpgkpbhaaMemA
set_option linter.unusedVariables false
set_option linter.unusedSimpArgs false
set_option maxRecDepth 100000
namespace Go.Proofs.Ytnloobnpgkpbhaa.Wlk
open Go Go.Eng Go.Proofs Go.RowKit
def gPart : Fun := fun args sub κ => match args, sub with
  | [.e (.c (.ptr ⟨0, 0, 0, 0, 0, 0, 0⟩)), .e (.c (.int .i64 a)), .e (.c (.int .i64 m))], [some ⟨false, .mix [.slice ⟨1, 0, 1, 0, 0, 0, 0⟩ 1 n x true]⟩, some ⟨false, .rows [.ints .u64 ws]⟩] => match okM n ws && inI a && inI m with
    | true => match inM n a m with
      | true => κ ⟨.tup [.c (.slice ⟨1, a.toNat, 1, 0, 0, 0, 0⟩ 1 m.toNat (addExt (addExt x none) (some (n - a.toNat - m.toNat))) true), .c (.bool true)], [none, none]⟩
      | false => κ ⟨.tup [.c .nils, .c (.bool false)], [none, none]⟩
    | false => none
  | _, _ => none
def gThere : Fun := fun args sub κ => match args, sub with
  | [.e (.c (.ptr ⟨0, 0, 0, 0, 0, 0, 0⟩)), .e (.c (.int .i64 a)), .e (.c (.int .i64 m))], [some ⟨false, .mix [.slice ⟨1, 0, 1, 0, 0, 0, 0⟩ 1 n x true]⟩, some ⟨false, .rows [.ints .u64 ws]⟩] => match okM n ws && inI a && inI m with
    | true => κ ⟨.e (.c (.bool (inM n a m))), [none, none]⟩
    | false => none
  | _, _ => none
noncomputable def sPc : Summ := sAdd sNil 47 gPart
theorem t_part (a m : Int) (n x : Nat) (ws : List Int) (k : Res → Option Res) : runG Try.prog sNil 100 47 [mP, aint .i64 a, aint .i64 m] (mB n x ws) k = (cond (decide (a < 0)) (k (Res.mk (AV.tup [(AE.c (AC.nils)), (AE.c (AC.bool false))]) [(none), (none)])) (cond (decide (m < 0)) (k (Res.mk (AV.tup [(AE.c (AC.nils)), (AE.c (AC.bool false))]) [(none), (none)])) (cond (decide (a > (↑n : Int))) (k (Res.mk (AV.tup [(AE.c (AC.nils)), (AE.c (AC.bool false))]) [(none), (none)])) (cond (decide (m > IntKind.wrap IntKind.i64 ((↑n : Int) - a))) (k (Res.mk (AV.tup [(AE.c (AC.nils)), (AE.c (AC.bool false))]) [(none), (none)])) (cond (decide (0 ≤ a) && decide (a ≤ (↑n : Int))) (cond (decide (0 ≤ m) && decide (m ≤ (↑(n - Int.toNat a) : Int))) (k (Res.mk (AV.tup [(AE.c (AC.slice (Loc.mk 1 (0 + Int.toNat a) 1 0 0 0 0) 1 (Int.toNat m) (addExt (addExt x none) (some (n - Int.toNat a - Int.toNat m))) true)), (AE.c (AC.bool true))]) [(none), (none)])) none) none))))) := by kernel_rfl
theorem t_there (a m : Int) (n x : Nat) (ws : List Int) (k : Res → Option Res) : runG Try.prog sNil 100 54 [mP, aint .i64 a, aint .i64 m] (mB n x ws) k = (cond (decide (a ≥ 0)) (cond (decide (m ≥ 0)) (cond (decide (a ≤ (↑n : Int))) (k (Res.mk (AV.e (AE.c (AC.bool (decide (m ≤ IntKind.wrap IntKind.i64 ((↑n : Int) - a)))))) [(none), (none)])) (k (Res.mk (AV.e (AE.c (AC.bool false))) [(none), (none)]))) (k (Res.mk (AV.e (AE.c (AC.bool false))) [(none), (none)]))) (k (Res.mk (AV.e (AE.c (AC.bool false))) [(none), (none)]))) := by kernel_rfl
theorem gPart_sound : FunSound Try.prog 47 gPart := by
  refine (runG_sound sNil_ok mix 100 47).short fun args sub κ r h => ?_
  unfold gPart at h
  split at h
  · rename_i a m n x ws
    split at h
    · rename_i hc
      simp only [Bool.and_eq_true] at hc
      obtain ⟨rfl, hn⟩ := okM_spec hc.1.1
      have ha := iwf hc.1.2
      have hm := iwf hc.2
      refine (t_part a m ws.length x ws _).trans ?_
      by_cases h1 : a < 0
      · have : inM ws.length a m = false := by simp [inM]; omega
        rw [decide_eq_true h1]; simpa [this] using h
      rw [decide_eq_false h1]
      by_cases h0 : m < 0
      · have : inM ws.length a m = false := by simp [inM]; omega
        rw [decide_eq_true h0]; simpa [this] using h
      rw [decide_eq_false h0]
      by_cases h2 : a > ws.length
      · have : inM ws.length a m = false := by simp [inM]; omega
        rw [decide_eq_true h2]; simpa [this] using h
      rw [decide_eq_false h2, wrap_i64 (n := (ws.length : Int) - a) (by omega) (by omega)]
      by_cases h3 : m > (ws.length : Int) - a
      · have : inM ws.length a m = false := by simp [inM]; omega
        rw [decide_eq_true h3]; simpa [this] using h
      · have : inM ws.length a m = true := by simp [inM]; omega
        rw [decide_eq_false h3, decide_eq_true (show 0 ≤ a by omega), decide_eq_true (show a ≤ ws.length by omega), decide_eq_true (show 0 ≤ m by omega), decide_eq_true (show m ≤ ((ws.length - a.toNat : Nat) : Int) by omega)]
        simp only [this] at h
        simpa using h
    · cases h
  · cases h
theorem gThere_sound : FunSound Try.prog 54 gThere := by
  refine (runG_sound sNil_ok mix 100 54).short fun args sub κ r h => ?_
  unfold gThere at h
  split at h
  · rename_i a m n x ws
    split at h
    · rename_i hc
      simp only [Bool.and_eq_true] at hc
      obtain ⟨rfl, hn⟩ := okM_spec hc.1.1
      have ha := iwf hc.1.2
      have hm := iwf hc.2
      refine (t_there a m ws.length x ws _).trans ?_
      by_cases h1 : a ≥ 0
      rotate_left
      · have : inM ws.length a m = false := by simp [inM]; omega
        rw [decide_eq_false h1]; simpa [this] using h
      rw [decide_eq_true h1]
      by_cases h0 : m ≥ 0
      rotate_left
      · have : inM ws.length a m = false := by simp [inM]; omega
        rw [decide_eq_false h0]; simpa [this] using h
      rw [decide_eq_true h0]
      by_cases h2 : a ≤ ws.length
      rotate_left
      · have : inM ws.length a m = false := by simp [inM]; omega
        rw [decide_eq_false h2]; simpa [this] using h
      rw [decide_eq_true h2, wrap_i64 (n := (ws.length : Int) - a) (by omega) (by omega)]
      have : inM ws.length a m = decide (m ≤ (ws.length : Int) - a) := by
        simp only [inM]; rw [decide_eq_true (show 0 ≤ a from h1), decide_eq_true (show 0 ≤ m from h0)]; simp only [Bool.true_and]; exact decide_eq_decide.2 (by omega)
      simpa [this] using h
    · cases h
  · cases h
theorem sPc_ok : SummOk Try.prog sPc := sAdd_ok sNil_ok gPart_sound (enters Try.func47 rfl (by kernel_rfl))
end Go.Proofs.Ytnloobnpgkpbhaa.Wlk
