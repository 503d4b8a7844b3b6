/- The youngest: the law. -/
import Derived.Test.YtnloobnpgkpbhaaTlYb
set_option linter.unusedVariables false
set_option linter.unusedSimpArgs false
set_option maxRecDepth 100000
namespace Go.Proofs.Ytnloobnpgkpbhaa.Wlk
open Go Go.Eng Go.Proofs Go.RowKit
def gWk : Fun := fun args sub κ => match args, sub with
  | [], [] => κ ⟨.e (.c (.bool true)), []⟩
  | _, _ => none
theorem gWk_sound : FunSound Try.prog 8 gWk := by
  refine (runG_sound sWk_ok mix 300 8).short fun args sub κ r h => ?_
  unfold gWk at h
  split at h
  · exact (t_works κ).trans h
  · cases h
noncomputable def sWl : Summ := sAdd (sAdd sNil 8 gWk) 9 gNewT
theorem sWl_ok : SummOk Try.prog sWl := sAdd_ok (sAdd_ok sNil_ok gWk_sound (enters Try.func8 rfl (by kernel_rfl))) gNewT_sound (enters Try.func9 rfl (by kernel_rfl))
noncomputable def lYo : Nat → Option Orc := lAdd lNil 0 (wrapO iY0 0 cY0)
theorem lYo_for : LFor 2 Try.prog 3 lYo := lAdd_for (I := iY0) lNil_for (by kernel_rfl) cY0_sound
theorem ok2 {w : World} {s t : SlArg} (h : SlOk w s) (g : SlOk w t) : ∀ (i : Nat) (s' : SlArg), [s, t][i]? = some s' → SlOk w s' := by
  intro i s' hs
  match i, hs with
  | 0, hs => simp at hs; subst hs; exact h
  | 1, hs => simp at hs; subst hs; exact g
  | i + 2, hs => simp at hs
theorem t_young (u1 u2 : Nat) (l1 l2 : List Int) (k : Res → Option Res) : runLG Try.prog sWl lYo 2 150 3 [vS0 u1, vS1 u2] [some ⟨true, .rows [.ints .i64 l1]⟩, some ⟨true, .rows [.ints .i64 l2]⟩] k = (cond (true && decide (u1 = List.length l1) && decide (u2 = List.length l2)) (k (Res.mk (AV.e (AE.c (AC.bool true))) [(none), (none)])) none) := by kernel_rfl
theorem young_walk (x : Option Addr) (len cap : Nat) (zs : List Int) (y : Option Addr) (len1 cap1 : Nat) (zs1 : List Int) (W : World)
    (hr : IsRow .i64 W x len cap zs) (hr1 : IsRow .i64 W y len1 cap1 zs1) :
    Calls Try.prog 3 #[.slice x len cap, .slice y len1 cap1] W fun e w' => e = .returned (.bool true) ∧ Below W.heap.size W w' := by
  obtain ⟨ok, hl, hb⟩ := hr.ok
  obtain ⟨ok1, hl1, hb1⟩ := hr1.ok
  refine of_rows (sl := [intArg .i64 x len cap zs, intArg .i64 y len1 cap1 zs1]) (args := [vS0 len, vS1 len1])
    (blks := [none, none]) (runL_sound sWl_ok mix 150 3 y_dis lYo_for).gc (ok2 ok ok1) ?_ ((t_young len len1 (zs.take len) (zs1.take len1) some).trans ?_)
  · exact LR.cons (args_slice (i := 0) rfl ok rfl) (LR.cons (args_slice (i := 1) rfl ok1 rfl) LR.nil)
  · rw [decide_eq_true hl.symm, decide_eq_true hl1.symm]
    repeat rw [Bool.and_self]
    rw [cT]
end Go.Proofs.Ytnloobnpgkpbhaa.Wlk
