/- Lines of interrupts: works; the heads of IrqKeeps. -/
import Derived.Test.YtanchmbopllimaaIqJ
set_option linter.unusedVariables false
set_option linter.unusedSimpArgs false
set_option maxRecDepth 100000
namespace Go.Proofs.Ytanchmbopllimaa.Wlk
open Go Go.Eng Go.Proofs Go.RowKit
def gWorks : Fun := fun args sub κ => match args, sub with
  | [], [] => κ ⟨.e (.c (.bool true)), []⟩
  | _, _ => none
theorem t_worksG (k : Res → Option Res) : runG Try.prog sQ2 60 7 [] [] k = (k (Res.mk (AV.e (AE.c (AC.bool true))) [])) := by kernel_rfl
theorem gWorks_sound : FunSound Try.prog 7 gWorks := by
  refine (runF_sound sQ2_ok mix 60 7).gc.short fun args sub κ r h => ?_
  unfold gWorks at h
  split at h
  · exact (t_worksG κ).trans h
  · cases h
noncomputable def sW : Summ := sAdd sQ2 7 gWorks
theorem sW_ok : SummOk Try.prog sW := sAdd_ok sQ2_ok gWorks_sound (enters Try.func7 rfl (by kernel_rfl))
noncomputable def iKp : LI := ⟨1, nT 3, [0, 3, 4, 5, 6, 7, 8], [], [2]⟩
noncomputable def iK3 : LI := ⟨1, nT 3, [0, 3, 4, 5, 6, 7, 8, 9, 13], [0, 3, 4, 5, 6, 7, 8], [2]⟩
end Go.Proofs.Ytanchmbopllimaa.Wlk
