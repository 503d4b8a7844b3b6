/- What comes of an instruction, walked. -/
import Derived.Test.YtiodjfgdglakkaaCode
set_option linter.unusedVariables false
set_option linter.unusedSimpArgs false
set_option maxRecDepth 100000
namespace Go.Proofs.Ytiodjfgdglakkaa.Wlk
open Go Go.Eng Go.Proofs Go.RowKit

noncomputable def sS : Summ := sAdd sPU 25 (runG Try.prog sNil 100 25)
theorem sS_ok : SummOk Try.prog sS := sAdd_ok sPU_ok (runG_sound sNil_ok mix _ _) (enters Try.func25 rfl (by kernel_rfl))
noncomputable def sW : Summ := sAdd sS 16 (runG Try.prog sS 100 16)
theorem sW_ok : SummOk Try.prog sW := sAdd_ok sS_ok (runG_sound sS_ok mix _ _) (enters Try.func16 rfl (by kernel_rfl))

theorem t_works (k : Res → Option Res) : runG Try.prog sW 100 19 [] [] k = (k (Res.mk (AV.e (AE.c (AC.bool true))) [])) := by kernel_rfl
def gWorks : Fun := fun args sub κ => match args, sub with
  | [], [] => κ ⟨.e (.c (.bool true)), []⟩
  | _, _ => none
theorem gWorks_sound : FunSound Try.prog 19 gWorks := by
  refine (runG_sound sW_ok mix 100 19).short fun args sub κ r h => ?_
  unfold gWorks at h
  split at h
  · exact (t_works κ).trans h
  · cases h
noncomputable def sL : Summ := sAdd sPU 19 gWorks
theorem sL_ok : SummOk Try.prog sL := sAdd_ok sPU_ok gWorks_sound (enters Try.func19 rfl (by kernel_rfl))
end Go.Proofs.Ytiodjfgdglakkaa.Wlk
