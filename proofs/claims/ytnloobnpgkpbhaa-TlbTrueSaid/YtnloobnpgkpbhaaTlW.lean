/- What is kept: what works. -/
import Derived.Test.YtnloobnpgkpbhaaTlM
set_option linter.unusedVariables false
set_option linter.unusedSimpArgs false
set_option maxRecDepth 100000
namespace Go.Proofs.Ytnloobnpgkpbhaa.Wlk
open Go Go.Eng Go.Proofs Go.RowKit
noncomputable def sTq : Summ := sAdd (sAdd (sAdd (sAdd (sAdd sNil 11 (gGetT ktV ktW ktA ktI)) 10 (gFillT filE fillL fillX fillN)) 32 (gRight rgt)) 41 gPage) 40 gSplit
theorem sTq_ok : SummOk Try.prog sTq := sAdd_ok (sAdd_ok (sAdd_ok (sAdd_ok (sAdd_ok sNil_ok gGetT_sound (enters Try.func11 rfl (by kernel_rfl))) gFillT_sound (enters Try.func10 rfl (by kernel_rfl))) gRight_sound (enters Try.func32 rfl (by kernel_rfl))) gPage_sound (enters Try.func41 rfl (by kernel_rfl))) gSplit_sound (enters Try.func40 rfl (by kernel_rfl))
noncomputable def sWk : Summ := sAdd (sAdd (sAdd (sAdd (sAdd (sAdd (sAdd (sAdd (sAdd sNil 9 gNewT) 31 gNew) 10 (gFillT filE fillL fillX fillN)) 11 (gGetT ktV ktW ktA ktI)) 12 gLenT) 13 (gFlushT flushL)) 22 gPut) 15 (runG Try.prog sTq 100 15)) 26 (runG Try.prog sTq 100 26)
theorem sWk_ok : SummOk Try.prog sWk :=
  sAdd_ok (sAdd_ok (sAdd_ok (sAdd_ok (sAdd_ok (sAdd_ok (sAdd_ok (sAdd_ok (sAdd_ok sNil_ok gNewT_sound (enters Try.func9 rfl (by kernel_rfl))) gNew_sound (enters Try.func31 rfl (by kernel_rfl))) gFillT_sound (enters Try.func10 rfl (by kernel_rfl))) gGetT_sound (enters Try.func11 rfl (by kernel_rfl))) gLenT_sound (enters Try.func12 rfl (by kernel_rfl))) gFlushT_sound (enters Try.func13 rfl (by kernel_rfl))) gPut_sound (enters Try.func22 rfl (by kernel_rfl))) (runG_sound sTq_ok mix 100 15) (enters Try.func15 rfl (by kernel_rfl))) (runG_sound sTq_ok mix 100 26) (enters Try.func26 rfl (by kernel_rfl))
theorem t_works (K : Res → Option Res) : runG Try.prog sWk 300 8 [] [] K = (K (Res.mk (AV.e (AE.c (AC.bool true))) [])) := by kernel_rfl
end Go.Proofs.Ytnloobnpgkpbhaa.Wlk
