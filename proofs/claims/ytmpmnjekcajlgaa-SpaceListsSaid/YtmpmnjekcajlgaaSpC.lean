/- Laws of spaces: the table; what works. -/
import Derived.Test.YtmpmnjekcajlgaaSpB
set_option linter.unusedVariables false
set_option linter.unusedSimpArgs false
set_option maxRecDepth 100000
namespace Go.Proofs.Ytmpmnjekcajlgaa.Wlk
open Go Go.Eng Go.Proofs Go.RowKit
noncomputable def sOp : Summ := sAdd (sAdd (sAdd (sAdd (sAdd (sAdd (sAdd (sAdd (sAdd (sAdd (sAdd sNil 9 gNew) 24 gGet) 39 gPut) 10 (gTableV opTE opTW)) 16 (gUntableV opUE opUW)) 11 (gMapV opME opMW)) 14 (gUnmapV opNE opNW)) 18 (gRemapV opRE opRW)) 17 (gToV toA toE)) 30 (gPageV pgV pgW pgA pgE)) 29 gSth
theorem sOp_ok : SummOk Try.prog sOp :=
  sAdd_ok (sAdd_ok (sAdd_ok (sAdd_ok (sAdd_ok (sAdd_ok (sAdd_ok (sAdd_ok (sAdd_ok (sAdd_ok (sAdd_ok sNil_ok gNew_sound (enters Try.func9 rfl (by kernel_rfl))) gGet_sound (enters Try.func24 rfl (by kernel_rfl))) gPut_sound (enters Try.func39 rfl (by kernel_rfl))) gTable_sound (enters Try.func10 rfl (by kernel_rfl))) gUntable_sound (enters Try.func16 rfl (by kernel_rfl))) gMap_sound (enters Try.func11 rfl (by kernel_rfl))) gUnmap_sound (enters Try.func14 rfl (by kernel_rfl))) gRemap_sound (enters Try.func18 rfl (by kernel_rfl))) gTo_sound (enters Try.func17 rfl (by kernel_rfl))) gPage_sound (enters Try.func30 rfl (by kernel_rfl))) gSth_sound (enters Try.func29 rfl (by kernel_rfl))
noncomputable def sOpL : Summ := sAdd (sAdd sOp 12 (runG Try.prog sOp 1500 12)) 23 (runG Try.prog sNil 100 23)
theorem sOpL_ok : SummOk Try.prog sOpL := sAdd_ok (sAdd_ok sOp_ok (runG_sound sOp_ok mix _ _) (enters Try.func12 rfl (by kernel_rfl))) (runG_sound sNil_ok mix _ _) (enters Try.func23 rfl (by kernel_rfl))
def gWorks : Fun := fun args sub κ => match args, sub with
  | [], [] => κ ⟨.e (.c (.bool true)), []⟩
  | _, _ => none
theorem t_works (k : Res → Option Res) : runG Try.prog sOpL 200 8 [] [] k = k ⟨.e (.c (.bool true)), []⟩ := by kernel_rfl
theorem gWorks_sound : FunSound Try.prog 8 gWorks := by
  refine (runG_sound sOpL_ok mix 200 8).short fun args sub κ r h => ?_
  unfold gWorks at h
  split at h
  · exact (t_works κ).trans h
  · cases h
end Go.Proofs.Ytmpmnjekcajlgaa.Wlk
