/- Capabilities: what works. -/
import Derived.Test.YtfcjlephhnddaaaEngN
import Derived.Test.YtfcjlephhnddaaaProg
set_option linter.unusedVariables false
set_option linter.unusedSimpArgs false
set_option maxRecDepth 100000
namespace Go.Proofs.Ytfcjlephhnddaaa.Wlk
open Go Go.Eng Go.Proofs
theorem mix : Try.prog.follows .mixedOrders = true := by kernel_rfl
noncomputable def sC1 : Summ := sAdd (sAdd sNil 38 (runG Try.prog sNil 100 38)) 39 (runG Try.prog sNil 100 39)
theorem sC1_ok : SummOk Try.prog sC1 := sAdd_ok (sAdd_ok sNil_ok (runG_sound sNil_ok mix _ _) (enters Try.func38 rfl (by kernel_rfl))) (runG_sound sNil_ok mix _ _) (enters Try.func39 rfl (by kernel_rfl))
noncomputable def sC2 : Summ := sAdd (sAdd sNil 21 (runG Try.prog sNil 100 21)) 23 (runG Try.prog sNil 100 23)
theorem sC2_ok : SummOk Try.prog sC2 := sAdd_ok (sAdd_ok sNil_ok (runG_sound sNil_ok mix _ _) (enters Try.func21 rfl (by kernel_rfl))) (runG_sound sNil_ok mix _ _) (enters Try.func23 rfl (by kernel_rfl))
noncomputable def sC3 : Summ := sAdd (sAdd (sAdd sC2 36 (runG Try.prog sNil 100 36)) 22 (runG Try.prog sC2 100 22)) 29 (runG Try.prog sC2 100 29)
theorem sC3_ok : SummOk Try.prog sC3 := sAdd_ok (sAdd_ok (sAdd_ok sC2_ok (runG_sound sNil_ok mix _ _) (enters Try.func36 rfl (by kernel_rfl))) (runG_sound sC2_ok mix _ _) (enters Try.func22 rfl (by kernel_rfl))) (runG_sound sC2_ok mix _ _) (enters Try.func29 rfl (by kernel_rfl))
noncomputable def sC4 : Summ := sAdd sC3 18 (runG Try.prog sC3 100 18)
theorem sC4_ok : SummOk Try.prog sC4 := sAdd_ok sC3_ok (runG_sound sC3_ok mix _ _) (enters Try.func18 rfl (by kernel_rfl))
noncomputable def sC5 : Summ := sAdd (sAdd (sAdd (sAdd sC4 31 (runG Try.prog sNil 100 31)) 33 (runG Try.prog sNil 100 33)) 32 (runG Try.prog sC1 100 32)) 34 (runG Try.prog sC1 100 34)
theorem sC5_ok : SummOk Try.prog sC5 := sAdd_ok (sAdd_ok (sAdd_ok (sAdd_ok sC4_ok (runG_sound sNil_ok mix _ _) (enters Try.func31 rfl (by kernel_rfl))) (runG_sound sNil_ok mix _ _) (enters Try.func33 rfl (by kernel_rfl))) (runG_sound sC1_ok mix _ _) (enters Try.func32 rfl (by kernel_rfl))) (runG_sound sC1_ok mix _ _) (enters Try.func34 rfl (by kernel_rfl))
noncomputable def sC6 : Summ := sAdd sC5 14 (runG Try.prog sC5 200 14)
theorem sC6_ok : SummOk Try.prog sC6 := sAdd_ok sC5_ok (runG_sound sC5_ok mix _ _) (enters Try.func14 rfl (by kernel_rfl))
noncomputable def sC7 : Summ := sAdd (sAdd (sAdd sC6 16 (runG Try.prog sC6 200 16)) 10 (runG Try.prog sC6 200 10)) 12 (runG Try.prog sC6 200 12)
theorem sC7_ok : SummOk Try.prog sC7 := sAdd_ok (sAdd_ok (sAdd_ok sC6_ok (runG_sound sC6_ok mix _ _) (enters Try.func16 rfl (by kernel_rfl))) (runG_sound sC6_ok mix _ _) (enters Try.func10 rfl (by kernel_rfl))) (runG_sound sC6_ok mix _ _) (enters Try.func12 rfl (by kernel_rfl))
theorem t_works (K : Res → Option Res) : runG Try.prog sC7 300 20 [] [] K = (K (Res.mk (AV.e (AE.c (AC.bool true))) [])) := by kernel_rfl
end Go.Proofs.Ytfcjlephhnddaaa.Wlk
