/- The law that what is mapped is where a walk leads, walked. -/
import Derived.Test.YtmpmnjekcajlgaaSpC
set_option linter.unusedVariables false
set_option linter.unusedSimpArgs false
set_option maxRecDepth 100000
namespace Go.Proofs.Ytmpmnjekcajlgaa.Wlk
open Go Go.Eng Go.Proofs Go.RowKit
def gNewV (Z : Int → List Int) : Fun := fun args sub κ => match args, sub with
  | [.e (.c (.int .i64 n))], [] => match newOk n with
    | true => κ ⟨.tup [.c (.ptr ⟨0, 0, 0, 0, 0, 0, 0⟩), .c (.int .i64 0)], [some (some ⟨false, .mix [.slice ⟨1, 0, 1, 0, 0, 0, 0⟩ 1 n.toNat 0 true]⟩), some (some ⟨false, .rows [.ints .u64 (Z n)]⟩)]⟩
    | false => none
  | _, _ => none
def newZ (n : Int) : List Int := List.replicate n.toNat 0
theorem gNewV_sound : FunSound Try.prog 9 (gNewV newZ) := by
  refine gNew_sound.short fun args sub κ r h => ?_
  unfold gNewV at h
  unfold gNew
  split at h
  · split at h
    · rename_i hc; simp only [hc]; exact h
    · cases h
  · cases h
abbrev EF3 := List Int → Int → Int → Int → Int
abbrev EF2 := List Int → Int → Int → Int
noncomputable def sLd (Z : Int → List Int) (TE : EF3) (TM : List Int → Int → Int → Int → List Int) (UE : EF2) (UM : List Int → Int → Int → List Int) (ME : EF3) (MM : List Int → Int → Int → Int → Bool → List Int) (NE : EF2) (NM : List Int → Int → Int → List Int) (RE : EF2) (RM : List Int → Int → Int → Bool → List Int) (T U : TF) : Summ :=
  sAdd (sAdd (sAdd (sAdd (sAdd (sAdd (sAdd (sAdd sNil 8 gWorks) 9 (gNewV Z)) 10 (gTableV TE TM)) 16 (gUntableV UE UM)) 11 (gMapV ME MM)) 14 (gUnmapV NE NM)) 18 (gRemapV RE RM)) 17 (gToV T U)
theorem sLd_ok : SummOk Try.prog (sLd newZ opTE opTW opUE opUW opME opMW opNE opNW opRE opRW toA toE) :=
  sAdd_ok (sAdd_ok (sAdd_ok (sAdd_ok (sAdd_ok (sAdd_ok (sAdd_ok (sAdd_ok sNil_ok gWorks_sound (enters Try.func8 rfl (by kernel_rfl))) gNewV_sound (enters Try.func9 rfl (by kernel_rfl))) gTable_sound (enters Try.func10 rfl (by kernel_rfl))) gUntable_sound (enters Try.func16 rfl (by kernel_rfl))) gMap_sound (enters Try.func11 rfl (by kernel_rfl))) gUnmap_sound (enters Try.func14 rfl (by kernel_rfl))) gRemap_sound (enters Try.func18 rfl (by kernel_rfl))) gTo_sound (enters Try.func17 rfl (by kernel_rfl))
set_option maxHeartbeats 4000000 in
theorem t_leads (Z : Int → List Int) (TE : EF3) (TM : List Int → Int → Int → Int → List Int) (UE : EF2) (UM : List Int → Int → Int → List Int) (ME : EF3) (MM : List Int → Int → Int → Int → Bool → List Int) (NE : EF2) (NM : List Int → Int → Int → List Int) (RE : EF2) (RM : List Int → Int → Int → Bool → List Int) (T U : TF) (a f : Int) (w t : Bool) (k : Res → Option Res) : runG Try.prog (sLd Z TE TM UE UM ME MM NE NM RE RM T U) 100 5 [aint .i64 a, aint .i64 f, .e (.c (.bool w)), .e (.c (.bool t))] [] k = (cond (Go.Proofs.Ytmpmnjekcajlgaa.Wlk.okM 512 (Z 512) && inI 0 && inI (IntKind.wrap IntKind.i64 (Int.tmod (IntKind.wrap IntKind.u64 a) 4096)) && inI 16 && Go.Proofs.Ytmpmnjekcajlgaa.Wlk.allW (Z 512)) (cond (TE (Z 512) 0 (IntKind.wrap IntKind.i64 (Int.tmod (IntKind.wrap IntKind.u64 a) 4096)) 16 != 0) (k (Res.mk (AV.e (AE.c (AC.bool false))) [])) (cond (Go.Proofs.Ytmpmnjekcajlgaa.Wlk.okM 512 (TM (Z 512) 0 (IntKind.wrap IntKind.i64 (Int.tmod (IntKind.wrap IntKind.u64 a) 4096)) 16) && inI 0 && inI (IntKind.wrap IntKind.i64 (Int.tmod (IntKind.wrap IntKind.u64 a) 4096)) && inI (IntKind.wrap IntKind.i64 (64 + IntKind.wrap IntKind.i64 (16 * IntKind.wrap IntKind.i64 (Int.tmod (IntKind.wrap IntKind.u64 f) 20)))) && Go.Proofs.Ytmpmnjekcajlgaa.Wlk.allW (TM (Z 512) 0 (IntKind.wrap IntKind.i64 (Int.tmod (IntKind.wrap IntKind.u64 a) 4096)) 16)) (cond (ME (TM (Z 512) 0 (IntKind.wrap IntKind.i64 (Int.tmod (IntKind.wrap IntKind.u64 a) 4096)) 16) 0 (IntKind.wrap IntKind.i64 (Int.tmod (IntKind.wrap IntKind.u64 a) 4096)) (IntKind.wrap IntKind.i64 (64 + IntKind.wrap IntKind.i64 (16 * IntKind.wrap IntKind.i64 (Int.tmod (IntKind.wrap IntKind.u64 f) 20)))) != 0) (k (Res.mk (AV.e (AE.c (AC.bool false))) [])) (cond (Go.Proofs.Ytmpmnjekcajlgaa.Wlk.okM 512 (MM (TM (Z 512) 0 (IntKind.wrap IntKind.i64 (Int.tmod (IntKind.wrap IntKind.u64 a) 4096)) 16) 0 (IntKind.wrap IntKind.i64 (Int.tmod (IntKind.wrap IntKind.u64 a) 4096)) (IntKind.wrap IntKind.i64 (64 + IntKind.wrap IntKind.i64 (16 * IntKind.wrap IntKind.i64 (Int.tmod (IntKind.wrap IntKind.u64 f) 20)))) w) && inI 0 && inI (IntKind.wrap IntKind.i64 (Int.tmod (IntKind.wrap IntKind.u64 a) 4096)) && Go.Proofs.Ytmpmnjekcajlgaa.Wlk.allW (MM (TM (Z 512) 0 (IntKind.wrap IntKind.i64 (Int.tmod (IntKind.wrap IntKind.u64 a) 4096)) 16) 0 (IntKind.wrap IntKind.i64 (Int.tmod (IntKind.wrap IntKind.u64 a) 4096)) (IntKind.wrap IntKind.i64 (64 + IntKind.wrap IntKind.i64 (16 * IntKind.wrap IntKind.i64 (Int.tmod (IntKind.wrap IntKind.u64 f) 20)))) w)) (cond (Go.Proofs.Ytmpmnjekcajlgaa.Wlk.okM 512 (MM (TM (Z 512) 0 (IntKind.wrap IntKind.i64 (Int.tmod (IntKind.wrap IntKind.u64 a) 4096)) 16) 0 (IntKind.wrap IntKind.i64 (Int.tmod (IntKind.wrap IntKind.u64 a) 4096)) (IntKind.wrap IntKind.i64 (64 + IntKind.wrap IntKind.i64 (16 * IntKind.wrap IntKind.i64 (Int.tmod (IntKind.wrap IntKind.u64 f) 20)))) w) && inI 0 && inI (IntKind.wrap IntKind.i64 (Int.tmod (IntKind.wrap IntKind.u64 a) 4096)) && Go.Proofs.Ytmpmnjekcajlgaa.Wlk.allW (MM (TM (Z 512) 0 (IntKind.wrap IntKind.i64 (Int.tmod (IntKind.wrap IntKind.u64 a) 4096)) 16) 0 (IntKind.wrap IntKind.i64 (Int.tmod (IntKind.wrap IntKind.u64 a) 4096)) (IntKind.wrap IntKind.i64 (64 + IntKind.wrap IntKind.i64 (16 * IntKind.wrap IntKind.i64 (Int.tmod (IntKind.wrap IntKind.u64 f) 20)))) w)) (cond (U (MM (TM (Z 512) 0 (IntKind.wrap IntKind.i64 (Int.tmod (IntKind.wrap IntKind.u64 a) 4096)) 16) 0 (IntKind.wrap IntKind.i64 (Int.tmod (IntKind.wrap IntKind.u64 a) 4096)) (IntKind.wrap IntKind.i64 (64 + IntKind.wrap IntKind.i64 (16 * IntKind.wrap IntKind.i64 (Int.tmod (IntKind.wrap IntKind.u64 f) 20)))) w) 0 (IntKind.wrap IntKind.i64 (Int.tmod (IntKind.wrap IntKind.u64 a) 4096)) false != 0) (k (Res.mk (AV.e (AE.c (AC.bool false))) [])) (cond (T (MM (TM (Z 512) 0 (IntKind.wrap IntKind.i64 (Int.tmod (IntKind.wrap IntKind.u64 a) 4096)) 16) 0 (IntKind.wrap IntKind.i64 (Int.tmod (IntKind.wrap IntKind.u64 a) 4096)) (IntKind.wrap IntKind.i64 (64 + IntKind.wrap IntKind.i64 (16 * IntKind.wrap IntKind.i64 (Int.tmod (IntKind.wrap IntKind.u64 f) 20)))) w) 0 (IntKind.wrap IntKind.i64 (Int.tmod (IntKind.wrap IntKind.u64 a) 4096)) false != IntKind.wrap IntKind.i64 (IntKind.wrap IntKind.i64 (64 + IntKind.wrap IntKind.i64 (16 * IntKind.wrap IntKind.i64 (Int.tmod (IntKind.wrap IntKind.u64 f) 20))) + Int.tmod (IntKind.wrap IntKind.i64 (Int.tmod (IntKind.wrap IntKind.u64 a) 4096)) 16)) (k (Res.mk (AV.e (AE.c (AC.bool false))) [])) (cond (!(U (MM (TM (Z 512) 0 (IntKind.wrap IntKind.i64 (Int.tmod (IntKind.wrap IntKind.u64 a) 4096)) 16) 0 (IntKind.wrap IntKind.i64 (Int.tmod (IntKind.wrap IntKind.u64 a) 4096)) (IntKind.wrap IntKind.i64 (64 + IntKind.wrap IntKind.i64 (16 * IntKind.wrap IntKind.i64 (Int.tmod (IntKind.wrap IntKind.u64 f) 20)))) w) 0 (IntKind.wrap IntKind.i64 (Int.tmod (IntKind.wrap IntKind.u64 a) 4096)) true == 0) == w) (k (Res.mk (AV.e (AE.c (AC.bool false))) [])) (cond (Go.Proofs.Ytmpmnjekcajlgaa.Wlk.okM 512 (MM (TM (Z 512) 0 (IntKind.wrap IntKind.i64 (Int.tmod (IntKind.wrap IntKind.u64 a) 4096)) 16) 0 (IntKind.wrap IntKind.i64 (Int.tmod (IntKind.wrap IntKind.u64 a) 4096)) (IntKind.wrap IntKind.i64 (64 + IntKind.wrap IntKind.i64 (16 * IntKind.wrap IntKind.i64 (Int.tmod (IntKind.wrap IntKind.u64 f) 20)))) w) && inI 0 && inI (IntKind.wrap IntKind.i64 (Int.tmod (IntKind.wrap IntKind.u64 a) 4096)) && inI 0 && Go.Proofs.Ytmpmnjekcajlgaa.Wlk.allW (MM (TM (Z 512) 0 (IntKind.wrap IntKind.i64 (Int.tmod (IntKind.wrap IntKind.u64 a) 4096)) 16) 0 (IntKind.wrap IntKind.i64 (Int.tmod (IntKind.wrap IntKind.u64 a) 4096)) (IntKind.wrap IntKind.i64 (64 + IntKind.wrap IntKind.i64 (16 * IntKind.wrap IntKind.i64 (Int.tmod (IntKind.wrap IntKind.u64 f) 20)))) w)) (cond (Go.Proofs.Ytmpmnjekcajlgaa.Wlk.okM 512 (RM (MM (TM (Z 512) 0 (IntKind.wrap IntKind.i64 (Int.tmod (IntKind.wrap IntKind.u64 a) 4096)) 16) 0 (IntKind.wrap IntKind.i64 (Int.tmod (IntKind.wrap IntKind.u64 a) 4096)) (IntKind.wrap IntKind.i64 (64 + IntKind.wrap IntKind.i64 (16 * IntKind.wrap IntKind.i64 (Int.tmod (IntKind.wrap IntKind.u64 f) 20)))) w) 0 (IntKind.wrap IntKind.i64 (Int.tmod (IntKind.wrap IntKind.u64 a) 4096)) t) && inI 0 && inI (IntKind.wrap IntKind.i64 (Int.tmod (IntKind.wrap IntKind.u64 a) 4096)) && Go.Proofs.Ytmpmnjekcajlgaa.Wlk.allW (RM (MM (TM (Z 512) 0 (IntKind.wrap IntKind.i64 (Int.tmod (IntKind.wrap IntKind.u64 a) 4096)) 16) 0 (IntKind.wrap IntKind.i64 (Int.tmod (IntKind.wrap IntKind.u64 a) 4096)) (IntKind.wrap IntKind.i64 (64 + IntKind.wrap IntKind.i64 (16 * IntKind.wrap IntKind.i64 (Int.tmod (IntKind.wrap IntKind.u64 f) 20)))) w) 0 (IntKind.wrap IntKind.i64 (Int.tmod (IntKind.wrap IntKind.u64 a) 4096)) t)) (cond (Go.Proofs.Ytmpmnjekcajlgaa.Wlk.okM 512 (RM (MM (TM (Z 512) 0 (IntKind.wrap IntKind.i64 (Int.tmod (IntKind.wrap IntKind.u64 a) 4096)) 16) 0 (IntKind.wrap IntKind.i64 (Int.tmod (IntKind.wrap IntKind.u64 a) 4096)) (IntKind.wrap IntKind.i64 (64 + IntKind.wrap IntKind.i64 (16 * IntKind.wrap IntKind.i64 (Int.tmod (IntKind.wrap IntKind.u64 f) 20)))) w) 0 (IntKind.wrap IntKind.i64 (Int.tmod (IntKind.wrap IntKind.u64 a) 4096)) t) && inI 0 && inI (IntKind.wrap IntKind.i64 (Int.tmod (IntKind.wrap IntKind.u64 a) 4096)) && Go.Proofs.Ytmpmnjekcajlgaa.Wlk.allW (RM (MM (TM (Z 512) 0 (IntKind.wrap IntKind.i64 (Int.tmod (IntKind.wrap IntKind.u64 a) 4096)) 16) 0 (IntKind.wrap IntKind.i64 (Int.tmod (IntKind.wrap IntKind.u64 a) 4096)) (IntKind.wrap IntKind.i64 (64 + IntKind.wrap IntKind.i64 (16 * IntKind.wrap IntKind.i64 (Int.tmod (IntKind.wrap IntKind.u64 f) 20)))) w) 0 (IntKind.wrap IntKind.i64 (Int.tmod (IntKind.wrap IntKind.u64 a) 4096)) t)) (cond (RE (MM (TM (Z 512) 0 (IntKind.wrap IntKind.i64 (Int.tmod (IntKind.wrap IntKind.u64 a) 4096)) 16) 0 (IntKind.wrap IntKind.i64 (Int.tmod (IntKind.wrap IntKind.u64 a) 4096)) (IntKind.wrap IntKind.i64 (64 + IntKind.wrap IntKind.i64 (16 * IntKind.wrap IntKind.i64 (Int.tmod (IntKind.wrap IntKind.u64 f) 20)))) w) 0 (IntKind.wrap IntKind.i64 (Int.tmod (IntKind.wrap IntKind.u64 a) 4096)) == 0) (cond (U (RM (MM (TM (Z 512) 0 (IntKind.wrap IntKind.i64 (Int.tmod (IntKind.wrap IntKind.u64 a) 4096)) 16) 0 (IntKind.wrap IntKind.i64 (Int.tmod (IntKind.wrap IntKind.u64 a) 4096)) (IntKind.wrap IntKind.i64 (64 + IntKind.wrap IntKind.i64 (16 * IntKind.wrap IntKind.i64 (Int.tmod (IntKind.wrap IntKind.u64 f) 20)))) w) 0 (IntKind.wrap IntKind.i64 (Int.tmod (IntKind.wrap IntKind.u64 a) 4096)) t) 0 (IntKind.wrap IntKind.i64 (Int.tmod (IntKind.wrap IntKind.u64 a) 4096)) false == 0) (cond (T (RM (MM (TM (Z 512) 0 (IntKind.wrap IntKind.i64 (Int.tmod (IntKind.wrap IntKind.u64 a) 4096)) 16) 0 (IntKind.wrap IntKind.i64 (Int.tmod (IntKind.wrap IntKind.u64 a) 4096)) (IntKind.wrap IntKind.i64 (64 + IntKind.wrap IntKind.i64 (16 * IntKind.wrap IntKind.i64 (Int.tmod (IntKind.wrap IntKind.u64 f) 20)))) w) 0 (IntKind.wrap IntKind.i64 (Int.tmod (IntKind.wrap IntKind.u64 a) 4096)) t) 0 (IntKind.wrap IntKind.i64 (Int.tmod (IntKind.wrap IntKind.u64 a) 4096)) false == T (MM (TM (Z 512) 0 (IntKind.wrap IntKind.i64 (Int.tmod (IntKind.wrap IntKind.u64 a) 4096)) 16) 0 (IntKind.wrap IntKind.i64 (Int.tmod (IntKind.wrap IntKind.u64 a) 4096)) (IntKind.wrap IntKind.i64 (64 + IntKind.wrap IntKind.i64 (16 * IntKind.wrap IntKind.i64 (Int.tmod (IntKind.wrap IntKind.u64 f) 20)))) w) 0 (IntKind.wrap IntKind.i64 (Int.tmod (IntKind.wrap IntKind.u64 a) 4096)) false) (cond ((U (RM (MM (TM (Z 512) 0 (IntKind.wrap IntKind.i64 (Int.tmod (IntKind.wrap IntKind.u64 a) 4096)) 16) 0 (IntKind.wrap IntKind.i64 (Int.tmod (IntKind.wrap IntKind.u64 a) 4096)) (IntKind.wrap IntKind.i64 (64 + IntKind.wrap IntKind.i64 (16 * IntKind.wrap IntKind.i64 (Int.tmod (IntKind.wrap IntKind.u64 f) 20)))) w) 0 (IntKind.wrap IntKind.i64 (Int.tmod (IntKind.wrap IntKind.u64 a) 4096)) t) 0 (IntKind.wrap IntKind.i64 (Int.tmod (IntKind.wrap IntKind.u64 a) 4096)) true == 0) == t) (cond (Go.Proofs.Ytmpmnjekcajlgaa.Wlk.okM 512 (RM (MM (TM (Z 512) 0 (IntKind.wrap IntKind.i64 (Int.tmod (IntKind.wrap IntKind.u64 a) 4096)) 16) 0 (IntKind.wrap IntKind.i64 (Int.tmod (IntKind.wrap IntKind.u64 a) 4096)) (IntKind.wrap IntKind.i64 (64 + IntKind.wrap IntKind.i64 (16 * IntKind.wrap IntKind.i64 (Int.tmod (IntKind.wrap IntKind.u64 f) 20)))) w) 0 (IntKind.wrap IntKind.i64 (Int.tmod (IntKind.wrap IntKind.u64 a) 4096)) t) && inI 0 && inI (IntKind.wrap IntKind.i64 (Int.tmod (IntKind.wrap IntKind.u64 a) 4096)) && inI 0 && Go.Proofs.Ytmpmnjekcajlgaa.Wlk.allW (RM (MM (TM (Z 512) 0 (IntKind.wrap IntKind.i64 (Int.tmod (IntKind.wrap IntKind.u64 a) 4096)) 16) 0 (IntKind.wrap IntKind.i64 (Int.tmod (IntKind.wrap IntKind.u64 a) 4096)) (IntKind.wrap IntKind.i64 (64 + IntKind.wrap IntKind.i64 (16 * IntKind.wrap IntKind.i64 (Int.tmod (IntKind.wrap IntKind.u64 f) 20)))) w) 0 (IntKind.wrap IntKind.i64 (Int.tmod (IntKind.wrap IntKind.u64 a) 4096)) t)) (cond (NE (RM (MM (TM (Z 512) 0 (IntKind.wrap IntKind.i64 (Int.tmod (IntKind.wrap IntKind.u64 a) 4096)) 16) 0 (IntKind.wrap IntKind.i64 (Int.tmod (IntKind.wrap IntKind.u64 a) 4096)) (IntKind.wrap IntKind.i64 (64 + IntKind.wrap IntKind.i64 (16 * IntKind.wrap IntKind.i64 (Int.tmod (IntKind.wrap IntKind.u64 f) 20)))) w) 0 (IntKind.wrap IntKind.i64 (Int.tmod (IntKind.wrap IntKind.u64 a) 4096)) t) 0 (IntKind.wrap IntKind.i64 (Int.tmod (IntKind.wrap IntKind.u64 a) 4096)) == 0) (cond (Go.Proofs.Ytmpmnjekcajlgaa.Wlk.okM 512 (NM (RM (MM (TM (Z 512) 0 (IntKind.wrap IntKind.i64 (Int.tmod (IntKind.wrap IntKind.u64 a) 4096)) 16) 0 (IntKind.wrap IntKind.i64 (Int.tmod (IntKind.wrap IntKind.u64 a) 4096)) (IntKind.wrap IntKind.i64 (64 + IntKind.wrap IntKind.i64 (16 * IntKind.wrap IntKind.i64 (Int.tmod (IntKind.wrap IntKind.u64 f) 20)))) w) 0 (IntKind.wrap IntKind.i64 (Int.tmod (IntKind.wrap IntKind.u64 a) 4096)) t) 0 (IntKind.wrap IntKind.i64 (Int.tmod (IntKind.wrap IntKind.u64 a) 4096))) && inI 0 && inI (IntKind.wrap IntKind.i64 (Int.tmod (IntKind.wrap IntKind.u64 a) 4096)) && inI 0 && Go.Proofs.Ytmpmnjekcajlgaa.Wlk.allW (NM (RM (MM (TM (Z 512) 0 (IntKind.wrap IntKind.i64 (Int.tmod (IntKind.wrap IntKind.u64 a) 4096)) 16) 0 (IntKind.wrap IntKind.i64 (Int.tmod (IntKind.wrap IntKind.u64 a) 4096)) (IntKind.wrap IntKind.i64 (64 + IntKind.wrap IntKind.i64 (16 * IntKind.wrap IntKind.i64 (Int.tmod (IntKind.wrap IntKind.u64 f) 20)))) w) 0 (IntKind.wrap IntKind.i64 (Int.tmod (IntKind.wrap IntKind.u64 a) 4096)) t) 0 (IntKind.wrap IntKind.i64 (Int.tmod (IntKind.wrap IntKind.u64 a) 4096)))) (k (Res.mk (AV.e (AE.c (AC.bool (RE (NM (RM (MM (TM (Z 512) 0 (IntKind.wrap IntKind.i64 (Int.tmod (IntKind.wrap IntKind.u64 a) 4096)) 16) 0 (IntKind.wrap IntKind.i64 (Int.tmod (IntKind.wrap IntKind.u64 a) 4096)) (IntKind.wrap IntKind.i64 (64 + IntKind.wrap IntKind.i64 (16 * IntKind.wrap IntKind.i64 (Int.tmod (IntKind.wrap IntKind.u64 f) 20)))) w) 0 (IntKind.wrap IntKind.i64 (Int.tmod (IntKind.wrap IntKind.u64 a) 4096)) t) 0 (IntKind.wrap IntKind.i64 (Int.tmod (IntKind.wrap IntKind.u64 a) 4096))) 0 (IntKind.wrap IntKind.i64 (Int.tmod (IntKind.wrap IntKind.u64 a) 4096)) == 3)))) [])) none) (k (Res.mk (AV.e (AE.c (AC.bool false))) []))) none) (k (Res.mk (AV.e (AE.c (AC.bool false))) []))) (k (Res.mk (AV.e (AE.c (AC.bool false))) []))) (k (Res.mk (AV.e (AE.c (AC.bool false))) []))) (k (Res.mk (AV.e (AE.c (AC.bool false))) []))) none) none) none)))) none) none)) none)) none) := by kernel_rfl
theorem getW_put {ws : List Int} {a b v : Int} (h : inM ws.length a 1 = true) : getW (putW ws a v) b = if b = a then v else getW ws b := by
  have k := h
  simp only [inM, Bool.and_eq_true, decide_eq_true_eq] at k
  unfold putW; rw [if_pos h]
  unfold getW
  rw [List.length_set]
  by_cases e : b = a
  · subst e
    rw [if_pos h, if_pos rfl, List.getD_eq_getElem?_getD, List.getElem?_set_self (by omega)]; rfl
  · rw [if_neg e]
    by_cases c : inM ws.length b 1 = true
    · rw [if_pos c, if_pos c]
      have k2 := c
      simp only [inM, Bool.and_eq_true, decide_eq_true_eq] at k2
      rw [List.getD_eq_getElem?_getD, List.getD_eq_getElem?_getD, List.getElem?_set_ne (by omega)]
    · rw [if_neg c, if_neg c]
theorem epW_facts {f : Int} (w : Bool) (h0 : 0 ≤ f) (h1 : f ≤ 65520) (h2 : f % 16 = 0) :
    eV (epW true w f) = true ∧ eWr (epW true w f) = w ∧ eA (epW true w f) = f ∧ eE (epW true w f) = 0 ∧ epW true w f ≠ 0 ∧ word (epW true w f) = true := by
  have e : epW true w f = f + 1 + (if w = true then 2 else 0) := by unfold epW; rw [if_pos rfl, if_pos ⟨h0, h1, h2⟩]
  rw [e]
  cases w with
  | true =>
    rw [if_pos rfl]
    have ok : eOk (f + 1 + 2) = true := by
      have : f + 1 + 2 < 65536 ∧ (f + 1 + 2) % 2 = 1 ∧ (f + 1 + 2) / 4 % 4 = 0 := by omega
      simp [eOk, this]
    refine ⟨by unfold eV; rw [ok, decide_eq_true (by omega)]; rfl, by unfold eWr; rw [ok, decide_eq_true (by omega)]; rfl, by unfold eA; rw [if_pos ok]; omega, by unfold eE; rw [if_pos ok], by omega, ?_⟩
    have : 0 ≤ f + 1 + 2 ∧ f + 1 + 2 < 18446744073709551616 := by omega
    simp [word, this]
  | false =>
    rw [if_neg (by decide)]
    have ok : eOk (f + 1 + 0) = true := by
      have : f + 1 + 0 < 65536 ∧ (f + 1 + 0) % 2 = 1 ∧ (f + 1 + 0) / 4 % 4 = 0 := by omega
      simp only [eOk, decide_eq_true this.1, decide_eq_true this.2.1, decide_eq_true this.2.2]; simp
    refine ⟨by unfold eV; rw [ok, decide_eq_true (by omega)]; rfl, by unfold eWr; rw [ok, decide_eq_false (by omega)]; rfl, by unfold eA; rw [if_pos ok]; omega, by unfold eE; rw [if_pos ok], by omega, ?_⟩
    have : 0 ≤ f + 1 + 0 ∧ f + 1 + 0 < 18446744073709551616 := by omega
    simp only [word, decide_eq_true this.1, decide_eq_true this.2]; rfl
/-- A directory at 0 with a table at 16; of the table's words one. -/
structure Sat (a : Int) (ws : List Int) (e : Int) : Prop where
  len : ws.length = 512
  all : allW ws = true
  dir : getW ws (0 + sp1 a) = 17
  tab : getW ws (16 + sp2 a) = e
theorem sp_lt {a : Int} (h : spOk a = true) : 0 ≤ sp1 a ∧ sp1 a ≤ 15 ∧ 0 ≤ sp2 a ∧ sp2 a ≤ 15 ∧ 0 ≤ sp3 a ∧ sp3 a ≤ 15 ∧ sp3 a = a % 16 := by
  have c := h
  simp only [spOk, Bool.and_eq_true, decide_eq_true_eq] at c
  unfold sp1 sp2 sp3; rw [if_pos h, if_pos h, if_pos h]; omega
theorem Sat.put {a : Int} {ws : List Int} {e v : Int} (h : Sat a ws e) (ha : spOk a = true) (hv : word v = true) : Sat a (putW ws (16 + sp2 a) v) v := by
  obtain ⟨k1, k2, k3, k4, _, _, _⟩ := sp_lt ha
  have i : inM ws.length (16 + sp2 a) 1 = true := by
    rw [h.len]
    have : 0 ≤ 16 + sp2 a ∧ 16 + sp2 a + 1 ≤ 512 := by omega
    simp [inM, this]
  refine ⟨by rw [putW_len, h.len], putW_all h.all hv, ?_, ?_⟩
  · rw [getW_put i, if_neg (by omega)]; exact h.dir
  · rw [getW_put i, if_pos rfl]
theorem fi_0 {a o : Int} {ws : List Int} (hl : ws.length = 512) (ha : spOk a = true) (h0 : 0 ≤ o) (h1 : o + 16 ≤ 512) (h2 : o % 16 = 0) : fiE ws 0 a o = 0 ∧ fiA ws 0 a o = 0 + sp1 a := by
  have s0 : sth 512 0 = true := by decide
  have so : sth 512 o = true := by simp [sth, inM, h0, h1, h2]
  have e : fiE ws 0 a o = 0 := by unfold fiE; rw [if_pos ha, hl, s0, so]; rfl
  exact ⟨e, by unfold fiA; rw [if_pos e]⟩
theorem Sat.se {a o : Int} {ws : List Int} {e : Int} (h : Sat a ws e) (ha : spOk a = true) (h0 : 0 ≤ o) (h1 : o + 16 ≤ 512) (h2 : o % 16 = 0) : seE ws 0 a o = 0 ∧ seA ws 0 a o = 16 + sp2 a := by
  obtain ⟨f1, f2⟩ := fi_0 (ws := ws) h.len ha h0 h1 h2
  have a17 : eA 17 = 16 := by decide
  have e1 : seE ws 0 a o = 0 := by
    unfold seE; rw [if_pos f1, f2, h.dir, h.len]; decide
  refine ⟨e1, ?_⟩
  unfold seA; rw [if_pos e1, f2, h.dir, a17]
theorem Sat.page {a : Int} {ws : List Int} {e : Int} (h : Sat a ws e) (ha : spOk a = true) (hv : eV e = true) (hA : inM 512 (eA e) 16 = true) :
    pgE ws 0 a = 0 ∧ pgW ws 0 a = eWr e ∧ pgA ws 0 a = eA e := by
  have a17 : eA 17 = 16 := by decide
  have w17 : eWr 17 = false := by decide
  have v17 : eV 17 = true := by decide
  have e1 : w1 ws 0 a = 17 := h.dir
  have e2 : w2 ws 0 a = e := by unfold w2; rw [e1, a17]; exact h.tab
  have i1 : inM 512 16 16 = true := by decide
  have i2 : inM 512 0 16 = true := by decide
  have ok : pgOk ws 0 a = true := by unfold pgOk lokW; rw [e1, e2, h.len, a17, w17, v17, hv, hA, i1]; rfl
  have E : pgE ws 0 a = 0 := by unfold pgE; rw [if_pos ha, h.len, if_pos ⟨i2, by decide⟩, if_pos ok]
  refine ⟨E, ?_, ?_⟩
  · unfold pgW; rw [E, e2]; rfl
  · unfold pgA; rw [if_pos E, e2]
theorem Sat.to {a f : Int} {ws : List Int} {w : Bool} (h : Sat a ws (epW true w f)) (ha : spOk a = true) (h0 : 0 ≤ f) (h1 : f + 16 ≤ 512) (h2 : f % 16 = 0) :
    toE ws 0 a false = 0 ∧ toA ws 0 a false = f + a % 16 ∧ (toE ws 0 a true == 0) = w := by
  obtain ⟨q1, q2, q3, _, _, _⟩ := epW_facts w h0 (by omega) h2
  obtain ⟨p1, p2, p3⟩ := h.page ha q1 (by rw [q3]; simp [inM, h0, h1])
  rw [q2] at p2; rw [q3] at p3
  obtain ⟨_, _, _, _, _, _, k⟩ := sp_lt ha
  have e1 : toE ws 0 a false = 0 := by unfold toE; rw [if_pos p1, if_neg (by simp)]
  refine ⟨e1, by unfold toA; rw [if_pos e1, p3, k], ?_⟩
  unfold toE; rw [if_pos p1, p2]
  cases w
  · rfl
  · rfl
theorem leads_walk (a0 f0 : Int) (w t : Bool) (W : World) (h0 : (Lit.int .i64 a0).wf = true) (h1 : (Lit.int .i64 f0).wf = true) :
    Calls Try.prog 5 #[.int .i64 a0, .int .i64 f0, .bool w, .bool t] W fun e w' => e = .returned (.bool true) ∧ Below W.heap.size W w' := by
  refine of_nums (args := [aint .i64 a0, aint .i64 f0, .e (.c (.bool w)), .e (.c (.bool t))]) (blks := []) (runG_sound sLd_ok mix 100 5) (LR.cons rfl (LR.cons rfl (LR.cons rfl (LR.cons rfl LR.nil)))) ((t_leads newZ opTE opTW opUE opUW opME opMW opNE opNW opRE opRW toA toE a0 f0 w t some).trans ?_)
  obtain ⟨a, ha, a1, a2⟩ : ∃ a : Int, IntKind.wrap IntKind.i64 (Int.tmod (IntKind.wrap IntKind.u64 a0) 4096) = a ∧ 0 ≤ a ∧ a < 4096 := by
    rw [wrap_u64_emod, Int.tmod_eq_emod_of_nonneg (by omega), wrap_i64 (by omega) (by omega)]
    exact ⟨_, rfl, by omega, by omega⟩
  obtain ⟨f, hf, f1, f2, f3⟩ : ∃ f : Int, IntKind.wrap IntKind.i64 (64 + IntKind.wrap IntKind.i64 (16 * IntKind.wrap IntKind.i64 (Int.tmod (IntKind.wrap IntKind.u64 f0) 20))) = f ∧ 64 ≤ f ∧ f + 16 ≤ 512 ∧ f % 16 = 0 := by
    rw [wrap_u64_emod, Int.tmod_eq_emod_of_nonneg (by omega), wrap_i64 (n := f0 % 18446744073709551616 % 20) (by omega) (by omega), wrap_i64 (n := 16 * (f0 % 18446744073709551616 % 20)) (by omega) (by omega), wrap_i64 (by omega) (by omega)]
    exact ⟨_, rfl, by omega, by omega, by omega⟩
  rw [ha, hf]
  have sa : spOk a = true := by simp [spOk, a1, a2]
  obtain ⟨k1, k2, k3, k4, k5, k6, k7⟩ := sp_lt sa
  have l0 : (newZ 512).length = 512 := by unfold newZ; rw [List.length_replicate]; rfl
  have z0 : ∀ b, getW (newZ 512) b = 0 := by
    intro b
    unfold getW newZ
    split
    · rw [List.getD_eq_getElem?_getD, List.getElem?_replicate]; split <;> rfl
    · rfl
  have al0 : allW (newZ 512) = true := rep_all _
  -- the table
  obtain ⟨c1, c2⟩ := fi_0 (a := a) (o := 16) l0 sa (by decide) (by decide) (by decide)
  have e16 : epW true false 16 = 17 := by decide
  have tE : opTE (newZ 512) 0 a 16 = 0 := by unfold opTE setE; rw [if_pos c1, if_pos (z0 _)]
  have tW : opTW (newZ 512) 0 a 16 = putW (newZ 512) (0 + sp1 a) 17 := by unfold opTW setWs; rw [if_pos c1, if_pos (z0 _), c2, e16]
  have S1 : Sat a (opTW (newZ 512) 0 a 16) 0 := by
    rw [tW]
    have i : inM (newZ 512).length (0 + sp1 a) 1 = true := by
      rw [l0]
      simp only [inM, Bool.and_eq_true, decide_eq_true_eq]; omega
    refine ⟨by rw [putW_len, l0], putW_all al0 (by decide), by rw [getW_put i, if_pos rfl], by rw [getW_put i, if_neg (by omega), z0]⟩
  generalize opTW (newZ 512) 0 a 16 = W1 at S1 ⊢
  -- the page
  obtain ⟨d1, d2⟩ := S1.se (o := f) sa (by omega) f2 f3
  obtain ⟨q1, q2, q3, q4, q5, q6⟩ := epW_facts w (f := f) (by omega) (by omega) f3
  have mE : opME W1 0 a f = 0 := by unfold opME setE; rw [if_pos d1, d2, S1.tab, if_pos rfl]
  have S2 : Sat a (opMW W1 0 a f w) (epW true w f) := by
    have : opMW W1 0 a f w = putW W1 (16 + sp2 a) (epW true w f) := by unfold opMW setWs; rw [if_pos d1, d2, S1.tab, if_pos rfl]
    rw [this]; exact S1.put sa q6
  generalize opMW W1 0 a f w = W2 at S2 ⊢
  obtain ⟨r1, r2, r3⟩ := S2.to sa (by omega) f2 f3
  -- changed
  obtain ⟨g1, g2⟩ := S2.se (o := 0) sa (by decide) (by decide) (by decide)
  obtain ⟨u1, u2, u3, u4, u5, u6⟩ := epW_facts t (f := f) (by omega) (by omega) f3
  have rE : opRE W2 0 a = 0 := by unfold opRE remE; rw [if_pos g1, g2, S2.tab, if_neg q5, if_pos q4]
  have S3 : Sat a (opRW W2 0 a t) (epW true t f) := by
    have : opRW W2 0 a t = putW W2 (16 + sp2 a) (epW true t f) := by unfold opRW remWs; rw [if_pos g1, g2, S2.tab, if_neg q5, if_pos q4, q3]
    rw [this]; exact S2.put sa u6
  generalize opRW W2 0 a t = W3 at S3 ⊢
  obtain ⟨v1, v2, v3⟩ := S3.to sa (by omega) f2 f3
  -- out
  obtain ⟨x1, x2⟩ := S3.se (o := 0) sa (by decide) (by decide) (by decide)
  have nE : opNE W3 0 a = 0 := by unfold opNE goneE; rw [if_pos x1, x2, S3.tab, if_neg u5]
  have S4 : Sat a (opNW W3 0 a) 0 := by
    have : opNW W3 0 a = putW W3 (16 + sp2 a) 0 := by unfold opNW goneWs; rw [if_pos x1, x2, S3.tab, if_neg u5]
    rw [this]; exact S3.put sa (by decide)
  generalize opNW W3 0 a = W4 at S4 ⊢
  obtain ⟨y1, y2⟩ := S4.se (o := 0) sa (by decide) (by decide) (by decide)
  have lE : opRE W4 0 a = 3 := by unfold opRE remE; rw [if_pos y1, y2, S4.tab, if_pos rfl]
  have okm : ∀ ws : List Int, ws.length = 512 → okM 512 ws = true := fun ws h => by simp [okM, h]
  have i1 : inI a = true := inI_of (by omega) (by omega)
  have i2 : inI f = true := inI_of (by omega) (by omega)
  rw [okm _ l0, okm _ S1.len, okm _ S2.len, okm _ S3.len, okm _ S4.len, al0, S1.all, S2.all, S3.all, S4.all, i1, i2, show inI 0 = true from rfl, show inI 16 = true from rfl, tE, mE, r1, r2, r3, rE, v1, v2, v3, nE, lE, Int.tmod_eq_emod_of_nonneg a1, wrap_i64 (n := f + a % 16) (by omega) (by omega)]
  simp
end Go.Proofs.Ytmpmnjekcajlgaa.Wlk
