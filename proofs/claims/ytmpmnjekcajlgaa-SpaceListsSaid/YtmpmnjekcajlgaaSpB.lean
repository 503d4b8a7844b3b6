/- What is mapped and taken out, walked. -/
import Derived.Test.YtmpmnjekcajlgaaSpA
set_option linter.unusedVariables false
set_option linter.unusedSimpArgs false
set_option maxRecDepth 100000
namespace Go.Proofs.Ytmpmnjekcajlgaa.Wlk
open Go Go.Eng Go.Proofs Go.RowKit
noncomputable def lay (S : Summ) (f : FuncId) : Summ := sAdd S f (runG Try.prog S 100 f)
theorem lay_ok {S : Summ} {f : FuncId} (h : SummOk Try.prog S) (he : Enters Try.prog f) : SummOk Try.prog (lay S f) := sAdd_ok h (runG_sound h mix _ _) he
noncomputable def sO0 (FA FE SA SE : DF) (V W : BF) (EA EE : IF) (PW PE : PF) : Summ :=
  sAdd (sAdd (sAdd (sAdd (sAdd (sAdd (sAdd (sAdd (sAdd (sAdd sNil 25 (gFirV FA FE)) 52 (gFirV FA FE)) 28 (gFirV SA SE)) 54 (gFirV SA SE)) 24 gGet) 39 gPut) 36 (gEUnV V W EA EE)) 55 (gEUnV V W EA EE)) 51 (gEPackV PW PE)) 62 (gEPackV PW PE)
noncomputable def sO1 (FA FE SA SE : DF) (V W : BF) (EA EE : IF) (PW PE : PF) : Summ := lay (lay (lay (lay (lay (lay (lay (sO0 FA FE SA SE V W EA EE PW PE) 37) 53) 33) 48) 35) 27) 26
theorem t_table (FA FE SA SE : DF) (V W : BF) (EA EE : IF) (PW PE : PF) (d a t : Int) (n x : Nat) (ws : List Int) (k : Res → Option Res) : runG Try.prog (sO1 FA FE SA SE V W EA EE PW PE) 100 10 [mP, aint .i64 d, aint .i64 a, aint .i64 t] (mB n x ws) k = (cond (Go.Proofs.Ytmpmnjekcajlgaa.Wlk.okM n ws && inI d && inI a && inI t && Go.Proofs.Ytmpmnjekcajlgaa.Wlk.allW ws) (cond (FE ws d a t != 0) (k (Res.mk (AV.e (AE.c (AC.int (IntKind.i64) (FE ws d a t)))) [(none), (none)])) (cond (Go.Proofs.Ytmpmnjekcajlgaa.Wlk.okM n ws && inI (FA ws d a t)) (cond (Go.Proofs.Ytmpmnjekcajlgaa.Wlk.getW ws (FA ws d a t) != 0) (k (Res.mk (AV.e (AE.c (AC.int (IntKind.i64) (4)))) [(none), (none)])) (cond (inI t) (cond (Go.Proofs.Ytmpmnjekcajlgaa.Wlk.okM n ws && inI (FA ws d a t)) (k (Res.mk (AV.e (AE.c (AC.int (IntKind.i64) (Go.Proofs.Ytmpmnjekcajlgaa.Wlk.pE (Go.Proofs.Ytmpmnjekcajlgaa.Wlk.inM n (FA ws d a t) 1))))) [(some (some (Block.mk false (Data.mix [(AC.slice (Loc.mk 1 0 1 0 0 0 0) 1 (n) (x) true)])))), (some (some (Block.mk false (Data.rows [(Col.ints (IntKind.u64) (Go.Proofs.Ytmpmnjekcajlgaa.Wlk.putW ws (FA ws d a t) (PW true false t)))]))))])) none) none)) none)) none) := by kernel_rfl
theorem t_untable (FA FE SA SE : DF) (V W : BF) (EA EE : IF) (PW PE : PF) (d a : Int) (n x : Nat) (ws : List Int) (k : Res → Option Res) : runG Try.prog (sO1 FA FE SA SE V W EA EE PW PE) 100 16 [mP, aint .i64 d, aint .i64 a] (mB n x ws) k = (cond (Go.Proofs.Ytmpmnjekcajlgaa.Wlk.okM n ws && inI d && inI a && inI d && Go.Proofs.Ytmpmnjekcajlgaa.Wlk.allW ws) (cond (FE ws d a d != 0) (k (Res.mk (AV.e (AE.c (AC.int (IntKind.i64) (FE ws d a d)))) [(none), (none)])) (cond (Go.Proofs.Ytmpmnjekcajlgaa.Wlk.okM n ws && inI (FA ws d a d)) (cond (Go.Proofs.Ytmpmnjekcajlgaa.Wlk.getW ws (FA ws d a d) == 0) (k (Res.mk (AV.e (AE.c (AC.int (IntKind.i64) (3)))) [(none), (none)])) (cond (Go.Proofs.Ytmpmnjekcajlgaa.Wlk.okM n ws && inI (FA ws d a d)) (k (Res.mk (AV.e (AE.c (AC.int (IntKind.i64) (Go.Proofs.Ytmpmnjekcajlgaa.Wlk.pE (Go.Proofs.Ytmpmnjekcajlgaa.Wlk.inM n (FA ws d a d) 1))))) [(some (some (Block.mk false (Data.mix [(AC.slice (Loc.mk 1 0 1 0 0 0 0) 1 (n) (x) true)])))), (some (some (Block.mk false (Data.rows [(Col.ints (IntKind.u64) (Go.Proofs.Ytmpmnjekcajlgaa.Wlk.putW ws (FA ws d a d) 0))]))))])) none)) none)) none) := by kernel_rfl
theorem t_map (FA FE SA SE : DF) (V W : BF) (EA EE : IF) (PW PE : PF) (d a t : Int) (wr : Bool) (n x : Nat) (ws : List Int) (k : Res → Option Res) : runG Try.prog (sO1 FA FE SA SE V W EA EE PW PE) 100 11 [mP, aint .i64 d, aint .i64 a, aint .i64 t, .e (.c (.bool wr))] (mB n x ws) k = (cond (Go.Proofs.Ytmpmnjekcajlgaa.Wlk.okM n ws && inI d && inI a && inI t && Go.Proofs.Ytmpmnjekcajlgaa.Wlk.allW ws) (cond (SE ws d a t != 0) (k (Res.mk (AV.e (AE.c (AC.int (IntKind.i64) (SE ws d a t)))) [(none), (none)])) (cond (Go.Proofs.Ytmpmnjekcajlgaa.Wlk.okM n ws && inI (SA ws d a t)) (cond (Go.Proofs.Ytmpmnjekcajlgaa.Wlk.getW ws (SA ws d a t) != 0) (k (Res.mk (AV.e (AE.c (AC.int (IntKind.i64) (4)))) [(none), (none)])) (cond (inI t) (cond (Go.Proofs.Ytmpmnjekcajlgaa.Wlk.okM n ws && inI (SA ws d a t)) (k (Res.mk (AV.e (AE.c (AC.int (IntKind.i64) (Go.Proofs.Ytmpmnjekcajlgaa.Wlk.pE (Go.Proofs.Ytmpmnjekcajlgaa.Wlk.inM n (SA ws d a t) 1))))) [(some (some (Block.mk false (Data.mix [(AC.slice (Loc.mk 1 0 1 0 0 0 0) 1 (n) (x) true)])))), (some (some (Block.mk false (Data.rows [(Col.ints (IntKind.u64) (Go.Proofs.Ytmpmnjekcajlgaa.Wlk.putW ws (SA ws d a t) (PW true wr t)))]))))])) none) none)) none)) none) := by kernel_rfl
theorem t_unmap (FA FE SA SE : DF) (V W : BF) (EA EE : IF) (PW PE : PF) (d a : Int) (n x : Nat) (ws : List Int) (k : Res → Option Res) : runG Try.prog (sO1 FA FE SA SE V W EA EE PW PE) 100 14 [mP, aint .i64 d, aint .i64 a] (mB n x ws) k = (cond (Go.Proofs.Ytmpmnjekcajlgaa.Wlk.okM n ws && inI d && inI a && inI d && Go.Proofs.Ytmpmnjekcajlgaa.Wlk.allW ws) (cond (SE ws d a d != 0) (k (Res.mk (AV.e (AE.c (AC.int (IntKind.i64) (SE ws d a d)))) [(none), (none)])) (cond (Go.Proofs.Ytmpmnjekcajlgaa.Wlk.okM n ws && inI (SA ws d a d)) (cond (Go.Proofs.Ytmpmnjekcajlgaa.Wlk.getW ws (SA ws d a d) == 0) (k (Res.mk (AV.e (AE.c (AC.int (IntKind.i64) (3)))) [(none), (none)])) (cond (Go.Proofs.Ytmpmnjekcajlgaa.Wlk.okM n ws && inI (SA ws d a d)) (k (Res.mk (AV.e (AE.c (AC.int (IntKind.i64) (Go.Proofs.Ytmpmnjekcajlgaa.Wlk.pE (Go.Proofs.Ytmpmnjekcajlgaa.Wlk.inM n (SA ws d a d) 1))))) [(some (some (Block.mk false (Data.mix [(AC.slice (Loc.mk 1 0 1 0 0 0 0) 1 (n) (x) true)])))), (some (some (Block.mk false (Data.rows [(Col.ints (IntKind.u64) (Go.Proofs.Ytmpmnjekcajlgaa.Wlk.putW ws (SA ws d a d) 0))]))))])) none)) none)) none) := by kernel_rfl
theorem t_remap (FA FE SA SE : DF) (V W : BF) (EA EE : IF) (PW PE : PF) (d a : Int) (wr : Bool) (n x : Nat) (ws : List Int) (k : Res → Option Res) : runG Try.prog (sO1 FA FE SA SE V W EA EE PW PE) 100 18 [mP, aint .i64 d, aint .i64 a, .e (.c (.bool wr))] (mB n x ws) k = (cond (Go.Proofs.Ytmpmnjekcajlgaa.Wlk.okM n ws && inI d && inI a && inI d && Go.Proofs.Ytmpmnjekcajlgaa.Wlk.allW ws) (cond (SE ws d a d != 0) (k (Res.mk (AV.e (AE.c (AC.int (IntKind.i64) (SE ws d a d)))) [(none), (none)])) (cond (Go.Proofs.Ytmpmnjekcajlgaa.Wlk.okM n ws && inI (SA ws d a d)) (cond (word (Go.Proofs.Ytmpmnjekcajlgaa.Wlk.getW ws (SA ws d a d))) (cond (Go.Proofs.Ytmpmnjekcajlgaa.Wlk.getW ws (SA ws d a d) == 0) (k (Res.mk (AV.e (AE.c (AC.int (IntKind.i64) (3)))) [(none), (none)])) (cond (EE (Go.Proofs.Ytmpmnjekcajlgaa.Wlk.getW ws (SA ws d a d)) != 0) (k (Res.mk (AV.e (AE.c (AC.int (IntKind.i64) (12)))) [(none), (none)])) (cond (inI (EA (Go.Proofs.Ytmpmnjekcajlgaa.Wlk.getW ws (SA ws d a d)))) (cond (Go.Proofs.Ytmpmnjekcajlgaa.Wlk.okM n ws && inI (SA ws d a d)) (k (Res.mk (AV.e (AE.c (AC.int (IntKind.i64) (Go.Proofs.Ytmpmnjekcajlgaa.Wlk.pE (Go.Proofs.Ytmpmnjekcajlgaa.Wlk.inM n (SA ws d a d) 1))))) [(some (some (Block.mk false (Data.mix [(AC.slice (Loc.mk 1 0 1 0 0 0 0) 1 (n) (x) true)])))), (some (some (Block.mk false (Data.rows [(Col.ints (IntKind.u64) (Go.Proofs.Ytmpmnjekcajlgaa.Wlk.putW ws (SA ws d a d) (PW true wr (EA (Go.Proofs.Ytmpmnjekcajlgaa.Wlk.getW ws (SA ws d a d))))))]))))])) none) none))) none) none)) none) := by kernel_rfl
theorem t_rtable (FA FE SA SE : DF) (V W : BF) (EA EE : IF) (PW PE : PF) (d a t : Int) (n x : Nat) (ws : List Int) (k : Res → Option Res) : runG Try.prog (sO1 FA FE SA SE V W EA EE PW PE) 100 40 [mP, aint .i64 d, aint .i64 a, aint .i64 t] (mB n x ws) k = (cond (Go.Proofs.Ytmpmnjekcajlgaa.Wlk.okM n ws && inI d && inI a && inI t && Go.Proofs.Ytmpmnjekcajlgaa.Wlk.allW ws) (cond (FE ws d a t != 0) (k (Res.mk (AV.e (AE.c (AC.int (IntKind.i64) (FE ws d a t)))) [(none), (none)])) (cond (decide (0 ≤ FA ws d a t) && decide (FA ws d a t < (↑n : Int))) (cond (decide (0 + Int.toNat (FA ws d a t) < List.length ws)) (cond (List.getD ws (0 + Int.toNat (FA ws d a t)) 0 != 0) (k (Res.mk (AV.e (AE.c (AC.int (IntKind.i64) (4)))) [(none), (none)])) (cond (inI t) (cond (decide (0 ≤ FA ws d a t) && decide (FA ws d a t < (↑n : Int))) (cond (decide (0 + Int.toNat (FA ws d a t) < List.length ws) && true) (k (Res.mk (AV.e (AE.c (AC.int (IntKind.i64) (0)))) [(none), (some (some (Block.mk false (Data.rows [(Col.ints (IntKind.u64) (List.set ws (0 + Int.toNat (FA ws d a t)) (PW true false t)))]))))])) none) none) none)) none) none)) none) := by kernel_rfl
theorem t_runtable (FA FE SA SE : DF) (V W : BF) (EA EE : IF) (PW PE : PF) (d a : Int) (n x : Nat) (ws : List Int) (k : Res → Option Res) : runG Try.prog (sO1 FA FE SA SE V W EA EE PW PE) 100 41 [mP, aint .i64 d, aint .i64 a] (mB n x ws) k = (cond (Go.Proofs.Ytmpmnjekcajlgaa.Wlk.okM n ws && inI d && inI a && inI d && Go.Proofs.Ytmpmnjekcajlgaa.Wlk.allW ws) (cond (FE ws d a d != 0) (k (Res.mk (AV.e (AE.c (AC.int (IntKind.i64) (FE ws d a d)))) [(none), (none)])) (cond (decide (0 ≤ FA ws d a d) && decide (FA ws d a d < (↑n : Int))) (cond (decide (0 + Int.toNat (FA ws d a d) < List.length ws)) (cond (List.getD ws (0 + Int.toNat (FA ws d a d)) 0 == 0) (k (Res.mk (AV.e (AE.c (AC.int (IntKind.i64) (3)))) [(none), (none)])) (cond (decide (0 ≤ FA ws d a d) && decide (FA ws d a d < (↑n : Int))) (cond (decide (0 + Int.toNat (FA ws d a d) < List.length ws) && true) (k (Res.mk (AV.e (AE.c (AC.int (IntKind.i64) (0)))) [(none), (some (some (Block.mk false (Data.rows [(Col.ints (IntKind.u64) (List.set ws (0 + Int.toNat (FA ws d a d)) 0))]))))])) none) none)) none) none)) none) := by kernel_rfl
theorem t_rmap (FA FE SA SE : DF) (V W : BF) (EA EE : IF) (PW PE : PF) (d a t : Int) (wr : Bool) (n x : Nat) (ws : List Int) (k : Res → Option Res) : runG Try.prog (sO1 FA FE SA SE V W EA EE PW PE) 100 42 [mP, aint .i64 d, aint .i64 a, aint .i64 t, .e (.c (.bool wr))] (mB n x ws) k = (cond (Go.Proofs.Ytmpmnjekcajlgaa.Wlk.okM n ws && inI d && inI a && inI t && Go.Proofs.Ytmpmnjekcajlgaa.Wlk.allW ws) (cond (SE ws d a t != 0) (k (Res.mk (AV.e (AE.c (AC.int (IntKind.i64) (SE ws d a t)))) [(none), (none)])) (cond (decide (0 ≤ SA ws d a t) && decide (SA ws d a t < (↑n : Int))) (cond (decide (0 + Int.toNat (SA ws d a t) < List.length ws)) (cond (List.getD ws (0 + Int.toNat (SA ws d a t)) 0 != 0) (k (Res.mk (AV.e (AE.c (AC.int (IntKind.i64) (4)))) [(none), (none)])) (cond (inI t) (cond (decide (0 ≤ SA ws d a t) && decide (SA ws d a t < (↑n : Int))) (cond (decide (0 + Int.toNat (SA ws d a t) < List.length ws) && true) (k (Res.mk (AV.e (AE.c (AC.int (IntKind.i64) (0)))) [(none), (some (some (Block.mk false (Data.rows [(Col.ints (IntKind.u64) (List.set ws (0 + Int.toNat (SA ws d a t)) (PW true wr t)))]))))])) none) none) none)) none) none)) none) := by kernel_rfl
theorem t_runmap (FA FE SA SE : DF) (V W : BF) (EA EE : IF) (PW PE : PF) (d a : Int) (n x : Nat) (ws : List Int) (k : Res → Option Res) : runG Try.prog (sO1 FA FE SA SE V W EA EE PW PE) 100 43 [mP, aint .i64 d, aint .i64 a] (mB n x ws) k = (cond (Go.Proofs.Ytmpmnjekcajlgaa.Wlk.okM n ws && inI d && inI a && inI d && Go.Proofs.Ytmpmnjekcajlgaa.Wlk.allW ws) (cond (SE ws d a d != 0) (k (Res.mk (AV.e (AE.c (AC.int (IntKind.i64) (SE ws d a d)))) [(none), (none)])) (cond (decide (0 ≤ SA ws d a d) && decide (SA ws d a d < (↑n : Int))) (cond (decide (0 + Int.toNat (SA ws d a d) < List.length ws)) (cond (List.getD ws (0 + Int.toNat (SA ws d a d)) 0 == 0) (k (Res.mk (AV.e (AE.c (AC.int (IntKind.i64) (3)))) [(none), (none)])) (cond (decide (0 ≤ SA ws d a d) && decide (SA ws d a d < (↑n : Int))) (cond (decide (0 + Int.toNat (SA ws d a d) < List.length ws) && true) (k (Res.mk (AV.e (AE.c (AC.int (IntKind.i64) (0)))) [(none), (some (some (Block.mk false (Data.rows [(Col.ints (IntKind.u64) (List.set ws (0 + Int.toNat (SA ws d a d)) 0))]))))])) none) none)) none) none)) none) := by kernel_rfl
theorem t_rremap (FA FE SA SE : DF) (V W : BF) (EA EE : IF) (PW PE : PF) (d a : Int) (wr : Bool) (n x : Nat) (ws : List Int) (k : Res → Option Res) : runG Try.prog (sO1 FA FE SA SE V W EA EE PW PE) 100 44 [mP, aint .i64 d, aint .i64 a, .e (.c (.bool wr))] (mB n x ws) k = (cond (Go.Proofs.Ytmpmnjekcajlgaa.Wlk.okM n ws && inI d && inI a && inI d && Go.Proofs.Ytmpmnjekcajlgaa.Wlk.allW ws) (cond (SE ws d a d != 0) (k (Res.mk (AV.e (AE.c (AC.int (IntKind.i64) (SE ws d a d)))) [(none), (none)])) (cond (decide (0 ≤ SA ws d a d) && decide (SA ws d a d < (↑n : Int))) (cond (decide (0 + Int.toNat (SA ws d a d) < List.length ws)) (cond (word (List.getD ws (0 + Int.toNat (SA ws d a d)) 0)) (cond (decide (0 ≤ SA ws d a d) && decide (SA ws d a d < (↑n : Int))) (cond (decide (0 + Int.toNat (SA ws d a d) < List.length ws)) (cond (List.getD ws (0 + Int.toNat (SA ws d a d)) 0 == 0) (k (Res.mk (AV.e (AE.c (AC.int (IntKind.i64) (3)))) [(none), (none)])) (cond (EE (List.getD ws (0 + Int.toNat (SA ws d a d)) 0) != 0) (k (Res.mk (AV.e (AE.c (AC.int (IntKind.i64) (12)))) [(none), (none)])) (cond (inI (EA (List.getD ws (0 + Int.toNat (SA ws d a d)) 0))) (cond (decide (0 ≤ SA ws d a d) && decide (SA ws d a d < (↑n : Int))) (cond (decide (0 + Int.toNat (SA ws d a d) < List.length ws) && true) (k (Res.mk (AV.e (AE.c (AC.int (IntKind.i64) (0)))) [(none), (some (some (Block.mk false (Data.rows [(Col.ints (IntKind.u64) (List.set ws (0 + Int.toNat (SA ws d a d)) (PW true wr (EA (List.getD ws (0 + Int.toNat (SA ws d a d)) 0)))))]))))])) none) none) none))) none) none) none) none) none)) none) := by kernel_rfl
def setE (ws : List Int) (i e : Int) : Int := if e = 0 then (if getW ws i = 0 then 0 else 4) else e
def setWs (ws : List Int) (i e v : Int) : List Int := if e = 0 then (if getW ws i = 0 then putW ws i v else ws) else ws
def goneE (ws : List Int) (i e : Int) : Int := if e = 0 then (if getW ws i = 0 then 3 else 0) else e
def goneWs (ws : List Int) (i e : Int) : List Int := if e = 0 then (if getW ws i = 0 then ws else putW ws i 0) else ws
def remE (ws : List Int) (i e : Int) : Int := if e = 0 then (if getW ws i = 0 then 3 else if eE (getW ws i) = 0 then 0 else 12) else e
def remWs (ws : List Int) (i e : Int) (wr : Bool) : List Int := if e = 0 then (if getW ws i = 0 then ws else if eE (getW ws i) = 0 then putW ws i (epW true wr (eA (getW ws i))) else ws) else ws
theorem se_in {ws : List Int} {d a o : Int} (h : seE ws d a o = 0) : inM ws.length (seA ws d a o) 1 = true ∧ 0 ≤ seA ws d a o ∧ seA ws d a o < ws.length := by
  have hA : seA ws d a o = eA (getW ws (fiA ws d a o)) + sp2 a := by unfold seA; rw [if_pos h]
  rw [hA]
  unfold seE at h
  split at h
  · rename_i c0
    obtain ⟨_, _, _, b4, b5⟩ := fi_in c0
    split at h
    · rename_i c2
      simp only [inM, Bool.and_eq_true, decide_eq_true_eq] at c2
      have k := c2.2
      have : 0 ≤ eA (getW ws (fiA ws d a o)) + sp2 a ∧ eA (getW ws (fiA ws d a o)) + sp2 a + 1 ≤ (ws.length : Int) := by omega
      exact ⟨by simp [inM, this], by omega, by omega⟩
    · cases h
  · rename_i c0; exact absurd h c0
theorem sO0_ok : SummOk Try.prog (sO0 fiA fiE seA seE eV eWr eA eE epW epE) :=
  sAdd_ok (sAdd_ok (sAdd_ok (sAdd_ok (sAdd_ok (sAdd_ok (sAdd_ok (sAdd_ok (sAdd_ok (sAdd_ok sNil_ok gFir_sound (enters Try.func25 rfl (by kernel_rfl))) gRfir_sound (enters Try.func52 rfl (by kernel_rfl))) gSec_sound (enters Try.func28 rfl (by kernel_rfl))) gRsec_sound (enters Try.func54 rfl (by kernel_rfl))) gGet_sound (enters Try.func24 rfl (by kernel_rfl))) gPut_sound (enters Try.func39 rfl (by kernel_rfl))) gEUn_sound (enters Try.func36 rfl (by kernel_rfl))) gRefEUn_sound (enters Try.func55 rfl (by kernel_rfl))) gEPack_sound (enters Try.func51 rfl (by kernel_rfl))) gRefEPack_sound (enters Try.func62 rfl (by kernel_rfl))
theorem sO1_ok : SummOk Try.prog (sO1 fiA fiE seA seE eV eWr eA eE epW epE) :=
  lay_ok (lay_ok (lay_ok (lay_ok (lay_ok (lay_ok (lay_ok sO0_ok (enters Try.func37 rfl (by kernel_rfl))) (enters Try.func53 rfl (by kernel_rfl))) (enters Try.func33 rfl (by kernel_rfl))) (enters Try.func48 rfl (by kernel_rfl))) (enters Try.func35 rfl (by kernel_rfl))) (enters Try.func27 rfl (by kernel_rfl))) (enters Try.func26 rfl (by kernel_rfl))
def opTE (ws : List Int) (d a t : Int) : Int := setE ws (fiA ws d a t) (fiE ws d a t)
def opTW (ws : List Int) (d a t : Int) : List Int := setWs ws (fiA ws d a t) (fiE ws d a t) (epW true false t)
def gTableV (E : List Int → Int → Int → Int → Int) (M : List Int → Int → Int → Int → List Int) : Fun := fun args sub κ => match args, sub with
  | [.e (.c (.ptr ⟨0, 0, 0, 0, 0, 0, 0⟩)), .e (.c (.int .i64 d)), .e (.c (.int .i64 a)), .e (.c (.int .i64 t))], [some ⟨false, .mix [.slice ⟨1, 0, 1, 0, 0, 0, 0⟩ 1 n x true]⟩, some ⟨false, .rows [.ints .u64 ws]⟩] => match okM n ws && inI d && inI a && inI t && allW ws with
    | true => κ ⟨.e (.c (.int .i64 (E ws d a t))), [some (some ⟨false, .mix [.slice ⟨1, 0, 1, 0, 0, 0, 0⟩ 1 n x true]⟩), some (some ⟨false, .rows [.ints .u64 (M ws d a t)]⟩)]⟩
    | false => none
  | _, _ => none
theorem gTable_sound : FunSound Try.prog 10 (gTableV opTE opTW) := by
  refine (runG_sound sO1_ok mix 100 10).fill.short fun args sub κ r h => ?_
  unfold gTableV at h
  split at h
  · rename_i d a t n x ws
    split at h
    · rename_i hc
      have hc' := hc
      simp only [Bool.and_eq_true] at hc
      obtain ⟨⟨⟨⟨ho, hd⟩, ha⟩, hO⟩, hw⟩ := hc
      have ho' := ho
      obtain ⟨rfl, hn⟩ := okM_spec ho
      refine (t_table fiA fiE seA seE eV eWr eA eE epW epE d a t ws.length x ws _).trans ?_
      rw [hc', cond_true]
      have hE : opTE ws d a t = setE ws (fiA ws d a t) (fiE ws d a t) := rfl
      have hW : opTW ws d a t = setWs ws (fiA ws d a t) (fiE ws d a t) (epW true false t) := rfl
      rw [hE, hW] at h
      generalize hi : (fiA ws d a t) = i at h ⊢
      generalize he : (fiE ws d a t) = e at h ⊢
      by_cases c0 : e = 0
      rotate_left
      · rw [show (e != 0) = true from by simpa using c0, cond_true]
        have q1 : setE ws i e = e := by unfold setE; rw [if_neg c0]
        have q2 : setWs ws i e (epW true false t) = ws := by unfold setWs; rw [if_neg c0]
        rw [q1, q2] at h; exact h
      have b := fi_in (he.trans c0)
      rw [hi] at b
      have b1 := b.1
      have b2 := b.2.1
      have b3 := b.2.2.1
      have hgw : word (getW ws i) = true := getW_word hw
      rw [c0] at h
      rw [c0, show ((0 : Int) != 0) = false from rfl, cond_false]
      rw [ho', inI_of (n := i) (by omega) (by omega), Bool.and_self, cond_true]
      by_cases c1 : getW ws i = 0
      rotate_left
      · have q1 : setE ws i 0 = 4 := by unfold setE; rw [if_pos rfl, if_neg c1]
        have q2 : setWs ws i 0 (epW true false t) = ws := by unfold setWs; rw [if_pos rfl, if_neg c1]
        rw [show (getW ws i != 0) = true from by simpa using c1, cond_true]
        rw [q1, q2] at h; exact h
      have q1 : setE ws i 0 = 0 := by unfold setE; rw [if_pos rfl, if_pos c1]
      have q2 : setWs ws i 0 (epW true false t) = putW ws i (epW true false t) := by unfold setWs; rw [if_pos rfl, if_pos c1]
      rw [show (getW ws i != 0) = false from by simpa using c1, cond_false, hO, cond_true, cond_true, b1]
      rw [q1, q2] at h
      exact h
    · cases h
  · cases h
theorem gRefTable_sound : FunSound Try.prog 40 (gTableV opTE opTW) := by
  refine (runG_sound sO1_ok mix 100 40).fill.short fun args sub κ r h => ?_
  unfold gTableV at h
  split at h
  · rename_i d a t n x ws
    split at h
    · rename_i hc
      have hc' := hc
      simp only [Bool.and_eq_true] at hc
      obtain ⟨⟨⟨⟨ho, hd⟩, ha⟩, hO⟩, hw⟩ := hc
      have ho' := ho
      obtain ⟨rfl, hn⟩ := okM_spec ho
      refine (t_rtable fiA fiE seA seE eV eWr eA eE epW epE d a t ws.length x ws _).trans ?_
      rw [hc', cond_true]
      have hE : opTE ws d a t = setE ws (fiA ws d a t) (fiE ws d a t) := rfl
      have hW : opTW ws d a t = setWs ws (fiA ws d a t) (fiE ws d a t) (epW true false t) := rfl
      rw [hE, hW] at h
      generalize hi : (fiA ws d a t) = i at h ⊢
      generalize he : (fiE ws d a t) = e at h ⊢
      by_cases c0 : e = 0
      rotate_left
      · rw [show (e != 0) = true from by simpa using c0, cond_true]
        have q1 : setE ws i e = e := by unfold setE; rw [if_neg c0]
        have q2 : setWs ws i e (epW true false t) = ws := by unfold setWs; rw [if_neg c0]
        rw [q1, q2] at h; exact h
      have b := fi_in (he.trans c0)
      rw [hi] at b
      have b1 := b.1
      have b2 := b.2.1
      have b3 := b.2.2.1
      have hgw : word (getW ws i) = true := getW_word hw
      rw [c0] at h
      rw [c0, show ((0 : Int) != 0) = false from rfl, cond_false]
      have hg : List.getD ws (0 + i.toNat) 0 = getW ws i := by unfold getW; rw [if_pos b1, Nat.zero_add]
      have hp : ∀ v, ws.set (0 + i.toNat) v = putW ws i v := fun v => by unfold putW; rw [if_pos b1, Nat.zero_add]
      rw [decide_eq_true b2, decide_eq_true b3, Bool.and_self, cond_true, decide_eq_true (show 0 + i.toNat < ws.length by omega), cond_true]
      rw [hg]
      by_cases c1 : getW ws i = 0
      rotate_left
      · have q1 : setE ws i 0 = 4 := by unfold setE; rw [if_pos rfl, if_neg c1]
        have q2 : setWs ws i 0 (epW true false t) = ws := by unfold setWs; rw [if_pos rfl, if_neg c1]
        rw [show (getW ws i != 0) = true from by simpa using c1, cond_true]
        rw [q1, q2] at h; exact h
      have q1 : setE ws i 0 = 0 := by unfold setE; rw [if_pos rfl, if_pos c1]
      have q2 : setWs ws i 0 (epW true false t) = putW ws i (epW true false t) := by unfold setWs; rw [if_pos rfl, if_pos c1]
      rw [show (getW ws i != 0) = false from by simpa using c1, cond_false, hO, cond_true]
      rw [q1, q2] at h
      rw [cond_true, Bool.and_self, cond_true, hp]
      exact h
    · cases h
  · cases h
def opUE (ws : List Int) (d a : Int) : Int := goneE ws (fiA ws d a d) (fiE ws d a d)
def opUW (ws : List Int) (d a : Int) : List Int := goneWs ws (fiA ws d a d) (fiE ws d a d) 
def gUntableV (E : List Int → Int → Int → Int) (M : List Int → Int → Int → List Int) : Fun := fun args sub κ => match args, sub with
  | [.e (.c (.ptr ⟨0, 0, 0, 0, 0, 0, 0⟩)), .e (.c (.int .i64 d)), .e (.c (.int .i64 a))], [some ⟨false, .mix [.slice ⟨1, 0, 1, 0, 0, 0, 0⟩ 1 n x true]⟩, some ⟨false, .rows [.ints .u64 ws]⟩] => match okM n ws && inI d && inI a && inI d && allW ws with
    | true => κ ⟨.e (.c (.int .i64 (E ws d a))), [some (some ⟨false, .mix [.slice ⟨1, 0, 1, 0, 0, 0, 0⟩ 1 n x true]⟩), some (some ⟨false, .rows [.ints .u64 (M ws d a)]⟩)]⟩
    | false => none
  | _, _ => none
theorem gUntable_sound : FunSound Try.prog 16 (gUntableV opUE opUW) := by
  refine (runG_sound sO1_ok mix 100 16).fill.short fun args sub κ r h => ?_
  unfold gUntableV at h
  split at h
  · rename_i d a n x ws
    split at h
    · rename_i hc
      have hc' := hc
      simp only [Bool.and_eq_true] at hc
      obtain ⟨⟨⟨⟨ho, hd⟩, ha⟩, hO⟩, hw⟩ := hc
      have ho' := ho
      obtain ⟨rfl, hn⟩ := okM_spec ho
      refine (t_untable fiA fiE seA seE eV eWr eA eE epW epE d a ws.length x ws _).trans ?_
      rw [hc', cond_true]
      have hE : opUE ws d a = goneE ws (fiA ws d a d) (fiE ws d a d) := rfl
      have hW : opUW ws d a = goneWs ws (fiA ws d a d) (fiE ws d a d)  := rfl
      rw [hE, hW] at h
      generalize hi : (fiA ws d a d) = i at h ⊢
      generalize he : (fiE ws d a d) = e at h ⊢
      by_cases c0 : e = 0
      rotate_left
      · rw [show (e != 0) = true from by simpa using c0, cond_true]
        have q1 : goneE ws i e = e := by unfold goneE; rw [if_neg c0]
        have q2 : goneWs ws i e  = ws := by unfold goneWs; rw [if_neg c0]
        rw [q1, q2] at h; exact h
      have b := fi_in (he.trans c0)
      rw [hi] at b
      have b1 := b.1
      have b2 := b.2.1
      have b3 := b.2.2.1
      have hgw : word (getW ws i) = true := getW_word hw
      rw [c0] at h
      rw [c0, show ((0 : Int) != 0) = false from rfl, cond_false]
      rw [ho', inI_of (n := i) (by omega) (by omega), Bool.and_self, cond_true]
      by_cases c1 : getW ws i = 0
      · have q1 : goneE ws i 0 = 3 := by unfold goneE; rw [if_pos rfl, if_pos c1]
        have q2 : goneWs ws i 0 = ws := by unfold goneWs; rw [if_pos rfl, if_pos c1]
        rw [show (getW ws i == 0) = true from by simpa using c1, cond_true]
        rw [q1, q2] at h; exact h
      have q1 : goneE ws i 0 = 0 := by unfold goneE; rw [if_pos rfl, if_neg c1]
      have q2 : goneWs ws i 0 = putW ws i 0 := by unfold goneWs; rw [if_pos rfl, if_neg c1]
      rw [show (getW ws i == 0) = false from by simpa using c1, cond_false, cond_true, b1]
      rw [q1, q2] at h
      exact h
    · cases h
  · cases h
theorem gRefUntable_sound : FunSound Try.prog 41 (gUntableV opUE opUW) := by
  refine (runG_sound sO1_ok mix 100 41).fill.short fun args sub κ r h => ?_
  unfold gUntableV at h
  split at h
  · rename_i d a n x ws
    split at h
    · rename_i hc
      have hc' := hc
      simp only [Bool.and_eq_true] at hc
      obtain ⟨⟨⟨⟨ho, hd⟩, ha⟩, hO⟩, hw⟩ := hc
      have ho' := ho
      obtain ⟨rfl, hn⟩ := okM_spec ho
      refine (t_runtable fiA fiE seA seE eV eWr eA eE epW epE d a ws.length x ws _).trans ?_
      rw [hc', cond_true]
      have hE : opUE ws d a = goneE ws (fiA ws d a d) (fiE ws d a d) := rfl
      have hW : opUW ws d a = goneWs ws (fiA ws d a d) (fiE ws d a d)  := rfl
      rw [hE, hW] at h
      generalize hi : (fiA ws d a d) = i at h ⊢
      generalize he : (fiE ws d a d) = e at h ⊢
      by_cases c0 : e = 0
      rotate_left
      · rw [show (e != 0) = true from by simpa using c0, cond_true]
        have q1 : goneE ws i e = e := by unfold goneE; rw [if_neg c0]
        have q2 : goneWs ws i e  = ws := by unfold goneWs; rw [if_neg c0]
        rw [q1, q2] at h; exact h
      have b := fi_in (he.trans c0)
      rw [hi] at b
      have b1 := b.1
      have b2 := b.2.1
      have b3 := b.2.2.1
      have hgw : word (getW ws i) = true := getW_word hw
      rw [c0] at h
      rw [c0, show ((0 : Int) != 0) = false from rfl, cond_false]
      have hg : List.getD ws (0 + i.toNat) 0 = getW ws i := by unfold getW; rw [if_pos b1, Nat.zero_add]
      have hp : ∀ v, ws.set (0 + i.toNat) v = putW ws i v := fun v => by unfold putW; rw [if_pos b1, Nat.zero_add]
      rw [decide_eq_true b2, decide_eq_true b3, Bool.and_self, cond_true, decide_eq_true (show 0 + i.toNat < ws.length by omega), cond_true]
      rw [hg]
      by_cases c1 : getW ws i = 0
      · have q1 : goneE ws i 0 = 3 := by unfold goneE; rw [if_pos rfl, if_pos c1]
        have q2 : goneWs ws i 0 = ws := by unfold goneWs; rw [if_pos rfl, if_pos c1]
        rw [show (getW ws i == 0) = true from by simpa using c1, cond_true]
        rw [q1, q2] at h; exact h
      have q1 : goneE ws i 0 = 0 := by unfold goneE; rw [if_pos rfl, if_neg c1]
      have q2 : goneWs ws i 0 = putW ws i 0 := by unfold goneWs; rw [if_pos rfl, if_neg c1]
      rw [show (getW ws i == 0) = false from by simpa using c1, cond_false]
      rw [q1, q2] at h
      rw [cond_true, Bool.and_self, cond_true, hp]
      exact h
    · cases h
  · cases h
def opME (ws : List Int) (d a t : Int) : Int := setE ws (seA ws d a t) (seE ws d a t)
def opMW (ws : List Int) (d a t : Int) (wr : Bool) : List Int := setWs ws (seA ws d a t) (seE ws d a t) (epW true wr t)
def gMapV (E : List Int → Int → Int → Int → Int) (M : List Int → Int → Int → Int → Bool → List Int) : Fun := fun args sub κ => match args, sub with
  | [.e (.c (.ptr ⟨0, 0, 0, 0, 0, 0, 0⟩)), .e (.c (.int .i64 d)), .e (.c (.int .i64 a)), .e (.c (.int .i64 t)), .e (.c (.bool wr))], [some ⟨false, .mix [.slice ⟨1, 0, 1, 0, 0, 0, 0⟩ 1 n x true]⟩, some ⟨false, .rows [.ints .u64 ws]⟩] => match okM n ws && inI d && inI a && inI t && allW ws with
    | true => κ ⟨.e (.c (.int .i64 (E ws d a t))), [some (some ⟨false, .mix [.slice ⟨1, 0, 1, 0, 0, 0, 0⟩ 1 n x true]⟩), some (some ⟨false, .rows [.ints .u64 (M ws d a t wr)]⟩)]⟩
    | false => none
  | _, _ => none
theorem gMap_sound : FunSound Try.prog 11 (gMapV opME opMW) := by
  refine (runG_sound sO1_ok mix 100 11).fill.short fun args sub κ r h => ?_
  unfold gMapV at h
  split at h
  · rename_i d a t wr n x ws
    split at h
    · rename_i hc
      have hc' := hc
      simp only [Bool.and_eq_true] at hc
      obtain ⟨⟨⟨⟨ho, hd⟩, ha⟩, hO⟩, hw⟩ := hc
      have ho' := ho
      obtain ⟨rfl, hn⟩ := okM_spec ho
      refine (t_map fiA fiE seA seE eV eWr eA eE epW epE d a t wr ws.length x ws _).trans ?_
      rw [hc', cond_true]
      have hE : opME ws d a t = setE ws (seA ws d a t) (seE ws d a t) := rfl
      have hW : opMW ws d a t wr = setWs ws (seA ws d a t) (seE ws d a t) (epW true wr t) := rfl
      rw [hE, hW] at h
      generalize hi : (seA ws d a t) = i at h ⊢
      generalize he : (seE ws d a t) = e at h ⊢
      by_cases c0 : e = 0
      rotate_left
      · rw [show (e != 0) = true from by simpa using c0, cond_true]
        have q1 : setE ws i e = e := by unfold setE; rw [if_neg c0]
        have q2 : setWs ws i e (epW true wr t) = ws := by unfold setWs; rw [if_neg c0]
        rw [q1, q2] at h; exact h
      have b := se_in (he.trans c0)
      rw [hi] at b
      have b1 := b.1
      have b2 := b.2.1
      have b3 := b.2.2
      have hgw : word (getW ws i) = true := getW_word hw
      rw [c0] at h
      rw [c0, show ((0 : Int) != 0) = false from rfl, cond_false]
      rw [ho', inI_of (n := i) (by omega) (by omega), Bool.and_self, cond_true]
      by_cases c1 : getW ws i = 0
      rotate_left
      · have q1 : setE ws i 0 = 4 := by unfold setE; rw [if_pos rfl, if_neg c1]
        have q2 : setWs ws i 0 (epW true wr t) = ws := by unfold setWs; rw [if_pos rfl, if_neg c1]
        rw [show (getW ws i != 0) = true from by simpa using c1, cond_true]
        rw [q1, q2] at h; exact h
      have q1 : setE ws i 0 = 0 := by unfold setE; rw [if_pos rfl, if_pos c1]
      have q2 : setWs ws i 0 (epW true wr t) = putW ws i (epW true wr t) := by unfold setWs; rw [if_pos rfl, if_pos c1]
      rw [show (getW ws i != 0) = false from by simpa using c1, cond_false, hO, cond_true, cond_true, b1]
      rw [q1, q2] at h
      exact h
    · cases h
  · cases h
theorem gRefMap_sound : FunSound Try.prog 42 (gMapV opME opMW) := by
  refine (runG_sound sO1_ok mix 100 42).fill.short fun args sub κ r h => ?_
  unfold gMapV at h
  split at h
  · rename_i d a t wr n x ws
    split at h
    · rename_i hc
      have hc' := hc
      simp only [Bool.and_eq_true] at hc
      obtain ⟨⟨⟨⟨ho, hd⟩, ha⟩, hO⟩, hw⟩ := hc
      have ho' := ho
      obtain ⟨rfl, hn⟩ := okM_spec ho
      refine (t_rmap fiA fiE seA seE eV eWr eA eE epW epE d a t wr ws.length x ws _).trans ?_
      rw [hc', cond_true]
      have hE : opME ws d a t = setE ws (seA ws d a t) (seE ws d a t) := rfl
      have hW : opMW ws d a t wr = setWs ws (seA ws d a t) (seE ws d a t) (epW true wr t) := rfl
      rw [hE, hW] at h
      generalize hi : (seA ws d a t) = i at h ⊢
      generalize he : (seE ws d a t) = e at h ⊢
      by_cases c0 : e = 0
      rotate_left
      · rw [show (e != 0) = true from by simpa using c0, cond_true]
        have q1 : setE ws i e = e := by unfold setE; rw [if_neg c0]
        have q2 : setWs ws i e (epW true wr t) = ws := by unfold setWs; rw [if_neg c0]
        rw [q1, q2] at h; exact h
      have b := se_in (he.trans c0)
      rw [hi] at b
      have b1 := b.1
      have b2 := b.2.1
      have b3 := b.2.2
      have hgw : word (getW ws i) = true := getW_word hw
      rw [c0] at h
      rw [c0, show ((0 : Int) != 0) = false from rfl, cond_false]
      have hg : List.getD ws (0 + i.toNat) 0 = getW ws i := by unfold getW; rw [if_pos b1, Nat.zero_add]
      have hp : ∀ v, ws.set (0 + i.toNat) v = putW ws i v := fun v => by unfold putW; rw [if_pos b1, Nat.zero_add]
      rw [decide_eq_true b2, decide_eq_true b3, Bool.and_self, cond_true, decide_eq_true (show 0 + i.toNat < ws.length by omega), cond_true]
      rw [hg]
      by_cases c1 : getW ws i = 0
      rotate_left
      · have q1 : setE ws i 0 = 4 := by unfold setE; rw [if_pos rfl, if_neg c1]
        have q2 : setWs ws i 0 (epW true wr t) = ws := by unfold setWs; rw [if_pos rfl, if_neg c1]
        rw [show (getW ws i != 0) = true from by simpa using c1, cond_true]
        rw [q1, q2] at h; exact h
      have q1 : setE ws i 0 = 0 := by unfold setE; rw [if_pos rfl, if_pos c1]
      have q2 : setWs ws i 0 (epW true wr t) = putW ws i (epW true wr t) := by unfold setWs; rw [if_pos rfl, if_pos c1]
      rw [show (getW ws i != 0) = false from by simpa using c1, cond_false, hO, cond_true]
      rw [q1, q2] at h
      rw [cond_true, Bool.and_self, cond_true, hp]
      exact h
    · cases h
  · cases h
def opNE (ws : List Int) (d a : Int) : Int := goneE ws (seA ws d a d) (seE ws d a d)
def opNW (ws : List Int) (d a : Int) : List Int := goneWs ws (seA ws d a d) (seE ws d a d) 
def gUnmapV (E : List Int → Int → Int → Int) (M : List Int → Int → Int → List Int) : Fun := fun args sub κ => match args, sub with
  | [.e (.c (.ptr ⟨0, 0, 0, 0, 0, 0, 0⟩)), .e (.c (.int .i64 d)), .e (.c (.int .i64 a))], [some ⟨false, .mix [.slice ⟨1, 0, 1, 0, 0, 0, 0⟩ 1 n x true]⟩, some ⟨false, .rows [.ints .u64 ws]⟩] => match okM n ws && inI d && inI a && inI d && allW ws with
    | true => κ ⟨.e (.c (.int .i64 (E ws d a))), [some (some ⟨false, .mix [.slice ⟨1, 0, 1, 0, 0, 0, 0⟩ 1 n x true]⟩), some (some ⟨false, .rows [.ints .u64 (M ws d a)]⟩)]⟩
    | false => none
  | _, _ => none
theorem gUnmap_sound : FunSound Try.prog 14 (gUnmapV opNE opNW) := by
  refine (runG_sound sO1_ok mix 100 14).fill.short fun args sub κ r h => ?_
  unfold gUnmapV at h
  split at h
  · rename_i d a n x ws
    split at h
    · rename_i hc
      have hc' := hc
      simp only [Bool.and_eq_true] at hc
      obtain ⟨⟨⟨⟨ho, hd⟩, ha⟩, hO⟩, hw⟩ := hc
      have ho' := ho
      obtain ⟨rfl, hn⟩ := okM_spec ho
      refine (t_unmap fiA fiE seA seE eV eWr eA eE epW epE d a ws.length x ws _).trans ?_
      rw [hc', cond_true]
      have hE : opNE ws d a = goneE ws (seA ws d a d) (seE ws d a d) := rfl
      have hW : opNW ws d a = goneWs ws (seA ws d a d) (seE ws d a d)  := rfl
      rw [hE, hW] at h
      generalize hi : (seA ws d a d) = i at h ⊢
      generalize he : (seE ws d a d) = e at h ⊢
      by_cases c0 : e = 0
      rotate_left
      · rw [show (e != 0) = true from by simpa using c0, cond_true]
        have q1 : goneE ws i e = e := by unfold goneE; rw [if_neg c0]
        have q2 : goneWs ws i e  = ws := by unfold goneWs; rw [if_neg c0]
        rw [q1, q2] at h; exact h
      have b := se_in (he.trans c0)
      rw [hi] at b
      have b1 := b.1
      have b2 := b.2.1
      have b3 := b.2.2
      have hgw : word (getW ws i) = true := getW_word hw
      rw [c0] at h
      rw [c0, show ((0 : Int) != 0) = false from rfl, cond_false]
      rw [ho', inI_of (n := i) (by omega) (by omega), Bool.and_self, cond_true]
      by_cases c1 : getW ws i = 0
      · have q1 : goneE ws i 0 = 3 := by unfold goneE; rw [if_pos rfl, if_pos c1]
        have q2 : goneWs ws i 0 = ws := by unfold goneWs; rw [if_pos rfl, if_pos c1]
        rw [show (getW ws i == 0) = true from by simpa using c1, cond_true]
        rw [q1, q2] at h; exact h
      have q1 : goneE ws i 0 = 0 := by unfold goneE; rw [if_pos rfl, if_neg c1]
      have q2 : goneWs ws i 0 = putW ws i 0 := by unfold goneWs; rw [if_pos rfl, if_neg c1]
      rw [show (getW ws i == 0) = false from by simpa using c1, cond_false, cond_true, b1]
      rw [q1, q2] at h
      exact h
    · cases h
  · cases h
theorem gRefUnmap_sound : FunSound Try.prog 43 (gUnmapV opNE opNW) := by
  refine (runG_sound sO1_ok mix 100 43).fill.short fun args sub κ r h => ?_
  unfold gUnmapV at h
  split at h
  · rename_i d a n x ws
    split at h
    · rename_i hc
      have hc' := hc
      simp only [Bool.and_eq_true] at hc
      obtain ⟨⟨⟨⟨ho, hd⟩, ha⟩, hO⟩, hw⟩ := hc
      have ho' := ho
      obtain ⟨rfl, hn⟩ := okM_spec ho
      refine (t_runmap fiA fiE seA seE eV eWr eA eE epW epE d a ws.length x ws _).trans ?_
      rw [hc', cond_true]
      have hE : opNE ws d a = goneE ws (seA ws d a d) (seE ws d a d) := rfl
      have hW : opNW ws d a = goneWs ws (seA ws d a d) (seE ws d a d)  := rfl
      rw [hE, hW] at h
      generalize hi : (seA ws d a d) = i at h ⊢
      generalize he : (seE ws d a d) = e at h ⊢
      by_cases c0 : e = 0
      rotate_left
      · rw [show (e != 0) = true from by simpa using c0, cond_true]
        have q1 : goneE ws i e = e := by unfold goneE; rw [if_neg c0]
        have q2 : goneWs ws i e  = ws := by unfold goneWs; rw [if_neg c0]
        rw [q1, q2] at h; exact h
      have b := se_in (he.trans c0)
      rw [hi] at b
      have b1 := b.1
      have b2 := b.2.1
      have b3 := b.2.2
      have hgw : word (getW ws i) = true := getW_word hw
      rw [c0] at h
      rw [c0, show ((0 : Int) != 0) = false from rfl, cond_false]
      have hg : List.getD ws (0 + i.toNat) 0 = getW ws i := by unfold getW; rw [if_pos b1, Nat.zero_add]
      have hp : ∀ v, ws.set (0 + i.toNat) v = putW ws i v := fun v => by unfold putW; rw [if_pos b1, Nat.zero_add]
      rw [decide_eq_true b2, decide_eq_true b3, Bool.and_self, cond_true, decide_eq_true (show 0 + i.toNat < ws.length by omega), cond_true]
      rw [hg]
      by_cases c1 : getW ws i = 0
      · have q1 : goneE ws i 0 = 3 := by unfold goneE; rw [if_pos rfl, if_pos c1]
        have q2 : goneWs ws i 0 = ws := by unfold goneWs; rw [if_pos rfl, if_pos c1]
        rw [show (getW ws i == 0) = true from by simpa using c1, cond_true]
        rw [q1, q2] at h; exact h
      have q1 : goneE ws i 0 = 0 := by unfold goneE; rw [if_pos rfl, if_neg c1]
      have q2 : goneWs ws i 0 = putW ws i 0 := by unfold goneWs; rw [if_pos rfl, if_neg c1]
      rw [show (getW ws i == 0) = false from by simpa using c1, cond_false]
      rw [q1, q2] at h
      rw [cond_true, Bool.and_self, cond_true, hp]
      exact h
    · cases h
  · cases h
def opRE (ws : List Int) (d a : Int) : Int := remE ws (seA ws d a d) (seE ws d a d)
def opRW (ws : List Int) (d a : Int) (wr : Bool) : List Int := remWs ws (seA ws d a d) (seE ws d a d) wr
def gRemapV (E : List Int → Int → Int → Int) (M : List Int → Int → Int → Bool → List Int) : Fun := fun args sub κ => match args, sub with
  | [.e (.c (.ptr ⟨0, 0, 0, 0, 0, 0, 0⟩)), .e (.c (.int .i64 d)), .e (.c (.int .i64 a)), .e (.c (.bool wr))], [some ⟨false, .mix [.slice ⟨1, 0, 1, 0, 0, 0, 0⟩ 1 n x true]⟩, some ⟨false, .rows [.ints .u64 ws]⟩] => match okM n ws && inI d && inI a && inI d && allW ws with
    | true => κ ⟨.e (.c (.int .i64 (E ws d a))), [some (some ⟨false, .mix [.slice ⟨1, 0, 1, 0, 0, 0, 0⟩ 1 n x true]⟩), some (some ⟨false, .rows [.ints .u64 (M ws d a wr)]⟩)]⟩
    | false => none
  | _, _ => none
theorem gRemap_sound : FunSound Try.prog 18 (gRemapV opRE opRW) := by
  refine (runG_sound sO1_ok mix 100 18).fill.short fun args sub κ r h => ?_
  unfold gRemapV at h
  split at h
  · rename_i d a wr n x ws
    split at h
    · rename_i hc
      have hc' := hc
      simp only [Bool.and_eq_true] at hc
      obtain ⟨⟨⟨⟨ho, hd⟩, ha⟩, hO⟩, hw⟩ := hc
      have ho' := ho
      obtain ⟨rfl, hn⟩ := okM_spec ho
      refine (t_remap fiA fiE seA seE eV eWr eA eE epW epE d a wr ws.length x ws _).trans ?_
      rw [hc', cond_true]
      have hE : opRE ws d a = remE ws (seA ws d a d) (seE ws d a d) := rfl
      have hW : opRW ws d a wr = remWs ws (seA ws d a d) (seE ws d a d) wr := rfl
      rw [hE, hW] at h
      generalize hi : (seA ws d a d) = i at h ⊢
      generalize he : (seE ws d a d) = e at h ⊢
      by_cases c0 : e = 0
      rotate_left
      · rw [show (e != 0) = true from by simpa using c0, cond_true]
        have q1 : remE ws i e = e := by unfold remE; rw [if_neg c0]
        have q2 : remWs ws i e wr = ws := by unfold remWs; rw [if_neg c0]
        rw [q1, q2] at h; exact h
      have b := se_in (he.trans c0)
      rw [hi] at b
      have b1 := b.1
      have b2 := b.2.1
      have b3 := b.2.2
      have hgw : word (getW ws i) = true := getW_word hw
      rw [c0] at h
      rw [c0, show ((0 : Int) != 0) = false from rfl, cond_false]
      rw [ho', inI_of (n := i) (by omega) (by omega), Bool.and_self, cond_true]
      rw [hgw, cond_true]
      by_cases c1 : getW ws i = 0
      · have q1 : remE ws i 0 = 3 := by unfold remE; rw [if_pos rfl, if_pos c1]
        have q2 : remWs ws i 0 wr = ws := by unfold remWs; rw [if_pos rfl, if_pos c1]
        rw [show (getW ws i == 0) = true from by simpa using c1, cond_true]
        rw [q1, q2] at h; exact h
      rw [show (getW ws i == 0) = false from by simpa using c1, cond_false]
      by_cases c2 : eE (getW ws i) = 0
      rotate_left
      · have q1 : remE ws i 0 = 12 := by unfold remE; rw [if_pos rfl, if_neg c1, if_neg c2]
        have q2 : remWs ws i 0 wr = ws := by unfold remWs; rw [if_pos rfl, if_neg c1, if_neg c2]
        rw [show (eE (getW ws i) != 0) = true from by simpa using c2, cond_true]
        rw [q1, q2] at h; exact h
      have q1 : remE ws i 0 = 0 := by unfold remE; rw [if_pos rfl, if_neg c1, if_pos c2]
      have q2 : remWs ws i 0 wr = putW ws i (epW true wr (eA (getW ws i))) := by unfold remWs; rw [if_pos rfl, if_neg c1, if_pos c2]
      rw [show (eE (getW ws i) != 0) = false from by simpa using c2, cond_false, inI_eA0 (u64wf hgw).1, cond_true, cond_true, b1]
      rw [q1, q2] at h
      exact h
    · cases h
  · cases h
theorem gRefRemap_sound : FunSound Try.prog 44 (gRemapV opRE opRW) := by
  refine (runG_sound sO1_ok mix 100 44).fill.short fun args sub κ r h => ?_
  unfold gRemapV at h
  split at h
  · rename_i d a wr n x ws
    split at h
    · rename_i hc
      have hc' := hc
      simp only [Bool.and_eq_true] at hc
      obtain ⟨⟨⟨⟨ho, hd⟩, ha⟩, hO⟩, hw⟩ := hc
      have ho' := ho
      obtain ⟨rfl, hn⟩ := okM_spec ho
      refine (t_rremap fiA fiE seA seE eV eWr eA eE epW epE d a wr ws.length x ws _).trans ?_
      rw [hc', cond_true]
      have hE : opRE ws d a = remE ws (seA ws d a d) (seE ws d a d) := rfl
      have hW : opRW ws d a wr = remWs ws (seA ws d a d) (seE ws d a d) wr := rfl
      rw [hE, hW] at h
      generalize hi : (seA ws d a d) = i at h ⊢
      generalize he : (seE ws d a d) = e at h ⊢
      by_cases c0 : e = 0
      rotate_left
      · rw [show (e != 0) = true from by simpa using c0, cond_true]
        have q1 : remE ws i e = e := by unfold remE; rw [if_neg c0]
        have q2 : remWs ws i e wr = ws := by unfold remWs; rw [if_neg c0]
        rw [q1, q2] at h; exact h
      have b := se_in (he.trans c0)
      rw [hi] at b
      have b1 := b.1
      have b2 := b.2.1
      have b3 := b.2.2
      have hgw : word (getW ws i) = true := getW_word hw
      rw [c0] at h
      rw [c0, show ((0 : Int) != 0) = false from rfl, cond_false]
      have hg : List.getD ws (0 + i.toNat) 0 = getW ws i := by unfold getW; rw [if_pos b1, Nat.zero_add]
      have hp : ∀ v, ws.set (0 + i.toNat) v = putW ws i v := fun v => by unfold putW; rw [if_pos b1, Nat.zero_add]
      rw [decide_eq_true b2, decide_eq_true b3, Bool.and_self, cond_true, decide_eq_true (show 0 + i.toNat < ws.length by omega), cond_true]
      rw [hg]
      rw [hgw, cond_true, cond_true, cond_true]
      by_cases c1 : getW ws i = 0
      · have q1 : remE ws i 0 = 3 := by unfold remE; rw [if_pos rfl, if_pos c1]
        have q2 : remWs ws i 0 wr = ws := by unfold remWs; rw [if_pos rfl, if_pos c1]
        rw [show (getW ws i == 0) = true from by simpa using c1, cond_true]
        rw [q1, q2] at h; exact h
      rw [show (getW ws i == 0) = false from by simpa using c1, cond_false]
      by_cases c2 : eE (getW ws i) = 0
      rotate_left
      · have q1 : remE ws i 0 = 12 := by unfold remE; rw [if_pos rfl, if_neg c1, if_neg c2]
        have q2 : remWs ws i 0 wr = ws := by unfold remWs; rw [if_pos rfl, if_neg c1, if_neg c2]
        rw [show (eE (getW ws i) != 0) = true from by simpa using c2, cond_true]
        rw [q1, q2] at h; exact h
      have q1 : remE ws i 0 = 0 := by unfold remE; rw [if_pos rfl, if_neg c1, if_pos c2]
      have q2 : remWs ws i 0 wr = putW ws i (epW true wr (eA (getW ws i))) := by unfold remWs; rw [if_pos rfl, if_neg c1, if_pos c2]
      rw [show (eE (getW ws i) != 0) = false from by simpa using c2, cond_false, inI_eA0 (u64wf hgw).1, cond_true]
      rw [q1, q2] at h
      rw [cond_true, Bool.and_self, cond_true, hp]
      exact h
    · cases h
  · cases h
end Go.Proofs.Ytmpmnjekcajlgaa.Wlk
