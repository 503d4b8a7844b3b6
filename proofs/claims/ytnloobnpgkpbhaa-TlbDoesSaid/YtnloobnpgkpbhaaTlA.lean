/- What is kept: the first place that a test finds. -/
import Derived.Test.YtnloobnpgkpbhaaMadeB
import Derived.Test.YtnloobnpgkpbhaaEngG
set_option linter.unusedVariables false
set_option linter.unusedSimpArgs false
set_option maxRecDepth 100000
namespace Go.Proofs.Ytnloobnpgkpbhaa.Wlk
open Go Go.Eng Go.Proofs Go.RowKit
abbrev agK (s p : Int) (v w : Bool) (a : Int) : AV := .e (.agg [.int .i64 s, .int .i64 p, .bool v, .bool w, .int .i64 a])
noncomputable def iIx3 : LI := ⟨3, nT 35, [0, 1, 7, 8], [], [4]⟩
noncomputable def iIx2 : LI := ⟨2, nT 35, [0, 1, 7, 8], [], [4]⟩
abbrev kS (n e : Nat) : AV := .e (.c (.slice ⟨0, 0, 5, 0, 0, 0, 0⟩ 5 n e false))
abbrev kB (s p : List Int) (v w : List Bool) (a : List Int) : Option Block := some ⟨false, .rows [.ints .i64 s, .ints .i64 p, .bools v, .bools w, .ints .i64 a]⟩
abbrev bI (x : Int) : Option Block := some ⟨false, .mix [.int .i64 x]⟩
def gKey : Fun := fun args sub κ => match args, sub with
  | [.e (.agg [.int .i64 s, .int .i64 p, .bool v, .bool w, .int .i64 a]), .e (.c (.ptr ⟨0, 0, 0, 0, 0, 0, 0⟩)), .e (.c (.ptr ⟨1, 0, 0, 0, 0, 0, 0⟩))], [some ⟨false, .mix [.int .i64 x]⟩, some ⟨false, .mix [.int .i64 y]⟩] => κ ⟨.e (.c (.bool (s == x && p == y))), [none, none]⟩
  | _, _ => none
def gSpc : Fun := fun args sub κ => match args, sub with
  | [.e (.agg [.int .i64 s, .int .i64 p, .bool v, .bool w, .int .i64 a]), .e (.c (.ptr ⟨0, 0, 0, 0, 0, 0, 0⟩))], [some ⟨false, .mix [.int .i64 x]⟩] => κ ⟨.e (.c (.bool (s == x))), [none]⟩
  | _, _ => none
theorem t_getF (x y : Int) (s p : Int) (v w : Bool) (a : Int) (K : Res → Option Res) : runG Try.prog sNil 60 36 [agK s p v w a, .e (.c (.ptr ⟨0, 0, 0, 0, 0, 0, 0⟩)), .e (.c (.ptr ⟨1, 0, 0, 0, 0, 0, 0⟩))] [bI x, bI y] K = (K (Res.mk (AV.e (AE.c (AC.bool (s == x && (p == y && true))))) [(none), (none)])) := by kernel_rfl
theorem t_dropF (x y : Int) (s p : Int) (v w : Bool) (a : Int) (K : Res → Option Res) : runG Try.prog sNil 60 46 [agK s p v w a, .e (.c (.ptr ⟨0, 0, 0, 0, 0, 0, 0⟩)), .e (.c (.ptr ⟨1, 0, 0, 0, 0, 0, 0⟩))] [bI x, bI y] K = (K (Res.mk (AV.e (AE.c (AC.bool (s == x && (p == y && true))))) [(none), (none)])) := by kernel_rfl
theorem t_flushF (x : Int) (s p : Int) (v w : Bool) (a : Int) (K : Res → Option Res) : runG Try.prog sNil 60 38 [agK s p v w a, .e (.c (.ptr ⟨0, 0, 0, 0, 0, 0, 0⟩))] [bI x] K = (K (Res.mk (AV.e (AE.c (AC.bool (s == x)))) [(none)])) := by kernel_rfl
theorem gGetF_sound : FunSound Try.prog 36 gKey := by
  refine (runG_sound sNil_ok mix 60 36).short fun args sub κ r h => ?_
  unfold gKey at h
  split at h
  · rename_i s p v w a x y
    refine (t_getF x y s p v w a κ).trans ?_
    rw [Bool.and_true]; exact h
  · cases h
theorem gDropF_sound : FunSound Try.prog 46 gKey := by
  refine (runG_sound sNil_ok mix 60 46).short fun args sub κ r h => ?_
  unfold gKey at h
  split at h
  · rename_i s p v w a x y
    refine (t_dropF x y s p v w a κ).trans ?_
    rw [Bool.and_true]; exact h
  · cases h
theorem gFlushF_sound : FunSound Try.prog 38 gSpc := by
  refine (runG_sound sNil_ok mix 60 38).short fun args sub κ r h => ?_
  unfold gSpc at h
  split at h
  · rename_i s p v w a x
    exact (t_flushF x s p v w a κ).trans h
  · cases h
noncomputable def sKf : Summ := sAdd (sAdd (sAdd sNil 36 gKey) 46 gKey) 38 gSpc
theorem sKf_ok : SummOk Try.prog sKf := sAdd_ok (sAdd_ok (sAdd_ok sNil_ok gGetF_sound (enters Try.func36 rfl (by kernel_rfl))) gDropF_sound (enters Try.func46 rfl (by kernel_rfl))) gFlushF_sound (enters Try.func38 rfl (by kernel_rfl))
end Go.Proofs.Ytnloobnpgkpbhaa.Wlk
