/- Lines of interrupts: taken, written in a word: told in short. -/
import Derived.Test.YtanchmbopllimaaIqD
set_option linter.unusedVariables false
set_option linter.unusedSimpArgs false
set_option maxRecDepth 100000
namespace Go.Proofs.Ytanchmbopllimaa.Wlk
open Go Go.Eng Go.Proofs Go.RowKit
theorem nxI_le (d : Int) : ∀ (j : Nat) (os : List Int) (ms : List Bool) (ts : List Nat), nxI d j os ms ts = 8 ∨ nxI d j os ms ts < j + os.length
  | j, [], _, _ => by simp [nxI]
  | j, _ :: _, [], _ => by simp [nxI]
  | j, _ :: _, _ :: _, [] => by simp [nxI]
  | j, o :: os, m :: ms, t :: ts => by
    rw [nxI]
    split
    · right; simp
    · rcases nxI_le d (j + 1) os ms ts with h | h
      · exact .inl h
      · right; simp only [List.length_cons]; omega
def gNext : Fun := fun args sub κ => match args with
  | [.e (.c (.ptr ⟨0, 0, 0, 0, 0, 0, 0⟩)), .e (.c (.int .i64 d))] => match unQ sub with
    | some (os, ms, ts) => κ ⟨.tup [.c (.int .i64 (nxV (nxI d 0 os ms ts))), .c (.bool (Nat.ble (nxI d 0 os ms ts + 1) 8))], somes (qSub os (setN (nxI d 0 os ms ts) true 0 ms) (dnT (nxI d 0 os ms ts) 0 ts))⟩
    | none => none
  | _ => none
theorem gNext_sound : FunSound Try.prog 11 gNext := by
  intro args sub κ r h
  unfold gNext at h
  split at h
  · rename_i d
    split at h
    · rename_i os ms ts hq
      obtain ⟨rfl, l1, l2, l3⟩ := unQ_spec hq
      obtain ⟨o0, o1, o2, o3, o4, o5, o6, o7, rfl⟩ := len8 l1
      obtain ⟨m0, m1, m2, m3, m4, m5, m6, m7, rfl⟩ := len8 l2
      obtain ⟨t0, t1, t2, t3, t4, t5, t6, t7, rfl⟩ := len8 l3
      generalize hX : nxI d 0 [o0, o1, o2, o3, o4, o5, o6, o7] [m0, m1, m2, m3, m4, m5, m6, m7] [t0, t1, t2, t3, t4, t5, t6, t7] = X at h
      have hle : X = 0 ∨ X = 1 ∨ X = 2 ∨ X = 3 ∨ X = 4 ∨ X = 5 ∨ X = 6 ∨ X = 7 ∨ X = 8 := by
        rcases nxI_le d 0 [o0, o1, o2, o3, o4, o5, o6, o7] [m0, m1, m2, m3, m4, m5, m6, m7] [t0, t1, t2, t3, t4, t5, t6, t7] with h | h <;> rw [hX] at h
        · omega
        · simp only [List.length_cons, List.length_nil] at h; omega
      have hs := fun X => (runL_sound sNil_ok mix 60 11 nx_dis (lNx_for X)).fill
      rcases hle with rfl | rfl | rfl | rfl | rfl | rfl | rfl | rfl | rfl
      · exact hs 0 _ _ κ r ((t_nxt0 d o0 o1 o2 o3 o4 o5 o6 o7 m0 m1 m2 m3 m4 m5 m6 m7 t0 t1 t2 t3 t4 t5 t6 t7 κ).trans (by rw [decide_eq_true hX, Bool.and_self, cT]; exact h))
      · exact hs 1 _ _ κ r ((t_nxt1 d o0 o1 o2 o3 o4 o5 o6 o7 m0 m1 m2 m3 m4 m5 m6 m7 t0 t1 t2 t3 t4 t5 t6 t7 κ).trans (by rw [decide_eq_true hX, Bool.and_self, cT]; exact h))
      · exact hs 2 _ _ κ r ((t_nxt2 d o0 o1 o2 o3 o4 o5 o6 o7 m0 m1 m2 m3 m4 m5 m6 m7 t0 t1 t2 t3 t4 t5 t6 t7 κ).trans (by rw [decide_eq_true hX, Bool.and_self, cT]; exact h))
      · exact hs 3 _ _ κ r ((t_nxt3 d o0 o1 o2 o3 o4 o5 o6 o7 m0 m1 m2 m3 m4 m5 m6 m7 t0 t1 t2 t3 t4 t5 t6 t7 κ).trans (by rw [decide_eq_true hX, Bool.and_self, cT]; exact h))
      · exact hs 4 _ _ κ r ((t_nxt4 d o0 o1 o2 o3 o4 o5 o6 o7 m0 m1 m2 m3 m4 m5 m6 m7 t0 t1 t2 t3 t4 t5 t6 t7 κ).trans (by rw [decide_eq_true hX, Bool.and_self, cT]; exact h))
      · exact hs 5 _ _ κ r ((t_nxt5 d o0 o1 o2 o3 o4 o5 o6 o7 m0 m1 m2 m3 m4 m5 m6 m7 t0 t1 t2 t3 t4 t5 t6 t7 κ).trans (by rw [decide_eq_true hX, Bool.and_self, cT]; exact h))
      · exact hs 6 _ _ κ r ((t_nxt6 d o0 o1 o2 o3 o4 o5 o6 o7 m0 m1 m2 m3 m4 m5 m6 m7 t0 t1 t2 t3 t4 t5 t6 t7 κ).trans (by rw [decide_eq_true hX, Bool.and_self, cT]; exact h))
      · exact hs 7 _ _ κ r ((t_nxt7 d o0 o1 o2 o3 o4 o5 o6 o7 m0 m1 m2 m3 m4 m5 m6 m7 t0 t1 t2 t3 t4 t5 t6 t7 κ).trans (by rw [decide_eq_true hX, Bool.and_self, cT]; exact h))
      · exact hs 8 _ _ κ r ((t_nxt8 d o0 o1 o2 o3 o4 o5 o6 o7 m0 m1 m2 m3 m4 m5 m6 m7 t0 t1 t2 t3 t4 t5 t6 t7 κ).trans (by rw [decide_eq_true hX, Bool.and_self, cT]; exact h))
    · cases h
  · cases h
def gWord : Fun := fun args sub κ => match args with
  | [.e (.c (.ptr ⟨0, 0, 0, 0, 0, 0, 0⟩)), .e (.c (.clos f []))] => match unQ sub with
    | some (os, ms, ts) => match Nat.beq f 26 with
      | true => κ ⟨aint .u64 (wd 0 0 (bitsT ts)), somes (qSub os ms ts)⟩
      | false => match Nat.beq f 27 with
        | true => κ ⟨aint .u64 (wd 0 0 ms), somes (qSub os ms ts)⟩
        | false => none
    | none => none
  | _ => none
theorem gWord_sound : FunSound Try.prog 25 gWord := by
  refine (runL_sound sWf_ok mix 60 25 wf_dis lWord_for).fill.short fun args sub κ r h => ?_
  unfold gWord at h
  split at h
  · rename_i f
    split at h
    · rename_i os ms ts hq
      obtain ⟨rfl, l1, l2, l3⟩ := unQ_spec hq
      obtain ⟨o0, o1, o2, o3, o4, o5, o6, o7, rfl⟩ := len8 l1
      obtain ⟨m0, m1, m2, m3, m4, m5, m6, m7, rfl⟩ := len8 l2
      obtain ⟨t0, t1, t2, t3, t4, t5, t6, t7, rfl⟩ := len8 l3
      split at h
      · rename_i hf
        have hf := Nat.eq_of_beq_eq_true hf
        subst hf
        exact (t_wpend o0 o1 o2 o3 o4 o5 o6 o7 m0 m1 m2 m3 m4 m5 m6 m7 t0 t1 t2 t3 t4 t5 t6 t7 κ).trans h
      · split at h
        · rename_i hf
          have hf := Nat.eq_of_beq_eq_true hf
          subst hf
          exact (t_wmask o0 o1 o2 o3 o4 o5 o6 o7 m0 m1 m2 m3 m4 m5 m6 m7 t0 t1 t2 t3 t4 t5 t6 t7 κ).trans h
        · cases h
    · cases h
  · cases h
def gNew : Fun := fun args sub κ => match args, sub with
  | [], [] => κ ⟨pq, somes (qSub [-1, -1, -1, -1, -1, -1, -1, -1] [true, true, true, true, true, true, true, true] [0, 0, 0, 0, 0, 0, 0, 0])⟩
  | _, _ => none
theorem gNew_sound : FunSound Try.prog 8 gNew := by
  refine (runF_sound sNil_ok mix 60 8).short fun args sub κ r h => ?_
  unfold gNew at h
  split at h
  · exact (t_new κ).trans h
  · cases h
noncomputable def sQ : Summ := sAdd (sAdd (sAdd (sAdd (sAdd (sAdd sNil 8 gNew) 9 gOwn) 10 gRaise) 11 gNext) 12 gAck) 20 gOwner
theorem sQ_ok : SummOk Try.prog sQ := sAdd_ok (sAdd_ok (sAdd_ok (sAdd_ok (sAdd_ok (sAdd_ok sNil_ok gNew_sound (enters Try.func8 rfl (by kernel_rfl))) gOwn_sound (enters Try.func9 rfl (by kernel_rfl))) gRaise_sound (enters Try.func10 rfl (by kernel_rfl))) gNext_sound (enters Try.func11 rfl (by kernel_rfl))) gAck_sound (enters Try.func12 rfl (by kernel_rfl))) gOwner_sound (enters Try.func20 rfl (by kernel_rfl))
noncomputable def sWd : Summ := sAdd sNil 25 gWord
theorem sWd_ok : SummOk Try.prog sWd := sAdd_ok sNil_ok gWord_sound (enters Try.func25 rfl (by kernel_rfl))
noncomputable def sQ2 : Summ := sAdd (sAdd sQ 13 (runF Try.prog sWd 30 13)) 14 (runF Try.prog sWd 30 14)
theorem sQ2_ok : SummOk Try.prog sQ2 := sAdd_ok (sAdd_ok sQ_ok (runF_sound sWd_ok mix _ _) (enters Try.func13 rfl (by kernel_rfl))) (runF_sound sWd_ok mix _ _) (enters Try.func14 rfl (by kernel_rfl))
theorem t_works (k : Res → Option Res) : runF Try.prog sQ2 60 7 [] [] k = (k (Res.mk (AV.e (AE.c (AC.bool true))) [(some (some (Block.mk false (Data.mix [(AC.chan (Loc.mk 1 0 0 0 0 0 0)), (AC.int (IntKind.i64) (-1)), (AC.bool true), (AC.chan (Loc.mk 2 0 0 0 0 0 0)), (AC.int (IntKind.i64) (-1)), (AC.bool true), (AC.chan (Loc.mk 3 0 0 0 0 0 0)), (AC.int (IntKind.i64) (-1)), (AC.bool true), (AC.chan (Loc.mk 4 0 0 0 0 0 0)), (AC.int (IntKind.i64) (1)), (AC.bool true), (AC.chan (Loc.mk 5 0 0 0 0 0 0)), (AC.int (IntKind.i64) (-1)), (AC.bool true), (AC.chan (Loc.mk 6 0 0 0 0 0 0)), (AC.int (IntKind.i64) (-1)), (AC.bool true), (AC.chan (Loc.mk 7 0 0 0 0 0 0)), (AC.int (IntKind.i64) (-1)), (AC.bool true), (AC.chan (Loc.mk 8 0 0 0 0 0 0)), (AC.int (IntKind.i64) (-1)), (AC.bool true)])))), (some (some (Block.mk false (Data.chan 1 0)))), (some (some (Block.mk false (Data.chan 1 0)))), (some (some (Block.mk false (Data.chan 1 0)))), (some (some (Block.mk false (Data.chan 1 0)))), (some (some (Block.mk false (Data.chan 1 0)))), (some (some (Block.mk false (Data.chan 1 1)))), (some (some (Block.mk false (Data.chan 1 0)))), (some (some (Block.mk false (Data.chan 1 0))))])) := by kernel_rfl
end Go.Proofs.Ytanchmbopllimaa.Wlk
