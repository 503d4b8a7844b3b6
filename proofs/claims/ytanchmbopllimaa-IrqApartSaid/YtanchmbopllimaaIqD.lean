/- Lines of interrupts: raised, taken, written in a word. -/
import Derived.Test.YtanchmbopllimaaIqC
set_option linter.unusedVariables false
set_option linter.unusedSimpArgs false
set_option maxRecDepth 100000
namespace Go.Proofs.Ytanchmbopllimaa.Wlk
open Go Go.Eng Go.Proofs Go.RowKit
theorem gRaise_sound : FunSound Try.prog 10 gRaise := by
  intro args sub κ r h
  unfold gRaise at h
  split at h
  · rename_i n
    split at h
    · rename_i os ms ts hq
      obtain ⟨rfl, l1, l2, l3⟩ := unQ_spec hq
      obtain ⟨o0, o1, o2, o3, o4, o5, o6, o7, rfl⟩ := len8 l1
      obtain ⟨m0, m1, m2, m3, m4, m5, m6, m7, rfl⟩ := len8 l2
      obtain ⟨t0, t1, t2, t3, t4, t5, t6, t7, rfl⟩ := len8 l3
      by_cases c1 : inL n = true
      · have hn : n = 0 ∨ n = 1 ∨ n = 2 ∨ n = 3 ∨ n = 4 ∨ n = 5 ∨ n = 6 ∨ n = 7 := by simp [inL] at c1; omega
        have hs := (runF_sound sLine_ok mix 60 10).fill
        rcases hn with rfl | rfl | rfl | rfl | rfl | rfl | rfl | rfl
        · refine hs _ _ κ r ((t_up0 o0 o1 o2 o3 o4 o5 o6 o7 m0 m1 m2 m3 m4 m5 m6 m7 t0 t1 t2 t3 t4 t5 t6 t7 κ).trans ?_)
          by_cases c : t0 = 0
          · subst c; exact h
          · rw [show Nat.ble (t0 + 1) 1 = false from by cases hb : Nat.ble (t0 + 1) 1 with | false => rfl | true => exact absurd (Nat.le_of_ble_eq_true hb) (by omega), cF]
            rw [show upT (upIx 0) 0 [t0, t1, t2, t3, t4, t5, t6, t7] = [t0, t1, t2, t3, t4, t5, t6, t7] from by show [(if t0 = 0 then 1 else t0), t1, t2, t3, t4, t5, t6, t7] = _; rw [if_neg c]] at h
            exact h
        · refine hs _ _ κ r ((t_up1 o0 o1 o2 o3 o4 o5 o6 o7 m0 m1 m2 m3 m4 m5 m6 m7 t0 t1 t2 t3 t4 t5 t6 t7 κ).trans ?_)
          by_cases c : t1 = 0
          · subst c; exact h
          · rw [show Nat.ble (t1 + 1) 1 = false from by cases hb : Nat.ble (t1 + 1) 1 with | false => rfl | true => exact absurd (Nat.le_of_ble_eq_true hb) (by omega), cF]
            rw [show upT (upIx 1) 0 [t0, t1, t2, t3, t4, t5, t6, t7] = [t0, t1, t2, t3, t4, t5, t6, t7] from by show [t0, (if t1 = 0 then 1 else t1), t2, t3, t4, t5, t6, t7] = _; rw [if_neg c]] at h
            exact h
        · refine hs _ _ κ r ((t_up2 o0 o1 o2 o3 o4 o5 o6 o7 m0 m1 m2 m3 m4 m5 m6 m7 t0 t1 t2 t3 t4 t5 t6 t7 κ).trans ?_)
          by_cases c : t2 = 0
          · subst c; exact h
          · rw [show Nat.ble (t2 + 1) 1 = false from by cases hb : Nat.ble (t2 + 1) 1 with | false => rfl | true => exact absurd (Nat.le_of_ble_eq_true hb) (by omega), cF]
            rw [show upT (upIx 2) 0 [t0, t1, t2, t3, t4, t5, t6, t7] = [t0, t1, t2, t3, t4, t5, t6, t7] from by show [t0, t1, (if t2 = 0 then 1 else t2), t3, t4, t5, t6, t7] = _; rw [if_neg c]] at h
            exact h
        · refine hs _ _ κ r ((t_up3 o0 o1 o2 o3 o4 o5 o6 o7 m0 m1 m2 m3 m4 m5 m6 m7 t0 t1 t2 t3 t4 t5 t6 t7 κ).trans ?_)
          by_cases c : t3 = 0
          · subst c; exact h
          · rw [show Nat.ble (t3 + 1) 1 = false from by cases hb : Nat.ble (t3 + 1) 1 with | false => rfl | true => exact absurd (Nat.le_of_ble_eq_true hb) (by omega), cF]
            rw [show upT (upIx 3) 0 [t0, t1, t2, t3, t4, t5, t6, t7] = [t0, t1, t2, t3, t4, t5, t6, t7] from by show [t0, t1, t2, (if t3 = 0 then 1 else t3), t4, t5, t6, t7] = _; rw [if_neg c]] at h
            exact h
        · refine hs _ _ κ r ((t_up4 o0 o1 o2 o3 o4 o5 o6 o7 m0 m1 m2 m3 m4 m5 m6 m7 t0 t1 t2 t3 t4 t5 t6 t7 κ).trans ?_)
          by_cases c : t4 = 0
          · subst c; exact h
          · rw [show Nat.ble (t4 + 1) 1 = false from by cases hb : Nat.ble (t4 + 1) 1 with | false => rfl | true => exact absurd (Nat.le_of_ble_eq_true hb) (by omega), cF]
            rw [show upT (upIx 4) 0 [t0, t1, t2, t3, t4, t5, t6, t7] = [t0, t1, t2, t3, t4, t5, t6, t7] from by show [t0, t1, t2, t3, (if t4 = 0 then 1 else t4), t5, t6, t7] = _; rw [if_neg c]] at h
            exact h
        · refine hs _ _ κ r ((t_up5 o0 o1 o2 o3 o4 o5 o6 o7 m0 m1 m2 m3 m4 m5 m6 m7 t0 t1 t2 t3 t4 t5 t6 t7 κ).trans ?_)
          by_cases c : t5 = 0
          · subst c; exact h
          · rw [show Nat.ble (t5 + 1) 1 = false from by cases hb : Nat.ble (t5 + 1) 1 with | false => rfl | true => exact absurd (Nat.le_of_ble_eq_true hb) (by omega), cF]
            rw [show upT (upIx 5) 0 [t0, t1, t2, t3, t4, t5, t6, t7] = [t0, t1, t2, t3, t4, t5, t6, t7] from by show [t0, t1, t2, t3, t4, (if t5 = 0 then 1 else t5), t6, t7] = _; rw [if_neg c]] at h
            exact h
        · refine hs _ _ κ r ((t_up6 o0 o1 o2 o3 o4 o5 o6 o7 m0 m1 m2 m3 m4 m5 m6 m7 t0 t1 t2 t3 t4 t5 t6 t7 κ).trans ?_)
          by_cases c : t6 = 0
          · subst c; exact h
          · rw [show Nat.ble (t6 + 1) 1 = false from by cases hb : Nat.ble (t6 + 1) 1 with | false => rfl | true => exact absurd (Nat.le_of_ble_eq_true hb) (by omega), cF]
            rw [show upT (upIx 6) 0 [t0, t1, t2, t3, t4, t5, t6, t7] = [t0, t1, t2, t3, t4, t5, t6, t7] from by show [t0, t1, t2, t3, t4, t5, (if t6 = 0 then 1 else t6), t7] = _; rw [if_neg c]] at h
            exact h
        · refine hs _ _ κ r ((t_up7 o0 o1 o2 o3 o4 o5 o6 o7 m0 m1 m2 m3 m4 m5 m6 m7 t0 t1 t2 t3 t4 t5 t6 t7 κ).trans ?_)
          by_cases c : t7 = 0
          · subst c; exact h
          · rw [show Nat.ble (t7 + 1) 1 = false from by cases hb : Nat.ble (t7 + 1) 1 with | false => rfl | true => exact absurd (Nat.le_of_ble_eq_true hb) (by omega), cF]
            rw [show upT (upIx 7) 0 [t0, t1, t2, t3, t4, t5, t6, t7] = [t0, t1, t2, t3, t4, t5, t6, t7] from by show [t0, t1, t2, t3, t4, t5, t6, (if t7 = 0 then 1 else t7)] = _; rw [if_neg c]] at h
            exact h
      · have c0 : inL n = false := by simpa using c1
        refine (runF_sound sNo_ok mix 60 10).fill _ _ κ r ((t_upNo n o0 o1 o2 o3 o4 o5 o6 o7 m0 m1 m2 m3 m4 m5 m6 m7 t0 t1 t2 t3 t4 t5 t6 t7 κ).trans ?_)
        rw [c0, cF]
        have e2 : upIx n = 8 := by unfold upIx; rw [c0]; rfl
        have e1 : upE n = 1 := by unfold upE; rw [c0]; rfl
        rw [e1, e2] at h; exact h
    · cases h
  · cases h
/- the loop of Next -/
def qChansM (ix : Nat) : Nat → List Nat → Heap
  | _, [] => []
  | j, t :: ts => (Nat.beq ix j, some ⟨false, .chan 1 (if ix = j then t - 1 else t)⟩) :: qChansM ix (j + 1) ts
def qHeapM (ix : Nat) (os : List Int) (ms : List Bool) (ts : List Nat) : Heap := (true, some ⟨false, .mix (qCells 1 os (setN ix true 0 ms))⟩) :: qChansM ix 0 ts
def nxR (os : List Int) (ms : List Bool) (ts : List Nat) (K : HeadK) (ix : Nat) : Option Res := match Nat.ble (ix + 1) 8 with
  | true => K .ret [aint .i64 (ix : Int), .e (.c (.bool true))] (qHeapM ix os ms ts)
  | false => K (.exit 0) [] (qHeap os ms ts)
theorem nx_go8 (d : Int) (o0 o1 o2 o3 o4 o5 o6 o7 : Int) (m0 m1 m2 m3 m4 m5 m6 m7 : Bool) (t0 t1 t2 t3 t4 t5 t6 t7 : Nat) (K : HeadK) : iterR Try.prog sNil lNil iNext 60 (loopOf Try.prog 11 0) 1 [pq, aint .i64 d, aint .i64 8] (qHeap [o0, o1, o2, o3, o4, o5, o6, o7] [m0, m1, m2, m3, m4, m5, m6, m7] [t0, t1, t2, t3, t4, t5, t6, t7]) K = nxR [o0, o1, o2, o3, o4, o5, o6, o7] [m0, m1, m2, m3, m4, m5, m6, m7] [t0, t1, t2, t3, t4, t5, t6, t7] K (nxI d 8 [] [] []) := by
  rw [iterR]
  refine (t_nx8 d o0 o1 o2 o3 o4 o5 o6 o7 m0 m1 m2 m3 m4 m5 m6 m7 t0 t1 t2 t3 t4 t5 t6 t7 _).trans ?_
  rfl
theorem nx_go7 (d : Int) (o0 o1 o2 o3 o4 o5 o6 o7 : Int) (m0 m1 m2 m3 m4 m5 m6 m7 : Bool) (t0 t1 t2 t3 t4 t5 t6 t7 : Nat) (K : HeadK) : iterR Try.prog sNil lNil iNext 60 (loopOf Try.prog 11 0) 2 [pq, aint .i64 d, aint .i64 7] (qHeap [o0, o1, o2, o3, o4, o5, o6, o7] [m0, m1, m2, m3, m4, m5, m6, m7] [t0, t1, t2, t3, t4, t5, t6, t7]) K = nxR [o0, o1, o2, o3, o4, o5, o6, o7] [m0, m1, m2, m3, m4, m5, m6, m7] [t0, t1, t2, t3, t4, t5, t6, t7] K (nxI d 7 [o7] [m7] [t7]) := by
  rw [iterR]
  refine (t_nx7 d o0 o1 o2 o3 o4 o5 o6 o7 m0 m1 m2 m3 m4 m5 m6 m7 t0 t1 t2 t3 t4 t5 t6 t7 _).trans ?_
  have no : ¬ (o7 = d ∧ o7 ≠ -1 ∧ m7 = false ∧ 1 ≤ t7) → iterR Try.prog sNil lNil iNext 60 (loopOf Try.prog 11 0) 1 [pq, aint .i64 d, aint .i64 (8 : Int)] (qHeap [o0, o1, o2, o3, o4, o5, o6, o7] [m0, m1, m2, m3, m4, m5, m6, m7] [t0, t1, t2, t3, t4, t5, t6, t7]) K = nxR [o0, o1, o2, o3, o4, o5, o6, o7] [m0, m1, m2, m3, m4, m5, m6, m7] [t0, t1, t2, t3, t4, t5, t6, t7] K (nxI d 7 [o7] [m7] [t7]) := by
    intro c
    rw [nxI, if_neg c]
    exact nx_go8 d o0 o1 o2 o3 o4 o5 o6 o7 m0 m1 m2 m3 m4 m5 m6 m7 t0 t1 t2 t3 t4 t5 t6 t7 K
  by_cases c1 : o7 = d
  · rw [show (o7 != d) = false from by simpa using c1, cF]
    by_cases c2 : o7 = -1
    · rw [show (o7 == -1) = true from by simpa using c2, cT]; exact no (fun h => h.2.1 c2)
    rw [show (o7 == -1) = false from by simpa using c2, cF]
    cases m7 with
    | true => rw [cT]; exact no (fun h => by cases h.2.2.1)
    | false =>
      rw [cF]
      by_cases c4 : 1 ≤ t7
      · rw [Nat.ble_eq_true_of_le c4, cT, nxI, if_pos ⟨c1, c2, rfl, c4⟩]
        rfl
      · rw [show Nat.ble 1 t7 = false from by cases hb : Nat.ble 1 t7 with | false => rfl | true => exact absurd (Nat.le_of_ble_eq_true hb) c4, cF]
        exact no (fun h => c4 h.2.2.2)
  · rw [show (o7 != d) = true from by simpa using c1, cT]; exact no (fun h => c1 h.1)
theorem nx_go6 (d : Int) (o0 o1 o2 o3 o4 o5 o6 o7 : Int) (m0 m1 m2 m3 m4 m5 m6 m7 : Bool) (t0 t1 t2 t3 t4 t5 t6 t7 : Nat) (K : HeadK) : iterR Try.prog sNil lNil iNext 60 (loopOf Try.prog 11 0) 3 [pq, aint .i64 d, aint .i64 6] (qHeap [o0, o1, o2, o3, o4, o5, o6, o7] [m0, m1, m2, m3, m4, m5, m6, m7] [t0, t1, t2, t3, t4, t5, t6, t7]) K = nxR [o0, o1, o2, o3, o4, o5, o6, o7] [m0, m1, m2, m3, m4, m5, m6, m7] [t0, t1, t2, t3, t4, t5, t6, t7] K (nxI d 6 [o6, o7] [m6, m7] [t6, t7]) := by
  rw [iterR]
  refine (t_nx6 d o0 o1 o2 o3 o4 o5 o6 o7 m0 m1 m2 m3 m4 m5 m6 m7 t0 t1 t2 t3 t4 t5 t6 t7 _).trans ?_
  have no : ¬ (o6 = d ∧ o6 ≠ -1 ∧ m6 = false ∧ 1 ≤ t6) → iterR Try.prog sNil lNil iNext 60 (loopOf Try.prog 11 0) 2 [pq, aint .i64 d, aint .i64 (7 : Int)] (qHeap [o0, o1, o2, o3, o4, o5, o6, o7] [m0, m1, m2, m3, m4, m5, m6, m7] [t0, t1, t2, t3, t4, t5, t6, t7]) K = nxR [o0, o1, o2, o3, o4, o5, o6, o7] [m0, m1, m2, m3, m4, m5, m6, m7] [t0, t1, t2, t3, t4, t5, t6, t7] K (nxI d 6 [o6, o7] [m6, m7] [t6, t7]) := by
    intro c
    rw [nxI, if_neg c]
    exact nx_go7 d o0 o1 o2 o3 o4 o5 o6 o7 m0 m1 m2 m3 m4 m5 m6 m7 t0 t1 t2 t3 t4 t5 t6 t7 K
  by_cases c1 : o6 = d
  · rw [show (o6 != d) = false from by simpa using c1, cF]
    by_cases c2 : o6 = -1
    · rw [show (o6 == -1) = true from by simpa using c2, cT]; exact no (fun h => h.2.1 c2)
    rw [show (o6 == -1) = false from by simpa using c2, cF]
    cases m6 with
    | true => rw [cT]; exact no (fun h => by cases h.2.2.1)
    | false =>
      rw [cF]
      by_cases c4 : 1 ≤ t6
      · rw [Nat.ble_eq_true_of_le c4, cT, nxI, if_pos ⟨c1, c2, rfl, c4⟩]
        rfl
      · rw [show Nat.ble 1 t6 = false from by cases hb : Nat.ble 1 t6 with | false => rfl | true => exact absurd (Nat.le_of_ble_eq_true hb) c4, cF]
        exact no (fun h => c4 h.2.2.2)
  · rw [show (o6 != d) = true from by simpa using c1, cT]; exact no (fun h => c1 h.1)
theorem nx_go5 (d : Int) (o0 o1 o2 o3 o4 o5 o6 o7 : Int) (m0 m1 m2 m3 m4 m5 m6 m7 : Bool) (t0 t1 t2 t3 t4 t5 t6 t7 : Nat) (K : HeadK) : iterR Try.prog sNil lNil iNext 60 (loopOf Try.prog 11 0) 4 [pq, aint .i64 d, aint .i64 5] (qHeap [o0, o1, o2, o3, o4, o5, o6, o7] [m0, m1, m2, m3, m4, m5, m6, m7] [t0, t1, t2, t3, t4, t5, t6, t7]) K = nxR [o0, o1, o2, o3, o4, o5, o6, o7] [m0, m1, m2, m3, m4, m5, m6, m7] [t0, t1, t2, t3, t4, t5, t6, t7] K (nxI d 5 [o5, o6, o7] [m5, m6, m7] [t5, t6, t7]) := by
  rw [iterR]
  refine (t_nx5 d o0 o1 o2 o3 o4 o5 o6 o7 m0 m1 m2 m3 m4 m5 m6 m7 t0 t1 t2 t3 t4 t5 t6 t7 _).trans ?_
  have no : ¬ (o5 = d ∧ o5 ≠ -1 ∧ m5 = false ∧ 1 ≤ t5) → iterR Try.prog sNil lNil iNext 60 (loopOf Try.prog 11 0) 3 [pq, aint .i64 d, aint .i64 (6 : Int)] (qHeap [o0, o1, o2, o3, o4, o5, o6, o7] [m0, m1, m2, m3, m4, m5, m6, m7] [t0, t1, t2, t3, t4, t5, t6, t7]) K = nxR [o0, o1, o2, o3, o4, o5, o6, o7] [m0, m1, m2, m3, m4, m5, m6, m7] [t0, t1, t2, t3, t4, t5, t6, t7] K (nxI d 5 [o5, o6, o7] [m5, m6, m7] [t5, t6, t7]) := by
    intro c
    rw [nxI, if_neg c]
    exact nx_go6 d o0 o1 o2 o3 o4 o5 o6 o7 m0 m1 m2 m3 m4 m5 m6 m7 t0 t1 t2 t3 t4 t5 t6 t7 K
  by_cases c1 : o5 = d
  · rw [show (o5 != d) = false from by simpa using c1, cF]
    by_cases c2 : o5 = -1
    · rw [show (o5 == -1) = true from by simpa using c2, cT]; exact no (fun h => h.2.1 c2)
    rw [show (o5 == -1) = false from by simpa using c2, cF]
    cases m5 with
    | true => rw [cT]; exact no (fun h => by cases h.2.2.1)
    | false =>
      rw [cF]
      by_cases c4 : 1 ≤ t5
      · rw [Nat.ble_eq_true_of_le c4, cT, nxI, if_pos ⟨c1, c2, rfl, c4⟩]
        rfl
      · rw [show Nat.ble 1 t5 = false from by cases hb : Nat.ble 1 t5 with | false => rfl | true => exact absurd (Nat.le_of_ble_eq_true hb) c4, cF]
        exact no (fun h => c4 h.2.2.2)
  · rw [show (o5 != d) = true from by simpa using c1, cT]; exact no (fun h => c1 h.1)
theorem nx_go4 (d : Int) (o0 o1 o2 o3 o4 o5 o6 o7 : Int) (m0 m1 m2 m3 m4 m5 m6 m7 : Bool) (t0 t1 t2 t3 t4 t5 t6 t7 : Nat) (K : HeadK) : iterR Try.prog sNil lNil iNext 60 (loopOf Try.prog 11 0) 5 [pq, aint .i64 d, aint .i64 4] (qHeap [o0, o1, o2, o3, o4, o5, o6, o7] [m0, m1, m2, m3, m4, m5, m6, m7] [t0, t1, t2, t3, t4, t5, t6, t7]) K = nxR [o0, o1, o2, o3, o4, o5, o6, o7] [m0, m1, m2, m3, m4, m5, m6, m7] [t0, t1, t2, t3, t4, t5, t6, t7] K (nxI d 4 [o4, o5, o6, o7] [m4, m5, m6, m7] [t4, t5, t6, t7]) := by
  rw [iterR]
  refine (t_nx4 d o0 o1 o2 o3 o4 o5 o6 o7 m0 m1 m2 m3 m4 m5 m6 m7 t0 t1 t2 t3 t4 t5 t6 t7 _).trans ?_
  have no : ¬ (o4 = d ∧ o4 ≠ -1 ∧ m4 = false ∧ 1 ≤ t4) → iterR Try.prog sNil lNil iNext 60 (loopOf Try.prog 11 0) 4 [pq, aint .i64 d, aint .i64 (5 : Int)] (qHeap [o0, o1, o2, o3, o4, o5, o6, o7] [m0, m1, m2, m3, m4, m5, m6, m7] [t0, t1, t2, t3, t4, t5, t6, t7]) K = nxR [o0, o1, o2, o3, o4, o5, o6, o7] [m0, m1, m2, m3, m4, m5, m6, m7] [t0, t1, t2, t3, t4, t5, t6, t7] K (nxI d 4 [o4, o5, o6, o7] [m4, m5, m6, m7] [t4, t5, t6, t7]) := by
    intro c
    rw [nxI, if_neg c]
    exact nx_go5 d o0 o1 o2 o3 o4 o5 o6 o7 m0 m1 m2 m3 m4 m5 m6 m7 t0 t1 t2 t3 t4 t5 t6 t7 K
  by_cases c1 : o4 = d
  · rw [show (o4 != d) = false from by simpa using c1, cF]
    by_cases c2 : o4 = -1
    · rw [show (o4 == -1) = true from by simpa using c2, cT]; exact no (fun h => h.2.1 c2)
    rw [show (o4 == -1) = false from by simpa using c2, cF]
    cases m4 with
    | true => rw [cT]; exact no (fun h => by cases h.2.2.1)
    | false =>
      rw [cF]
      by_cases c4 : 1 ≤ t4
      · rw [Nat.ble_eq_true_of_le c4, cT, nxI, if_pos ⟨c1, c2, rfl, c4⟩]
        rfl
      · rw [show Nat.ble 1 t4 = false from by cases hb : Nat.ble 1 t4 with | false => rfl | true => exact absurd (Nat.le_of_ble_eq_true hb) c4, cF]
        exact no (fun h => c4 h.2.2.2)
  · rw [show (o4 != d) = true from by simpa using c1, cT]; exact no (fun h => c1 h.1)
theorem nx_go3 (d : Int) (o0 o1 o2 o3 o4 o5 o6 o7 : Int) (m0 m1 m2 m3 m4 m5 m6 m7 : Bool) (t0 t1 t2 t3 t4 t5 t6 t7 : Nat) (K : HeadK) : iterR Try.prog sNil lNil iNext 60 (loopOf Try.prog 11 0) 6 [pq, aint .i64 d, aint .i64 3] (qHeap [o0, o1, o2, o3, o4, o5, o6, o7] [m0, m1, m2, m3, m4, m5, m6, m7] [t0, t1, t2, t3, t4, t5, t6, t7]) K = nxR [o0, o1, o2, o3, o4, o5, o6, o7] [m0, m1, m2, m3, m4, m5, m6, m7] [t0, t1, t2, t3, t4, t5, t6, t7] K (nxI d 3 [o3, o4, o5, o6, o7] [m3, m4, m5, m6, m7] [t3, t4, t5, t6, t7]) := by
  rw [iterR]
  refine (t_nx3 d o0 o1 o2 o3 o4 o5 o6 o7 m0 m1 m2 m3 m4 m5 m6 m7 t0 t1 t2 t3 t4 t5 t6 t7 _).trans ?_
  have no : ¬ (o3 = d ∧ o3 ≠ -1 ∧ m3 = false ∧ 1 ≤ t3) → iterR Try.prog sNil lNil iNext 60 (loopOf Try.prog 11 0) 5 [pq, aint .i64 d, aint .i64 (4 : Int)] (qHeap [o0, o1, o2, o3, o4, o5, o6, o7] [m0, m1, m2, m3, m4, m5, m6, m7] [t0, t1, t2, t3, t4, t5, t6, t7]) K = nxR [o0, o1, o2, o3, o4, o5, o6, o7] [m0, m1, m2, m3, m4, m5, m6, m7] [t0, t1, t2, t3, t4, t5, t6, t7] K (nxI d 3 [o3, o4, o5, o6, o7] [m3, m4, m5, m6, m7] [t3, t4, t5, t6, t7]) := by
    intro c
    rw [nxI, if_neg c]
    exact nx_go4 d o0 o1 o2 o3 o4 o5 o6 o7 m0 m1 m2 m3 m4 m5 m6 m7 t0 t1 t2 t3 t4 t5 t6 t7 K
  by_cases c1 : o3 = d
  · rw [show (o3 != d) = false from by simpa using c1, cF]
    by_cases c2 : o3 = -1
    · rw [show (o3 == -1) = true from by simpa using c2, cT]; exact no (fun h => h.2.1 c2)
    rw [show (o3 == -1) = false from by simpa using c2, cF]
    cases m3 with
    | true => rw [cT]; exact no (fun h => by cases h.2.2.1)
    | false =>
      rw [cF]
      by_cases c4 : 1 ≤ t3
      · rw [Nat.ble_eq_true_of_le c4, cT, nxI, if_pos ⟨c1, c2, rfl, c4⟩]
        rfl
      · rw [show Nat.ble 1 t3 = false from by cases hb : Nat.ble 1 t3 with | false => rfl | true => exact absurd (Nat.le_of_ble_eq_true hb) c4, cF]
        exact no (fun h => c4 h.2.2.2)
  · rw [show (o3 != d) = true from by simpa using c1, cT]; exact no (fun h => c1 h.1)
theorem nx_go2 (d : Int) (o0 o1 o2 o3 o4 o5 o6 o7 : Int) (m0 m1 m2 m3 m4 m5 m6 m7 : Bool) (t0 t1 t2 t3 t4 t5 t6 t7 : Nat) (K : HeadK) : iterR Try.prog sNil lNil iNext 60 (loopOf Try.prog 11 0) 7 [pq, aint .i64 d, aint .i64 2] (qHeap [o0, o1, o2, o3, o4, o5, o6, o7] [m0, m1, m2, m3, m4, m5, m6, m7] [t0, t1, t2, t3, t4, t5, t6, t7]) K = nxR [o0, o1, o2, o3, o4, o5, o6, o7] [m0, m1, m2, m3, m4, m5, m6, m7] [t0, t1, t2, t3, t4, t5, t6, t7] K (nxI d 2 [o2, o3, o4, o5, o6, o7] [m2, m3, m4, m5, m6, m7] [t2, t3, t4, t5, t6, t7]) := by
  rw [iterR]
  refine (t_nx2 d o0 o1 o2 o3 o4 o5 o6 o7 m0 m1 m2 m3 m4 m5 m6 m7 t0 t1 t2 t3 t4 t5 t6 t7 _).trans ?_
  have no : ¬ (o2 = d ∧ o2 ≠ -1 ∧ m2 = false ∧ 1 ≤ t2) → iterR Try.prog sNil lNil iNext 60 (loopOf Try.prog 11 0) 6 [pq, aint .i64 d, aint .i64 (3 : Int)] (qHeap [o0, o1, o2, o3, o4, o5, o6, o7] [m0, m1, m2, m3, m4, m5, m6, m7] [t0, t1, t2, t3, t4, t5, t6, t7]) K = nxR [o0, o1, o2, o3, o4, o5, o6, o7] [m0, m1, m2, m3, m4, m5, m6, m7] [t0, t1, t2, t3, t4, t5, t6, t7] K (nxI d 2 [o2, o3, o4, o5, o6, o7] [m2, m3, m4, m5, m6, m7] [t2, t3, t4, t5, t6, t7]) := by
    intro c
    rw [nxI, if_neg c]
    exact nx_go3 d o0 o1 o2 o3 o4 o5 o6 o7 m0 m1 m2 m3 m4 m5 m6 m7 t0 t1 t2 t3 t4 t5 t6 t7 K
  by_cases c1 : o2 = d
  · rw [show (o2 != d) = false from by simpa using c1, cF]
    by_cases c2 : o2 = -1
    · rw [show (o2 == -1) = true from by simpa using c2, cT]; exact no (fun h => h.2.1 c2)
    rw [show (o2 == -1) = false from by simpa using c2, cF]
    cases m2 with
    | true => rw [cT]; exact no (fun h => by cases h.2.2.1)
    | false =>
      rw [cF]
      by_cases c4 : 1 ≤ t2
      · rw [Nat.ble_eq_true_of_le c4, cT, nxI, if_pos ⟨c1, c2, rfl, c4⟩]
        rfl
      · rw [show Nat.ble 1 t2 = false from by cases hb : Nat.ble 1 t2 with | false => rfl | true => exact absurd (Nat.le_of_ble_eq_true hb) c4, cF]
        exact no (fun h => c4 h.2.2.2)
  · rw [show (o2 != d) = true from by simpa using c1, cT]; exact no (fun h => c1 h.1)
theorem nx_go1 (d : Int) (o0 o1 o2 o3 o4 o5 o6 o7 : Int) (m0 m1 m2 m3 m4 m5 m6 m7 : Bool) (t0 t1 t2 t3 t4 t5 t6 t7 : Nat) (K : HeadK) : iterR Try.prog sNil lNil iNext 60 (loopOf Try.prog 11 0) 8 [pq, aint .i64 d, aint .i64 1] (qHeap [o0, o1, o2, o3, o4, o5, o6, o7] [m0, m1, m2, m3, m4, m5, m6, m7] [t0, t1, t2, t3, t4, t5, t6, t7]) K = nxR [o0, o1, o2, o3, o4, o5, o6, o7] [m0, m1, m2, m3, m4, m5, m6, m7] [t0, t1, t2, t3, t4, t5, t6, t7] K (nxI d 1 [o1, o2, o3, o4, o5, o6, o7] [m1, m2, m3, m4, m5, m6, m7] [t1, t2, t3, t4, t5, t6, t7]) := by
  rw [iterR]
  refine (t_nx1 d o0 o1 o2 o3 o4 o5 o6 o7 m0 m1 m2 m3 m4 m5 m6 m7 t0 t1 t2 t3 t4 t5 t6 t7 _).trans ?_
  have no : ¬ (o1 = d ∧ o1 ≠ -1 ∧ m1 = false ∧ 1 ≤ t1) → iterR Try.prog sNil lNil iNext 60 (loopOf Try.prog 11 0) 7 [pq, aint .i64 d, aint .i64 (2 : Int)] (qHeap [o0, o1, o2, o3, o4, o5, o6, o7] [m0, m1, m2, m3, m4, m5, m6, m7] [t0, t1, t2, t3, t4, t5, t6, t7]) K = nxR [o0, o1, o2, o3, o4, o5, o6, o7] [m0, m1, m2, m3, m4, m5, m6, m7] [t0, t1, t2, t3, t4, t5, t6, t7] K (nxI d 1 [o1, o2, o3, o4, o5, o6, o7] [m1, m2, m3, m4, m5, m6, m7] [t1, t2, t3, t4, t5, t6, t7]) := by
    intro c
    rw [nxI, if_neg c]
    exact nx_go2 d o0 o1 o2 o3 o4 o5 o6 o7 m0 m1 m2 m3 m4 m5 m6 m7 t0 t1 t2 t3 t4 t5 t6 t7 K
  by_cases c1 : o1 = d
  · rw [show (o1 != d) = false from by simpa using c1, cF]
    by_cases c2 : o1 = -1
    · rw [show (o1 == -1) = true from by simpa using c2, cT]; exact no (fun h => h.2.1 c2)
    rw [show (o1 == -1) = false from by simpa using c2, cF]
    cases m1 with
    | true => rw [cT]; exact no (fun h => by cases h.2.2.1)
    | false =>
      rw [cF]
      by_cases c4 : 1 ≤ t1
      · rw [Nat.ble_eq_true_of_le c4, cT, nxI, if_pos ⟨c1, c2, rfl, c4⟩]
        rfl
      · rw [show Nat.ble 1 t1 = false from by cases hb : Nat.ble 1 t1 with | false => rfl | true => exact absurd (Nat.le_of_ble_eq_true hb) c4, cF]
        exact no (fun h => c4 h.2.2.2)
  · rw [show (o1 != d) = true from by simpa using c1, cT]; exact no (fun h => c1 h.1)
theorem nx_go0 (d : Int) (o0 o1 o2 o3 o4 o5 o6 o7 : Int) (m0 m1 m2 m3 m4 m5 m6 m7 : Bool) (t0 t1 t2 t3 t4 t5 t6 t7 : Nat) (K : HeadK) : iterR Try.prog sNil lNil iNext 60 (loopOf Try.prog 11 0) 9 [pq, aint .i64 d, aint .i64 0] (qHeap [o0, o1, o2, o3, o4, o5, o6, o7] [m0, m1, m2, m3, m4, m5, m6, m7] [t0, t1, t2, t3, t4, t5, t6, t7]) K = nxR [o0, o1, o2, o3, o4, o5, o6, o7] [m0, m1, m2, m3, m4, m5, m6, m7] [t0, t1, t2, t3, t4, t5, t6, t7] K (nxI d 0 [o0, o1, o2, o3, o4, o5, o6, o7] [m0, m1, m2, m3, m4, m5, m6, m7] [t0, t1, t2, t3, t4, t5, t6, t7]) := by
  rw [iterR]
  refine (t_nx0 d o0 o1 o2 o3 o4 o5 o6 o7 m0 m1 m2 m3 m4 m5 m6 m7 t0 t1 t2 t3 t4 t5 t6 t7 _).trans ?_
  have no : ¬ (o0 = d ∧ o0 ≠ -1 ∧ m0 = false ∧ 1 ≤ t0) → iterR Try.prog sNil lNil iNext 60 (loopOf Try.prog 11 0) 8 [pq, aint .i64 d, aint .i64 (1 : Int)] (qHeap [o0, o1, o2, o3, o4, o5, o6, o7] [m0, m1, m2, m3, m4, m5, m6, m7] [t0, t1, t2, t3, t4, t5, t6, t7]) K = nxR [o0, o1, o2, o3, o4, o5, o6, o7] [m0, m1, m2, m3, m4, m5, m6, m7] [t0, t1, t2, t3, t4, t5, t6, t7] K (nxI d 0 [o0, o1, o2, o3, o4, o5, o6, o7] [m0, m1, m2, m3, m4, m5, m6, m7] [t0, t1, t2, t3, t4, t5, t6, t7]) := by
    intro c
    rw [nxI, if_neg c]
    exact nx_go1 d o0 o1 o2 o3 o4 o5 o6 o7 m0 m1 m2 m3 m4 m5 m6 m7 t0 t1 t2 t3 t4 t5 t6 t7 K
  by_cases c1 : o0 = d
  · rw [show (o0 != d) = false from by simpa using c1, cF]
    by_cases c2 : o0 = -1
    · rw [show (o0 == -1) = true from by simpa using c2, cT]; exact no (fun h => h.2.1 c2)
    rw [show (o0 == -1) = false from by simpa using c2, cF]
    cases m0 with
    | true => rw [cT]; exact no (fun h => by cases h.2.2.1)
    | false =>
      rw [cF]
      by_cases c4 : 1 ≤ t0
      · rw [Nat.ble_eq_true_of_le c4, cT, nxI, if_pos ⟨c1, c2, rfl, c4⟩]
        rfl
      · rw [show Nat.ble 1 t0 = false from by cases hb : Nat.ble 1 t0 with | false => rfl | true => exact absurd (Nat.le_of_ble_eq_true hb) c4, cF]
        exact no (fun h => c4 h.2.2.2)
  · rw [show (o0 != d) = true from by simpa using c1, cT]; exact no (fun h => c1 h.1)
def cNx (X : Nat) : HeadO := fun vs h K => match vs, unH h with
  | [.e (.c (.ptr ⟨0, 0, 0, 0, 0, 0, 0⟩)), .e (.c (.int .i64 d)), .e (.c (.int .i64 i))], some (os, ms, ts) => match decide (i = 0) && decide (nxI d 0 os ms ts = X) with
    | true => nxR os ms ts K X
    | false => none
  | _, _ => none
theorem cNx_sound (X : Nat) : HeadSound Try.prog iNext (loopOf Try.prog 11 0) (cNx X) := by
  refine HeadSound.short (iterR_sound (F := 60) sNil_ok mix lNil_ok) fun vs h K r e => ?_
  unfold cNx at e
  split at e
  · rename_i d i os ms ts hu
    split at e
    · rename_i hc
      simp only [Bool.and_eq_true, decide_eq_true_eq] at hc
      obtain ⟨rfl, rfl⟩ := hc
      obtain ⟨rfl, l1, l2, l3⟩ := unH_spec hu
      obtain ⟨o0, o1, o2, o3, o4, o5, o6, o7, rfl⟩ := len8 l1
      obtain ⟨m0, m1, m2, m3, m4, m5, m6, m7, rfl⟩ := len8 l2
      obtain ⟨t0, t1, t2, t3, t4, t5, t6, t7, rfl⟩ := len8 l3
      exact ⟨9, (nx_go0 d o0 o1 o2 o3 o4 o5 o6 o7 m0 m1 m2 m3 m4 m5 m6 m7 t0 t1 t2 t3 t4 t5 t6 t7 K).trans e⟩
    · cases e
  · cases e
noncomputable def lNx (X : Nat) : Nat → Option Orc := lAdd lNil 0 (wrapO iNext 0 (cNx X))
theorem lNx_for (X : Nat) : LFor 9 Try.prog 11 (lNx X) := lAdd_for lNil_for (by kernel_rfl) (cNx_sound X)
theorem nx_dis : Go.Eng.distinct (blockIds (codeOf Try.prog 11)) = true := by kernel_rfl
/- the loop of word -/
theorem wd_step {w : Int} {j : Nat} (h0 : 0 ≤ w) (h1 : w < 2 ^ j) (h2 : (2 : Int) ^ j ≤ 2 ^ 63) : putI w j 1 1 = w + 2 ^ j ∧ word w = true := by
  refine ⟨by rw [show (1 : Int) = ((1 : Nat) : Int) from rfl, putI_add h0 h1 (by decide) (by decide)]; simp, ?_⟩
  have h3 : (2 : Int) ^ 63 = 9223372036854775808 := by decide
  simp only [word, Bool.and_eq_true, decide_eq_true_eq]; omega
theorem pend_go8 (w : Int) (o0 o1 o2 o3 o4 o5 o6 o7 : Int) (m0 m1 m2 m3 m4 m5 m6 m7 : Bool) (t0 t1 t2 t3 t4 t5 t6 t7 : Nat) (K : HeadK) (h0 : 0 ≤ w) (h1 : w < 2 ^ 8) : iterR Try.prog sWf lNil iWord 60 (loopOf Try.prog 25 0) 1 [pq, .e (.c (.clos 26 [])), aint .u64 w, aint .i64 8] (qHeap [o0, o1, o2, o3, o4, o5, o6, o7] [m0, m1, m2, m3, m4, m5, m6, m7] [t0, t1, t2, t3, t4, t5, t6, t7]) K = K (.exit 0) [aint .u64 (wd 8 w (bitsT []))] (qHeap [o0, o1, o2, o3, o4, o5, o6, o7] [m0, m1, m2, m3, m4, m5, m6, m7] [t0, t1, t2, t3, t4, t5, t6, t7]) := by
  rw [iterR]
  refine (t_pend8 w o0 o1 o2 o3 o4 o5 o6 o7 m0 m1 m2 m3 m4 m5 m6 m7 t0 t1 t2 t3 t4 t5 t6 t7 _).trans ?_
  rfl
theorem pend_go7 (w : Int) (o0 o1 o2 o3 o4 o5 o6 o7 : Int) (m0 m1 m2 m3 m4 m5 m6 m7 : Bool) (t0 t1 t2 t3 t4 t5 t6 t7 : Nat) (K : HeadK) (h0 : 0 ≤ w) (h1 : w < 2 ^ 7) : iterR Try.prog sWf lNil iWord 60 (loopOf Try.prog 25 0) 2 [pq, .e (.c (.clos 26 [])), aint .u64 w, aint .i64 7] (qHeap [o0, o1, o2, o3, o4, o5, o6, o7] [m0, m1, m2, m3, m4, m5, m6, m7] [t0, t1, t2, t3, t4, t5, t6, t7]) K = K (.exit 0) [aint .u64 (wd 7 w (bitsT [t7]))] (qHeap [o0, o1, o2, o3, o4, o5, o6, o7] [m0, m1, m2, m3, m4, m5, m6, m7] [t0, t1, t2, t3, t4, t5, t6, t7]) := by
  rw [iterR]
  refine (t_pend7 w o0 o1 o2 o3 o4 o5 o6 o7 m0 m1 m2 m3 m4 m5 m6 m7 t0 t1 t2 t3 t4 t5 t6 t7 _).trans ?_
  have e1 : putI w 7 1 1 = w + 2 ^ 7 := (wd_step (j := 7) h0 h1 (by decide)).1
  have e2 := (wd_step h0 h1 (by decide)).2
  have hp : (0 : Int) < 2 ^ 7 := by decide
  have hq : (2 : Int) ^ 8 = 2 ^ 7 + 2 ^ 7 := by decide
  cases hb : decide ((t7 : Int) > 0) with
  | true =>
    rw [cT, e2, show (true && fld 7 1 && word 1) = true from rfl, cT]
    refine (pend_go8 _ o0 o1 o2 o3 o4 o5 o6 o7 m0 m1 m2 m3 m4 m5 m6 m7 t0 t1 t2 t3 t4 t5 t6 t7 K ?_ ?_).trans ?_
    · rw [e1]; omega
    · rw [e1]; omega
    · rw [show wd 7 w (bitsT [t7]) = wd 8 (putI w 7 1 1) (bitsT []) from by show wd 7 w (decide ((t7 : Int) > 0) :: (bitsT [])) = _; rw [hb]; rfl]
  | false =>
    rw [cF]
    refine (pend_go8 w o0 o1 o2 o3 o4 o5 o6 o7 m0 m1 m2 m3 m4 m5 m6 m7 t0 t1 t2 t3 t4 t5 t6 t7 K h0 (by omega)).trans ?_
    rw [show wd 7 w (bitsT [t7]) = wd 8 w (bitsT []) from by show wd 7 w (decide ((t7 : Int) > 0) :: (bitsT [])) = _; rw [hb]; rfl]
theorem pend_go6 (w : Int) (o0 o1 o2 o3 o4 o5 o6 o7 : Int) (m0 m1 m2 m3 m4 m5 m6 m7 : Bool) (t0 t1 t2 t3 t4 t5 t6 t7 : Nat) (K : HeadK) (h0 : 0 ≤ w) (h1 : w < 2 ^ 6) : iterR Try.prog sWf lNil iWord 60 (loopOf Try.prog 25 0) 3 [pq, .e (.c (.clos 26 [])), aint .u64 w, aint .i64 6] (qHeap [o0, o1, o2, o3, o4, o5, o6, o7] [m0, m1, m2, m3, m4, m5, m6, m7] [t0, t1, t2, t3, t4, t5, t6, t7]) K = K (.exit 0) [aint .u64 (wd 6 w (bitsT [t6, t7]))] (qHeap [o0, o1, o2, o3, o4, o5, o6, o7] [m0, m1, m2, m3, m4, m5, m6, m7] [t0, t1, t2, t3, t4, t5, t6, t7]) := by
  rw [iterR]
  refine (t_pend6 w o0 o1 o2 o3 o4 o5 o6 o7 m0 m1 m2 m3 m4 m5 m6 m7 t0 t1 t2 t3 t4 t5 t6 t7 _).trans ?_
  have e1 : putI w 6 1 1 = w + 2 ^ 6 := (wd_step (j := 6) h0 h1 (by decide)).1
  have e2 := (wd_step h0 h1 (by decide)).2
  have hp : (0 : Int) < 2 ^ 6 := by decide
  have hq : (2 : Int) ^ 7 = 2 ^ 6 + 2 ^ 6 := by decide
  cases hb : decide ((t6 : Int) > 0) with
  | true =>
    rw [cT, e2, show (true && fld 6 1 && word 1) = true from rfl, cT]
    refine (pend_go7 _ o0 o1 o2 o3 o4 o5 o6 o7 m0 m1 m2 m3 m4 m5 m6 m7 t0 t1 t2 t3 t4 t5 t6 t7 K ?_ ?_).trans ?_
    · rw [e1]; omega
    · rw [e1]; omega
    · rw [show wd 6 w (bitsT [t6, t7]) = wd 7 (putI w 6 1 1) (bitsT [t7]) from by show wd 6 w (decide ((t6 : Int) > 0) :: (bitsT [t7])) = _; rw [hb]; rfl]
  | false =>
    rw [cF]
    refine (pend_go7 w o0 o1 o2 o3 o4 o5 o6 o7 m0 m1 m2 m3 m4 m5 m6 m7 t0 t1 t2 t3 t4 t5 t6 t7 K h0 (by omega)).trans ?_
    rw [show wd 6 w (bitsT [t6, t7]) = wd 7 w (bitsT [t7]) from by show wd 6 w (decide ((t6 : Int) > 0) :: (bitsT [t7])) = _; rw [hb]; rfl]
theorem pend_go5 (w : Int) (o0 o1 o2 o3 o4 o5 o6 o7 : Int) (m0 m1 m2 m3 m4 m5 m6 m7 : Bool) (t0 t1 t2 t3 t4 t5 t6 t7 : Nat) (K : HeadK) (h0 : 0 ≤ w) (h1 : w < 2 ^ 5) : iterR Try.prog sWf lNil iWord 60 (loopOf Try.prog 25 0) 4 [pq, .e (.c (.clos 26 [])), aint .u64 w, aint .i64 5] (qHeap [o0, o1, o2, o3, o4, o5, o6, o7] [m0, m1, m2, m3, m4, m5, m6, m7] [t0, t1, t2, t3, t4, t5, t6, t7]) K = K (.exit 0) [aint .u64 (wd 5 w (bitsT [t5, t6, t7]))] (qHeap [o0, o1, o2, o3, o4, o5, o6, o7] [m0, m1, m2, m3, m4, m5, m6, m7] [t0, t1, t2, t3, t4, t5, t6, t7]) := by
  rw [iterR]
  refine (t_pend5 w o0 o1 o2 o3 o4 o5 o6 o7 m0 m1 m2 m3 m4 m5 m6 m7 t0 t1 t2 t3 t4 t5 t6 t7 _).trans ?_
  have e1 : putI w 5 1 1 = w + 2 ^ 5 := (wd_step (j := 5) h0 h1 (by decide)).1
  have e2 := (wd_step h0 h1 (by decide)).2
  have hp : (0 : Int) < 2 ^ 5 := by decide
  have hq : (2 : Int) ^ 6 = 2 ^ 5 + 2 ^ 5 := by decide
  cases hb : decide ((t5 : Int) > 0) with
  | true =>
    rw [cT, e2, show (true && fld 5 1 && word 1) = true from rfl, cT]
    refine (pend_go6 _ o0 o1 o2 o3 o4 o5 o6 o7 m0 m1 m2 m3 m4 m5 m6 m7 t0 t1 t2 t3 t4 t5 t6 t7 K ?_ ?_).trans ?_
    · rw [e1]; omega
    · rw [e1]; omega
    · rw [show wd 5 w (bitsT [t5, t6, t7]) = wd 6 (putI w 5 1 1) (bitsT [t6, t7]) from by show wd 5 w (decide ((t5 : Int) > 0) :: (bitsT [t6, t7])) = _; rw [hb]; rfl]
  | false =>
    rw [cF]
    refine (pend_go6 w o0 o1 o2 o3 o4 o5 o6 o7 m0 m1 m2 m3 m4 m5 m6 m7 t0 t1 t2 t3 t4 t5 t6 t7 K h0 (by omega)).trans ?_
    rw [show wd 5 w (bitsT [t5, t6, t7]) = wd 6 w (bitsT [t6, t7]) from by show wd 5 w (decide ((t5 : Int) > 0) :: (bitsT [t6, t7])) = _; rw [hb]; rfl]
theorem pend_go4 (w : Int) (o0 o1 o2 o3 o4 o5 o6 o7 : Int) (m0 m1 m2 m3 m4 m5 m6 m7 : Bool) (t0 t1 t2 t3 t4 t5 t6 t7 : Nat) (K : HeadK) (h0 : 0 ≤ w) (h1 : w < 2 ^ 4) : iterR Try.prog sWf lNil iWord 60 (loopOf Try.prog 25 0) 5 [pq, .e (.c (.clos 26 [])), aint .u64 w, aint .i64 4] (qHeap [o0, o1, o2, o3, o4, o5, o6, o7] [m0, m1, m2, m3, m4, m5, m6, m7] [t0, t1, t2, t3, t4, t5, t6, t7]) K = K (.exit 0) [aint .u64 (wd 4 w (bitsT [t4, t5, t6, t7]))] (qHeap [o0, o1, o2, o3, o4, o5, o6, o7] [m0, m1, m2, m3, m4, m5, m6, m7] [t0, t1, t2, t3, t4, t5, t6, t7]) := by
  rw [iterR]
  refine (t_pend4 w o0 o1 o2 o3 o4 o5 o6 o7 m0 m1 m2 m3 m4 m5 m6 m7 t0 t1 t2 t3 t4 t5 t6 t7 _).trans ?_
  have e1 : putI w 4 1 1 = w + 2 ^ 4 := (wd_step (j := 4) h0 h1 (by decide)).1
  have e2 := (wd_step h0 h1 (by decide)).2
  have hp : (0 : Int) < 2 ^ 4 := by decide
  have hq : (2 : Int) ^ 5 = 2 ^ 4 + 2 ^ 4 := by decide
  cases hb : decide ((t4 : Int) > 0) with
  | true =>
    rw [cT, e2, show (true && fld 4 1 && word 1) = true from rfl, cT]
    refine (pend_go5 _ o0 o1 o2 o3 o4 o5 o6 o7 m0 m1 m2 m3 m4 m5 m6 m7 t0 t1 t2 t3 t4 t5 t6 t7 K ?_ ?_).trans ?_
    · rw [e1]; omega
    · rw [e1]; omega
    · rw [show wd 4 w (bitsT [t4, t5, t6, t7]) = wd 5 (putI w 4 1 1) (bitsT [t5, t6, t7]) from by show wd 4 w (decide ((t4 : Int) > 0) :: (bitsT [t5, t6, t7])) = _; rw [hb]; rfl]
  | false =>
    rw [cF]
    refine (pend_go5 w o0 o1 o2 o3 o4 o5 o6 o7 m0 m1 m2 m3 m4 m5 m6 m7 t0 t1 t2 t3 t4 t5 t6 t7 K h0 (by omega)).trans ?_
    rw [show wd 4 w (bitsT [t4, t5, t6, t7]) = wd 5 w (bitsT [t5, t6, t7]) from by show wd 4 w (decide ((t4 : Int) > 0) :: (bitsT [t5, t6, t7])) = _; rw [hb]; rfl]
theorem pend_go3 (w : Int) (o0 o1 o2 o3 o4 o5 o6 o7 : Int) (m0 m1 m2 m3 m4 m5 m6 m7 : Bool) (t0 t1 t2 t3 t4 t5 t6 t7 : Nat) (K : HeadK) (h0 : 0 ≤ w) (h1 : w < 2 ^ 3) : iterR Try.prog sWf lNil iWord 60 (loopOf Try.prog 25 0) 6 [pq, .e (.c (.clos 26 [])), aint .u64 w, aint .i64 3] (qHeap [o0, o1, o2, o3, o4, o5, o6, o7] [m0, m1, m2, m3, m4, m5, m6, m7] [t0, t1, t2, t3, t4, t5, t6, t7]) K = K (.exit 0) [aint .u64 (wd 3 w (bitsT [t3, t4, t5, t6, t7]))] (qHeap [o0, o1, o2, o3, o4, o5, o6, o7] [m0, m1, m2, m3, m4, m5, m6, m7] [t0, t1, t2, t3, t4, t5, t6, t7]) := by
  rw [iterR]
  refine (t_pend3 w o0 o1 o2 o3 o4 o5 o6 o7 m0 m1 m2 m3 m4 m5 m6 m7 t0 t1 t2 t3 t4 t5 t6 t7 _).trans ?_
  have e1 : putI w 3 1 1 = w + 2 ^ 3 := (wd_step (j := 3) h0 h1 (by decide)).1
  have e2 := (wd_step h0 h1 (by decide)).2
  have hp : (0 : Int) < 2 ^ 3 := by decide
  have hq : (2 : Int) ^ 4 = 2 ^ 3 + 2 ^ 3 := by decide
  cases hb : decide ((t3 : Int) > 0) with
  | true =>
    rw [cT, e2, show (true && fld 3 1 && word 1) = true from rfl, cT]
    refine (pend_go4 _ o0 o1 o2 o3 o4 o5 o6 o7 m0 m1 m2 m3 m4 m5 m6 m7 t0 t1 t2 t3 t4 t5 t6 t7 K ?_ ?_).trans ?_
    · rw [e1]; omega
    · rw [e1]; omega
    · rw [show wd 3 w (bitsT [t3, t4, t5, t6, t7]) = wd 4 (putI w 3 1 1) (bitsT [t4, t5, t6, t7]) from by show wd 3 w (decide ((t3 : Int) > 0) :: (bitsT [t4, t5, t6, t7])) = _; rw [hb]; rfl]
  | false =>
    rw [cF]
    refine (pend_go4 w o0 o1 o2 o3 o4 o5 o6 o7 m0 m1 m2 m3 m4 m5 m6 m7 t0 t1 t2 t3 t4 t5 t6 t7 K h0 (by omega)).trans ?_
    rw [show wd 3 w (bitsT [t3, t4, t5, t6, t7]) = wd 4 w (bitsT [t4, t5, t6, t7]) from by show wd 3 w (decide ((t3 : Int) > 0) :: (bitsT [t4, t5, t6, t7])) = _; rw [hb]; rfl]
theorem pend_go2 (w : Int) (o0 o1 o2 o3 o4 o5 o6 o7 : Int) (m0 m1 m2 m3 m4 m5 m6 m7 : Bool) (t0 t1 t2 t3 t4 t5 t6 t7 : Nat) (K : HeadK) (h0 : 0 ≤ w) (h1 : w < 2 ^ 2) : iterR Try.prog sWf lNil iWord 60 (loopOf Try.prog 25 0) 7 [pq, .e (.c (.clos 26 [])), aint .u64 w, aint .i64 2] (qHeap [o0, o1, o2, o3, o4, o5, o6, o7] [m0, m1, m2, m3, m4, m5, m6, m7] [t0, t1, t2, t3, t4, t5, t6, t7]) K = K (.exit 0) [aint .u64 (wd 2 w (bitsT [t2, t3, t4, t5, t6, t7]))] (qHeap [o0, o1, o2, o3, o4, o5, o6, o7] [m0, m1, m2, m3, m4, m5, m6, m7] [t0, t1, t2, t3, t4, t5, t6, t7]) := by
  rw [iterR]
  refine (t_pend2 w o0 o1 o2 o3 o4 o5 o6 o7 m0 m1 m2 m3 m4 m5 m6 m7 t0 t1 t2 t3 t4 t5 t6 t7 _).trans ?_
  have e1 : putI w 2 1 1 = w + 2 ^ 2 := (wd_step (j := 2) h0 h1 (by decide)).1
  have e2 := (wd_step h0 h1 (by decide)).2
  have hp : (0 : Int) < 2 ^ 2 := by decide
  have hq : (2 : Int) ^ 3 = 2 ^ 2 + 2 ^ 2 := by decide
  cases hb : decide ((t2 : Int) > 0) with
  | true =>
    rw [cT, e2, show (true && fld 2 1 && word 1) = true from rfl, cT]
    refine (pend_go3 _ o0 o1 o2 o3 o4 o5 o6 o7 m0 m1 m2 m3 m4 m5 m6 m7 t0 t1 t2 t3 t4 t5 t6 t7 K ?_ ?_).trans ?_
    · rw [e1]; omega
    · rw [e1]; omega
    · rw [show wd 2 w (bitsT [t2, t3, t4, t5, t6, t7]) = wd 3 (putI w 2 1 1) (bitsT [t3, t4, t5, t6, t7]) from by show wd 2 w (decide ((t2 : Int) > 0) :: (bitsT [t3, t4, t5, t6, t7])) = _; rw [hb]; rfl]
  | false =>
    rw [cF]
    refine (pend_go3 w o0 o1 o2 o3 o4 o5 o6 o7 m0 m1 m2 m3 m4 m5 m6 m7 t0 t1 t2 t3 t4 t5 t6 t7 K h0 (by omega)).trans ?_
    rw [show wd 2 w (bitsT [t2, t3, t4, t5, t6, t7]) = wd 3 w (bitsT [t3, t4, t5, t6, t7]) from by show wd 2 w (decide ((t2 : Int) > 0) :: (bitsT [t3, t4, t5, t6, t7])) = _; rw [hb]; rfl]
theorem pend_go1 (w : Int) (o0 o1 o2 o3 o4 o5 o6 o7 : Int) (m0 m1 m2 m3 m4 m5 m6 m7 : Bool) (t0 t1 t2 t3 t4 t5 t6 t7 : Nat) (K : HeadK) (h0 : 0 ≤ w) (h1 : w < 2 ^ 1) : iterR Try.prog sWf lNil iWord 60 (loopOf Try.prog 25 0) 8 [pq, .e (.c (.clos 26 [])), aint .u64 w, aint .i64 1] (qHeap [o0, o1, o2, o3, o4, o5, o6, o7] [m0, m1, m2, m3, m4, m5, m6, m7] [t0, t1, t2, t3, t4, t5, t6, t7]) K = K (.exit 0) [aint .u64 (wd 1 w (bitsT [t1, t2, t3, t4, t5, t6, t7]))] (qHeap [o0, o1, o2, o3, o4, o5, o6, o7] [m0, m1, m2, m3, m4, m5, m6, m7] [t0, t1, t2, t3, t4, t5, t6, t7]) := by
  rw [iterR]
  refine (t_pend1 w o0 o1 o2 o3 o4 o5 o6 o7 m0 m1 m2 m3 m4 m5 m6 m7 t0 t1 t2 t3 t4 t5 t6 t7 _).trans ?_
  have e1 : putI w 1 1 1 = w + 2 ^ 1 := (wd_step (j := 1) h0 h1 (by decide)).1
  have e2 := (wd_step h0 h1 (by decide)).2
  have hp : (0 : Int) < 2 ^ 1 := by decide
  have hq : (2 : Int) ^ 2 = 2 ^ 1 + 2 ^ 1 := by decide
  cases hb : decide ((t1 : Int) > 0) with
  | true =>
    rw [cT, e2, show (true && fld 1 1 && word 1) = true from rfl, cT]
    refine (pend_go2 _ o0 o1 o2 o3 o4 o5 o6 o7 m0 m1 m2 m3 m4 m5 m6 m7 t0 t1 t2 t3 t4 t5 t6 t7 K ?_ ?_).trans ?_
    · rw [e1]; omega
    · rw [e1]; omega
    · rw [show wd 1 w (bitsT [t1, t2, t3, t4, t5, t6, t7]) = wd 2 (putI w 1 1 1) (bitsT [t2, t3, t4, t5, t6, t7]) from by show wd 1 w (decide ((t1 : Int) > 0) :: (bitsT [t2, t3, t4, t5, t6, t7])) = _; rw [hb]; rfl]
  | false =>
    rw [cF]
    refine (pend_go2 w o0 o1 o2 o3 o4 o5 o6 o7 m0 m1 m2 m3 m4 m5 m6 m7 t0 t1 t2 t3 t4 t5 t6 t7 K h0 (by omega)).trans ?_
    rw [show wd 1 w (bitsT [t1, t2, t3, t4, t5, t6, t7]) = wd 2 w (bitsT [t2, t3, t4, t5, t6, t7]) from by show wd 1 w (decide ((t1 : Int) > 0) :: (bitsT [t2, t3, t4, t5, t6, t7])) = _; rw [hb]; rfl]
theorem pend_go0 (w : Int) (o0 o1 o2 o3 o4 o5 o6 o7 : Int) (m0 m1 m2 m3 m4 m5 m6 m7 : Bool) (t0 t1 t2 t3 t4 t5 t6 t7 : Nat) (K : HeadK) (h0 : 0 ≤ w) (h1 : w < 2 ^ 0) : iterR Try.prog sWf lNil iWord 60 (loopOf Try.prog 25 0) 9 [pq, .e (.c (.clos 26 [])), aint .u64 w, aint .i64 0] (qHeap [o0, o1, o2, o3, o4, o5, o6, o7] [m0, m1, m2, m3, m4, m5, m6, m7] [t0, t1, t2, t3, t4, t5, t6, t7]) K = K (.exit 0) [aint .u64 (wd 0 w (bitsT [t0, t1, t2, t3, t4, t5, t6, t7]))] (qHeap [o0, o1, o2, o3, o4, o5, o6, o7] [m0, m1, m2, m3, m4, m5, m6, m7] [t0, t1, t2, t3, t4, t5, t6, t7]) := by
  rw [iterR]
  refine (t_pend0 w o0 o1 o2 o3 o4 o5 o6 o7 m0 m1 m2 m3 m4 m5 m6 m7 t0 t1 t2 t3 t4 t5 t6 t7 _).trans ?_
  have e1 : putI w 0 1 1 = w + 2 ^ 0 := (wd_step (j := 0) h0 h1 (by decide)).1
  have e2 := (wd_step h0 h1 (by decide)).2
  have hp : (0 : Int) < 2 ^ 0 := by decide
  have hq : (2 : Int) ^ 1 = 2 ^ 0 + 2 ^ 0 := by decide
  cases hb : decide ((t0 : Int) > 0) with
  | true =>
    rw [cT, e2, show (true && fld 0 1 && word 1) = true from rfl, cT]
    refine (pend_go1 _ o0 o1 o2 o3 o4 o5 o6 o7 m0 m1 m2 m3 m4 m5 m6 m7 t0 t1 t2 t3 t4 t5 t6 t7 K ?_ ?_).trans ?_
    · rw [e1]; omega
    · rw [e1]; omega
    · rw [show wd 0 w (bitsT [t0, t1, t2, t3, t4, t5, t6, t7]) = wd 1 (putI w 0 1 1) (bitsT [t1, t2, t3, t4, t5, t6, t7]) from by show wd 0 w (decide ((t0 : Int) > 0) :: (bitsT [t1, t2, t3, t4, t5, t6, t7])) = _; rw [hb]; rfl]
  | false =>
    rw [cF]
    refine (pend_go1 w o0 o1 o2 o3 o4 o5 o6 o7 m0 m1 m2 m3 m4 m5 m6 m7 t0 t1 t2 t3 t4 t5 t6 t7 K h0 (by omega)).trans ?_
    rw [show wd 0 w (bitsT [t0, t1, t2, t3, t4, t5, t6, t7]) = wd 1 w (bitsT [t1, t2, t3, t4, t5, t6, t7]) from by show wd 0 w (decide ((t0 : Int) > 0) :: (bitsT [t1, t2, t3, t4, t5, t6, t7])) = _; rw [hb]; rfl]
theorem mask_go8 (w : Int) (o0 o1 o2 o3 o4 o5 o6 o7 : Int) (m0 m1 m2 m3 m4 m5 m6 m7 : Bool) (t0 t1 t2 t3 t4 t5 t6 t7 : Nat) (K : HeadK) (h0 : 0 ≤ w) (h1 : w < 2 ^ 8) : iterR Try.prog sWf lNil iWord 60 (loopOf Try.prog 25 0) 1 [pq, .e (.c (.clos 27 [])), aint .u64 w, aint .i64 8] (qHeap [o0, o1, o2, o3, o4, o5, o6, o7] [m0, m1, m2, m3, m4, m5, m6, m7] [t0, t1, t2, t3, t4, t5, t6, t7]) K = K (.exit 0) [aint .u64 (wd 8 w [])] (qHeap [o0, o1, o2, o3, o4, o5, o6, o7] [m0, m1, m2, m3, m4, m5, m6, m7] [t0, t1, t2, t3, t4, t5, t6, t7]) := by
  rw [iterR]
  refine (t_mask8 w o0 o1 o2 o3 o4 o5 o6 o7 m0 m1 m2 m3 m4 m5 m6 m7 t0 t1 t2 t3 t4 t5 t6 t7 _).trans ?_
  rfl
theorem mask_go7 (w : Int) (o0 o1 o2 o3 o4 o5 o6 o7 : Int) (m0 m1 m2 m3 m4 m5 m6 m7 : Bool) (t0 t1 t2 t3 t4 t5 t6 t7 : Nat) (K : HeadK) (h0 : 0 ≤ w) (h1 : w < 2 ^ 7) : iterR Try.prog sWf lNil iWord 60 (loopOf Try.prog 25 0) 2 [pq, .e (.c (.clos 27 [])), aint .u64 w, aint .i64 7] (qHeap [o0, o1, o2, o3, o4, o5, o6, o7] [m0, m1, m2, m3, m4, m5, m6, m7] [t0, t1, t2, t3, t4, t5, t6, t7]) K = K (.exit 0) [aint .u64 (wd 7 w [m7])] (qHeap [o0, o1, o2, o3, o4, o5, o6, o7] [m0, m1, m2, m3, m4, m5, m6, m7] [t0, t1, t2, t3, t4, t5, t6, t7]) := by
  rw [iterR]
  refine (t_mask7 w o0 o1 o2 o3 o4 o5 o6 o7 m0 m1 m2 m3 m4 m5 m6 m7 t0 t1 t2 t3 t4 t5 t6 t7 _).trans ?_
  have e1 : putI w 7 1 1 = w + 2 ^ 7 := (wd_step (j := 7) h0 h1 (by decide)).1
  have e2 := (wd_step h0 h1 (by decide)).2
  have hp : (0 : Int) < 2 ^ 7 := by decide
  have hq : (2 : Int) ^ 8 = 2 ^ 7 + 2 ^ 7 := by decide
  cases m7 with
  | true =>
    rw [cT, e2, show (true && fld 7 1 && word 1) = true from rfl, cT]
    refine (mask_go8 _ o0 o1 o2 o3 o4 o5 o6 o7 m0 m1 m2 m3 m4 m5 m6 true t0 t1 t2 t3 t4 t5 t6 t7 K ?_ ?_).trans ?_
    · rw [e1]; omega
    · rw [e1]; omega
    · rfl
  | false =>
    rw [cF]
    refine (mask_go8 w o0 o1 o2 o3 o4 o5 o6 o7 m0 m1 m2 m3 m4 m5 m6 false t0 t1 t2 t3 t4 t5 t6 t7 K h0 (by omega)).trans ?_
    rfl
theorem mask_go6 (w : Int) (o0 o1 o2 o3 o4 o5 o6 o7 : Int) (m0 m1 m2 m3 m4 m5 m6 m7 : Bool) (t0 t1 t2 t3 t4 t5 t6 t7 : Nat) (K : HeadK) (h0 : 0 ≤ w) (h1 : w < 2 ^ 6) : iterR Try.prog sWf lNil iWord 60 (loopOf Try.prog 25 0) 3 [pq, .e (.c (.clos 27 [])), aint .u64 w, aint .i64 6] (qHeap [o0, o1, o2, o3, o4, o5, o6, o7] [m0, m1, m2, m3, m4, m5, m6, m7] [t0, t1, t2, t3, t4, t5, t6, t7]) K = K (.exit 0) [aint .u64 (wd 6 w [m6, m7])] (qHeap [o0, o1, o2, o3, o4, o5, o6, o7] [m0, m1, m2, m3, m4, m5, m6, m7] [t0, t1, t2, t3, t4, t5, t6, t7]) := by
  rw [iterR]
  refine (t_mask6 w o0 o1 o2 o3 o4 o5 o6 o7 m0 m1 m2 m3 m4 m5 m6 m7 t0 t1 t2 t3 t4 t5 t6 t7 _).trans ?_
  have e1 : putI w 6 1 1 = w + 2 ^ 6 := (wd_step (j := 6) h0 h1 (by decide)).1
  have e2 := (wd_step h0 h1 (by decide)).2
  have hp : (0 : Int) < 2 ^ 6 := by decide
  have hq : (2 : Int) ^ 7 = 2 ^ 6 + 2 ^ 6 := by decide
  cases m6 with
  | true =>
    rw [cT, e2, show (true && fld 6 1 && word 1) = true from rfl, cT]
    refine (mask_go7 _ o0 o1 o2 o3 o4 o5 o6 o7 m0 m1 m2 m3 m4 m5 true m7 t0 t1 t2 t3 t4 t5 t6 t7 K ?_ ?_).trans ?_
    · rw [e1]; omega
    · rw [e1]; omega
    · rfl
  | false =>
    rw [cF]
    refine (mask_go7 w o0 o1 o2 o3 o4 o5 o6 o7 m0 m1 m2 m3 m4 m5 false m7 t0 t1 t2 t3 t4 t5 t6 t7 K h0 (by omega)).trans ?_
    rfl
theorem mask_go5 (w : Int) (o0 o1 o2 o3 o4 o5 o6 o7 : Int) (m0 m1 m2 m3 m4 m5 m6 m7 : Bool) (t0 t1 t2 t3 t4 t5 t6 t7 : Nat) (K : HeadK) (h0 : 0 ≤ w) (h1 : w < 2 ^ 5) : iterR Try.prog sWf lNil iWord 60 (loopOf Try.prog 25 0) 4 [pq, .e (.c (.clos 27 [])), aint .u64 w, aint .i64 5] (qHeap [o0, o1, o2, o3, o4, o5, o6, o7] [m0, m1, m2, m3, m4, m5, m6, m7] [t0, t1, t2, t3, t4, t5, t6, t7]) K = K (.exit 0) [aint .u64 (wd 5 w [m5, m6, m7])] (qHeap [o0, o1, o2, o3, o4, o5, o6, o7] [m0, m1, m2, m3, m4, m5, m6, m7] [t0, t1, t2, t3, t4, t5, t6, t7]) := by
  rw [iterR]
  refine (t_mask5 w o0 o1 o2 o3 o4 o5 o6 o7 m0 m1 m2 m3 m4 m5 m6 m7 t0 t1 t2 t3 t4 t5 t6 t7 _).trans ?_
  have e1 : putI w 5 1 1 = w + 2 ^ 5 := (wd_step (j := 5) h0 h1 (by decide)).1
  have e2 := (wd_step h0 h1 (by decide)).2
  have hp : (0 : Int) < 2 ^ 5 := by decide
  have hq : (2 : Int) ^ 6 = 2 ^ 5 + 2 ^ 5 := by decide
  cases m5 with
  | true =>
    rw [cT, e2, show (true && fld 5 1 && word 1) = true from rfl, cT]
    refine (mask_go6 _ o0 o1 o2 o3 o4 o5 o6 o7 m0 m1 m2 m3 m4 true m6 m7 t0 t1 t2 t3 t4 t5 t6 t7 K ?_ ?_).trans ?_
    · rw [e1]; omega
    · rw [e1]; omega
    · rfl
  | false =>
    rw [cF]
    refine (mask_go6 w o0 o1 o2 o3 o4 o5 o6 o7 m0 m1 m2 m3 m4 false m6 m7 t0 t1 t2 t3 t4 t5 t6 t7 K h0 (by omega)).trans ?_
    rfl
theorem mask_go4 (w : Int) (o0 o1 o2 o3 o4 o5 o6 o7 : Int) (m0 m1 m2 m3 m4 m5 m6 m7 : Bool) (t0 t1 t2 t3 t4 t5 t6 t7 : Nat) (K : HeadK) (h0 : 0 ≤ w) (h1 : w < 2 ^ 4) : iterR Try.prog sWf lNil iWord 60 (loopOf Try.prog 25 0) 5 [pq, .e (.c (.clos 27 [])), aint .u64 w, aint .i64 4] (qHeap [o0, o1, o2, o3, o4, o5, o6, o7] [m0, m1, m2, m3, m4, m5, m6, m7] [t0, t1, t2, t3, t4, t5, t6, t7]) K = K (.exit 0) [aint .u64 (wd 4 w [m4, m5, m6, m7])] (qHeap [o0, o1, o2, o3, o4, o5, o6, o7] [m0, m1, m2, m3, m4, m5, m6, m7] [t0, t1, t2, t3, t4, t5, t6, t7]) := by
  rw [iterR]
  refine (t_mask4 w o0 o1 o2 o3 o4 o5 o6 o7 m0 m1 m2 m3 m4 m5 m6 m7 t0 t1 t2 t3 t4 t5 t6 t7 _).trans ?_
  have e1 : putI w 4 1 1 = w + 2 ^ 4 := (wd_step (j := 4) h0 h1 (by decide)).1
  have e2 := (wd_step h0 h1 (by decide)).2
  have hp : (0 : Int) < 2 ^ 4 := by decide
  have hq : (2 : Int) ^ 5 = 2 ^ 4 + 2 ^ 4 := by decide
  cases m4 with
  | true =>
    rw [cT, e2, show (true && fld 4 1 && word 1) = true from rfl, cT]
    refine (mask_go5 _ o0 o1 o2 o3 o4 o5 o6 o7 m0 m1 m2 m3 true m5 m6 m7 t0 t1 t2 t3 t4 t5 t6 t7 K ?_ ?_).trans ?_
    · rw [e1]; omega
    · rw [e1]; omega
    · rfl
  | false =>
    rw [cF]
    refine (mask_go5 w o0 o1 o2 o3 o4 o5 o6 o7 m0 m1 m2 m3 false m5 m6 m7 t0 t1 t2 t3 t4 t5 t6 t7 K h0 (by omega)).trans ?_
    rfl
theorem mask_go3 (w : Int) (o0 o1 o2 o3 o4 o5 o6 o7 : Int) (m0 m1 m2 m3 m4 m5 m6 m7 : Bool) (t0 t1 t2 t3 t4 t5 t6 t7 : Nat) (K : HeadK) (h0 : 0 ≤ w) (h1 : w < 2 ^ 3) : iterR Try.prog sWf lNil iWord 60 (loopOf Try.prog 25 0) 6 [pq, .e (.c (.clos 27 [])), aint .u64 w, aint .i64 3] (qHeap [o0, o1, o2, o3, o4, o5, o6, o7] [m0, m1, m2, m3, m4, m5, m6, m7] [t0, t1, t2, t3, t4, t5, t6, t7]) K = K (.exit 0) [aint .u64 (wd 3 w [m3, m4, m5, m6, m7])] (qHeap [o0, o1, o2, o3, o4, o5, o6, o7] [m0, m1, m2, m3, m4, m5, m6, m7] [t0, t1, t2, t3, t4, t5, t6, t7]) := by
  rw [iterR]
  refine (t_mask3 w o0 o1 o2 o3 o4 o5 o6 o7 m0 m1 m2 m3 m4 m5 m6 m7 t0 t1 t2 t3 t4 t5 t6 t7 _).trans ?_
  have e1 : putI w 3 1 1 = w + 2 ^ 3 := (wd_step (j := 3) h0 h1 (by decide)).1
  have e2 := (wd_step h0 h1 (by decide)).2
  have hp : (0 : Int) < 2 ^ 3 := by decide
  have hq : (2 : Int) ^ 4 = 2 ^ 3 + 2 ^ 3 := by decide
  cases m3 with
  | true =>
    rw [cT, e2, show (true && fld 3 1 && word 1) = true from rfl, cT]
    refine (mask_go4 _ o0 o1 o2 o3 o4 o5 o6 o7 m0 m1 m2 true m4 m5 m6 m7 t0 t1 t2 t3 t4 t5 t6 t7 K ?_ ?_).trans ?_
    · rw [e1]; omega
    · rw [e1]; omega
    · rfl
  | false =>
    rw [cF]
    refine (mask_go4 w o0 o1 o2 o3 o4 o5 o6 o7 m0 m1 m2 false m4 m5 m6 m7 t0 t1 t2 t3 t4 t5 t6 t7 K h0 (by omega)).trans ?_
    rfl
theorem mask_go2 (w : Int) (o0 o1 o2 o3 o4 o5 o6 o7 : Int) (m0 m1 m2 m3 m4 m5 m6 m7 : Bool) (t0 t1 t2 t3 t4 t5 t6 t7 : Nat) (K : HeadK) (h0 : 0 ≤ w) (h1 : w < 2 ^ 2) : iterR Try.prog sWf lNil iWord 60 (loopOf Try.prog 25 0) 7 [pq, .e (.c (.clos 27 [])), aint .u64 w, aint .i64 2] (qHeap [o0, o1, o2, o3, o4, o5, o6, o7] [m0, m1, m2, m3, m4, m5, m6, m7] [t0, t1, t2, t3, t4, t5, t6, t7]) K = K (.exit 0) [aint .u64 (wd 2 w [m2, m3, m4, m5, m6, m7])] (qHeap [o0, o1, o2, o3, o4, o5, o6, o7] [m0, m1, m2, m3, m4, m5, m6, m7] [t0, t1, t2, t3, t4, t5, t6, t7]) := by
  rw [iterR]
  refine (t_mask2 w o0 o1 o2 o3 o4 o5 o6 o7 m0 m1 m2 m3 m4 m5 m6 m7 t0 t1 t2 t3 t4 t5 t6 t7 _).trans ?_
  have e1 : putI w 2 1 1 = w + 2 ^ 2 := (wd_step (j := 2) h0 h1 (by decide)).1
  have e2 := (wd_step h0 h1 (by decide)).2
  have hp : (0 : Int) < 2 ^ 2 := by decide
  have hq : (2 : Int) ^ 3 = 2 ^ 2 + 2 ^ 2 := by decide
  cases m2 with
  | true =>
    rw [cT, e2, show (true && fld 2 1 && word 1) = true from rfl, cT]
    refine (mask_go3 _ o0 o1 o2 o3 o4 o5 o6 o7 m0 m1 true m3 m4 m5 m6 m7 t0 t1 t2 t3 t4 t5 t6 t7 K ?_ ?_).trans ?_
    · rw [e1]; omega
    · rw [e1]; omega
    · rfl
  | false =>
    rw [cF]
    refine (mask_go3 w o0 o1 o2 o3 o4 o5 o6 o7 m0 m1 false m3 m4 m5 m6 m7 t0 t1 t2 t3 t4 t5 t6 t7 K h0 (by omega)).trans ?_
    rfl
theorem mask_go1 (w : Int) (o0 o1 o2 o3 o4 o5 o6 o7 : Int) (m0 m1 m2 m3 m4 m5 m6 m7 : Bool) (t0 t1 t2 t3 t4 t5 t6 t7 : Nat) (K : HeadK) (h0 : 0 ≤ w) (h1 : w < 2 ^ 1) : iterR Try.prog sWf lNil iWord 60 (loopOf Try.prog 25 0) 8 [pq, .e (.c (.clos 27 [])), aint .u64 w, aint .i64 1] (qHeap [o0, o1, o2, o3, o4, o5, o6, o7] [m0, m1, m2, m3, m4, m5, m6, m7] [t0, t1, t2, t3, t4, t5, t6, t7]) K = K (.exit 0) [aint .u64 (wd 1 w [m1, m2, m3, m4, m5, m6, m7])] (qHeap [o0, o1, o2, o3, o4, o5, o6, o7] [m0, m1, m2, m3, m4, m5, m6, m7] [t0, t1, t2, t3, t4, t5, t6, t7]) := by
  rw [iterR]
  refine (t_mask1 w o0 o1 o2 o3 o4 o5 o6 o7 m0 m1 m2 m3 m4 m5 m6 m7 t0 t1 t2 t3 t4 t5 t6 t7 _).trans ?_
  have e1 : putI w 1 1 1 = w + 2 ^ 1 := (wd_step (j := 1) h0 h1 (by decide)).1
  have e2 := (wd_step h0 h1 (by decide)).2
  have hp : (0 : Int) < 2 ^ 1 := by decide
  have hq : (2 : Int) ^ 2 = 2 ^ 1 + 2 ^ 1 := by decide
  cases m1 with
  | true =>
    rw [cT, e2, show (true && fld 1 1 && word 1) = true from rfl, cT]
    refine (mask_go2 _ o0 o1 o2 o3 o4 o5 o6 o7 m0 true m2 m3 m4 m5 m6 m7 t0 t1 t2 t3 t4 t5 t6 t7 K ?_ ?_).trans ?_
    · rw [e1]; omega
    · rw [e1]; omega
    · rfl
  | false =>
    rw [cF]
    refine (mask_go2 w o0 o1 o2 o3 o4 o5 o6 o7 m0 false m2 m3 m4 m5 m6 m7 t0 t1 t2 t3 t4 t5 t6 t7 K h0 (by omega)).trans ?_
    rfl
theorem mask_go0 (w : Int) (o0 o1 o2 o3 o4 o5 o6 o7 : Int) (m0 m1 m2 m3 m4 m5 m6 m7 : Bool) (t0 t1 t2 t3 t4 t5 t6 t7 : Nat) (K : HeadK) (h0 : 0 ≤ w) (h1 : w < 2 ^ 0) : iterR Try.prog sWf lNil iWord 60 (loopOf Try.prog 25 0) 9 [pq, .e (.c (.clos 27 [])), aint .u64 w, aint .i64 0] (qHeap [o0, o1, o2, o3, o4, o5, o6, o7] [m0, m1, m2, m3, m4, m5, m6, m7] [t0, t1, t2, t3, t4, t5, t6, t7]) K = K (.exit 0) [aint .u64 (wd 0 w [m0, m1, m2, m3, m4, m5, m6, m7])] (qHeap [o0, o1, o2, o3, o4, o5, o6, o7] [m0, m1, m2, m3, m4, m5, m6, m7] [t0, t1, t2, t3, t4, t5, t6, t7]) := by
  rw [iterR]
  refine (t_mask0 w o0 o1 o2 o3 o4 o5 o6 o7 m0 m1 m2 m3 m4 m5 m6 m7 t0 t1 t2 t3 t4 t5 t6 t7 _).trans ?_
  have e1 : putI w 0 1 1 = w + 2 ^ 0 := (wd_step (j := 0) h0 h1 (by decide)).1
  have e2 := (wd_step h0 h1 (by decide)).2
  have hp : (0 : Int) < 2 ^ 0 := by decide
  have hq : (2 : Int) ^ 1 = 2 ^ 0 + 2 ^ 0 := by decide
  cases m0 with
  | true =>
    rw [cT, e2, show (true && fld 0 1 && word 1) = true from rfl, cT]
    refine (mask_go1 _ o0 o1 o2 o3 o4 o5 o6 o7 true m1 m2 m3 m4 m5 m6 m7 t0 t1 t2 t3 t4 t5 t6 t7 K ?_ ?_).trans ?_
    · rw [e1]; omega
    · rw [e1]; omega
    · rfl
  | false =>
    rw [cF]
    refine (mask_go1 w o0 o1 o2 o3 o4 o5 o6 o7 false m1 m2 m3 m4 m5 m6 m7 t0 t1 t2 t3 t4 t5 t6 t7 K h0 (by omega)).trans ?_
    rfl
def cWord : HeadO := fun vs h K => match vs, unH h with
  | [.e (.c (.ptr ⟨0, 0, 0, 0, 0, 0, 0⟩)), .e (.c (.clos f [])), .e (.c (.int .u64 w)), .e (.c (.int .i64 i))], some (os, ms, ts) => match decide (i = 0) && decide (w = 0) with
    | true => match Nat.beq f 26 with
      | true => K (.exit 0) [aint .u64 (wd 0 0 (bitsT ts))] (qHeap os ms ts)
      | false => match Nat.beq f 27 with
        | true => K (.exit 0) [aint .u64 (wd 0 0 ms)] (qHeap os ms ts)
        | false => none
    | false => none
  | _, _ => none
theorem cWord_sound : HeadSound Try.prog iWord (loopOf Try.prog 25 0) cWord := by
  refine HeadSound.short (iterR_sound (F := 60) sWf_ok mix lNil_ok) fun vs h K r e => ?_
  unfold cWord at e
  split at e
  · rename_i f w i os ms ts hu
    split at e
    · rename_i hc
      simp only [Bool.and_eq_true, decide_eq_true_eq] at hc
      obtain ⟨rfl, rfl⟩ := hc
      obtain ⟨rfl, l1, l2, l3⟩ := unH_spec hu
      obtain ⟨o0, o1, o2, o3, o4, o5, o6, o7, rfl⟩ := len8 l1
      obtain ⟨m0, m1, m2, m3, m4, m5, m6, m7, rfl⟩ := len8 l2
      obtain ⟨t0, t1, t2, t3, t4, t5, t6, t7, rfl⟩ := len8 l3
      split at e
      · rename_i hf
        have hf := Nat.eq_of_beq_eq_true hf
        subst hf
        exact ⟨9, (pend_go0 0 o0 o1 o2 o3 o4 o5 o6 o7 m0 m1 m2 m3 m4 m5 m6 m7 t0 t1 t2 t3 t4 t5 t6 t7 K (by decide) (by decide)).trans e⟩
      · split at e
        · rename_i hf
          have hf := Nat.eq_of_beq_eq_true hf
          subst hf
          exact ⟨9, (mask_go0 0 o0 o1 o2 o3 o4 o5 o6 o7 m0 m1 m2 m3 m4 m5 m6 m7 t0 t1 t2 t3 t4 t5 t6 t7 K (by decide) (by decide)).trans e⟩
        · cases e
    · cases e
  · cases e
noncomputable def lWord : Nat → Option Orc := lAdd lNil 0 (wrapO iWord 0 cWord)
theorem lWord_for : LFor 9 Try.prog 25 lWord := lAdd_for lNil_for (by kernel_rfl) cWord_sound
theorem wf_dis : Go.Eng.distinct (blockIds (codeOf Try.prog 25)) = true := by kernel_rfl
theorem t_nxt0 (d : Int) (o0 o1 o2 o3 o4 o5 o6 o7 : Int) (m0 m1 m2 m3 m4 m5 m6 m7 : Bool) (t0 t1 t2 t3 t4 t5 t6 t7 : Nat) (k : Res → Option Res) : fillF (runL Try.prog sNil (lNx 0) 9 60 11) [pq, aint .i64 d] (qSub [o0, o1, o2, o3, o4, o5, o6, o7] [m0, m1, m2, m3, m4, m5, m6, m7] [t0, t1, t2, t3, t4, t5, t6, t7]) k = (cond (true && decide (Go.Proofs.Ytanchmbopllimaa.Wlk.nxI d 0 [o0, o1, o2, o3, o4, o5, o6, o7] [m0, m1, m2, m3, m4, m5, m6, m7] [t0, t1, t2, t3, t4, t5, t6, t7] = 0)) (k (Res.mk (AV.tup [(AE.c (AC.int (IntKind.i64) (0))), (AE.c (AC.bool true))]) [(some (some (Block.mk false (Data.mix [(AC.chan (Loc.mk 1 0 0 0 0 0 0)), (AC.int (IntKind.i64) (o0)), (AC.bool true), (AC.chan (Loc.mk 2 0 0 0 0 0 0)), (AC.int (IntKind.i64) (o1)), (AC.bool (m1)), (AC.chan (Loc.mk 3 0 0 0 0 0 0)), (AC.int (IntKind.i64) (o2)), (AC.bool (m2)), (AC.chan (Loc.mk 4 0 0 0 0 0 0)), (AC.int (IntKind.i64) (o3)), (AC.bool (m3)), (AC.chan (Loc.mk 5 0 0 0 0 0 0)), (AC.int (IntKind.i64) (o4)), (AC.bool (m4)), (AC.chan (Loc.mk 6 0 0 0 0 0 0)), (AC.int (IntKind.i64) (o5)), (AC.bool (m5)), (AC.chan (Loc.mk 7 0 0 0 0 0 0)), (AC.int (IntKind.i64) (o6)), (AC.bool (m6)), (AC.chan (Loc.mk 8 0 0 0 0 0 0)), (AC.int (IntKind.i64) (o7)), (AC.bool (m7))])))), (some (some (Block.mk false (Data.chan 1 (t0 - 1))))), (some (some (Block.mk false (Data.chan 1 (t1))))), (some (some (Block.mk false (Data.chan 1 (t2))))), (some (some (Block.mk false (Data.chan 1 (t3))))), (some (some (Block.mk false (Data.chan 1 (t4))))), (some (some (Block.mk false (Data.chan 1 (t5))))), (some (some (Block.mk false (Data.chan 1 (t6))))), (some (some (Block.mk false (Data.chan 1 (t7)))))])) none) := by kernel_rfl
theorem t_nxt1 (d : Int) (o0 o1 o2 o3 o4 o5 o6 o7 : Int) (m0 m1 m2 m3 m4 m5 m6 m7 : Bool) (t0 t1 t2 t3 t4 t5 t6 t7 : Nat) (k : Res → Option Res) : fillF (runL Try.prog sNil (lNx 1) 9 60 11) [pq, aint .i64 d] (qSub [o0, o1, o2, o3, o4, o5, o6, o7] [m0, m1, m2, m3, m4, m5, m6, m7] [t0, t1, t2, t3, t4, t5, t6, t7]) k = (cond (true && decide (Go.Proofs.Ytanchmbopllimaa.Wlk.nxI d 0 [o0, o1, o2, o3, o4, o5, o6, o7] [m0, m1, m2, m3, m4, m5, m6, m7] [t0, t1, t2, t3, t4, t5, t6, t7] = 1)) (k (Res.mk (AV.tup [(AE.c (AC.int (IntKind.i64) (1))), (AE.c (AC.bool true))]) [(some (some (Block.mk false (Data.mix [(AC.chan (Loc.mk 1 0 0 0 0 0 0)), (AC.int (IntKind.i64) (o0)), (AC.bool (m0)), (AC.chan (Loc.mk 2 0 0 0 0 0 0)), (AC.int (IntKind.i64) (o1)), (AC.bool true), (AC.chan (Loc.mk 3 0 0 0 0 0 0)), (AC.int (IntKind.i64) (o2)), (AC.bool (m2)), (AC.chan (Loc.mk 4 0 0 0 0 0 0)), (AC.int (IntKind.i64) (o3)), (AC.bool (m3)), (AC.chan (Loc.mk 5 0 0 0 0 0 0)), (AC.int (IntKind.i64) (o4)), (AC.bool (m4)), (AC.chan (Loc.mk 6 0 0 0 0 0 0)), (AC.int (IntKind.i64) (o5)), (AC.bool (m5)), (AC.chan (Loc.mk 7 0 0 0 0 0 0)), (AC.int (IntKind.i64) (o6)), (AC.bool (m6)), (AC.chan (Loc.mk 8 0 0 0 0 0 0)), (AC.int (IntKind.i64) (o7)), (AC.bool (m7))])))), (some (some (Block.mk false (Data.chan 1 (t0))))), (some (some (Block.mk false (Data.chan 1 (t1 - 1))))), (some (some (Block.mk false (Data.chan 1 (t2))))), (some (some (Block.mk false (Data.chan 1 (t3))))), (some (some (Block.mk false (Data.chan 1 (t4))))), (some (some (Block.mk false (Data.chan 1 (t5))))), (some (some (Block.mk false (Data.chan 1 (t6))))), (some (some (Block.mk false (Data.chan 1 (t7)))))])) none) := by kernel_rfl
theorem t_nxt2 (d : Int) (o0 o1 o2 o3 o4 o5 o6 o7 : Int) (m0 m1 m2 m3 m4 m5 m6 m7 : Bool) (t0 t1 t2 t3 t4 t5 t6 t7 : Nat) (k : Res → Option Res) : fillF (runL Try.prog sNil (lNx 2) 9 60 11) [pq, aint .i64 d] (qSub [o0, o1, o2, o3, o4, o5, o6, o7] [m0, m1, m2, m3, m4, m5, m6, m7] [t0, t1, t2, t3, t4, t5, t6, t7]) k = (cond (true && decide (Go.Proofs.Ytanchmbopllimaa.Wlk.nxI d 0 [o0, o1, o2, o3, o4, o5, o6, o7] [m0, m1, m2, m3, m4, m5, m6, m7] [t0, t1, t2, t3, t4, t5, t6, t7] = 2)) (k (Res.mk (AV.tup [(AE.c (AC.int (IntKind.i64) (2))), (AE.c (AC.bool true))]) [(some (some (Block.mk false (Data.mix [(AC.chan (Loc.mk 1 0 0 0 0 0 0)), (AC.int (IntKind.i64) (o0)), (AC.bool (m0)), (AC.chan (Loc.mk 2 0 0 0 0 0 0)), (AC.int (IntKind.i64) (o1)), (AC.bool (m1)), (AC.chan (Loc.mk 3 0 0 0 0 0 0)), (AC.int (IntKind.i64) (o2)), (AC.bool true), (AC.chan (Loc.mk 4 0 0 0 0 0 0)), (AC.int (IntKind.i64) (o3)), (AC.bool (m3)), (AC.chan (Loc.mk 5 0 0 0 0 0 0)), (AC.int (IntKind.i64) (o4)), (AC.bool (m4)), (AC.chan (Loc.mk 6 0 0 0 0 0 0)), (AC.int (IntKind.i64) (o5)), (AC.bool (m5)), (AC.chan (Loc.mk 7 0 0 0 0 0 0)), (AC.int (IntKind.i64) (o6)), (AC.bool (m6)), (AC.chan (Loc.mk 8 0 0 0 0 0 0)), (AC.int (IntKind.i64) (o7)), (AC.bool (m7))])))), (some (some (Block.mk false (Data.chan 1 (t0))))), (some (some (Block.mk false (Data.chan 1 (t1))))), (some (some (Block.mk false (Data.chan 1 (t2 - 1))))), (some (some (Block.mk false (Data.chan 1 (t3))))), (some (some (Block.mk false (Data.chan 1 (t4))))), (some (some (Block.mk false (Data.chan 1 (t5))))), (some (some (Block.mk false (Data.chan 1 (t6))))), (some (some (Block.mk false (Data.chan 1 (t7)))))])) none) := by kernel_rfl
theorem t_nxt3 (d : Int) (o0 o1 o2 o3 o4 o5 o6 o7 : Int) (m0 m1 m2 m3 m4 m5 m6 m7 : Bool) (t0 t1 t2 t3 t4 t5 t6 t7 : Nat) (k : Res → Option Res) : fillF (runL Try.prog sNil (lNx 3) 9 60 11) [pq, aint .i64 d] (qSub [o0, o1, o2, o3, o4, o5, o6, o7] [m0, m1, m2, m3, m4, m5, m6, m7] [t0, t1, t2, t3, t4, t5, t6, t7]) k = (cond (true && decide (Go.Proofs.Ytanchmbopllimaa.Wlk.nxI d 0 [o0, o1, o2, o3, o4, o5, o6, o7] [m0, m1, m2, m3, m4, m5, m6, m7] [t0, t1, t2, t3, t4, t5, t6, t7] = 3)) (k (Res.mk (AV.tup [(AE.c (AC.int (IntKind.i64) (3))), (AE.c (AC.bool true))]) [(some (some (Block.mk false (Data.mix [(AC.chan (Loc.mk 1 0 0 0 0 0 0)), (AC.int (IntKind.i64) (o0)), (AC.bool (m0)), (AC.chan (Loc.mk 2 0 0 0 0 0 0)), (AC.int (IntKind.i64) (o1)), (AC.bool (m1)), (AC.chan (Loc.mk 3 0 0 0 0 0 0)), (AC.int (IntKind.i64) (o2)), (AC.bool (m2)), (AC.chan (Loc.mk 4 0 0 0 0 0 0)), (AC.int (IntKind.i64) (o3)), (AC.bool true), (AC.chan (Loc.mk 5 0 0 0 0 0 0)), (AC.int (IntKind.i64) (o4)), (AC.bool (m4)), (AC.chan (Loc.mk 6 0 0 0 0 0 0)), (AC.int (IntKind.i64) (o5)), (AC.bool (m5)), (AC.chan (Loc.mk 7 0 0 0 0 0 0)), (AC.int (IntKind.i64) (o6)), (AC.bool (m6)), (AC.chan (Loc.mk 8 0 0 0 0 0 0)), (AC.int (IntKind.i64) (o7)), (AC.bool (m7))])))), (some (some (Block.mk false (Data.chan 1 (t0))))), (some (some (Block.mk false (Data.chan 1 (t1))))), (some (some (Block.mk false (Data.chan 1 (t2))))), (some (some (Block.mk false (Data.chan 1 (t3 - 1))))), (some (some (Block.mk false (Data.chan 1 (t4))))), (some (some (Block.mk false (Data.chan 1 (t5))))), (some (some (Block.mk false (Data.chan 1 (t6))))), (some (some (Block.mk false (Data.chan 1 (t7)))))])) none) := by kernel_rfl
theorem t_nxt4 (d : Int) (o0 o1 o2 o3 o4 o5 o6 o7 : Int) (m0 m1 m2 m3 m4 m5 m6 m7 : Bool) (t0 t1 t2 t3 t4 t5 t6 t7 : Nat) (k : Res → Option Res) : fillF (runL Try.prog sNil (lNx 4) 9 60 11) [pq, aint .i64 d] (qSub [o0, o1, o2, o3, o4, o5, o6, o7] [m0, m1, m2, m3, m4, m5, m6, m7] [t0, t1, t2, t3, t4, t5, t6, t7]) k = (cond (true && decide (Go.Proofs.Ytanchmbopllimaa.Wlk.nxI d 0 [o0, o1, o2, o3, o4, o5, o6, o7] [m0, m1, m2, m3, m4, m5, m6, m7] [t0, t1, t2, t3, t4, t5, t6, t7] = 4)) (k (Res.mk (AV.tup [(AE.c (AC.int (IntKind.i64) (4))), (AE.c (AC.bool true))]) [(some (some (Block.mk false (Data.mix [(AC.chan (Loc.mk 1 0 0 0 0 0 0)), (AC.int (IntKind.i64) (o0)), (AC.bool (m0)), (AC.chan (Loc.mk 2 0 0 0 0 0 0)), (AC.int (IntKind.i64) (o1)), (AC.bool (m1)), (AC.chan (Loc.mk 3 0 0 0 0 0 0)), (AC.int (IntKind.i64) (o2)), (AC.bool (m2)), (AC.chan (Loc.mk 4 0 0 0 0 0 0)), (AC.int (IntKind.i64) (o3)), (AC.bool (m3)), (AC.chan (Loc.mk 5 0 0 0 0 0 0)), (AC.int (IntKind.i64) (o4)), (AC.bool true), (AC.chan (Loc.mk 6 0 0 0 0 0 0)), (AC.int (IntKind.i64) (o5)), (AC.bool (m5)), (AC.chan (Loc.mk 7 0 0 0 0 0 0)), (AC.int (IntKind.i64) (o6)), (AC.bool (m6)), (AC.chan (Loc.mk 8 0 0 0 0 0 0)), (AC.int (IntKind.i64) (o7)), (AC.bool (m7))])))), (some (some (Block.mk false (Data.chan 1 (t0))))), (some (some (Block.mk false (Data.chan 1 (t1))))), (some (some (Block.mk false (Data.chan 1 (t2))))), (some (some (Block.mk false (Data.chan 1 (t3))))), (some (some (Block.mk false (Data.chan 1 (t4 - 1))))), (some (some (Block.mk false (Data.chan 1 (t5))))), (some (some (Block.mk false (Data.chan 1 (t6))))), (some (some (Block.mk false (Data.chan 1 (t7)))))])) none) := by kernel_rfl
theorem t_nxt5 (d : Int) (o0 o1 o2 o3 o4 o5 o6 o7 : Int) (m0 m1 m2 m3 m4 m5 m6 m7 : Bool) (t0 t1 t2 t3 t4 t5 t6 t7 : Nat) (k : Res → Option Res) : fillF (runL Try.prog sNil (lNx 5) 9 60 11) [pq, aint .i64 d] (qSub [o0, o1, o2, o3, o4, o5, o6, o7] [m0, m1, m2, m3, m4, m5, m6, m7] [t0, t1, t2, t3, t4, t5, t6, t7]) k = (cond (true && decide (Go.Proofs.Ytanchmbopllimaa.Wlk.nxI d 0 [o0, o1, o2, o3, o4, o5, o6, o7] [m0, m1, m2, m3, m4, m5, m6, m7] [t0, t1, t2, t3, t4, t5, t6, t7] = 5)) (k (Res.mk (AV.tup [(AE.c (AC.int (IntKind.i64) (5))), (AE.c (AC.bool true))]) [(some (some (Block.mk false (Data.mix [(AC.chan (Loc.mk 1 0 0 0 0 0 0)), (AC.int (IntKind.i64) (o0)), (AC.bool (m0)), (AC.chan (Loc.mk 2 0 0 0 0 0 0)), (AC.int (IntKind.i64) (o1)), (AC.bool (m1)), (AC.chan (Loc.mk 3 0 0 0 0 0 0)), (AC.int (IntKind.i64) (o2)), (AC.bool (m2)), (AC.chan (Loc.mk 4 0 0 0 0 0 0)), (AC.int (IntKind.i64) (o3)), (AC.bool (m3)), (AC.chan (Loc.mk 5 0 0 0 0 0 0)), (AC.int (IntKind.i64) (o4)), (AC.bool (m4)), (AC.chan (Loc.mk 6 0 0 0 0 0 0)), (AC.int (IntKind.i64) (o5)), (AC.bool true), (AC.chan (Loc.mk 7 0 0 0 0 0 0)), (AC.int (IntKind.i64) (o6)), (AC.bool (m6)), (AC.chan (Loc.mk 8 0 0 0 0 0 0)), (AC.int (IntKind.i64) (o7)), (AC.bool (m7))])))), (some (some (Block.mk false (Data.chan 1 (t0))))), (some (some (Block.mk false (Data.chan 1 (t1))))), (some (some (Block.mk false (Data.chan 1 (t2))))), (some (some (Block.mk false (Data.chan 1 (t3))))), (some (some (Block.mk false (Data.chan 1 (t4))))), (some (some (Block.mk false (Data.chan 1 (t5 - 1))))), (some (some (Block.mk false (Data.chan 1 (t6))))), (some (some (Block.mk false (Data.chan 1 (t7)))))])) none) := by kernel_rfl
theorem t_nxt6 (d : Int) (o0 o1 o2 o3 o4 o5 o6 o7 : Int) (m0 m1 m2 m3 m4 m5 m6 m7 : Bool) (t0 t1 t2 t3 t4 t5 t6 t7 : Nat) (k : Res → Option Res) : fillF (runL Try.prog sNil (lNx 6) 9 60 11) [pq, aint .i64 d] (qSub [o0, o1, o2, o3, o4, o5, o6, o7] [m0, m1, m2, m3, m4, m5, m6, m7] [t0, t1, t2, t3, t4, t5, t6, t7]) k = (cond (true && decide (Go.Proofs.Ytanchmbopllimaa.Wlk.nxI d 0 [o0, o1, o2, o3, o4, o5, o6, o7] [m0, m1, m2, m3, m4, m5, m6, m7] [t0, t1, t2, t3, t4, t5, t6, t7] = 6)) (k (Res.mk (AV.tup [(AE.c (AC.int (IntKind.i64) (6))), (AE.c (AC.bool true))]) [(some (some (Block.mk false (Data.mix [(AC.chan (Loc.mk 1 0 0 0 0 0 0)), (AC.int (IntKind.i64) (o0)), (AC.bool (m0)), (AC.chan (Loc.mk 2 0 0 0 0 0 0)), (AC.int (IntKind.i64) (o1)), (AC.bool (m1)), (AC.chan (Loc.mk 3 0 0 0 0 0 0)), (AC.int (IntKind.i64) (o2)), (AC.bool (m2)), (AC.chan (Loc.mk 4 0 0 0 0 0 0)), (AC.int (IntKind.i64) (o3)), (AC.bool (m3)), (AC.chan (Loc.mk 5 0 0 0 0 0 0)), (AC.int (IntKind.i64) (o4)), (AC.bool (m4)), (AC.chan (Loc.mk 6 0 0 0 0 0 0)), (AC.int (IntKind.i64) (o5)), (AC.bool (m5)), (AC.chan (Loc.mk 7 0 0 0 0 0 0)), (AC.int (IntKind.i64) (o6)), (AC.bool true), (AC.chan (Loc.mk 8 0 0 0 0 0 0)), (AC.int (IntKind.i64) (o7)), (AC.bool (m7))])))), (some (some (Block.mk false (Data.chan 1 (t0))))), (some (some (Block.mk false (Data.chan 1 (t1))))), (some (some (Block.mk false (Data.chan 1 (t2))))), (some (some (Block.mk false (Data.chan 1 (t3))))), (some (some (Block.mk false (Data.chan 1 (t4))))), (some (some (Block.mk false (Data.chan 1 (t5))))), (some (some (Block.mk false (Data.chan 1 (t6 - 1))))), (some (some (Block.mk false (Data.chan 1 (t7)))))])) none) := by kernel_rfl
theorem t_nxt7 (d : Int) (o0 o1 o2 o3 o4 o5 o6 o7 : Int) (m0 m1 m2 m3 m4 m5 m6 m7 : Bool) (t0 t1 t2 t3 t4 t5 t6 t7 : Nat) (k : Res → Option Res) : fillF (runL Try.prog sNil (lNx 7) 9 60 11) [pq, aint .i64 d] (qSub [o0, o1, o2, o3, o4, o5, o6, o7] [m0, m1, m2, m3, m4, m5, m6, m7] [t0, t1, t2, t3, t4, t5, t6, t7]) k = (cond (true && decide (Go.Proofs.Ytanchmbopllimaa.Wlk.nxI d 0 [o0, o1, o2, o3, o4, o5, o6, o7] [m0, m1, m2, m3, m4, m5, m6, m7] [t0, t1, t2, t3, t4, t5, t6, t7] = 7)) (k (Res.mk (AV.tup [(AE.c (AC.int (IntKind.i64) (7))), (AE.c (AC.bool true))]) [(some (some (Block.mk false (Data.mix [(AC.chan (Loc.mk 1 0 0 0 0 0 0)), (AC.int (IntKind.i64) (o0)), (AC.bool (m0)), (AC.chan (Loc.mk 2 0 0 0 0 0 0)), (AC.int (IntKind.i64) (o1)), (AC.bool (m1)), (AC.chan (Loc.mk 3 0 0 0 0 0 0)), (AC.int (IntKind.i64) (o2)), (AC.bool (m2)), (AC.chan (Loc.mk 4 0 0 0 0 0 0)), (AC.int (IntKind.i64) (o3)), (AC.bool (m3)), (AC.chan (Loc.mk 5 0 0 0 0 0 0)), (AC.int (IntKind.i64) (o4)), (AC.bool (m4)), (AC.chan (Loc.mk 6 0 0 0 0 0 0)), (AC.int (IntKind.i64) (o5)), (AC.bool (m5)), (AC.chan (Loc.mk 7 0 0 0 0 0 0)), (AC.int (IntKind.i64) (o6)), (AC.bool (m6)), (AC.chan (Loc.mk 8 0 0 0 0 0 0)), (AC.int (IntKind.i64) (o7)), (AC.bool true)])))), (some (some (Block.mk false (Data.chan 1 (t0))))), (some (some (Block.mk false (Data.chan 1 (t1))))), (some (some (Block.mk false (Data.chan 1 (t2))))), (some (some (Block.mk false (Data.chan 1 (t3))))), (some (some (Block.mk false (Data.chan 1 (t4))))), (some (some (Block.mk false (Data.chan 1 (t5))))), (some (some (Block.mk false (Data.chan 1 (t6))))), (some (some (Block.mk false (Data.chan 1 (t7 - 1)))))])) none) := by kernel_rfl
theorem t_nxt8 (d : Int) (o0 o1 o2 o3 o4 o5 o6 o7 : Int) (m0 m1 m2 m3 m4 m5 m6 m7 : Bool) (t0 t1 t2 t3 t4 t5 t6 t7 : Nat) (k : Res → Option Res) : fillF (runL Try.prog sNil (lNx 8) 9 60 11) [pq, aint .i64 d] (qSub [o0, o1, o2, o3, o4, o5, o6, o7] [m0, m1, m2, m3, m4, m5, m6, m7] [t0, t1, t2, t3, t4, t5, t6, t7]) k = (cond (true && decide (Go.Proofs.Ytanchmbopllimaa.Wlk.nxI d 0 [o0, o1, o2, o3, o4, o5, o6, o7] [m0, m1, m2, m3, m4, m5, m6, m7] [t0, t1, t2, t3, t4, t5, t6, t7] = 8)) (k (Res.mk (AV.tup [(AE.c (AC.int (IntKind.i64) (0))), (AE.c (AC.bool false))]) [(some (some (Block.mk false (Data.mix [(AC.chan (Loc.mk 1 0 0 0 0 0 0)), (AC.int (IntKind.i64) (o0)), (AC.bool (m0)), (AC.chan (Loc.mk 2 0 0 0 0 0 0)), (AC.int (IntKind.i64) (o1)), (AC.bool (m1)), (AC.chan (Loc.mk 3 0 0 0 0 0 0)), (AC.int (IntKind.i64) (o2)), (AC.bool (m2)), (AC.chan (Loc.mk 4 0 0 0 0 0 0)), (AC.int (IntKind.i64) (o3)), (AC.bool (m3)), (AC.chan (Loc.mk 5 0 0 0 0 0 0)), (AC.int (IntKind.i64) (o4)), (AC.bool (m4)), (AC.chan (Loc.mk 6 0 0 0 0 0 0)), (AC.int (IntKind.i64) (o5)), (AC.bool (m5)), (AC.chan (Loc.mk 7 0 0 0 0 0 0)), (AC.int (IntKind.i64) (o6)), (AC.bool (m6)), (AC.chan (Loc.mk 8 0 0 0 0 0 0)), (AC.int (IntKind.i64) (o7)), (AC.bool (m7))])))), (some (some (Block.mk false (Data.chan 1 (t0))))), (some (some (Block.mk false (Data.chan 1 (t1))))), (some (some (Block.mk false (Data.chan 1 (t2))))), (some (some (Block.mk false (Data.chan 1 (t3))))), (some (some (Block.mk false (Data.chan 1 (t4))))), (some (some (Block.mk false (Data.chan 1 (t5))))), (some (some (Block.mk false (Data.chan 1 (t6))))), (some (some (Block.mk false (Data.chan 1 (t7)))))])) none) := by kernel_rfl
theorem t_wpend (o0 o1 o2 o3 o4 o5 o6 o7 : Int) (m0 m1 m2 m3 m4 m5 m6 m7 : Bool) (t0 t1 t2 t3 t4 t5 t6 t7 : Nat) (k : Res → Option Res) : fillF (runL Try.prog sWf lWord 9 60 25) [pq, .e (.c (.clos 26 []))] (qSub [o0, o1, o2, o3, o4, o5, o6, o7] [m0, m1, m2, m3, m4, m5, m6, m7] [t0, t1, t2, t3, t4, t5, t6, t7]) k = (k (Res.mk (AV.e (AE.c (AC.int (IntKind.u64) (Go.Proofs.Ytanchmbopllimaa.Wlk.wd 0 0 (Go.Proofs.Ytanchmbopllimaa.Wlk.bitsT [t0, t1, t2, t3, t4, t5, t6, t7]))))) [(some (some (Block.mk false (Data.mix [(AC.chan (Loc.mk 1 0 0 0 0 0 0)), (AC.int (IntKind.i64) (o0)), (AC.bool (m0)), (AC.chan (Loc.mk 2 0 0 0 0 0 0)), (AC.int (IntKind.i64) (o1)), (AC.bool (m1)), (AC.chan (Loc.mk 3 0 0 0 0 0 0)), (AC.int (IntKind.i64) (o2)), (AC.bool (m2)), (AC.chan (Loc.mk 4 0 0 0 0 0 0)), (AC.int (IntKind.i64) (o3)), (AC.bool (m3)), (AC.chan (Loc.mk 5 0 0 0 0 0 0)), (AC.int (IntKind.i64) (o4)), (AC.bool (m4)), (AC.chan (Loc.mk 6 0 0 0 0 0 0)), (AC.int (IntKind.i64) (o5)), (AC.bool (m5)), (AC.chan (Loc.mk 7 0 0 0 0 0 0)), (AC.int (IntKind.i64) (o6)), (AC.bool (m6)), (AC.chan (Loc.mk 8 0 0 0 0 0 0)), (AC.int (IntKind.i64) (o7)), (AC.bool (m7))])))), (some (some (Block.mk false (Data.chan 1 (t0))))), (some (some (Block.mk false (Data.chan 1 (t1))))), (some (some (Block.mk false (Data.chan 1 (t2))))), (some (some (Block.mk false (Data.chan 1 (t3))))), (some (some (Block.mk false (Data.chan 1 (t4))))), (some (some (Block.mk false (Data.chan 1 (t5))))), (some (some (Block.mk false (Data.chan 1 (t6))))), (some (some (Block.mk false (Data.chan 1 (t7)))))])) := by kernel_rfl
theorem t_wmask (o0 o1 o2 o3 o4 o5 o6 o7 : Int) (m0 m1 m2 m3 m4 m5 m6 m7 : Bool) (t0 t1 t2 t3 t4 t5 t6 t7 : Nat) (k : Res → Option Res) : fillF (runL Try.prog sWf lWord 9 60 25) [pq, .e (.c (.clos 27 []))] (qSub [o0, o1, o2, o3, o4, o5, o6, o7] [m0, m1, m2, m3, m4, m5, m6, m7] [t0, t1, t2, t3, t4, t5, t6, t7]) k = (k (Res.mk (AV.e (AE.c (AC.int (IntKind.u64) (Go.Proofs.Ytanchmbopllimaa.Wlk.wd 0 0 [m0, m1, m2, m3, m4, m5, m6, m7])))) [(some (some (Block.mk false (Data.mix [(AC.chan (Loc.mk 1 0 0 0 0 0 0)), (AC.int (IntKind.i64) (o0)), (AC.bool (m0)), (AC.chan (Loc.mk 2 0 0 0 0 0 0)), (AC.int (IntKind.i64) (o1)), (AC.bool (m1)), (AC.chan (Loc.mk 3 0 0 0 0 0 0)), (AC.int (IntKind.i64) (o2)), (AC.bool (m2)), (AC.chan (Loc.mk 4 0 0 0 0 0 0)), (AC.int (IntKind.i64) (o3)), (AC.bool (m3)), (AC.chan (Loc.mk 5 0 0 0 0 0 0)), (AC.int (IntKind.i64) (o4)), (AC.bool (m4)), (AC.chan (Loc.mk 6 0 0 0 0 0 0)), (AC.int (IntKind.i64) (o5)), (AC.bool (m5)), (AC.chan (Loc.mk 7 0 0 0 0 0 0)), (AC.int (IntKind.i64) (o6)), (AC.bool (m6)), (AC.chan (Loc.mk 8 0 0 0 0 0 0)), (AC.int (IntKind.i64) (o7)), (AC.bool (m7))])))), (some (some (Block.mk false (Data.chan 1 (t0))))), (some (some (Block.mk false (Data.chan 1 (t1))))), (some (some (Block.mk false (Data.chan 1 (t2))))), (some (some (Block.mk false (Data.chan 1 (t3))))), (some (some (Block.mk false (Data.chan 1 (t4))))), (some (some (Block.mk false (Data.chan 1 (t5))))), (some (some (Block.mk false (Data.chan 1 (t6))))), (some (some (Block.mk false (Data.chan 1 (t7)))))])) := by kernel_rfl
end Go.Proofs.Ytanchmbopllimaa.Wlk
