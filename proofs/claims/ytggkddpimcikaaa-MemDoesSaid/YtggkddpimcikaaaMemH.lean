/- The document's Zero, Copy, Put, Get, Read, New, told in short. -/
import Derived.Test.YtggkddpimcikaaaMemG
set_option linter.unusedVariables false
set_option linter.unusedSimpArgs false
set_option maxRecDepth 100000
namespace Go.Proofs.Ytggkddpimcikaaa.Wlk
open Go Go.Eng Go.Proofs Go.RowKit
def cRz : HeadO := fun vs h K => match vs, h with
  | [.e (.c (.ptr ⟨0, 0, 0, 0, 0, 0, 0⟩)), .e (.c (.int .i64 a)), .e (.c (.int .i64 m)), .e (.c (.int .i64 0))], [(false, some ⟨false, .mix [.slice ⟨1, 0, 1, 0, 0, 0, 0⟩ 1 n x true]⟩), (false, some ⟨false, .rows [.ints .u64 ws]⟩)] =>
    match okM n ws && inM n a m with
    | true => match decide (0 < m.toNat) with
      | true => K (.exit 0) [] [(false, some ⟨false, .mix [.slice ⟨1, 0, 1, 0, 0, 0, 0⟩ 1 n x true]⟩), (true, some ⟨false, .rows [.ints .u64 (blit ws a.toNat (List.replicate m.toNat 0) m.toNat)]⟩)]
      | false => K (.exit 0) [] [(false, some ⟨false, .mix [.slice ⟨1, 0, 1, 0, 0, 0, 0⟩ 1 n x true]⟩), (false, some ⟨false, .rows [.ints .u64 (blit ws a.toNat (List.replicate m.toNat 0) m.toNat)]⟩)]
    | false => none
  | _, _ => none
def cRc : HeadO := fun vs h K => match vs, h with
  | [.e (.c (.ptr ⟨0, 0, 0, 0, 0, 0, 0⟩)), .e (.c (.int .i64 a)), .e (.c (.int .i64 m)), .e (.c (.slice ⟨2, 0, 1, 0, 0, 0, 0⟩ 1 p 0 true)), .e (.c (.int .i64 0))], [(false, some ⟨false, .mix [.slice ⟨1, 0, 1, 0, 0, 0, 0⟩ 1 n x true]⟩), (false, some ⟨false, .rows [.ints .u64 ws]⟩), (true, some ⟨false, .rows [.ints .u64 l]⟩)] =>
    match okM n ws && inM n a m && Nat.beq p m.toNat && Nat.beq l.length p with
    | true => match decide (0 < m.toNat) with
      | true => K (.exit 0) [] [(false, some ⟨false, .mix [.slice ⟨1, 0, 1, 0, 0, 0, 0⟩ 1 n x true]⟩), (true, some ⟨false, .rows [.ints .u64 (blit ws a.toNat l m.toNat)]⟩)]
      | false => K (.exit 0) [] [(false, some ⟨false, .mix [.slice ⟨1, 0, 1, 0, 0, 0, 0⟩ 1 n x true]⟩), (false, some ⟨false, .rows [.ints .u64 (blit ws a.toNat l m.toNat)]⟩)]
    | false => none
  | _, _ => none
theorem cRz_sound : HeadSound Try.prog iRz (loopOf Try.prog 17 0) cRz := by
  refine HeadSound.short (iterR_sound (F := 60) sTh_ok mix lNil_ok) fun vs h K r e => ?_
  unfold cRz at e
  split at e
  · rename_i a m n x ws
    split at e
    · rename_i hc
      simp only [Bool.and_eq_true] at hc
      obtain ⟨rfl, hn⟩ := okM_spec hc.1
      have k := hc.2
      simp only [inM, Bool.and_eq_true, decide_eq_true_eq] at k
      obtain ⟨a, rfl⟩ : ∃ b : Nat, a = (b : Int) := ⟨a.toNat, by omega⟩
      obtain ⟨m, rfl⟩ : ∃ b : Nat, m = (b : Int) := ⟨m.toNat, by omega⟩
      refine ⟨m + 1, (loopRz0 ws a m x (by omega) hn K).trans ?_⟩
      simp only [Int.toNat_natCast] at e
      split at e
      · rename_i hd; rw [hd]; exact e
      · rename_i hd; rw [hd]; exact e
    · cases e
  · cases e
theorem cRc_sound : HeadSound Try.prog iRc (loopOf Try.prog 18 0) cRc := by
  refine HeadSound.short (iterR_sound (F := 60) sTh_ok mix lNil_ok) fun vs h K r e => ?_
  unfold cRc at e
  split at e
  · rename_i a m p n x ws l
    split at e
    · rename_i hc
      simp only [Bool.and_eq_true] at hc
      obtain ⟨⟨⟨c1, k⟩, c2⟩, c3⟩ := hc
      obtain ⟨rfl, hn⟩ := okM_spec c1
      have c2 := Nat.eq_of_beq_eq_true c2
      have c3 := Nat.eq_of_beq_eq_true c3
      simp only [inM, Bool.and_eq_true, decide_eq_true_eq] at k
      obtain ⟨a, rfl⟩ : ∃ b : Nat, a = (b : Int) := ⟨a.toNat, by omega⟩
      obtain ⟨m, rfl⟩ : ∃ b : Nat, m = (b : Int) := ⟨m.toNat, by omega⟩
      simp only [Int.toNat_natCast] at e c2
      subst c2
      refine ⟨p + 1, (loopRc0 ws l a p x (by omega) c3 hn K).trans ?_⟩
      split at e
      · rename_i hd; rw [hd]; exact e
      · rename_i hd; rw [hd]; exact e
    · cases e
  · cases e
noncomputable def lRz : Nat → Option Orc := lAdd lNil 0 (wrapO iRz 0 cRz)
theorem lRz_for : LFor 2 Try.prog 17 lRz := lAdd_for (I := iRz) lNil_for (by kernel_rfl) cRz_sound
theorem rz_dis : Go.Eng.distinct (blockIds (codeOf Try.prog 17)) = true := by kernel_rfl
noncomputable def lRc : Nat → Option Orc := lAdd lNil 0 (wrapO iRc 0 cRc)
theorem lRc_for : LFor 2 Try.prog 18 lRc := lAdd_for (I := iRc) lNil_for (by kernel_rfl) cRc_sound
theorem rc_dis : Go.Eng.distinct (blockIds (codeOf Try.prog 18)) = true := by kernel_rfl
theorem t_refZero (a m : Int) (n x : Nat) (ws : List Int) (k : Res → Option Res) : runLG Try.prog sTh lRz 2 100 17 [mP, aint .i64 a, aint .i64 m] (mB n x ws) k = (cond (Go.Proofs.Ytggkddpimcikaaa.Wlk.okM n ws && inI a && inI m) (cond (!Go.Proofs.Ytggkddpimcikaaa.Wlk.inM n a m) (k (Res.mk (AV.e (AE.c (AC.int (IntKind.i64) (1)))) [(none), (none)])) (cond (Go.Proofs.Ytggkddpimcikaaa.Wlk.okM n ws && Go.Proofs.Ytggkddpimcikaaa.Wlk.inM n a m) (cond (decide (0 < Int.toNat m)) (k (Res.mk (AV.e (AE.c (AC.int (IntKind.i64) (0)))) [(none), (some (some (Block.mk false (Data.rows [(Col.ints (IntKind.u64) (Go.Proofs.Ytggkddpimcikaaa.Wlk.blit ws (Int.toNat a) (List.replicate (Int.toNat m) (0 : Int)) (Int.toNat m)))]))))])) (k (Res.mk (AV.e (AE.c (AC.int (IntKind.i64) (0)))) [(none), (none)]))) none)) none) := by kernel_rfl
theorem t_refCopy (a b m : Int) (n x : Nat) (ws : List Int) (k : Res → Option Res) : runLG Try.prog sTh lRc 2 100 18 [mP, aint .i64 a, aint .i64 b, aint .i64 m] (mB n x ws) k = (cond (Go.Proofs.Ytggkddpimcikaaa.Wlk.okM n ws && inI a && inI m) (cond (!Go.Proofs.Ytggkddpimcikaaa.Wlk.inM n a m) (k (Res.mk (AV.e (AE.c (AC.int (IntKind.i64) (1)))) [(none), (none)])) (cond (Go.Proofs.Ytggkddpimcikaaa.Wlk.okM n ws && inI b && inI m) (cond (!Go.Proofs.Ytggkddpimcikaaa.Wlk.inM n b m) (k (Res.mk (AV.e (AE.c (AC.int (IntKind.i64) (1)))) [(none), (none)])) (cond (decide (0 ≤ IntKind.wrap IntKind.i64 (b + m)) && decide (IntKind.wrap IntKind.i64 (b + m) ≤ (↑n : Int)) && decide (0 ≤ b) && decide (b ≤ IntKind.wrap IntKind.i64 (b + m))) (cond (decide (0 + 0 ≤ 0) && true && (decide (0 + Int.toNat b + (Int.toNat (IntKind.wrap IntKind.i64 (b + m)) - Int.toNat b) ≤ List.length ws) && true) && decide ((0 + (Int.toNat (IntKind.wrap IntKind.i64 (b + m)) - Int.toNat b)) * 8 ≤ 140737488355328) && decide (0 + (Int.toNat (IntKind.wrap IntKind.i64 (b + m)) - Int.toNat b) ≤ 140737488355328)) (cond (Go.Proofs.Ytggkddpimcikaaa.Wlk.okM n ws && Go.Proofs.Ytggkddpimcikaaa.Wlk.inM n a m && Nat.beq (0 + (Int.toNat (IntKind.wrap IntKind.i64 (b + m)) - Int.toNat b)) (Int.toNat m) && Nat.beq (List.length (List.take 0 (List.drop 0 []) ++ List.take (Int.toNat (IntKind.wrap IntKind.i64 (b + m)) - Int.toNat b) (List.drop (0 + Int.toNat b) ws))) (0 + (Int.toNat (IntKind.wrap IntKind.i64 (b + m)) - Int.toNat b))) (cond (decide (0 < Int.toNat m)) (k (Res.mk (AV.e (AE.c (AC.int (IntKind.i64) (0)))) [(none), (some (some (Block.mk false (Data.rows [(Col.ints (IntKind.u64) (Go.Proofs.Ytggkddpimcikaaa.Wlk.blit ws (Int.toNat a) (List.take 0 (List.drop 0 []) ++ List.take (Int.toNat (IntKind.wrap IntKind.i64 (b + m)) - Int.toNat b) (List.drop (0 + Int.toNat b) ws)) (Int.toNat m)))]))))])) (k (Res.mk (AV.e (AE.c (AC.int (IntKind.i64) (0)))) [(none), (none)]))) none) none) none)) none)) none) := by kernel_rfl
theorem gRefZero_sound : FunSound Try.prog 17 gZero := by
  refine (runL_sound sTh_ok mix 100 17 rz_dis lRz_for).gc.fill.short fun args sub κ r h => ?_
  unfold gZero at h
  split at h
  · rename_i a m n x ws
    split at h
    · rename_i hc
      have hc' := hc
      simp only [Bool.and_eq_true] at hc
      have ho := hc.1.1
      obtain ⟨rfl, hn⟩ := okM_spec hc.1.1
      refine (t_refZero a m ws.length x ws _).trans ?_
      rw [hc', cond_true]
      by_cases c : inM ws.length a m = true
      · rw [c, Bool.not_true, cond_false, ho, Bool.and_self, cond_true]
        have k := c
        simp only [inM, Bool.and_eq_true, decide_eq_true_eq] at k
        have e : zeroW ws a m = blit ws a.toNat (List.replicate m.toNat 0) m.toNat := by
          unfold zeroW; rw [if_pos c]; unfold blit; rw [List.take_of_length_le (l := List.replicate m.toNat (0 : Int)) (by simp)]
        rw [e, c] at h
        cases hd : decide (0 < m.toNat) with
        | true => rw [cond_true]; exact h
        | false =>
          have : m.toNat = 0 := by simpa using hd
          rw [cond_false]
          rw [this, blit_zero] at h
          exact h
      · have c' : inM ws.length a m = false := by simpa using c
        have e : zeroW ws a m = ws := by unfold zeroW; rw [if_neg c]
        rw [c', Bool.not_false, cond_true]
        rw [e, c'] at h
        exact h
    · cases h
  · cases h
theorem gRefCopy_sound : FunSound Try.prog 18 gCopy := by
  refine (runL_sound sTh_ok mix 100 18 rc_dis lRc_for).gc.fill.short fun args sub κ r h => ?_
  unfold gCopy at h
  split at h
  · rename_i a b m n x ws
    split at h
    · rename_i hc
      simp only [Bool.and_eq_true] at hc
      obtain ⟨⟨⟨ho, ha⟩, hb⟩, hm⟩ := hc
      have ho' := ho
      obtain ⟨rfl, hn⟩ := okM_spec ho
      refine (t_refCopy a b m ws.length x ws _).trans ?_
      rw [ho', ha, hb, hm, Bool.and_self, Bool.and_self, cond_true]
      by_cases c : inM ws.length a m = true
      rotate_left
      · have c' : inM ws.length a m = false := by simpa using c
        have e : copyW ws a b m = ws := by unfold copyW; rw [c', Bool.false_and, if_neg (by simp)]
        rw [c', Bool.not_false, cond_true]
        rw [e, c', Bool.false_and] at h
        exact h
      rw [c, Bool.not_true, cond_false, cond_true]
      by_cases d : inM ws.length b m = true
      rotate_left
      · have d' : inM ws.length b m = false := by simpa using d
        have e : copyW ws a b m = ws := by unfold copyW; rw [d', Bool.and_false, if_neg (by simp)]
        rw [d', Bool.not_false, cond_true]
        rw [e, d', Bool.and_false] at h
        exact h
      have k := c
      have k2 := d
      simp only [inM, Bool.and_eq_true, decide_eq_true_eq] at k k2
      have hL : List.take 0 (List.drop 0 ([] : List Int)) ++ List.take m.toNat (List.drop b.toNat ws) = List.take m.toNat (List.drop b.toNat ws) := rfl
      have hl : (List.take m.toNat (List.drop b.toNat ws)).length = m.toNat := by simp only [List.length_take, List.length_drop]; omega
      have e : copyW ws a b m = blit ws a.toNat (List.take m.toNat (List.drop b.toNat ws)) m.toNat := by
        unfold copyW; rw [c, d, Bool.and_self, if_pos rfl]; unfold blit; rw [List.take_of_length_le (l := List.take m.toNat (List.drop b.toNat ws)) (by omega)]
      rw [wrap_i64 (n := b + m) (by omega) (by omega), show (b + m).toNat - b.toNat = m.toNat from by omega]
      rw [d, Bool.not_true, cond_false, decide_eq_true (show 0 ≤ b + m by omega), decide_eq_true (show b + m ≤ (ws.length : Int) by omega), decide_eq_true (show 0 ≤ b by omega), decide_eq_true (show b ≤ b + m by omega)]
      simp only [Nat.zero_add, hL, hl, decide_eq_true (show b.toNat + m.toNat ≤ ws.length by omega), decide_eq_true (show m.toNat * 8 ≤ 140737488355328 by omega), decide_eq_true (show m.toNat ≤ 140737488355328 by omega), ho', Nat.beq_refl, Bool.and_self, Nat.le_refl, decide_true]
      rw [e, c, d] at h
      cases hd : decide (0 < m.toNat) with
      | true => exact h
      | false =>
        have : m.toNat = 0 := by simpa using hd
        rw [this, blit_zero] at h
        exact h
    · cases h
  · cases h
end Go.Proofs.Ytggkddpimcikaaa.Wlk
