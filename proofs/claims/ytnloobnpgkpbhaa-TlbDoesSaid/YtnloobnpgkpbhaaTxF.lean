/- The reference's list of what is kept: filled in: told in short. -/
import Derived.Test.YtnloobnpgkpbhaaTxE
set_option linter.unusedVariables false
set_option linter.unusedSimpArgs false
set_option maxRecDepth 100000
namespace Go.Proofs.Ytnloobnpgkpbhaa.Wlk
open Go Go.Eng Go.Proofs Go.RowKit
def bnF (x y : Int) (L : List Ro) : Bool := decide (8 ≤ (dropL x y L).length)
def gXFi (E : FE) (FI : FI8) (BN : ENd) : Fun := fun args sub κ => match args, sub with
  | [.e (.c (.ptr ⟨0, 0, 0, 0, 0, 0, 0⟩)), .e (.c (.int .i64 x)), .e (.c (.int .i64 y)), .e (.agg [.bool v0, .bool w0, .int .i64 a0])], [some ⟨false, .mix [.slice ⟨1, 0, 5, 0, 0, 0, 0⟩ 5 n 0 b]⟩, some ⟨false, .rows [.ints .i64 s, .ints .i64 p, .bools v, .bools w, .ints .i64 a]⟩] =>
    match okK n 0 s p v w a && Nat.ble n 8 && inI a0 with
    | true => match decide (E x y v0 w0 a0 = 0) with
      | true => κ ⟨aint .i64 0, [some (xT 2 (FI x y v0 w0 a0 (rowsN n s p v w a)).length (BN x y (rowsN n s p v w a))), none, some (kR (FI x y v0 w0 a0 (rowsN n s p v w a)) 0)]⟩
      | false => κ ⟨aint .i64 (E x y v0 w0 a0), [none, none]⟩
    | false => none
  | [.e (.c (.ptr ⟨0, 0, 0, 0, 0, 0, 0⟩)), .e (.c (.int .i64 x)), .e (.c (.int .i64 y)), .e (.agg [.bool v0, .bool w0, .int .i64 a0])], [some ⟨false, .mix [.nils]⟩] =>
    match inI a0 with
    | true => match decide (E x y v0 w0 a0 = 0) with
      | true => κ ⟨aint .i64 0, [some (xT 1 1 false), some (kR [⟨x, y, v0, w0, a0⟩] 0)]⟩
      | false => κ ⟨aint .i64 (E x y v0 w0 a0), [none]⟩
    | false => none
  | _, _ => none
theorem filE_split2 (x y : Int) (v w : Bool) (a : Int) {β : Type} (A : Int → β) (B : β) : cond (!nmb x) (A 1) (cond (decide (y < 0)) (A 1) (cond (decide (y > 255)) (A 1) (cond (!v) (A 10) (cond (epE v w a != 0) (A 10) B)))) = cond (decide (filE x y v w a = 0)) B (A (filE x y v w a)) := by
  have hr : rgt x y = (nmb x && (decide (0 ≤ y) && decide (y < 256))) := by
    unfold rgt nmb
    by_cases c1 : 0 ≤ x <;> by_cases c2 : x < 64 <;> simp [c1, c2] <;> omega
  unfold filE
  rw [hr]
  cases nmb x
  · rfl
  · rw [Bool.true_and, Bool.not_true, cF]
    by_cases c1 : y < 0
    · rw [decide_eq_true c1, cT, decide_eq_false (show ¬ 0 ≤ y by omega), Bool.false_and, if_neg Bool.false_ne_true]; rfl
    · rw [decide_eq_false c1, cF, decide_eq_true (show 0 ≤ y by omega), Bool.true_and]
      by_cases c2 : y > 255
      · rw [decide_eq_true c2, cT, decide_eq_false (show ¬ y < 256 by omega), if_neg Bool.false_ne_true]; rfl
      · rw [decide_eq_false c2, cF, decide_eq_true (show y < 256 by omega), if_pos rfl]
        by_cases c : epE v w a = 0
        · cases v
          · simp [c]
          · simp [c]
        · rw [show (epE v w a != 0) = true from by simp [c], cT]
          cases v <;> simp [c]
theorem tailS (M : List Ro) : List.take (M.length - 1) (List.drop 1 (cS M 0)) = cS (M.drop 1) 0 := by
  unfold cS
  rw [rep0, rep0, List.map_drop, List.take_of_length_le (by rw [List.length_drop, List.length_map]; exact Nat.le_refl _)]
theorem tailP (M : List Ro) : List.take (M.length - 1) (List.drop 1 (cP M 0)) = cP (M.drop 1) 0 := by
  unfold cP
  rw [rep0, rep0, List.map_drop, List.take_of_length_le (by rw [List.length_drop, List.length_map]; exact Nat.le_refl _)]
theorem tailV (M : List Ro) : List.take (M.length - 1) (List.drop 1 (cV M 0)) = cV (M.drop 1) 0 := by
  unfold cV
  rw [rep0, rep0, List.map_drop, List.take_of_length_le (by rw [List.length_drop, List.length_map]; exact Nat.le_refl _)]
theorem tailW (M : List Ro) : List.take (M.length - 1) (List.drop 1 (cW M 0)) = cW (M.drop 1) 0 := by
  unfold cW
  rw [rep0, rep0, List.map_drop, List.take_of_length_le (by rw [List.length_drop, List.length_map]; exact Nat.le_refl _)]
theorem tailA (M : List Ro) : List.take (M.length - 1) (List.drop 1 (cA M 0)) = cA (M.drop 1) 0 := by
  unfold cA
  rw [rep0, rep0, List.map_drop, List.take_of_length_le (by rw [List.length_drop, List.length_map]; exact Nat.le_refl _)]
theorem nil_app {α : Type} (l : List α) : List.take 0 (List.drop 0 ([] : List α)) ++ l = l := rfl
set_option maxHeartbeats 8000000 in
theorem gXFi_sound : FunSound Try.prog 18 (gXFi filE fillL bnF) := by
  refine (runG_sound sXl_ok mix 100 18).short fun args sub κ r h => ?_
  unfold gXFi at h
  split at h
  · rename_i x y v0 w0 a0 n b s p v w a
    split at h
    · rename_i hc
      simp only [Bool.and_eq_true] at hc
      obtain ⟨⟨hc, h8⟩, hi⟩ := hc
      have h8 := Nat.le_of_ble_eq_true h8
      obtain ⟨L, hL, rfl, rfl, rfl, rfl, rfl, hb, hr⟩ := okK_spec hc
      subst hL
      have hd := drop_le x y L
      rw [rowsN_cols] at h
      refine (t_xFiS nmb epW epE drN dropL L.length b x y v0 w0 a0 _ _ _ _ _ κ).trans ?_
      rw [hi, cT, hc, Nat.ble_eq_true_of_le (show L.length ≤ 16 by omega), Bool.and_self, cT, rowsN_cols]
      refine (filE_split2 x y v0 w0 a0 (fun E => κ ⟨aint .i64 E, [none, none]⟩) _).trans ?_
      cases cE : decide (filE x y v0 w0 a0 = 0) with
      | false =>
        rw [cE] at h
        rw [cF]; exact h
      | true =>
        rw [cE] at h
        rw [cT]
        unfold drN
        unfold fillL bnF at h
        generalize dropL x y L = M at h hd ⊢
        have hM : M.length ≤ 8 := by omega
        by_cases hn : M = []
        · subst hn
          rw [show List.isEmpty ([] : List Ro) = true from rfl, cT]
          exact h
        · have hne : M.isEmpty = false := by cases M with | nil => exact absurd rfl hn | cons q R => rfl
          have hpos : 1 ≤ M.length := by
            cases M with
            | nil => exact absurd rfl hn
            | cons q R => simp
          rw [hne, cF]
          unfold addL at h
          by_cases c8 : 8 ≤ M.length
          · rw [if_pos (by omega), decide_eq_true c8] at h
            have hdr : (M ++ [(⟨x, y, v0, w0, a0⟩ : Ro)]).drop 1 = M.drop 1 ++ [⟨x, y, v0, w0, a0⟩] := by
              cases M with
              | nil => exact absurd rfl hn
              | cons q R => rfl
            have hT : (M.drop 1).length = M.length - 1 := List.length_drop ..
            have hl1 : (M.drop 1 ++ [(⟨x, y, v0, w0, a0⟩ : Ro)]).length = M.length - 1 + 1 := by rw [List.length_append, hT]; rfl
            rw [hdr, hl1] at h
            have q1 := snocS (M.drop 1) ⟨x, y, v0, w0, a0⟩
            have q2 := snocP (M.drop 1) ⟨x, y, v0, w0, a0⟩
            have q3 := snocV (M.drop 1) ⟨x, y, v0, w0, a0⟩
            have q4 := snocW (M.drop 1) ⟨x, y, v0, w0, a0⟩
            have q5 := snocA (M.drop 1) ⟨x, y, v0, w0, a0⟩
            rw [hT] at q1 q2 q3 q4 q5
            rw [decide_eq_true (show ((M.length : Nat) : Int) ≥ 8 by omega), cT, decide_eq_true (show (1 : Int) ≤ (M.length : Int) by omega), Bool.and_self, cT, nil_app, nil_app, nil_app, nil_app, nil_app, tailS, tailP, tailV, tailW, tailA, Nat.zero_add (M.length - 1), q1, q2, q3, q4, q5, Nat.zero_add (M.length - 1), cS_len, cP_len, cV_len, cW_len, cA_len, cS_len, cP_len, cV_len, cW_len, cA_len, hT, one_len, one_len, one_len, one_len, one_len, decide_eq_true (show 0 + 0 ≤ 0 by omega), decide_eq_true (show 1 + (M.length - 1) ≤ M.length + 0 by omega), decide_eq_true (show (M.length - 1) * 32 ≤ 140737488355328 by omega), decide_eq_true (show M.length - 1 ≤ 140737488355328 by omega), decide_eq_true (show M.length - 1 ≤ M.length - 1 + 0 by omega), decide_eq_true (show 0 + 1 ≤ 1 by omega), decide_eq_true (show (M.length - 1 + 1) * 32 ≤ 140737488355328 by omega), decide_eq_true (show M.length - 1 + 1 ≤ 140737488355328 by omega)]
            repeat rw [Bool.and_self]
            rw [cT, cT]
            exact h
          · rw [if_neg (by omega), decide_eq_false c8] at h
            have hl1 : (M ++ [(⟨x, y, v0, w0, a0⟩ : Ro)]).length = M.length + 1 := by simp
            rw [hl1] at h
            rw [decide_eq_false (show ¬ ((M.length : Nat) : Int) ≥ 8 by omega), cF, snocS M ⟨x, y, v0, w0, a0⟩, snocP M ⟨x, y, v0, w0, a0⟩, snocV M ⟨x, y, v0, w0, a0⟩, snocW M ⟨x, y, v0, w0, a0⟩, snocA M ⟨x, y, v0, w0, a0⟩, cS_len, cP_len, cV_len, cW_len, cA_len, one_len, one_len, one_len, one_len, one_len, decide_eq_true (show 0 + M.length ≤ M.length + 0 by omega), decide_eq_true (show 0 + 1 ≤ 1 by omega), decide_eq_true (show (M.length + 1) * 32 ≤ 140737488355328 by omega), decide_eq_true (show M.length + 1 ≤ 140737488355328 by omega)]
            repeat rw [Bool.and_self]
            rw [cT]
            exact h
    · cases h
  · rename_i x y v0 w0 a0
    split at h
    · rename_i hi
      refine (t_xFiN nmb epW epE drN dropL x y v0 w0 a0 κ).trans ?_
      rw [hi, cT]
      refine (filE_split2 x y v0 w0 a0 (fun E => κ ⟨aint .i64 E, [none]⟩) _).trans ?_
      cases cE : decide (filE x y v0 w0 a0 = 0) with
      | false =>
        rw [cE] at h
        rw [cF]; exact h
      | true =>
        rw [cE] at h
        rw [cT]; exact h
    · cases h
  · cases h
noncomputable def sXo (V W : GB) (A : GZ) (I : GB) (E : FE) (FI : FI8) (BN : ENd) (N : Int → Bool) (PV PW : LB) (PA PE : LF) (S1 S2 S3 SE : IF) : Summ :=
  sAdd (sAdd (sAdd (sAdd (sAdd sNil 24 (gXg V W A I)) 18 (gXFi E FI BN)) 43 (gNum N)) 44 (gPageV PV PW PA PE)) 42 (gSplitV S1 S2 S3 SE)
theorem sXo_ok : SummOk Try.prog (sXo ktV ktW ktA ktI filE fillL bnF nmb pgV pgW pgA pgE sp1 sp2 sp3 spE) := sAdd_ok (sAdd_ok (sAdd_ok (sAdd_ok (sAdd_ok sNil_ok gXg_sound (enters Try.func24 rfl (by kernel_rfl))) gXFi_sound (enters Try.func18 rfl (by kernel_rfl))) gNum_sound (enters Try.func43 rfl (by kernel_rfl))) gRefPage_sound (enters Try.func44 rfl (by kernel_rfl))) gRefSplit_sound (enters Try.func42 rfl (by kernel_rfl))
theorem t_xoS (V W : GB) (A : GZ) (I : GB) (E : FE) (FI : FI8) (BN : ENd) (N : Int → Bool) (PV PW : LB) (PA PE : LF) (S1 S2 S3 SE : IF) (n m c : Nat) (b : Bool) (sp d a : Int) (wr : Bool) (s p : List Int) (v w : List Bool) (q : List Int) (ws : List Int) (K : Res → Option Res) : runG Try.prog (sXo V W A I E FI BN N PV PW PA PE S1 S2 S3 SE) 100 16 [tP, vPt 1, aint .i64 sp, aint .i64 d, aint .i64 a, wr_ wr] [xT 2 n b, some ⟨false, .mix [.slice ⟨3, 0, 1, 0, 0, 0, 0⟩ 1 m c true]⟩, kB s p v w q, some ⟨false, .rows [.ints .u64 ws]⟩] K = (cond (inI a) (cond (!N sp) (K (Res.mk (AV.tup [(AE.c (AC.int (IntKind.i64) (0))), (AE.c (AC.int (IntKind.i64) (1)))]) [(none), (none), (none), (none)])) (cond (SE a != 0) (K (Res.mk (AV.tup [(AE.c (AC.int (IntKind.i64) (0))), (AE.c (AC.int (IntKind.i64) (1)))]) [(none), (none), (none), (none)])) (cond (Go.Proofs.Ytnloobnpgkpbhaa.Wlk.okK n 0 s p v w q && Nat.ble n 16) (cond (!I sp (IntKind.wrap IntKind.i64 (Int.tdiv a 16)) (Go.Proofs.Ytnloobnpgkpbhaa.Wlk.rowsN n s p v w q)) (cond (Go.Proofs.Ytnloobnpgkpbhaa.Wlk.okM m ws && inI d && inI a && Go.Proofs.Ytnloobnpgkpbhaa.Wlk.allW ws) (cond (PE ws d a != 0) (K (Res.mk (AV.tup [(AE.c (AC.int (IntKind.i64) (0))), (AE.c (AC.int (IntKind.i64) (PE ws d a)))]) [(none), (none), (none), (none)])) (cond (Go.Proofs.Ytnloobnpgkpbhaa.Wlk.okK n 0 s p v w q && Nat.ble n 8 && inI (PA ws d a)) (cond (decide (E sp (IntKind.wrap IntKind.i64 (Int.tdiv a 16)) (PV ws d a) (PW ws d a) (PA ws d a) = 0)) (cond (wr) (cond (!PW ws d a) (K (Res.mk (AV.tup [(AE.c (AC.int (IntKind.i64) (0))), (AE.c (AC.int (IntKind.i64) (5)))]) [(some (some (Block.mk false (Data.mix [(AC.slice (Loc.mk 4 0 5 0 0 0 0) 5 (List.length (FI sp (IntKind.wrap IntKind.i64 (Int.tdiv a 16)) (PV ws d a) (PW ws d a) (PA ws d a) (Go.Proofs.Ytnloobnpgkpbhaa.Wlk.rowsN n s p v w q))) 0 (BN sp (IntKind.wrap IntKind.i64 (Int.tdiv a 16)) (Go.Proofs.Ytnloobnpgkpbhaa.Wlk.rowsN n s p v w q)))])))), (none), (none), (none), (some (some (Block.mk false (Data.rows [(Col.ints (IntKind.i64) (Go.Proofs.Ytnloobnpgkpbhaa.Wlk.cS (FI sp (IntKind.wrap IntKind.i64 (Int.tdiv a 16)) (PV ws d a) (PW ws d a) (PA ws d a) (Go.Proofs.Ytnloobnpgkpbhaa.Wlk.rowsN n s p v w q)) 0)), (Col.ints (IntKind.i64) (Go.Proofs.Ytnloobnpgkpbhaa.Wlk.cP (FI sp (IntKind.wrap IntKind.i64 (Int.tdiv a 16)) (PV ws d a) (PW ws d a) (PA ws d a) (Go.Proofs.Ytnloobnpgkpbhaa.Wlk.rowsN n s p v w q)) 0)), (Col.bools (Go.Proofs.Ytnloobnpgkpbhaa.Wlk.cV (FI sp (IntKind.wrap IntKind.i64 (Int.tdiv a 16)) (PV ws d a) (PW ws d a) (PA ws d a) (Go.Proofs.Ytnloobnpgkpbhaa.Wlk.rowsN n s p v w q)) 0)), (Col.bools (Go.Proofs.Ytnloobnpgkpbhaa.Wlk.cW (FI sp (IntKind.wrap IntKind.i64 (Int.tdiv a 16)) (PV ws d a) (PW ws d a) (PA ws d a) (Go.Proofs.Ytnloobnpgkpbhaa.Wlk.rowsN n s p v w q)) 0)), (Col.ints (IntKind.i64) (Go.Proofs.Ytnloobnpgkpbhaa.Wlk.cA (FI sp (IntKind.wrap IntKind.i64 (Int.tdiv a 16)) (PV ws d a) (PW ws d a) (PA ws d a) (Go.Proofs.Ytnloobnpgkpbhaa.Wlk.rowsN n s p v w q)) 0))]))))])) (K (Res.mk (AV.tup [(AE.c (AC.int (IntKind.i64) (IntKind.wrap IntKind.i64 (PA ws d a + S3 a)))), (AE.c (AC.int (IntKind.i64) (0)))]) [(some (some (Block.mk false (Data.mix [(AC.slice (Loc.mk 4 0 5 0 0 0 0) 5 (List.length (FI sp (IntKind.wrap IntKind.i64 (Int.tdiv a 16)) (PV ws d a) (PW ws d a) (PA ws d a) (Go.Proofs.Ytnloobnpgkpbhaa.Wlk.rowsN n s p v w q))) 0 (BN sp (IntKind.wrap IntKind.i64 (Int.tdiv a 16)) (Go.Proofs.Ytnloobnpgkpbhaa.Wlk.rowsN n s p v w q)))])))), (none), (none), (none), (some (some (Block.mk false (Data.rows [(Col.ints (IntKind.i64) (Go.Proofs.Ytnloobnpgkpbhaa.Wlk.cS (FI sp (IntKind.wrap IntKind.i64 (Int.tdiv a 16)) (PV ws d a) (PW ws d a) (PA ws d a) (Go.Proofs.Ytnloobnpgkpbhaa.Wlk.rowsN n s p v w q)) 0)), (Col.ints (IntKind.i64) (Go.Proofs.Ytnloobnpgkpbhaa.Wlk.cP (FI sp (IntKind.wrap IntKind.i64 (Int.tdiv a 16)) (PV ws d a) (PW ws d a) (PA ws d a) (Go.Proofs.Ytnloobnpgkpbhaa.Wlk.rowsN n s p v w q)) 0)), (Col.bools (Go.Proofs.Ytnloobnpgkpbhaa.Wlk.cV (FI sp (IntKind.wrap IntKind.i64 (Int.tdiv a 16)) (PV ws d a) (PW ws d a) (PA ws d a) (Go.Proofs.Ytnloobnpgkpbhaa.Wlk.rowsN n s p v w q)) 0)), (Col.bools (Go.Proofs.Ytnloobnpgkpbhaa.Wlk.cW (FI sp (IntKind.wrap IntKind.i64 (Int.tdiv a 16)) (PV ws d a) (PW ws d a) (PA ws d a) (Go.Proofs.Ytnloobnpgkpbhaa.Wlk.rowsN n s p v w q)) 0)), (Col.ints (IntKind.i64) (Go.Proofs.Ytnloobnpgkpbhaa.Wlk.cA (FI sp (IntKind.wrap IntKind.i64 (Int.tdiv a 16)) (PV ws d a) (PW ws d a) (PA ws d a) (Go.Proofs.Ytnloobnpgkpbhaa.Wlk.rowsN n s p v w q)) 0))]))))]))) (K (Res.mk (AV.tup [(AE.c (AC.int (IntKind.i64) (IntKind.wrap IntKind.i64 (PA ws d a + S3 a)))), (AE.c (AC.int (IntKind.i64) (0)))]) [(some (some (Block.mk false (Data.mix [(AC.slice (Loc.mk 4 0 5 0 0 0 0) 5 (List.length (FI sp (IntKind.wrap IntKind.i64 (Int.tdiv a 16)) (PV ws d a) (PW ws d a) (PA ws d a) (Go.Proofs.Ytnloobnpgkpbhaa.Wlk.rowsN n s p v w q))) 0 (BN sp (IntKind.wrap IntKind.i64 (Int.tdiv a 16)) (Go.Proofs.Ytnloobnpgkpbhaa.Wlk.rowsN n s p v w q)))])))), (none), (none), (none), (some (some (Block.mk false (Data.rows [(Col.ints (IntKind.i64) (Go.Proofs.Ytnloobnpgkpbhaa.Wlk.cS (FI sp (IntKind.wrap IntKind.i64 (Int.tdiv a 16)) (PV ws d a) (PW ws d a) (PA ws d a) (Go.Proofs.Ytnloobnpgkpbhaa.Wlk.rowsN n s p v w q)) 0)), (Col.ints (IntKind.i64) (Go.Proofs.Ytnloobnpgkpbhaa.Wlk.cP (FI sp (IntKind.wrap IntKind.i64 (Int.tdiv a 16)) (PV ws d a) (PW ws d a) (PA ws d a) (Go.Proofs.Ytnloobnpgkpbhaa.Wlk.rowsN n s p v w q)) 0)), (Col.bools (Go.Proofs.Ytnloobnpgkpbhaa.Wlk.cV (FI sp (IntKind.wrap IntKind.i64 (Int.tdiv a 16)) (PV ws d a) (PW ws d a) (PA ws d a) (Go.Proofs.Ytnloobnpgkpbhaa.Wlk.rowsN n s p v w q)) 0)), (Col.bools (Go.Proofs.Ytnloobnpgkpbhaa.Wlk.cW (FI sp (IntKind.wrap IntKind.i64 (Int.tdiv a 16)) (PV ws d a) (PW ws d a) (PA ws d a) (Go.Proofs.Ytnloobnpgkpbhaa.Wlk.rowsN n s p v w q)) 0)), (Col.ints (IntKind.i64) (Go.Proofs.Ytnloobnpgkpbhaa.Wlk.cA (FI sp (IntKind.wrap IntKind.i64 (Int.tdiv a 16)) (PV ws d a) (PW ws d a) (PA ws d a) (Go.Proofs.Ytnloobnpgkpbhaa.Wlk.rowsN n s p v w q)) 0))]))))]))) (cond (wr) (cond (!PW ws d a) (K (Res.mk (AV.tup [(AE.c (AC.int (IntKind.i64) (0))), (AE.c (AC.int (IntKind.i64) (5)))]) [(none), (none), (none), (none)])) (K (Res.mk (AV.tup [(AE.c (AC.int (IntKind.i64) (IntKind.wrap IntKind.i64 (PA ws d a + S3 a)))), (AE.c (AC.int (IntKind.i64) (0)))]) [(none), (none), (none), (none)]))) (K (Res.mk (AV.tup [(AE.c (AC.int (IntKind.i64) (IntKind.wrap IntKind.i64 (PA ws d a + S3 a)))), (AE.c (AC.int (IntKind.i64) (0)))]) [(none), (none), (none), (none)])))) none)) none) (cond (wr) (cond (!W sp (IntKind.wrap IntKind.i64 (Int.tdiv a 16)) (Go.Proofs.Ytnloobnpgkpbhaa.Wlk.rowsN n s p v w q)) (K (Res.mk (AV.tup [(AE.c (AC.int (IntKind.i64) (0))), (AE.c (AC.int (IntKind.i64) (5)))]) [(none), (none), (none), (none)])) (K (Res.mk (AV.tup [(AE.c (AC.int (IntKind.i64) (IntKind.wrap IntKind.i64 (A sp (IntKind.wrap IntKind.i64 (Int.tdiv a 16)) (Go.Proofs.Ytnloobnpgkpbhaa.Wlk.rowsN n s p v w q) + S3 a)))), (AE.c (AC.int (IntKind.i64) (0)))]) [(none), (none), (none), (none)]))) (K (Res.mk (AV.tup [(AE.c (AC.int (IntKind.i64) (IntKind.wrap IntKind.i64 (A sp (IntKind.wrap IntKind.i64 (Int.tdiv a 16)) (Go.Proofs.Ytnloobnpgkpbhaa.Wlk.rowsN n s p v w q) + S3 a)))), (AE.c (AC.int (IntKind.i64) (0)))]) [(none), (none), (none), (none)])))) none))) none) := by kernel_rfl
theorem t_xoN (V W : GB) (A : GZ) (I : GB) (E : FE) (FI : FI8) (BN : ENd) (N : Int → Bool) (PV PW : LB) (PA PE : LF) (S1 S2 S3 SE : IF) (m c : Nat) (sp d a : Int) (wr : Bool) (ws : List Int) (K : Res → Option Res) : runG Try.prog (sXo V W A I E FI BN N PV PW PA PE S1 S2 S3 SE) 100 16 [tP, vPt 1, aint .i64 sp, aint .i64 d, aint .i64 a, wr_ wr] [some ⟨false, .mix [.nils]⟩, some ⟨false, .mix [.slice ⟨2, 0, 1, 0, 0, 0, 0⟩ 1 m c true]⟩, some ⟨false, .rows [.ints .u64 ws]⟩] K = (cond (inI a) (cond (!N sp) (K (Res.mk (AV.tup [(AE.c (AC.int (IntKind.i64) (0))), (AE.c (AC.int (IntKind.i64) (1)))]) [(none), (none), (none)])) (cond (SE a != 0) (K (Res.mk (AV.tup [(AE.c (AC.int (IntKind.i64) (0))), (AE.c (AC.int (IntKind.i64) (1)))]) [(none), (none), (none)])) (cond (Go.Proofs.Ytnloobnpgkpbhaa.Wlk.okM m ws && inI d && inI a && Go.Proofs.Ytnloobnpgkpbhaa.Wlk.allW ws) (cond (PE ws d a != 0) (K (Res.mk (AV.tup [(AE.c (AC.int (IntKind.i64) (0))), (AE.c (AC.int (IntKind.i64) (PE ws d a)))]) [(none), (none), (none)])) (cond (inI (PA ws d a)) (cond (decide (E sp (IntKind.wrap IntKind.i64 (Int.tdiv a 16)) (PV ws d a) (PW ws d a) (PA ws d a) = 0)) (cond (wr) (cond (!PW ws d a) (K (Res.mk (AV.tup [(AE.c (AC.int (IntKind.i64) (0))), (AE.c (AC.int (IntKind.i64) (5)))]) [(some (some (Block.mk false (Data.mix [(AC.slice (Loc.mk 3 0 5 0 0 0 0) 5 1 0 false)])))), (none), (none), (some (some (Block.mk false (Data.rows [(Col.ints (IntKind.i64) (Go.Proofs.Ytnloobnpgkpbhaa.Wlk.cS [{ s := sp, p := IntKind.wrap IntKind.i64 (Int.tdiv a 16), v := PV ws d a, w := PW ws d a, a := PA ws d a }] 0)), (Col.ints (IntKind.i64) (Go.Proofs.Ytnloobnpgkpbhaa.Wlk.cP [{ s := sp, p := IntKind.wrap IntKind.i64 (Int.tdiv a 16), v := PV ws d a, w := PW ws d a, a := PA ws d a }] 0)), (Col.bools (Go.Proofs.Ytnloobnpgkpbhaa.Wlk.cV [{ s := sp, p := IntKind.wrap IntKind.i64 (Int.tdiv a 16), v := PV ws d a, w := PW ws d a, a := PA ws d a }] 0)), (Col.bools (Go.Proofs.Ytnloobnpgkpbhaa.Wlk.cW [{ s := sp, p := IntKind.wrap IntKind.i64 (Int.tdiv a 16), v := PV ws d a, w := PW ws d a, a := PA ws d a }] 0)), (Col.ints (IntKind.i64) (Go.Proofs.Ytnloobnpgkpbhaa.Wlk.cA [{ s := sp, p := IntKind.wrap IntKind.i64 (Int.tdiv a 16), v := PV ws d a, w := PW ws d a, a := PA ws d a }] 0))]))))])) (K (Res.mk (AV.tup [(AE.c (AC.int (IntKind.i64) (IntKind.wrap IntKind.i64 (PA ws d a + S3 a)))), (AE.c (AC.int (IntKind.i64) (0)))]) [(some (some (Block.mk false (Data.mix [(AC.slice (Loc.mk 3 0 5 0 0 0 0) 5 1 0 false)])))), (none), (none), (some (some (Block.mk false (Data.rows [(Col.ints (IntKind.i64) (Go.Proofs.Ytnloobnpgkpbhaa.Wlk.cS [{ s := sp, p := IntKind.wrap IntKind.i64 (Int.tdiv a 16), v := PV ws d a, w := PW ws d a, a := PA ws d a }] 0)), (Col.ints (IntKind.i64) (Go.Proofs.Ytnloobnpgkpbhaa.Wlk.cP [{ s := sp, p := IntKind.wrap IntKind.i64 (Int.tdiv a 16), v := PV ws d a, w := PW ws d a, a := PA ws d a }] 0)), (Col.bools (Go.Proofs.Ytnloobnpgkpbhaa.Wlk.cV [{ s := sp, p := IntKind.wrap IntKind.i64 (Int.tdiv a 16), v := PV ws d a, w := PW ws d a, a := PA ws d a }] 0)), (Col.bools (Go.Proofs.Ytnloobnpgkpbhaa.Wlk.cW [{ s := sp, p := IntKind.wrap IntKind.i64 (Int.tdiv a 16), v := PV ws d a, w := PW ws d a, a := PA ws d a }] 0)), (Col.ints (IntKind.i64) (Go.Proofs.Ytnloobnpgkpbhaa.Wlk.cA [{ s := sp, p := IntKind.wrap IntKind.i64 (Int.tdiv a 16), v := PV ws d a, w := PW ws d a, a := PA ws d a }] 0))]))))]))) (K (Res.mk (AV.tup [(AE.c (AC.int (IntKind.i64) (IntKind.wrap IntKind.i64 (PA ws d a + S3 a)))), (AE.c (AC.int (IntKind.i64) (0)))]) [(some (some (Block.mk false (Data.mix [(AC.slice (Loc.mk 3 0 5 0 0 0 0) 5 1 0 false)])))), (none), (none), (some (some (Block.mk false (Data.rows [(Col.ints (IntKind.i64) (Go.Proofs.Ytnloobnpgkpbhaa.Wlk.cS [{ s := sp, p := IntKind.wrap IntKind.i64 (Int.tdiv a 16), v := PV ws d a, w := PW ws d a, a := PA ws d a }] 0)), (Col.ints (IntKind.i64) (Go.Proofs.Ytnloobnpgkpbhaa.Wlk.cP [{ s := sp, p := IntKind.wrap IntKind.i64 (Int.tdiv a 16), v := PV ws d a, w := PW ws d a, a := PA ws d a }] 0)), (Col.bools (Go.Proofs.Ytnloobnpgkpbhaa.Wlk.cV [{ s := sp, p := IntKind.wrap IntKind.i64 (Int.tdiv a 16), v := PV ws d a, w := PW ws d a, a := PA ws d a }] 0)), (Col.bools (Go.Proofs.Ytnloobnpgkpbhaa.Wlk.cW [{ s := sp, p := IntKind.wrap IntKind.i64 (Int.tdiv a 16), v := PV ws d a, w := PW ws d a, a := PA ws d a }] 0)), (Col.ints (IntKind.i64) (Go.Proofs.Ytnloobnpgkpbhaa.Wlk.cA [{ s := sp, p := IntKind.wrap IntKind.i64 (Int.tdiv a 16), v := PV ws d a, w := PW ws d a, a := PA ws d a }] 0))]))))]))) (cond (wr) (cond (!PW ws d a) (K (Res.mk (AV.tup [(AE.c (AC.int (IntKind.i64) (0))), (AE.c (AC.int (IntKind.i64) (5)))]) [(none), (none), (none)])) (K (Res.mk (AV.tup [(AE.c (AC.int (IntKind.i64) (IntKind.wrap IntKind.i64 (PA ws d a + S3 a)))), (AE.c (AC.int (IntKind.i64) (0)))]) [(none), (none), (none)]))) (K (Res.mk (AV.tup [(AE.c (AC.int (IntKind.i64) (IntKind.wrap IntKind.i64 (PA ws d a + S3 a)))), (AE.c (AC.int (IntKind.i64) (0)))]) [(none), (none), (none)])))) none)) none))) none) := by kernel_rfl
end Go.Proofs.Ytnloobnpgkpbhaa.Wlk
