/- The reference's list of what is kept: told in short; filled in: the walk. -/
import Derived.Test.YtnloobnpgkpbhaaTxD
set_option linter.unusedVariables false
set_option linter.unusedSimpArgs false
set_option maxRecDepth 100000
namespace Go.Proofs.Ytnloobnpgkpbhaa.Wlk
open Go Go.Eng Go.Proofs Go.RowKit
def gXd (DN : ENd) (DL : DLf) : Fun := fun args sub κ => match args, sub with
  | [.e (.c (.ptr ⟨0, 0, 0, 0, 0, 0, 0⟩)), .e (.c (.int .i64 x)), .e (.c (.int .i64 y))], [some ⟨false, .mix [.slice ⟨1, 0, 5, 0, 0, 0, 0⟩ 5 n 0 b]⟩, some ⟨false, .rows [.ints .i64 s, .ints .i64 p, .bools v, .bools w, .ints .i64 a]⟩] =>
    match okK n 0 s p v w a && Nat.ble n 16 with
    | true => match DN x y (rowsN n s p v w a) with
      | true => κ ⟨.tup [], [some (some ⟨false, .mix [.nils]⟩), none]⟩
      | false => κ ⟨.tup [], [some (xT 2 (DL x y (rowsN n s p v w a)).length false), none, some (kR (DL x y (rowsN n s p v w a)) 0)]⟩
    | false => none
  | [.e (.c (.ptr ⟨0, 0, 0, 0, 0, 0, 0⟩)), .e (.c (.int .i64 x)), .e (.c (.int .i64 y))], [some ⟨false, .mix [.nils]⟩] => κ ⟨.tup [], [some (some ⟨false, .mix [.nils]⟩)]⟩
  | _, _ => none
def gXf (DN : ENf) (FL : FLf) : Fun := fun args sub κ => match args, sub with
  | [.e (.c (.ptr ⟨0, 0, 0, 0, 0, 0, 0⟩)), .e (.c (.int .i64 x))], [some ⟨false, .mix [.slice ⟨1, 0, 5, 0, 0, 0, 0⟩ 5 n 0 b]⟩, some ⟨false, .rows [.ints .i64 s, .ints .i64 p, .bools v, .bools w, .ints .i64 a]⟩] =>
    match okK n 0 s p v w a && Nat.ble n 16 with
    | true => match DN x (rowsN n s p v w a) with
      | true => κ ⟨.tup [], [some (some ⟨false, .mix [.nils]⟩), none]⟩
      | false => κ ⟨.tup [], [some (xT 2 (FL x (rowsN n s p v w a)).length false), none, some (kR (FL x (rowsN n s p v w a)) 0)]⟩
    | false => none
  | [.e (.c (.ptr ⟨0, 0, 0, 0, 0, 0, 0⟩)), .e (.c (.int .i64 x))], [some ⟨false, .mix [.nils]⟩] => κ ⟨.tup [], [some (some ⟨false, .mix [.nils]⟩)]⟩
  | _, _ => none
def gXg (V W : GB) (A : GZ) (I : GB) : Fun := fun args sub κ => match args, sub with
  | [.e (.c (.ptr ⟨0, 0, 0, 0, 0, 0, 0⟩)), .e (.c (.int .i64 x)), .e (.c (.int .i64 y))], [some ⟨false, .mix [.slice ⟨1, 0, 5, 0, 0, 0, 0⟩ 5 n 0 b]⟩, some ⟨false, .rows [.ints .i64 s, .ints .i64 p, .bools v, .bools w, .ints .i64 a]⟩] =>
    match okK n 0 s p v w a && Nat.ble n 16 with
    | true => κ ⟨.tup [.agg [.bool (V x y (rowsN n s p v w a)), .bool (W x y (rowsN n s p v w a)), .int .i64 (A x y (rowsN n s p v w a))], .c (.bool (I x y (rowsN n s p v w a)))], [none, none]⟩
    | false => none
  | [.e (.c (.ptr ⟨0, 0, 0, 0, 0, 0, 0⟩)), .e (.c (.int .i64 x)), .e (.c (.int .i64 y))], [some ⟨false, .mix [.nils]⟩] => κ ⟨.tup [.agg [.bool false, .bool false, .int .i64 0], .c (.bool false)], [none]⟩
  | _, _ => none
def gXa (AG : AGf) : Fun := fun args sub κ => match args, sub with
  | [.e (.c (.ptr ⟨0, 0, 0, 0, 0, 0, 0⟩)), .e (.c (.ptr ⟨1, 0, 0, 0, 0, 0, 0⟩)), .e (.c (.int .i64 sp)), .e (.c (.int .i64 d))], [some ⟨false, .mix [.slice ⟨2, 0, 5, 0, 0, 0, 0⟩ 5 n 0 b]⟩, some ⟨false, .mix [.slice ⟨3, 0, 1, 0, 0, 0, 0⟩ 1 m c true]⟩, some ⟨false, .rows [.ints .i64 s, .ints .i64 p, .bools v, .bools w, .ints .i64 q]⟩, some ⟨false, .rows [.ints .u64 ws]⟩] =>
    match okK n 0 s p v w q && Nat.ble n 16 && (okM m ws && inI d && allW ws) with
    | true => κ ⟨wr_ (AG ws sp d (rowsN n s p v w q)), [none, none, none, none]⟩
    | false => none
  | [.e (.c (.ptr ⟨0, 0, 0, 0, 0, 0, 0⟩)), .e (.c (.ptr ⟨1, 0, 0, 0, 0, 0, 0⟩)), .e (.c (.int .i64 sp)), .e (.c (.int .i64 d))], [some ⟨false, .mix [.nils]⟩, some ⟨false, .mix [.slice ⟨2, 0, 1, 0, 0, 0, 0⟩ 1 m c true]⟩, some ⟨false, .rows [.ints .u64 ws]⟩] => κ ⟨wr_ true, [none, none, none]⟩
  | _, _ => none
def nmb (x : Int) : Bool := decide (0 ≤ x) && decide (x ≤ 63)
def gNum (N : Int → Bool) : Fun := fun args sub κ => match args, sub with
  | [.e (.c (.int .i64 x))], [] => κ ⟨wr_ (N x), []⟩
  | _, _ => none
theorem gXd_sound : FunSound Try.prog 20 (gXd drN dropL) := by
  intro args sub κ r h
  unfold gXd at h
  split at h
  · rename_i x y n b s p v w a
    split at h
    · rename_i hc
      refine (runL_sound sNil_ok mix 60 20 xd_dis lXd_for).gc _ _ κ r ((t_xdFs drN dropL n b x y s p v w a κ).trans ?_)
      rw [Bool.true_and, hc, cT]
      cases cd : drN x y (rowsN n s p v w a) with
      | true => rw [cd] at h; rw [cT]; exact h
      | false => rw [cd] at h; rw [cF]; exact h
    · cases h
  · rename_i x y
    exact runG_sound sNil_ok mix 60 20 _ _ κ r ((t_xdFn x y κ).trans h)
  · cases h
theorem gXf_sound : FunSound Try.prog 21 (gXf flN0 flushL) := by
  intro args sub κ r h
  unfold gXf at h
  split at h
  · rename_i x n b s p v w a
    split at h
    · rename_i hc
      refine (runL_sound sNil_ok mix 60 21 xf_dis lXf_for).gc _ _ κ r ((t_xfFs flN0 flushL n b x s p v w a κ).trans ?_)
      rw [Bool.true_and, hc, cT]
      cases cd : flN0 x (rowsN n s p v w a) with
      | true => rw [cd] at h; rw [cT]; exact h
      | false => rw [cd] at h; rw [cF]; exact h
    · cases h
  · rename_i x
    exact runG_sound sNil_ok mix 60 21 _ _ κ r ((t_xfFn x κ).trans h)
  · cases h
theorem kt_zero {x y : Int} {L : List Ro} (h : ktI x y L = false) : ktV x y L = false ∧ ktW x y L = false ∧ ktA x y L = 0 := by
  unfold ktI at h
  unfold ktV ktW ktA
  split at h
  · cases h
  · rename_i hn
    exact ⟨rfl, rfl, rfl⟩
theorem gXg_sound : FunSound Try.prog 24 (gXg ktV ktW ktA ktI) := by
  intro args sub κ r h
  unfold gXg at h
  split at h
  · rename_i x y n b s p v w a
    split at h
    · rename_i hc
      refine (runL_sound sNil_ok mix 60 24 xg_dis lXg_for).gc _ _ κ r ((t_xgFs ktV ktW ktA ktI n b x y s p v w a κ).trans ?_)
      rw [Bool.true_and, hc, cT]
      cases cd : ktI x y (rowsN n s p v w a) with
      | true => rw [cd] at h; rw [cT]; exact h
      | false =>
        obtain ⟨z1, z2, z3⟩ := kt_zero cd
        rw [cd, z1, z2, z3] at h; rw [cF]; exact h
    · cases h
  · rename_i x y
    exact runG_sound sNil_ok mix 60 24 _ _ κ r ((t_xgFn x y κ).trans h)
  · cases h
theorem gXa_sound : FunSound Try.prog 27 (gXa agL) := by
  intro args sub κ r h
  unfold gXa at h
  split at h
  · rename_i sp d n b m c s p v w q ws
    split at h
    · rename_i hc
      rw [Bool.and_eq_true, Bool.and_eq_true] at hc
      refine (runL_sound sXa_ok mix 100 27 xa_dis lXa_for).gc _ _ κ r ((t_xaFs agL n m c b sp d s p v w q ws κ).trans ?_)
      rw [hc.1.1, hc.1.2, hc.2]
      repeat rw [Bool.and_self]
      rw [cT]
      cases ca : agL ws sp d (rowsN n s p v w q) with
      | true => rw [ca] at h; rw [cT]; exact h
      | false => rw [ca] at h; rw [cF]; exact h
    · cases h
  · rename_i sp d m c ws
    exact runG_sound sXa_ok mix 100 27 _ _ κ r ((t_xaFn m c sp d ws κ).trans h)
  · cases h
theorem gNum_sound : FunSound Try.prog 43 (gNum nmb) := by
  refine (runG_sound sNil_ok mix 60 43).short fun args sub κ r h => ?_
  unfold gNum at h
  split at h
  · rename_i x
    refine (t_number x κ).trans ?_
    unfold nmb at h
    by_cases c1 : 0 ≤ x
    · rw [decide_eq_true (show x ≥ 0 from c1), cT]
      rw [decide_eq_true c1, Bool.true_and] at h
      exact h
    · rw [decide_eq_false (show ¬ x ≥ 0 from c1), cF]
      rw [decide_eq_false c1, Bool.false_and] at h
      exact h
  · cases h
noncomputable def sXl (N : Int → Bool) (W E : PF) (DN : ENd) (DL : DLf) : Summ := sAdd (sAdd (sAdd sNil 43 (gNum N)) 45 (gEPackV W E)) 20 (gXd DN DL)
theorem sXl_ok : SummOk Try.prog (sXl nmb epW epE drN dropL) := sAdd_ok (sAdd_ok (sAdd_ok sNil_ok gNum_sound (enters Try.func43 rfl (by kernel_rfl))) gRefEPack_sound (enters Try.func45 rfl (by kernel_rfl))) gXd_sound (enters Try.func20 rfl (by kernel_rfl))
set_option maxHeartbeats 4000000 in
theorem t_xFiS (N : Int → Bool) (W E : PF) (DN : ENd) (DL : DLf) (n : Nat) (b : Bool) (x y : Int) (v0 w0 : Bool) (a0 : Int) (s p : List Int) (v w : List Bool) (a : List Int) (K : Res → Option Res) : runG Try.prog (sXl N W E DN DL) 100 18 [tP, aint .i64 x, aint .i64 y, .e (.agg [.bool v0, .bool w0, .int .i64 a0])] (xB n b s p v w a) K = (cond (!N x) (K (Res.mk (AV.e (AE.c (AC.int (IntKind.i64) (1)))) [(none), (none)])) (cond (decide (y < 0)) (K (Res.mk (AV.e (AE.c (AC.int (IntKind.i64) (1)))) [(none), (none)])) (cond (decide (y > 255)) (K (Res.mk (AV.e (AE.c (AC.int (IntKind.i64) (1)))) [(none), (none)])) (cond (inI a0) (cond (!v0) (K (Res.mk (AV.e (AE.c (AC.int (IntKind.i64) (10)))) [(none), (none)])) (cond (E v0 w0 a0 != 0) (K (Res.mk (AV.e (AE.c (AC.int (IntKind.i64) (10)))) [(none), (none)])) (cond (Go.Proofs.Ytnloobnpgkpbhaa.Wlk.okK n 0 s p v w a && Nat.ble n 16) (cond (DN x y (Go.Proofs.Ytnloobnpgkpbhaa.Wlk.rowsN n s p v w a)) (K (Res.mk (AV.e (AE.c (AC.int (IntKind.i64) (0)))) [(some (some (Block.mk false (Data.mix [(AC.slice (Loc.mk 2 0 5 0 0 0 0) 5 1 0 false)])))), (none), (some (some (Block.mk false (Data.rows [(Col.ints (IntKind.i64) (List.take 1 (List.drop 0 [x]))), (Col.ints (IntKind.i64) (List.take 1 (List.drop 0 [y]))), (Col.bools (List.take 1 (List.drop 0 [v0]))), (Col.bools (List.take 1 (List.drop 0 [w0]))), (Col.ints (IntKind.i64) (List.take 1 (List.drop 0 [a0])))]))))])) (cond (decide ((↑(List.length (DL x y (Go.Proofs.Ytnloobnpgkpbhaa.Wlk.rowsN n s p v w a))) : Int) ≥ 8)) (cond (true && decide (1 ≤ (↑(List.length (DL x y (Go.Proofs.Ytnloobnpgkpbhaa.Wlk.rowsN n s p v w a))) : Int))) (cond (decide (0 + 0 ≤ 0) && (decide (0 + 0 ≤ 0) && (decide (0 + 0 ≤ 0) && (decide (0 + 0 ≤ 0) && (decide (0 + 0 ≤ 0) && true)))) && (decide (1 + (List.length (DL x y (Go.Proofs.Ytnloobnpgkpbhaa.Wlk.rowsN n s p v w a)) - 1) ≤ List.length (Go.Proofs.Ytnloobnpgkpbhaa.Wlk.cS (DL x y (Go.Proofs.Ytnloobnpgkpbhaa.Wlk.rowsN n s p v w a)) 0)) && (decide (1 + (List.length (DL x y (Go.Proofs.Ytnloobnpgkpbhaa.Wlk.rowsN n s p v w a)) - 1) ≤ List.length (Go.Proofs.Ytnloobnpgkpbhaa.Wlk.cP (DL x y (Go.Proofs.Ytnloobnpgkpbhaa.Wlk.rowsN n s p v w a)) 0)) && (decide (1 + (List.length (DL x y (Go.Proofs.Ytnloobnpgkpbhaa.Wlk.rowsN n s p v w a)) - 1) ≤ List.length (Go.Proofs.Ytnloobnpgkpbhaa.Wlk.cV (DL x y (Go.Proofs.Ytnloobnpgkpbhaa.Wlk.rowsN n s p v w a)) 0)) && (decide (1 + (List.length (DL x y (Go.Proofs.Ytnloobnpgkpbhaa.Wlk.rowsN n s p v w a)) - 1) ≤ List.length (Go.Proofs.Ytnloobnpgkpbhaa.Wlk.cW (DL x y (Go.Proofs.Ytnloobnpgkpbhaa.Wlk.rowsN n s p v w a)) 0)) && (decide (1 + (List.length (DL x y (Go.Proofs.Ytnloobnpgkpbhaa.Wlk.rowsN n s p v w a)) - 1) ≤ List.length (Go.Proofs.Ytnloobnpgkpbhaa.Wlk.cA (DL x y (Go.Proofs.Ytnloobnpgkpbhaa.Wlk.rowsN n s p v w a)) 0)) && true))))) && decide ((0 + (List.length (DL x y (Go.Proofs.Ytnloobnpgkpbhaa.Wlk.rowsN n s p v w a)) - 1)) * 32 ≤ 140737488355328) && decide (0 + (List.length (DL x y (Go.Proofs.Ytnloobnpgkpbhaa.Wlk.rowsN n s p v w a)) - 1) ≤ 140737488355328)) (cond (decide (0 + (0 + (List.length (DL x y (Go.Proofs.Ytnloobnpgkpbhaa.Wlk.rowsN n s p v w a)) - 1)) ≤ List.length (List.take 0 (List.drop 0 []) ++ List.take (List.length (DL x y (Go.Proofs.Ytnloobnpgkpbhaa.Wlk.rowsN n s p v w a)) - 1) (List.drop 1 (Go.Proofs.Ytnloobnpgkpbhaa.Wlk.cS (DL x y (Go.Proofs.Ytnloobnpgkpbhaa.Wlk.rowsN n s p v w a)) 0)))) && (decide (0 + (0 + (List.length (DL x y (Go.Proofs.Ytnloobnpgkpbhaa.Wlk.rowsN n s p v w a)) - 1)) ≤ List.length (List.take 0 (List.drop 0 []) ++ List.take (List.length (DL x y (Go.Proofs.Ytnloobnpgkpbhaa.Wlk.rowsN n s p v w a)) - 1) (List.drop 1 (Go.Proofs.Ytnloobnpgkpbhaa.Wlk.cP (DL x y (Go.Proofs.Ytnloobnpgkpbhaa.Wlk.rowsN n s p v w a)) 0)))) && (decide (0 + (0 + (List.length (DL x y (Go.Proofs.Ytnloobnpgkpbhaa.Wlk.rowsN n s p v w a)) - 1)) ≤ List.length (List.take 0 (List.drop 0 []) ++ List.take (List.length (DL x y (Go.Proofs.Ytnloobnpgkpbhaa.Wlk.rowsN n s p v w a)) - 1) (List.drop 1 (Go.Proofs.Ytnloobnpgkpbhaa.Wlk.cV (DL x y (Go.Proofs.Ytnloobnpgkpbhaa.Wlk.rowsN n s p v w a)) 0)))) && (decide (0 + (0 + (List.length (DL x y (Go.Proofs.Ytnloobnpgkpbhaa.Wlk.rowsN n s p v w a)) - 1)) ≤ List.length (List.take 0 (List.drop 0 []) ++ List.take (List.length (DL x y (Go.Proofs.Ytnloobnpgkpbhaa.Wlk.rowsN n s p v w a)) - 1) (List.drop 1 (Go.Proofs.Ytnloobnpgkpbhaa.Wlk.cW (DL x y (Go.Proofs.Ytnloobnpgkpbhaa.Wlk.rowsN n s p v w a)) 0)))) && (decide (0 + (0 + (List.length (DL x y (Go.Proofs.Ytnloobnpgkpbhaa.Wlk.rowsN n s p v w a)) - 1)) ≤ List.length (List.take 0 (List.drop 0 []) ++ List.take (List.length (DL x y (Go.Proofs.Ytnloobnpgkpbhaa.Wlk.rowsN n s p v w a)) - 1) (List.drop 1 (Go.Proofs.Ytnloobnpgkpbhaa.Wlk.cA (DL x y (Go.Proofs.Ytnloobnpgkpbhaa.Wlk.rowsN n s p v w a)) 0)))) && true)))) && (decide (0 + 1 ≤ List.length [x]) && (decide (0 + 1 ≤ List.length [y]) && (decide (0 + 1 ≤ List.length [v0]) && (decide (0 + 1 ≤ List.length [w0]) && (decide (0 + 1 ≤ List.length [a0]) && true))))) && decide ((0 + (List.length (DL x y (Go.Proofs.Ytnloobnpgkpbhaa.Wlk.rowsN n s p v w a)) - 1) + 1) * 32 ≤ 140737488355328) && decide (0 + (List.length (DL x y (Go.Proofs.Ytnloobnpgkpbhaa.Wlk.rowsN n s p v w a)) - 1) + 1 ≤ 140737488355328)) (K (Res.mk (AV.e (AE.c (AC.int (IntKind.i64) (0)))) [(some (some (Block.mk false (Data.mix [(AC.slice (Loc.mk 2 0 5 0 0 0 0) 5 (0 + (List.length (DL x y (Go.Proofs.Ytnloobnpgkpbhaa.Wlk.rowsN n s p v w a)) - 1) + 1) 0 true)])))), (none), (some (some (Block.mk false (Data.rows [(Col.ints (IntKind.i64) (List.take (0 + (List.length (DL x y (Go.Proofs.Ytnloobnpgkpbhaa.Wlk.rowsN n s p v w a)) - 1)) (List.drop 0 (List.take 0 (List.drop 0 []) ++ List.take (List.length (DL x y (Go.Proofs.Ytnloobnpgkpbhaa.Wlk.rowsN n s p v w a)) - 1) (List.drop 1 (Go.Proofs.Ytnloobnpgkpbhaa.Wlk.cS (DL x y (Go.Proofs.Ytnloobnpgkpbhaa.Wlk.rowsN n s p v w a)) 0)))) ++ List.take 1 (List.drop 0 [x]))), (Col.ints (IntKind.i64) (List.take (0 + (List.length (DL x y (Go.Proofs.Ytnloobnpgkpbhaa.Wlk.rowsN n s p v w a)) - 1)) (List.drop 0 (List.take 0 (List.drop 0 []) ++ List.take (List.length (DL x y (Go.Proofs.Ytnloobnpgkpbhaa.Wlk.rowsN n s p v w a)) - 1) (List.drop 1 (Go.Proofs.Ytnloobnpgkpbhaa.Wlk.cP (DL x y (Go.Proofs.Ytnloobnpgkpbhaa.Wlk.rowsN n s p v w a)) 0)))) ++ List.take 1 (List.drop 0 [y]))), (Col.bools (List.take (0 + (List.length (DL x y (Go.Proofs.Ytnloobnpgkpbhaa.Wlk.rowsN n s p v w a)) - 1)) (List.drop 0 (List.take 0 (List.drop 0 []) ++ List.take (List.length (DL x y (Go.Proofs.Ytnloobnpgkpbhaa.Wlk.rowsN n s p v w a)) - 1) (List.drop 1 (Go.Proofs.Ytnloobnpgkpbhaa.Wlk.cV (DL x y (Go.Proofs.Ytnloobnpgkpbhaa.Wlk.rowsN n s p v w a)) 0)))) ++ List.take 1 (List.drop 0 [v0]))), (Col.bools (List.take (0 + (List.length (DL x y (Go.Proofs.Ytnloobnpgkpbhaa.Wlk.rowsN n s p v w a)) - 1)) (List.drop 0 (List.take 0 (List.drop 0 []) ++ List.take (List.length (DL x y (Go.Proofs.Ytnloobnpgkpbhaa.Wlk.rowsN n s p v w a)) - 1) (List.drop 1 (Go.Proofs.Ytnloobnpgkpbhaa.Wlk.cW (DL x y (Go.Proofs.Ytnloobnpgkpbhaa.Wlk.rowsN n s p v w a)) 0)))) ++ List.take 1 (List.drop 0 [w0]))), (Col.ints (IntKind.i64) (List.take (0 + (List.length (DL x y (Go.Proofs.Ytnloobnpgkpbhaa.Wlk.rowsN n s p v w a)) - 1)) (List.drop 0 (List.take 0 (List.drop 0 []) ++ List.take (List.length (DL x y (Go.Proofs.Ytnloobnpgkpbhaa.Wlk.rowsN n s p v w a)) - 1) (List.drop 1 (Go.Proofs.Ytnloobnpgkpbhaa.Wlk.cA (DL x y (Go.Proofs.Ytnloobnpgkpbhaa.Wlk.rowsN n s p v w a)) 0)))) ++ List.take 1 (List.drop 0 [a0])))]))))])) none) none) none) (cond (decide (0 + List.length (DL x y (Go.Proofs.Ytnloobnpgkpbhaa.Wlk.rowsN n s p v w a)) ≤ List.length (Go.Proofs.Ytnloobnpgkpbhaa.Wlk.cS (DL x y (Go.Proofs.Ytnloobnpgkpbhaa.Wlk.rowsN n s p v w a)) 0)) && (decide (0 + List.length (DL x y (Go.Proofs.Ytnloobnpgkpbhaa.Wlk.rowsN n s p v w a)) ≤ List.length (Go.Proofs.Ytnloobnpgkpbhaa.Wlk.cP (DL x y (Go.Proofs.Ytnloobnpgkpbhaa.Wlk.rowsN n s p v w a)) 0)) && (decide (0 + List.length (DL x y (Go.Proofs.Ytnloobnpgkpbhaa.Wlk.rowsN n s p v w a)) ≤ List.length (Go.Proofs.Ytnloobnpgkpbhaa.Wlk.cV (DL x y (Go.Proofs.Ytnloobnpgkpbhaa.Wlk.rowsN n s p v w a)) 0)) && (decide (0 + List.length (DL x y (Go.Proofs.Ytnloobnpgkpbhaa.Wlk.rowsN n s p v w a)) ≤ List.length (Go.Proofs.Ytnloobnpgkpbhaa.Wlk.cW (DL x y (Go.Proofs.Ytnloobnpgkpbhaa.Wlk.rowsN n s p v w a)) 0)) && (decide (0 + List.length (DL x y (Go.Proofs.Ytnloobnpgkpbhaa.Wlk.rowsN n s p v w a)) ≤ List.length (Go.Proofs.Ytnloobnpgkpbhaa.Wlk.cA (DL x y (Go.Proofs.Ytnloobnpgkpbhaa.Wlk.rowsN n s p v w a)) 0)) && true)))) && (decide (0 + 1 ≤ List.length [x]) && (decide (0 + 1 ≤ List.length [y]) && (decide (0 + 1 ≤ List.length [v0]) && (decide (0 + 1 ≤ List.length [w0]) && (decide (0 + 1 ≤ List.length [a0]) && true))))) && decide ((List.length (DL x y (Go.Proofs.Ytnloobnpgkpbhaa.Wlk.rowsN n s p v w a)) + 1) * 32 ≤ 140737488355328) && decide (List.length (DL x y (Go.Proofs.Ytnloobnpgkpbhaa.Wlk.rowsN n s p v w a)) + 1 ≤ 140737488355328)) (K (Res.mk (AV.e (AE.c (AC.int (IntKind.i64) (0)))) [(some (some (Block.mk false (Data.mix [(AC.slice (Loc.mk 2 0 5 0 0 0 0) 5 (List.length (DL x y (Go.Proofs.Ytnloobnpgkpbhaa.Wlk.rowsN n s p v w a)) + 1) 0 false)])))), (none), (some (some (Block.mk false (Data.rows [(Col.ints (IntKind.i64) (List.take (List.length (DL x y (Go.Proofs.Ytnloobnpgkpbhaa.Wlk.rowsN n s p v w a))) (List.drop 0 (Go.Proofs.Ytnloobnpgkpbhaa.Wlk.cS (DL x y (Go.Proofs.Ytnloobnpgkpbhaa.Wlk.rowsN n s p v w a)) 0)) ++ List.take 1 (List.drop 0 [x]))), (Col.ints (IntKind.i64) (List.take (List.length (DL x y (Go.Proofs.Ytnloobnpgkpbhaa.Wlk.rowsN n s p v w a))) (List.drop 0 (Go.Proofs.Ytnloobnpgkpbhaa.Wlk.cP (DL x y (Go.Proofs.Ytnloobnpgkpbhaa.Wlk.rowsN n s p v w a)) 0)) ++ List.take 1 (List.drop 0 [y]))), (Col.bools (List.take (List.length (DL x y (Go.Proofs.Ytnloobnpgkpbhaa.Wlk.rowsN n s p v w a))) (List.drop 0 (Go.Proofs.Ytnloobnpgkpbhaa.Wlk.cV (DL x y (Go.Proofs.Ytnloobnpgkpbhaa.Wlk.rowsN n s p v w a)) 0)) ++ List.take 1 (List.drop 0 [v0]))), (Col.bools (List.take (List.length (DL x y (Go.Proofs.Ytnloobnpgkpbhaa.Wlk.rowsN n s p v w a))) (List.drop 0 (Go.Proofs.Ytnloobnpgkpbhaa.Wlk.cW (DL x y (Go.Proofs.Ytnloobnpgkpbhaa.Wlk.rowsN n s p v w a)) 0)) ++ List.take 1 (List.drop 0 [w0]))), (Col.ints (IntKind.i64) (List.take (List.length (DL x y (Go.Proofs.Ytnloobnpgkpbhaa.Wlk.rowsN n s p v w a))) (List.drop 0 (Go.Proofs.Ytnloobnpgkpbhaa.Wlk.cA (DL x y (Go.Proofs.Ytnloobnpgkpbhaa.Wlk.rowsN n s p v w a)) 0)) ++ List.take 1 (List.drop 0 [a0])))]))))])) none))) none))) none)))) := by kernel_rfl
theorem t_xFiN (N : Int → Bool) (W E : PF) (DN : ENd) (DL : DLf) (x y : Int) (v0 w0 : Bool) (a0 : Int) (K : Res → Option Res) : runG Try.prog (sXl N W E DN DL) 100 18 [tP, aint .i64 x, aint .i64 y, .e (.agg [.bool v0, .bool w0, .int .i64 a0])] xN K = (cond (!N x) (K (Res.mk (AV.e (AE.c (AC.int (IntKind.i64) (1)))) [(none)])) (cond (decide (y < 0)) (K (Res.mk (AV.e (AE.c (AC.int (IntKind.i64) (1)))) [(none)])) (cond (decide (y > 255)) (K (Res.mk (AV.e (AE.c (AC.int (IntKind.i64) (1)))) [(none)])) (cond (inI a0) (cond (!v0) (K (Res.mk (AV.e (AE.c (AC.int (IntKind.i64) (10)))) [(none)])) (cond (E v0 w0 a0 != 0) (K (Res.mk (AV.e (AE.c (AC.int (IntKind.i64) (10)))) [(none)])) (K (Res.mk (AV.e (AE.c (AC.int (IntKind.i64) (0)))) [(some (some (Block.mk false (Data.mix [(AC.slice (Loc.mk 1 0 5 0 0 0 0) 5 1 0 false)])))), (some (some (Block.mk false (Data.rows [(Col.ints (IntKind.i64) (List.take 1 (List.drop 0 [x]))), (Col.ints (IntKind.i64) (List.take 1 (List.drop 0 [y]))), (Col.bools (List.take 1 (List.drop 0 [v0]))), (Col.bools (List.take 1 (List.drop 0 [w0]))), (Col.ints (IntKind.i64) (List.take 1 (List.drop 0 [a0])))]))))])))) none)))) := by kernel_rfl
end Go.Proofs.Ytnloobnpgkpbhaa.Wlk
