/- The reference's list of what is kept: dropped, flushed, agreeing: told in short. -/
import Derived.Test.YtnloobnpgkpbhaaTxB
set_option linter.unusedVariables false
set_option linter.unusedSimpArgs false
set_option maxRecDepth 100000
namespace Go.Proofs.Ytnloobnpgkpbhaa.Wlk
open Go Go.Eng Go.Proofs Go.RowKit
abbrev ENd := Int → Int → List Ro → Bool
abbrev ENf := Int → List Ro → Bool
def drN (x y : Int) (L : List Ro) : Bool := (dropL x y L).isEmpty
def flN0 (x : Int) (L : List Ro) : Bool := (flushL x L).isEmpty
def cXd (DN : ENd) (DL : DLf) : HeadO := fun vs h K => match vs, h with
  | [.e (.c (.ptr ⟨0, 0, 0, 0, 0, 0, 0⟩)), .e (.c (.int .i64 x)), .e (.c (.int .i64 y)), .e (.c .nils), .e (.c (.int .i64 i))], [(false, some ⟨false, .mix [.slice ⟨1, 0, 5, 0, 0, 0, 0⟩ 5 n 0 b]⟩), (false, some ⟨false, .rows [.ints .i64 s, .ints .i64 p, .bools v, .bools w, .ints .i64 a]⟩)] =>
    match decide (i = 0) && okK n 0 s p v w a && Nat.ble n 16 with
    | true => match DN x y (rowsN n s p v w a) with
      | true => K (.exit 0) [vPt 0, .e (.c .nils)] [bO (xT 1 n b), bO (kB s p v w a)]
      | false => K (.exit 0) [vPt 0, vL 2 (DL x y (rowsN n s p v w a)).length] [bO (xT 1 n b), bO (kB s p v w a), bCL (DL x y (rowsN n s p v w a)) 0]
    | false => none
  | _, _ => none
theorem cXd_sound : HeadSound Try.prog iXd (loopOf Try.prog 20 0) (cXd drN dropL) := by
  refine HeadSound.short (iterR_sound (F := 60) sNil_ok mix lNil_ok) fun vs h K r ee => ?_
  unfold cXd at ee
  split at ee
  · rename_i x y i n b s p v w a
    split at ee
    · rename_i hc
      simp only [Bool.and_eq_true, decide_eq_true_eq] at hc
      obtain ⟨⟨rfl, c1⟩, c2⟩ := hc
      obtain ⟨L, hL, rfl, rfl, rfl, rfl, rfl, hb, hr⟩ := okK_spec c1
      subst hL
      rw [rowsN_cols] at ee
      refine ⟨L.length + 1, (loopXd x y b L (Nat.le_of_ble_eq_true c2) K L.length 0 [] (by omega) (by simp)).trans (Eq.trans ?_ ee)⟩
      rw [List.drop_zero, List.nil_append]
      unfold drN
      cases dropL x y L with
      | nil => rfl
      | cons q R => rfl
    · cases ee
  · cases ee
def cXf (DN : ENf) (FL : FLf) : HeadO := fun vs h K => match vs, h with
  | [.e (.c (.ptr ⟨0, 0, 0, 0, 0, 0, 0⟩)), .e (.c (.int .i64 x)), .e (.c .nils), .e (.c (.int .i64 i))], [(false, some ⟨false, .mix [.slice ⟨1, 0, 5, 0, 0, 0, 0⟩ 5 n 0 b]⟩), (false, some ⟨false, .rows [.ints .i64 s, .ints .i64 p, .bools v, .bools w, .ints .i64 a]⟩)] =>
    match decide (i = 0) && okK n 0 s p v w a && Nat.ble n 16 with
    | true => match DN x (rowsN n s p v w a) with
      | true => K (.exit 0) [vPt 0, .e (.c .nils)] [bO (xT 1 n b), bO (kB s p v w a)]
      | false => K (.exit 0) [vPt 0, vL 2 (FL x (rowsN n s p v w a)).length] [bO (xT 1 n b), bO (kB s p v w a), bCL (FL x (rowsN n s p v w a)) 0]
    | false => none
  | _, _ => none
theorem cXf_sound : HeadSound Try.prog iXf (loopOf Try.prog 21 0) (cXf flN0 flushL) := by
  refine HeadSound.short (iterR_sound (F := 60) sNil_ok mix lNil_ok) fun vs h K r ee => ?_
  unfold cXf at ee
  split at ee
  · rename_i x i n b s p v w a
    split at ee
    · rename_i hc
      simp only [Bool.and_eq_true, decide_eq_true_eq] at hc
      obtain ⟨⟨rfl, c1⟩, c2⟩ := hc
      obtain ⟨L, hL, rfl, rfl, rfl, rfl, rfl, hb, hr⟩ := okK_spec c1
      subst hL
      rw [rowsN_cols] at ee
      refine ⟨L.length + 1, (loopXf x b L (Nat.le_of_ble_eq_true c2) K L.length 0 [] (by omega) (by simp)).trans (Eq.trans ?_ ee)⟩
      rw [List.drop_zero, List.nil_append]
      unfold flN0
      cases flushL x L with
      | nil => rfl
      | cons q R => rfl
    · cases ee
  · cases ee
noncomputable def lXd (DN : ENd) (DL : DLf) : Nat → Option Orc := lAdd lNil 0 (wrapO iXd 0 (cXd DN DL))
noncomputable def lXf (DN : ENf) (FL : FLf) : Nat → Option Orc := lAdd lNil 0 (wrapO iXf 0 (cXf DN FL))
theorem lXd_for : LFor 2 Try.prog 20 (lXd drN dropL) := lAdd_for (I := iXd) lNil_for (by kernel_rfl) cXd_sound
theorem lXf_for : LFor 2 Try.prog 21 (lXf flN0 flushL) := lAdd_for (I := iXf) lNil_for (by kernel_rfl) cXf_sound
theorem xd_dis : Go.Eng.distinct (blockIds (codeOf Try.prog 20)) = true := by kernel_rfl
theorem xf_dis : Go.Eng.distinct (blockIds (codeOf Try.prog 21)) = true := by kernel_rfl
theorem xa_dis : Go.Eng.distinct (blockIds (codeOf Try.prog 27)) = true := by kernel_rfl
abbrev xN : List (Option Block) := [some ⟨false, .mix [.nils]⟩]
abbrev xB (n : Nat) (b : Bool) (s p : List Int) (v w : List Bool) (a : List Int) : List (Option Block) := [xT 1 n b, kB s p v w a]
theorem t_xdFs (DN : ENd) (DL : DLf) (n : Nat) (b : Bool) (x y : Int) (s p : List Int) (v w : List Bool) (a : List Int) (K : Res → Option Res) : runLG Try.prog sNil (lXd DN DL) 2 60 20 [tP, aint .i64 x, aint .i64 y] (xB n b s p v w a) K = (cond (true && Go.Proofs.Ytnloobnpgkpbhaa.Wlk.okK n 0 s p v w a && Nat.ble n 16) (cond (DN x y (Go.Proofs.Ytnloobnpgkpbhaa.Wlk.rowsN n s p v w a)) (K (Res.mk (AV.tup []) [(some (some (Block.mk false (Data.mix [(AC.nils)])))), (none)])) (K (Res.mk (AV.tup []) [(some (some (Block.mk false (Data.mix [(AC.slice (Loc.mk 2 0 5 0 0 0 0) 5 (List.length (DL x y (Go.Proofs.Ytnloobnpgkpbhaa.Wlk.rowsN n s p v w a))) 0 false)])))), (none), (some (some (Block.mk false (Data.rows [(Col.ints (IntKind.i64) (Go.Proofs.Ytnloobnpgkpbhaa.Wlk.cS (DL x y (Go.Proofs.Ytnloobnpgkpbhaa.Wlk.rowsN n s p v w a)) 0)), (Col.ints (IntKind.i64) (Go.Proofs.Ytnloobnpgkpbhaa.Wlk.cP (DL x y (Go.Proofs.Ytnloobnpgkpbhaa.Wlk.rowsN n s p v w a)) 0)), (Col.bools (Go.Proofs.Ytnloobnpgkpbhaa.Wlk.cV (DL x y (Go.Proofs.Ytnloobnpgkpbhaa.Wlk.rowsN n s p v w a)) 0)), (Col.bools (Go.Proofs.Ytnloobnpgkpbhaa.Wlk.cW (DL x y (Go.Proofs.Ytnloobnpgkpbhaa.Wlk.rowsN n s p v w a)) 0)), (Col.ints (IntKind.i64) (Go.Proofs.Ytnloobnpgkpbhaa.Wlk.cA (DL x y (Go.Proofs.Ytnloobnpgkpbhaa.Wlk.rowsN n s p v w a)) 0))]))))]))) none) := by kernel_rfl
theorem t_xdFn (x y : Int) (K : Res → Option Res) : runG Try.prog sNil 60 20 [tP, aint .i64 x, aint .i64 y] xN K = (K (Res.mk (AV.tup []) [(some (some (Block.mk false (Data.mix [(AC.nils)]))))])) := by kernel_rfl
theorem t_xfFs (DN : ENf) (FL : FLf) (n : Nat) (b : Bool) (x : Int) (s p : List Int) (v w : List Bool) (a : List Int) (K : Res → Option Res) : runLG Try.prog sNil (lXf DN FL) 2 60 21 [tP, aint .i64 x] (xB n b s p v w a) K = (cond (true && Go.Proofs.Ytnloobnpgkpbhaa.Wlk.okK n 0 s p v w a && Nat.ble n 16) (cond (DN x (Go.Proofs.Ytnloobnpgkpbhaa.Wlk.rowsN n s p v w a)) (K (Res.mk (AV.tup []) [(some (some (Block.mk false (Data.mix [(AC.nils)])))), (none)])) (K (Res.mk (AV.tup []) [(some (some (Block.mk false (Data.mix [(AC.slice (Loc.mk 2 0 5 0 0 0 0) 5 (List.length (FL x (Go.Proofs.Ytnloobnpgkpbhaa.Wlk.rowsN n s p v w a))) 0 false)])))), (none), (some (some (Block.mk false (Data.rows [(Col.ints (IntKind.i64) (Go.Proofs.Ytnloobnpgkpbhaa.Wlk.cS (FL x (Go.Proofs.Ytnloobnpgkpbhaa.Wlk.rowsN n s p v w a)) 0)), (Col.ints (IntKind.i64) (Go.Proofs.Ytnloobnpgkpbhaa.Wlk.cP (FL x (Go.Proofs.Ytnloobnpgkpbhaa.Wlk.rowsN n s p v w a)) 0)), (Col.bools (Go.Proofs.Ytnloobnpgkpbhaa.Wlk.cV (FL x (Go.Proofs.Ytnloobnpgkpbhaa.Wlk.rowsN n s p v w a)) 0)), (Col.bools (Go.Proofs.Ytnloobnpgkpbhaa.Wlk.cW (FL x (Go.Proofs.Ytnloobnpgkpbhaa.Wlk.rowsN n s p v w a)) 0)), (Col.ints (IntKind.i64) (Go.Proofs.Ytnloobnpgkpbhaa.Wlk.cA (FL x (Go.Proofs.Ytnloobnpgkpbhaa.Wlk.rowsN n s p v w a)) 0))]))))]))) none) := by kernel_rfl
theorem t_xfFn (x : Int) (K : Res → Option Res) : runG Try.prog sNil 60 21 [tP, aint .i64 x] xN K = (K (Res.mk (AV.tup []) [(some (some (Block.mk false (Data.mix [(AC.nils)]))))])) := by kernel_rfl
theorem t_xg (n : Nat) (b : Bool) (x y i : Int) (s p : List Int) (v w : List Bool) (a : List Int) (K : HeadK) : bodyR Try.prog sNil lNil iXg 60 (loopOf Try.prog 24 0) [vPt 0, aint .i64 x, aint .i64 y, vPt 2, aint .i64 i] [bO (xT 1 n b), bO (kB s p v w a), (true, some ⟨false, .mix [.bool false, .bool false, .int .i64 0]⟩)] K = (cond (decide (i < (↑n : Int))) (cond (decide (0 ≤ i) && decide (i < (↑n : Int))) (cond (decide (0 + Int.toNat i < List.length s)) (cond (List.getD s (0 + Int.toNat i) 0 == x) (cond (decide (0 ≤ i) && decide (i < (↑n : Int))) (cond (decide (0 + Int.toNat i < List.length p)) (cond (List.getD p (0 + Int.toNat i) 0 == y) (cond (decide (0 ≤ i) && decide (i < (↑n : Int))) (cond (decide (0 + Int.toNat i < List.length v) && (decide (0 + Int.toNat i < List.length w) && (decide (0 + Int.toNat i < List.length a) && true))) (K (Ex.ret) [(AV.e (AE.c (AC.ptr (Loc.mk 2 0 0 0 0 0 0)))), (AV.e (AE.c (AC.bool true)))] [(Prod.mk false (some (Block.mk false (Data.mix [(AC.slice (Loc.mk 1 0 5 0 0 0 0) 5 (n) 0 (b))])))), (Prod.mk false (some (Block.mk false (Data.rows [(Col.ints (IntKind.i64) (s)), (Col.ints (IntKind.i64) (p)), (Col.bools (v)), (Col.bools (w)), (Col.ints (IntKind.i64) (a))])))), (Prod.mk true (some (Block.mk false (Data.mix [(AC.bool (List.getD v (0 + Int.toNat i) false)), (AC.bool (List.getD w (0 + Int.toNat i) false)), (AC.int (IntKind.i64) (List.getD a (0 + Int.toNat i) 0))]))))]) none) none) (K (Ex.normal) [(AV.e (AE.c (AC.ptr (Loc.mk 0 0 0 0 0 0 0)))), (AV.e (AE.c (AC.int (IntKind.i64) (x)))), (AV.e (AE.c (AC.int (IntKind.i64) (y)))), (AV.e (AE.c (AC.ptr (Loc.mk 2 0 0 0 0 0 0)))), (AV.e (AE.c (AC.int (IntKind.i64) (IntKind.wrap IntKind.i64 (i + 1)))))] [(Prod.mk false (some (Block.mk false (Data.mix [(AC.slice (Loc.mk 1 0 5 0 0 0 0) 5 (n) 0 (b))])))), (Prod.mk false (some (Block.mk false (Data.rows [(Col.ints (IntKind.i64) (s)), (Col.ints (IntKind.i64) (p)), (Col.bools (v)), (Col.bools (w)), (Col.ints (IntKind.i64) (a))])))), (Prod.mk true (some (Block.mk false (Data.mix [(AC.bool false), (AC.bool false), (AC.int (IntKind.i64) (0))]))))])) none) none) (K (Ex.normal) [(AV.e (AE.c (AC.ptr (Loc.mk 0 0 0 0 0 0 0)))), (AV.e (AE.c (AC.int (IntKind.i64) (x)))), (AV.e (AE.c (AC.int (IntKind.i64) (y)))), (AV.e (AE.c (AC.ptr (Loc.mk 2 0 0 0 0 0 0)))), (AV.e (AE.c (AC.int (IntKind.i64) (IntKind.wrap IntKind.i64 (i + 1)))))] [(Prod.mk false (some (Block.mk false (Data.mix [(AC.slice (Loc.mk 1 0 5 0 0 0 0) 5 (n) 0 (b))])))), (Prod.mk false (some (Block.mk false (Data.rows [(Col.ints (IntKind.i64) (s)), (Col.ints (IntKind.i64) (p)), (Col.bools (v)), (Col.bools (w)), (Col.ints (IntKind.i64) (a))])))), (Prod.mk true (some (Block.mk false (Data.mix [(AC.bool false), (AC.bool false), (AC.int (IntKind.i64) (0))]))))])) none) none) (K (Ex.exit 0) [(AV.e (AE.c (AC.ptr (Loc.mk 2 0 0 0 0 0 0))))] [(Prod.mk false (some (Block.mk false (Data.mix [(AC.slice (Loc.mk 1 0 5 0 0 0 0) 5 (n) 0 (b))])))), (Prod.mk false (some (Block.mk false (Data.rows [(Col.ints (IntKind.i64) (s)), (Col.ints (IntKind.i64) (p)), (Col.bools (v)), (Col.bools (w)), (Col.ints (IntKind.i64) (a))])))), (Prod.mk true (some (Block.mk false (Data.mix [(AC.bool false), (AC.bool false), (AC.int (IntKind.i64) (0))]))))])) := by kernel_rfl
theorem t_xgFn (x y : Int) (K : Res → Option Res) : runG Try.prog sNil 60 24 [tP, aint .i64 x, aint .i64 y] xN K = (K (Res.mk (AV.tup [(AE.agg [(AC.bool false), (AC.bool false), (AC.int (IntKind.i64) (0))]), (AE.c (AC.bool false))]) [(none)])) := by kernel_rfl
theorem t_number (x : Int) (K : Res → Option Res) : runG Try.prog sNil 60 43 [aint .i64 x] [] K = (cond (decide (x ≥ 0)) (K (Res.mk (AV.e (AE.c (AC.bool (decide (x ≤ 63))))) [])) (K (Res.mk (AV.e (AE.c (AC.bool false))) []))) := by kernel_rfl
end Go.Proofs.Ytnloobnpgkpbhaa.Wlk
