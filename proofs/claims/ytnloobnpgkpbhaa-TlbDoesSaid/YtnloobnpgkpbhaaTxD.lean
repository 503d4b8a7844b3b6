/- The reference's list of what is kept: got, agreeing: told in short. -/
import Derived.Test.YtnloobnpgkpbhaaTxC
set_option linter.unusedVariables false
set_option linter.unusedSimpArgs false
set_option maxRecDepth 100000
namespace Go.Proofs.Ytnloobnpgkpbhaa.Wlk
open Go Go.Eng Go.Proofs Go.RowKit
abbrev bE (v w : Bool) (a : Int) : Bool × Option Block := (true, some ⟨false, .mix [.bool v, .bool w, .int .i64 a]⟩)
def xgR (n : Nat) (b : Bool) (L : List Ro) (K : HeadK) : Option Ro → Option Res
  | some r => K .ret [vPt 2, wr_ true] [bO (xT 1 n b), bO (kR L 0), bE r.v r.w r.a]
  | none => K (.exit 0) [vPt 2] [bO (xT 1 n b), bO (kR L 0), bE false false 0]
set_option maxHeartbeats 2000000 in
theorem loopXg (x y : Int) (b : Bool) (L : List Ro) (hL : L.length ≤ 16) (K : HeadK) (j : Nat) : ∀ i : Nat, i + j = L.length →
    iterR Try.prog sNil lNil iXg 60 (loopOf Try.prog 24 0) (j + 1) [vPt 0, aint .i64 x, aint .i64 y, vPt 2, aint .i64 i] [bO (xT 1 L.length b), bO (kR L 0), bE false false 0] K = xgR L.length b L K (fndR x y (L.drop i)) := by
  induction j with
  | zero =>
    intro i hi
    rw [iterR, List.drop_of_length_le (by omega), show fndR x y [] = none from rfl]
    refine (t_xg L.length b x y i _ _ _ _ _ _).trans ?_
    rw [decide_eq_false (show ¬ (i : Int) < (L.length : Int) by omega), cF] <;> rfl
  | succ j ih =>
    intro i hi
    have hil : i < L.length := by omega
    have ih' := ih (i + 1) (by omega)
    clear ih
    have gs : (cS L 0).getD i 0 = L[i].s := col_getD Ro.s 0 L 0 i hil
    have gp : (cP L 0).getD i 0 = L[i].p := col_getD Ro.p 0 L 0 i hil
    have gv : (cV L 0).getD i false = L[i].v := col_getD Ro.v false L 0 i hil
    have gw : (cW L 0).getD i false = L[i].w := col_getD Ro.w false L 0 i hil
    have ga : (cA L 0).getD i 0 = L[i].a := col_getD Ro.a 0 L 0 i hil
    have w1 : IntKind.wrap IntKind.i64 ((i : Int) + 1) = ((i + 1 : Nat) : Int) := by rw [wrap_i64 (by omega) (by omega)]; omega
    have hf : fndR x y (L.drop i) = if (L[i].s == x && L[i].p == y) = true then some L[i] else fndR x y (L.drop (i + 1)) := by
      rw [List.drop_eq_getElem_cons hil]
      unfold fndR
      rw [List.find?_cons]
      cases (L[i].s == x && L[i].p == y) <;> rfl
    rw [iterR, hf]
    refine (t_xg L.length b x y i _ _ _ _ _ _).trans ?_
    rw [decide_eq_true (show (i : Int) < (L.length : Int) by omega), cT, decide_eq_true (show (0 : Int) ≤ (i : Int) by omega), Bool.and_self, cT, Int.toNat_natCast, Nat.zero_add, cS_len, decide_eq_true (show i < L.length + 0 by omega), cT, gs, w1]
    cases c1 : (L[i].s == x) with
    | false =>
      rw [cF, Bool.false_and, if_neg Bool.false_ne_true]
      exact ih'
    | true =>
      rw [cT, cT, cP_len, decide_eq_true (show i < L.length + 0 by omega), cT, gp, Bool.true_and]
      cases c2 : (L[i].p == y) with
      | false =>
        rw [cF, if_neg Bool.false_ne_true]
        exact ih'
      | true =>
        rw [cT, cT, cV_len, cW_len, cA_len, decide_eq_true (show i < L.length + 0 by omega), gv, gw, ga]
        repeat rw [Bool.and_self]
        rw [cT, if_pos rfl]; rfl
def cXg (V W : GB) (A : GZ) (I : GB) : HeadO := fun vs h K => match vs, h with
  | [.e (.c (.ptr ⟨0, 0, 0, 0, 0, 0, 0⟩)), .e (.c (.int .i64 x)), .e (.c (.int .i64 y)), .e (.c (.ptr ⟨2, 0, 0, 0, 0, 0, 0⟩)), .e (.c (.int .i64 i))], [(false, some ⟨false, .mix [.slice ⟨1, 0, 5, 0, 0, 0, 0⟩ 5 n 0 b]⟩), (false, some ⟨false, .rows [.ints .i64 s, .ints .i64 p, .bools v, .bools w, .ints .i64 a]⟩), (true, some ⟨false, .mix [.bool false, .bool false, .int .i64 0]⟩)] =>
    match decide (i = 0) && okK n 0 s p v w a && Nat.ble n 16 with
    | true => match I x y (rowsN n s p v w a) with
      | true => K .ret [vPt 2, wr_ true] [bO (xT 1 n b), bO (kB s p v w a), bE (V x y (rowsN n s p v w a)) (W x y (rowsN n s p v w a)) (A x y (rowsN n s p v w a))]
      | false => K (.exit 0) [vPt 2] [bO (xT 1 n b), bO (kB s p v w a), bE false false 0]
    | false => none
  | _, _ => none
theorem cXg_sound : HeadSound Try.prog iXg (loopOf Try.prog 24 0) (cXg ktV ktW ktA ktI) := by
  refine HeadSound.short (iterR_sound (F := 60) sNil_ok mix lNil_ok) fun vs h K r ee => ?_
  unfold cXg at ee
  split at ee
  · rename_i x y i n b s p v w a
    split at ee
    · rename_i hc
      simp only [Bool.and_eq_true, decide_eq_true_eq] at hc
      obtain ⟨⟨rfl, c1⟩, c2⟩ := hc
      obtain ⟨L, hL, rfl, rfl, rfl, rfl, rfl, hb, hr⟩ := okK_spec c1
      subst hL
      rw [rowsN_cols] at ee
      refine ⟨L.length + 1, (loopXg x y b L (Nat.le_of_ble_eq_true c2) K L.length 0 (by omega)).trans (Eq.trans ?_ ee)⟩
      rw [List.drop_zero]
      unfold ktI ktV ktW ktA
      cases fndR x y L with
      | none => rfl
      | some q => rfl
    · cases ee
  · cases ee
noncomputable def lXg (V W : GB) (A : GZ) (I : GB) : Nat → Option Orc := lAdd lNil 0 (wrapO iXg 0 (cXg V W A I))
theorem lXg_for : LFor 2 Try.prog 24 (lXg ktV ktW ktA ktI) := lAdd_for (I := iXg) lNil_for (by kernel_rfl) cXg_sound
theorem xg_dis : Go.Eng.distinct (blockIds (codeOf Try.prog 24)) = true := by kernel_rfl
/- agreeing -/
noncomputable def sXa (PV PW : LB) (PA PE : LF) : Summ := sAdd sNil 44 (gPageV PV PW PA PE)
theorem sXa_ok : SummOk Try.prog (sXa pgV pgW pgA pgE) := sAdd_ok sNil_ok gRefPage_sound (enters Try.func44 rfl (by kernel_rfl))
abbrev xaV (sp d i : Int) : List AV := [vPt 0, vPt 1, aint .i64 sp, aint .i64 d, aint .i64 i]
abbrev xaH (n m c : Nat) (b : Bool) (s p : List Int) (v w : List Bool) (q : List Int) (ws : List Int) : Heap := [bO (xT 2 n b), bO (some ⟨false, .mix [.slice ⟨3, 0, 1, 0, 0, 0, 0⟩ 1 m c true]⟩), bO (kB s p v w q), bO (some ⟨false, .rows [.ints .u64 ws]⟩)]
set_option maxHeartbeats 2000000 in
theorem loopXa (m c : Nat) (b : Bool) (sp d : Int) (L : List Ro) (ws : List Int) (hL : L.length ≤ 16) (hg : (okM m ws && inI d && allW ws) = true) (K : HeadK) (j : Nat) : ∀ i : Nat, i + j = L.length →
    iterR Try.prog (sXa pgV pgW pgA pgE) lNil iXa 60 (loopOf Try.prog 27 0) (j + 1) (xaV sp d i) (xaH L.length m c b (cS L 0) (cP L 0) (cV L 0) (cW L 0) (cA L 0) ws) K =
      cond (agL ws sp d (L.drop i)) (K (.exit 0) [] (xaH L.length m c b (cS L 0) (cP L 0) (cV L 0) (cW L 0) (cA L 0) ws)) (K .ret [wr_ false] (xaH L.length m c b (cS L 0) (cP L 0) (cV L 0) (cW L 0) (cA L 0) ws)) := by
  induction j with
  | zero =>
    intro i hi
    rw [iterR, List.drop_of_length_le (by omega), show agL ws sp d [] = true from rfl, cT]
    refine (t_xa pgV pgW pgA pgE L.length m c b sp d i _ _ _ _ _ ws _).trans ?_
    rw [decide_eq_false (show ¬ (i : Int) < (L.length : Int) by omega), cF] <;> rfl
  | succ j ih =>
    intro i hi
    have hil : i < L.length := by omega
    have ih' := ih (i + 1) (by omega)
    clear ih
    have hw : IntKind.wrap IntKind.i64 ((i : Int) + 1) = ((i + 1 : Nat) : Int) := by rw [wrap_i64 (by omega) (by omega)]; omega
    simp only [Bool.and_eq_true] at hg
    have ha : agL ws sp d (L.drop i) = (agR ws sp d L[i] && agL ws sp d (L.drop (i + 1))) := by
      rw [List.drop_eq_getElem_cons hil]; rfl
    have e16 : IntKind.wrap IntKind.i64 (16 * L[i].p) = w16 L[i].p := by unfold w16; rw [Int.mul_comm]
    rw [iterR, ha]
    refine (t_xa pgV pgW pgA pgE L.length m c b sp d i _ _ _ _ _ ws _).trans ?_
    rw [decide_eq_true (show (i : Int) < (L.length : Int) by omega), cT, decide_eq_true (show (0 : Int) ≤ (i : Int) by omega), Bool.and_self, cT, Int.toNat_natCast, Nat.zero_add, cS_len, cP_len, cV_len, cW_len, cA_len, decide_eq_true (show i < L.length + 0 by omega), cT]
    rw [show (cS L 0).getD i 0 = L[i].s from col_getD Ro.s 0 L 0 i hil, show (cP L 0).getD i 0 = L[i].p from col_getD Ro.p 0 L 0 i hil, show (cV L 0).getD i false = L[i].v from col_getD Ro.v false L 0 i hil, show (cW L 0).getD i false = L[i].w from col_getD Ro.w false L 0 i hil, show (cA L 0).getD i 0 = L[i].a from col_getD Ro.a 0 L 0 i hil, hw, e16, w16_in, hg.1.1, hg.1.2, hg.2]
    unfold agR
    by_cases c1 : L[i].s = sp
    · rw [if_pos c1, show (L[i].s == sp) = true from beq_iff_eq.2 c1, cT, cT, cT]
      repeat rw [Bool.and_self]
      rw [cT]
      by_cases c2 : pgE ws d (w16 L[i].p) = 0
      · rw [if_pos c2, bne_false c2, cF, cT, cT]
        cases c3 : (pgV ws d (w16 L[i].p) == L[i].v && (pgW ws d (w16 L[i].p) == L[i].w && (pgA ws d (w16 L[i].p) == L[i].a && true))) with
        | true =>
          rw [Bool.true_and, Bool.not_true, cF]
          exact ih'
        | false =>
          rw [Bool.false_and, Bool.not_false, cT, cF] <;> rfl
      · rw [if_neg c2, show (pgE ws d (w16 L[i].p) != 0) = true from by simp [c2], cT, Bool.false_and, cF] <;> rfl
    · rw [if_neg c1, Bool.true_and, show (L[i].s == sp) = false from beq_eq_false_iff_ne.2 c1, cF]
      exact ih'
def cXa (AG : AGf) : HeadO := fun vs h K => match vs, h with
  | [.e (.c (.ptr ⟨0, 0, 0, 0, 0, 0, 0⟩)), .e (.c (.ptr ⟨1, 0, 0, 0, 0, 0, 0⟩)), .e (.c (.int .i64 sp)), .e (.c (.int .i64 d)), .e (.c (.int .i64 i))], [(false, some ⟨false, .mix [.slice ⟨2, 0, 5, 0, 0, 0, 0⟩ 5 n 0 b]⟩), (false, some ⟨false, .mix [.slice ⟨3, 0, 1, 0, 0, 0, 0⟩ 1 m c true]⟩), (false, some ⟨false, .rows [.ints .i64 s, .ints .i64 p, .bools v, .bools w, .ints .i64 q]⟩), (false, some ⟨false, .rows [.ints .u64 ws]⟩)] =>
    match okK n 0 s p v w q && decide (i = 0) && Nat.ble n 16 && (okM m ws && inI d && allW ws) with
    | true => match AG ws sp d (rowsN n s p v w q) with
      | true => K (.exit 0) [] (xaH n m c b s p v w q ws)
      | false => K .ret [wr_ false] (xaH n m c b s p v w q ws)
    | false => none
  | _, _ => none
theorem cXa_sound : HeadSound Try.prog iXa (loopOf Try.prog 27 0) (cXa agL) := by
  refine HeadSound.short (iterR_sound (F := 60) sXa_ok mix lNil_ok) fun vs h K r ee => ?_
  unfold cXa at ee
  split at ee
  · rename_i sp d i n b m c s p v w q ws
    split at ee
    · rename_i hc
      rw [Bool.and_eq_true, Bool.and_eq_true, Bool.and_eq_true] at hc
      obtain ⟨⟨⟨h1, h2⟩, h3⟩, h6⟩ := hc
      obtain ⟨L, hL, rfl, rfl, rfl, rfl, rfl, hb, hr⟩ := okK_spec h1
      subst hL
      have h2 := of_decide_eq_true h2
      subst h2
      rw [rowsN_cols] at ee
      refine ⟨L.length + 1, (loopXa m c b sp d L ws (Nat.le_of_ble_eq_true h3) h6 K L.length 0 (by omega)).trans ?_⟩
      rw [List.drop_zero]
      cases ca : agL ws sp d L with
      | true => rw [ca] at ee; rw [cT]; exact ee
      | false => rw [ca] at ee; rw [cF]; exact ee
    · cases ee
  · cases ee
noncomputable def lXa (AG : AGf) : Nat → Option Orc := lAdd lNil 0 (wrapO iXa 0 (cXa AG))
theorem lXa_for : LFor 4 Try.prog 27 (lXa agL) := lAdd_for (I := iXa) lNil_for (by kernel_rfl) cXa_sound
theorem t_xgFs (V W : GB) (A : GZ) (I : GB) (n : Nat) (b : Bool) (x y : Int) (s p : List Int) (v w : List Bool) (a : List Int) (K : Res → Option Res) : runLG Try.prog sNil (lXg V W A I) 2 60 24 [tP, aint .i64 x, aint .i64 y] (xB n b s p v w a) K = (cond (true && Go.Proofs.Ytnloobnpgkpbhaa.Wlk.okK n 0 s p v w a && Nat.ble n 16) (cond (I x y (Go.Proofs.Ytnloobnpgkpbhaa.Wlk.rowsN n s p v w a)) (K (Res.mk (AV.tup [(AE.agg [(AC.bool (V x y (Go.Proofs.Ytnloobnpgkpbhaa.Wlk.rowsN n s p v w a))), (AC.bool (W x y (Go.Proofs.Ytnloobnpgkpbhaa.Wlk.rowsN n s p v w a))), (AC.int (IntKind.i64) (A x y (Go.Proofs.Ytnloobnpgkpbhaa.Wlk.rowsN n s p v w a)))]), (AE.c (AC.bool true))]) [(none), (none)])) (K (Res.mk (AV.tup [(AE.agg [(AC.bool false), (AC.bool false), (AC.int (IntKind.i64) (0))]), (AE.c (AC.bool false))]) [(none), (none)]))) none) := by kernel_rfl
theorem t_xaFs (AG : AGf) (n m c : Nat) (b : Bool) (sp d : Int) (s p : List Int) (v w : List Bool) (q : List Int) (ws : List Int) (K : Res → Option Res) : runLG Try.prog (sXa pgV pgW pgA pgE) (lXa AG) 4 100 27 [tP, vPt 1, aint .i64 sp, aint .i64 d] [xT 2 n b, some ⟨false, .mix [.slice ⟨3, 0, 1, 0, 0, 0, 0⟩ 1 m c true]⟩, kB s p v w q, some ⟨false, .rows [.ints .u64 ws]⟩] K = (cond (Go.Proofs.Ytnloobnpgkpbhaa.Wlk.okK n 0 s p v w q && true && Nat.ble n 16 && (Go.Proofs.Ytnloobnpgkpbhaa.Wlk.okM m ws && inI d && Go.Proofs.Ytnloobnpgkpbhaa.Wlk.allW ws)) (cond (AG ws sp d (Go.Proofs.Ytnloobnpgkpbhaa.Wlk.rowsN n s p v w q)) (K (Res.mk (AV.e (AE.c (AC.bool true))) [(none), (none), (none), (none)])) (K (Res.mk (AV.e (AE.c (AC.bool false))) [(none), (none), (none), (none)]))) none) := by kernel_rfl
theorem t_xaFn (m c : Nat) (sp d : Int) (ws : List Int) (K : Res → Option Res) : runG Try.prog (sXa pgV pgW pgA pgE) 100 27 [tP, vPt 1, aint .i64 sp, aint .i64 d] [some ⟨false, .mix [.nils]⟩, some ⟨false, .mix [.slice ⟨2, 0, 1, 0, 0, 0, 0⟩ 1 m c true]⟩, some ⟨false, .rows [.ints .u64 ws]⟩] K = (K (Res.mk (AV.e (AE.c (AC.bool true))) [(none), (none), (none)])) := by kernel_rfl
end Go.Proofs.Ytnloobnpgkpbhaa.Wlk
