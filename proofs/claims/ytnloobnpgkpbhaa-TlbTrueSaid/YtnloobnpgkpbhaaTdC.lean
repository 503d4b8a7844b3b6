/- One page's entry dropped: all pages looked at; the law's tree. -/
import Derived.Test.YtnloobnpgkpbhaaTdB
set_option linter.unusedVariables false
set_option linter.unusedSimpArgs false
set_option maxRecDepth 100000
namespace Go.Proofs.Ytnloobnpgkpbhaa.Wlk
open Go Go.Eng Go.Proofs Go.RowKit
theorem bne_same {a b : Int} (h : a = b) : (a != b) = false := by simp [h]
set_option maxHeartbeats 4000000 in
theorem round4 (m c : Nat) (l ws : List Int) (hm : okM m ws = true) (hw : allW ws = true) (K : HeadK) (i : Nat) (o : Ts) (ho : InvO o) (hag : agL ws 5 0 (rowsO o) = true) (h1 : i < 16) :
    bodyR Try.prog (sDw tE tA tC tL tX tW toA toE) lNil iD4 60 (loopOf Try.prog 7 4) [vPt 1, vPt 2, aint .i64 i] (dH l m c ws o) K = K .normal [vPt 1, vPt 2, aint .i64 (i + 1 : Nat)] (dH l m c ws (stTo ws 5 0 (16 * i + 3) o)) := by
  have hi : IntKind.wrap IntKind.i64 ((i : Int) + 1) = ((i + 1 : Nat) : Int) := by rw [wrap_i64 (by omega) (by omega)]; omega
  have ea : IntKind.wrap IntKind.i64 (IntKind.wrap IntKind.i64 (16 * (i : Int)) + 3) = 16 * (i : Int) + 3 := by rw [wrap_i64 (n := 16 * (i : Int)) (by omega) (by omega), wrap_i64 (by omega) (by omega)]
  have ia : inI (16 * (i : Int) + 3) = true := inI_of (by omega) (by omega)
  cases o with
  | none =>
    obtain ⟨e1, e2⟩ := to_agree (d := 0) (a := 16 * (i : Int) + 3) (wr := (Int.tmod (i : Int) 2 == 0)) hm hag (by omega)
    have e1 : tE ws [] 5 0 (16 * (i : Int) + 3) (Int.tmod (i : Int) 2 == 0) = toE ws 0 (16 * (i : Int) + 3) (Int.tmod (i : Int) 2 == 0) := e1
    have e2 : tA ws [] 5 0 (16 * (i : Int) + 3) (Int.tmod (i : Int) 2 == 0) = toA ws 0 (16 * (i : Int) + 3) (Int.tmod (i : Int) 2 == 0) := e2
    refine (t_d4N tE tA tC tL tX tW toA toE m c i l ws K).trans ?_
    rw [decide_eq_true (show (i : Int) < 16 by omega), cT, ea, ia, hm, hw, show inI 0 = true from rfl, hi, bne_same e1, bne_same e2]
    repeat rw [Bool.and_self]
    rw [cT, cF, cF, stTo_none]
    cases cc : tC ws [] 5 0 (16 * (i : Int) + 3) with
    | true => rw [cT, if_pos rfl, cT]; rfl
    | false => rw [cF, if_neg Bool.false_ne_true, cT, cF, cF]; rfl
  | some q =>
    obtain ⟨L, e⟩ := q
    have hl := InvW.len ho
    have hr := InvW.room ho
    obtain ⟨e1, e2⟩ := to_agree (d := 0) (a := 16 * (i : Int) + 3) (wr := (Int.tmod (i : Int) 2 == 0)) hm hag (by omega)
    have e1 : tE ws L 5 0 (16 * (i : Int) + 3) (Int.tmod (i : Int) 2 == 0) = toE ws 0 (16 * (i : Int) + 3) (Int.tmod (i : Int) 2 == 0) := e1
    have e2 : tA ws L 5 0 (16 * (i : Int) + 3) (Int.tmod (i : Int) 2 == 0) = toA ws 0 (16 * (i : Int) + 3) (Int.tmod (i : Int) 2 == 0) := e2
    refine (t_d4S tE tA tC tL tX tW toA toE m c L.length e i l ws _ _ _ _ _ K).trans ?_
    rw [decide_eq_true (show (i : Int) < 16 by omega), cT, ea, ia, hm, hw, show inI 0 = true from rfl, hi, rowsN_cols, okK_self L e (by omega), Nat.ble_eq_true_of_le hl, bne_same e1, bne_same e2]
    repeat rw [Bool.and_self]
    rw [cT, bsame (tW L 5 (16 * (i : Int) + 3) e), stTo_some]
    cases cc : tC ws L 5 0 (16 * (i : Int) + 3) with
    | true => rw [cT, if_pos rfl, cT, cF, cF]; rfl
    | false => rw [cF, if_neg Bool.false_ne_true, cT, cF, cF]; rfl
def d4S (ws : List Int) : Nat → Nat → Ts → Ts
  | 0, _, o => o
  | c + 1, i, o => d4S ws c (i + 1) (stTo ws 5 0 (16 * i + 3) o)
theorem loopD4 (m c : Nat) (l ws : List Int) (hm : okM m ws = true) (hw : allW ws = true) (K : HeadK) (j : Nat) : ∀ (i : Nat) (o : Ts), InvO o → agL ws 5 0 (rowsO o) = true → i + j = 16 →
    iterR Try.prog (sDw tE tA tC tL tX tW toA toE) lNil iD4 60 (loopOf Try.prog 7 4) (j + 1) [vPt 1, vPt 2, aint .i64 i] (dH l m c ws o) K = K (.exit 4) [vPt 1, vPt 2] (dH l m c ws (d4S ws j i o)) := by
  induction j with
  | zero =>
    intro i o ho hag hi
    rw [iterR]
    cases o with
    | none =>
      refine (t_d4N tE tA tC tL tX tW toA toE m c i l ws _).trans ?_
      rw [decide_eq_false (show ¬ (i : Int) < 16 by omega), cF]; rfl
    | some q =>
      obtain ⟨L, e⟩ := q
      refine (t_d4S tE tA tC tL tX tW toA toE m c L.length e i l ws _ _ _ _ _ _).trans ?_
      rw [decide_eq_false (show ¬ (i : Int) < 16 by omega), cF]; rfl
  | succ j ih =>
    intro i o ho hag hi
    rw [iterR, d4S]
    refine (round4 m c l ws hm hw _ i o ho hag (by omega)).trans ?_
    exact ih _ _ (ho.to _ _ _) (ag_to hag (fun _ => rfl)) (by omega)
theorem d4_inv (ws : List Int) : ∀ (j i : Nat) (o : Ts), InvO o → agL ws 5 0 (rowsO o) = true → InvO (d4S ws j i o) ∧ agL ws 5 0 (rowsO (d4S ws j i o)) = true
  | 0, _, _, h, g => ⟨h, g⟩
  | j + 1, i, o, h, g => d4_inv ws j (i + 1) _ (h.to _ _ _) (ag_to g (fun _ => rfl))
def d4N (ws : List Int) : Bool := (d4S ws 16 0 none).isNone
noncomputable def d4Q (L' : List Ro) (e' : Nat) (ws : List Int) (o : Ts) : Bool := @decide (d4S ws 16 0 o = some (L', e')) (Classical.propDecidable _)
theorem d4Q_spec {L' : List Ro} {e' : Nat} {ws : List Int} {o : Ts} (h : d4Q L' e' ws o = true) : d4S ws 16 0 o = some (L', e') := @of_decide_eq_true _ (Classical.propDecidable _) h
theorem d4Q_of {L' : List Ro} {e' : Nat} {ws : List Int} {o : Ts} (h : d4S ws 16 0 o = some (L', e')) : d4Q L' e' ws o = true := @decide_eq_true _ (Classical.propDecidable _) h
theorem d4_some (ws : List Int) : ∀ (j i : Nat) (L : List Ro) (e : Nat), ∃ L' e', d4S ws j i (some (L, e)) = some (L', e')
  | 0, _, L, e => ⟨L, e, rfl⟩
  | j + 1, i, L, e => by
    rw [d4S, stTo_some]
    split
    · exact d4_some ws j (i + 1) _ _
    · exact d4_some ws j (i + 1) _ _
abbrev ANf := List Int → Bool
abbrev D4q := List Int → Ts → Bool
def cD4n (AN : ANf) (DQ : D4q) (L4 : List Ro) (X4 : Nat) : HeadO := fun vs h K => match vs, h with
  | [.e (.c (.ptr ⟨1, 0, 0, 0, 0, 0, 0⟩)), .e (.c (.ptr ⟨2, 0, 0, 0, 0, 0, 0⟩)), .e (.c (.int .i64 i))],
    [(false, some ⟨true, .rows [.ints .i64 l]⟩), (true, some ⟨false, .mix [.slice ⟨3, 0, 1, 0, 0, 0, 0⟩ 1 m c true]⟩), (true, some ⟨false, .mix [.nils]⟩), (true, some ⟨false, .rows [.ints .u64 ws]⟩)] =>
    match decide (i = 0) && okM m ws && allW ws with
    | true => match AN ws with
      | true => K (.exit 4) [vPt 1, vPt 2] [bR1 l, bM 3 m c, bT0, bW ws]
      | false => match DQ ws none with
        | true => K (.exit 4) [vPt 1, vPt 2] [bR1 l, bM 3 m c, bT 4 L4.length X4, bW ws, bCL L4 X4]
        | false => none
    | false => none
  | _, _ => none
def cD4s (AG : AGf) (DQ : D4q) (L4 : List Ro) (X4 : Nat) : HeadO := fun vs h K => match vs, h with
  | [.e (.c (.ptr ⟨1, 0, 0, 0, 0, 0, 0⟩)), .e (.c (.ptr ⟨2, 0, 0, 0, 0, 0, 0⟩)), .e (.c (.int .i64 i))],
    [(false, some ⟨true, .rows [.ints .i64 l]⟩), (true, some ⟨false, .mix [.slice ⟨3, 0, 1, 0, 0, 0, 0⟩ 1 m c true]⟩), (true, some ⟨false, .mix [.slice ⟨4, 0, 5, 0, 0, 0, 0⟩ 5 n e false]⟩), (true, some ⟨false, .rows [.ints .u64 ws]⟩), (true, some ⟨false, .rows [.ints .i64 s, .ints .i64 p, .bools v, .bools w, .ints .i64 q]⟩)] =>
    match decide (i = 0) && okM m ws && allW ws && okK n e s p v w q && Nat.ble n 8 && Nat.ble (n + e) 16 && AG ws 5 0 (rowsN n s p v w q) && DQ ws (some (rowsN n s p v w q, e)) with
    | true => K (.exit 4) [vPt 1, vPt 2] [bR1 l, bM 3 m c, bT 4 L4.length X4, bW ws, bCL L4 X4]
    | false => none
  | _, _ => none
def cD4 (AN : ANf) (AG : AGf) (DQ : D4q) (L4 : List Ro) (X4 : Nat) : HeadO := fun vs h K => match h with
  | [_, _, _, _] => cD4n AN DQ L4 X4 vs h K
  | _ => cD4s AG DQ L4 X4 vs h K
theorem cD4n_ok (L4 : List Ro) (X4 : Nat) (vs : List AV) (h : Heap) (K : HeadK) (r : Res) (ee : cD4n d4N (d4Q L4 X4) L4 X4 vs h K = some r) : ∃ n, iterR Try.prog (sDw tE tA tC tL tX tW toA toE) lNil iD4 60 (loopOf Try.prog 7 4) n vs h K = some r := by
  unfold cD4n at ee
  split at ee
  · rename_i i l m c ws
    split at ee
    · rename_i hc
      simp only [Bool.and_eq_true, decide_eq_true_eq] at hc
      obtain ⟨⟨rfl, c2⟩, c3⟩ := hc
      refine ⟨17, (loopD4 m c l ws c2 c3 K 16 0 none trivial rfl rfl).trans (Eq.trans ?_ ee)⟩
      unfold d4N at ee ⊢
      cases cs : d4S ws 16 0 none with
      | none => rfl
      | some q =>
        rw [cs] at ee
        cases cq : d4Q L4 X4 ws none with
        | false => rw [cq] at ee; cases ee
        | true =>
          have := d4Q_spec cq
          rw [cs] at this
          rw [this]; rfl
    · cases ee
  · cases ee
theorem cD4s_ok (L4 : List Ro) (X4 : Nat) (vs : List AV) (h : Heap) (K : HeadK) (r : Res) (ee : cD4s agL (d4Q L4 X4) L4 X4 vs h K = some r) : ∃ n, iterR Try.prog (sDw tE tA tC tL tX tW toA toE) lNil iD4 60 (loopOf Try.prog 7 4) n vs h K = some r := by
  unfold cD4s at ee
  split at ee
  · rename_i i l m c n e ws s p v w q
    split at ee
    · rename_i hc
      simp only [Bool.and_eq_true, decide_eq_true_eq] at hc
      obtain ⟨⟨⟨⟨⟨⟨⟨rfl, c2⟩, c3⟩, c4⟩, c5⟩, c6⟩, c7⟩, c8⟩ := hc
      obtain ⟨L, hL, rfl, rfl, rfl, rfl, rfl, hb, hr⟩ := okK_spec c4
      subst hL
      rw [rowsN_cols] at c7 c8
      refine ⟨17, (loopD4 m c l ws c2 c3 K 16 0 (some (L, e)) ⟨Nat.le_of_ble_eq_true c5, Nat.le_of_ble_eq_true c6⟩ c7 rfl).trans (Eq.trans ?_ ee)⟩
      rw [d4Q_spec c8]; rfl
    · cases ee
  · cases ee
theorem cD4_sound (L4 : List Ro) (X4 : Nat) : HeadSound Try.prog iD4 (loopOf Try.prog 7 4) (cD4 d4N agL (d4Q L4 X4) L4 X4) := by
  refine HeadSound.short (iterR_sound (F := 60) sDw_ok mix lNil_ok) fun vs h K r ee => ?_
  unfold cD4 at ee
  split at ee
  · exact cD4n_ok _ _ _ _ _ _ ee
  · exact cD4s_ok _ _ _ _ _ _ ee
noncomputable def iD0 : LI := ⟨1, nT 7, [0, 1, 2, 3, 9, 11], [0, 1, 2, 3, 9], [8]⟩
noncomputable def sPu1 : Summ := sAdd sNil 22 gPut
theorem sPu1_ok : SummOk Try.prog sPu1 := sAdd_ok sNil_ok gPut_sound (enters Try.func22 rfl (by kernel_rfl))
theorem t_d0 (u m c : Nat) (x y i : Int) (wr : Bool) (l ws : List Int) (K : HeadK) : bodyR Try.prog sPu1 lNil iD0 60 (loopOf Try.prog 7 0) [vS0 u, aint .i64 x, aint .i64 y, wr_ wr, vPt 1, aint .i64 i] [bR1 l, bM 2 m c, bW ws] K = (cond (decide (i < 16)) (cond (Go.Proofs.Ytnloobnpgkpbhaa.Wlk.okM m ws && inI (IntKind.wrap IntKind.i64 (16 + i))) (K (Ex.normal) [(AV.e (AE.c (AC.slice (Loc.mk 0 0 1 0 0 0 0) 1 (u) 0 false))), (AV.e (AE.c (AC.int (IntKind.i64) (x)))), (AV.e (AE.c (AC.int (IntKind.i64) (y)))), (AV.e (AE.c (AC.bool (wr)))), (AV.e (AE.c (AC.ptr (Loc.mk 1 0 0 0 0 0 0)))), (AV.e (AE.c (AC.int (IntKind.i64) (IntKind.wrap IntKind.i64 (i + 1)))))] [(Prod.mk false (some (Block.mk true (Data.rows [(Col.ints (IntKind.i64) (l))])))), (Prod.mk true (some (Block.mk false (Data.mix [(AC.slice (Loc.mk 2 0 1 0 0 0 0) 1 (m) (c) true)])))), (Prod.mk true (some (Block.mk false (Data.rows [(Col.ints (IntKind.u64) (Go.Proofs.Ytnloobnpgkpbhaa.Wlk.putW ws (IntKind.wrap IntKind.i64 (16 + i)) (IntKind.wrap IntKind.u64 (IntKind.wrap IntKind.u64 (IntKind.wrap IntKind.i64 (32 + IntKind.wrap IntKind.i64 (16 * i))) + 3))))]))))]) none) (K (Ex.exit 0) [(AV.e (AE.c (AC.slice (Loc.mk 0 0 1 0 0 0 0) 1 (u) 0 false))), (AV.e (AE.c (AC.int (IntKind.i64) (x)))), (AV.e (AE.c (AC.int (IntKind.i64) (y)))), (AV.e (AE.c (AC.bool (wr)))), (AV.e (AE.c (AC.ptr (Loc.mk 1 0 0 0 0 0 0))))] [(Prod.mk false (some (Block.mk true (Data.rows [(Col.ints (IntKind.i64) (l))])))), (Prod.mk true (some (Block.mk false (Data.mix [(AC.slice (Loc.mk 2 0 1 0 0 0 0) 1 (m) (c) true)])))), (Prod.mk true (some (Block.mk false (Data.rows [(Col.ints (IntKind.u64) (ws))]))))])) := by kernel_rfl
end Go.Proofs.Ytnloobnpgkpbhaa.Wlk
