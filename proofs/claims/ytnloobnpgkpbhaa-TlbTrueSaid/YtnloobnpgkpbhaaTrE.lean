/- Flushed behind each word: the outer loop; the law's tree. -/
import Derived.Test.YtnloobnpgkpbhaaTrD
import Derived.Test.YtnloobnpgkpbhaaEngH
set_option linter.unusedVariables false
set_option linter.unusedSimpArgs false
set_option maxRecDepth 100000
namespace Go.Proofs.Ytnloobnpgkpbhaa.Wlk
open Go Go.Eng Go.Proofs Go.RowKit
theorem in4_to {ws : List Int} {o : Ts} {sp d a : Int} (h : in4 (rowsO o) = true) (hs : 0 ≤ sp ∧ sp < 4) : in4 (rowsO (stTo ws sp d a o)) = true := by
  have key : ∀ L, in4 L = true → in4 (tL ws L sp d a) = true := fun L hL => List.all_eq_true.2 fun r hr => by
    rcases mem_fillL hr with h1 | h1
    · exact List.all_eq_true.1 hL r h1
    · subst h1; simp [hs.1, hs.2]
  cases o with
  | none =>
    rw [stTo_none]
    split
    · exact key _ h
    · exact h
  | some q =>
    obtain ⟨L, e⟩ := q
    rw [stTo_some]
    split
    · exact key _ h
    · exact h
theorem rows_empty (o : Ts) : rowsO (emptyO o) = [] := by cases o <;> rfl
theorem InvR.step {B : Ow} {m ud ul : Nat} {ws : List Int} {o : Ts} (hB : OwOk B ud ul) (h : InvR B m ud ul ws o) (i : Nat) : InvR B m ud ul (trW B i ws) (trO B i ws o) := by
  obtain ⟨hm, hw, ho, h4, hag⟩ := h
  have hsp := kx_in B.os i (m := 4) (by omega) (by omega)
  unfold trW trO
  by_cases c : B.ok.getD i 0 = 4
  · rw [if_pos c, if_pos c]
    refine ⟨?_, putW_all hw (getD_all hB.hV i), ?_, by rw [rows_empty]; rfl, by rw [rows_empty]; rfl⟩
    · unfold okM at hm ⊢
      rw [putW_len]; exact hm
    · cases o with
      | none => trivial
      | some q =>
        obtain ⟨L, e⟩ := q
        have h1 := InvW.len ho
        have h2 := InvW.room ho
        exact ⟨by simp, by simp; omega⟩
  · rw [if_neg c, if_neg c]
    refine ⟨hm, hw, ho.to _ _ _, in4_to h4 hsp, ?_⟩
    refine ag4_of fun s hs => ag_to (ag4_at hag s hs) fun e => by rw [e]
def trS (B : Ow) (ul : Nat) : Nat → Nat → List Int → Ts → Ts
  | 0, _, _, o => o
  | c + 1, i, ws, o => if i < ul then trS B ul c (i + 1) (trW B i ws) (trO B i ws o) else o
theorem trS_inv {B : Ow} {m ud ul : Nat} (hB : OwOk B ud ul) : ∀ (c i : Nat) (ws : List Int) (o : Ts), InvR B m ud ul ws o → InvO (trS B ul c i ws o)
  | 0, _, _, _, h => h.ho
  | c + 1, i, ws, o, h => by
    rw [trS]
    split
    · exact trS_inv hB c (i + 1) _ _ (h.step hB i)
    · exact h.ho
def eH (B : Ow) : Ts → Heap
  | none => [bRw B.zs, bR1 B.ds, bOw B, bT0]
  | some (L, e) => [bRw B.zs, bR1 B.ds, bOw B, bT 4 L.length e, bC5 (cS L e) (cP L e) (cV L e) (cW L e) (cA L e)]
theorem stopT0 (ud ul m c i : Nat) (B : Ow) (ws : List Int) (o : Ts) (K : HeadK) (hs : ¬ (i < ul ∧ i < 60)) :
    bodyR Try.prog (sTr tE tA tC tL tX tW toA toE) (lT in4 allI ag4) iT0 60 (loopOf Try.prog 6 0) (tVo ud ul i) (tH B m c ws o) K = K (.exit 0) [vPt 3] (eH B o) := by
  cases o with
  | none =>
    refine (t_t0N tE tA tC tL tX tW toA toE in4 allI ag4 ud ul m c i B.zs B.ds B.ok B.os B.od B.oa B.ow B.ov B.oe B.oz B.op ws K).trans ?_
    by_cases a1 : i < ul
    · rw [decide_eq_true (show (i : Int) < (ul : Int) by omega), cT, decide_eq_false (show ¬ (i : Int) < 60 by omega), cF]; rfl
    · rw [decide_eq_false (show ¬ (i : Int) < (ul : Int) by omega), cF]; rfl
  | some q =>
    obtain ⟨L, e⟩ := q
    refine (t_t0S tE tA tC tL tX tW toA toE in4 allI ag4 ud ul m c L.length e i B.zs B.ds B.ok B.os B.od B.oa B.ow B.ov B.oe B.oz B.op ws _ _ _ _ _ K).trans ?_
    by_cases a1 : i < ul
    · rw [decide_eq_true (show (i : Int) < (ul : Int) by omega), cT, decide_eq_false (show ¬ (i : Int) < 60 by omega), cF]; rfl
    · rw [decide_eq_false (show ¬ (i : Int) < (ul : Int) by omega), cF]; rfl
theorem roundT0 (ud ul m c i : Nat) (B : Ow) (ws : List Int) (o : Ts) (hB : OwOk B ud ul) (h : InvR B m ud ul ws o) (K : HeadK) (h1 : i < ul) (h60 : i < 60) :
    bodyR Try.prog (sTr tE tA tC tL tX tW toA toE) (lT in4 allI ag4) iT0 60 (loopOf Try.prog 6 0) (tVo ud ul i) (tH B m c ws o) K = K .normal (tVo ud ul (i + 1 : Nat)) (tH B m c (trW B i ws) (trO B i ws o)) := by
  cases o with
  | none => exact roundT0N ud ul m c i B ws hB h K h1 h60
  | some q => obtain ⟨L, e⟩ := q; exact roundT0S ud ul m c i B ws L e hB h K h1 h60
theorem loopT0 (ud ul m c : Nat) (B : Ow) (hB : OwOk B ud ul) (K : HeadK) (j : Nat) : ∀ (i : Nat) (ws : List Int) (o : Ts), InvR B m ud ul ws o → i + j = 60 →
    iterR Try.prog (sTr tE tA tC tL tX tW toA toE) (lT in4 allI ag4) iT0 60 (loopOf Try.prog 6 0) (j + 1) (tVo ud ul i) (tH B m c ws o) K = K (.exit 0) [vPt 3] (eH B (trS B ul j i ws o)) := by
  induction j with
  | zero =>
    intro i ws o h hi
    rw [iterR]
    exact stopT0 ud ul m c i B ws o _ (by omega)
  | succ j ih =>
    intro i ws o h hi
    rw [iterR, trS]
    by_cases hs : i < ul
    · rw [if_pos hs]
      exact (roundT0 ud ul m c i B ws o hB h _ hs (by omega)).trans (ih (i + 1) _ _ (h.step hB i) (by omega))
    · rw [if_neg hs]
      exact stopT0 ud ul m c i B ws o _ (by omega)
def owB (B : Ow) (ud ul : Nat) : Bool := decide (ud = B.ds.length) && allI B.ds && allI B.oa && allW B.op && decide (ul = B.ok.length) && decide (ul = B.os.length) && decide (ul = B.od.length) && decide (ul = B.oa.length) && decide (ul = B.ow.length) && decide (ul = B.ov.length) && decide (ul = B.oe.length) && decide (ul = B.oz.length) && decide (ul = B.op.length)
theorem owB_iff (B : Ow) (ud ul : Nat) : owB B ud ul = true ↔ OwOk B ud ul := by
  unfold owB
  simp only [Bool.and_eq_true, decide_eq_true_eq]
  constructor
  · rintro ⟨⟨⟨⟨⟨⟨⟨⟨⟨⟨⟨⟨h1, h2⟩, h3⟩, h4⟩, h5⟩, h6⟩, h7⟩, h8⟩, h9⟩, h10⟩, h11⟩, h12⟩, h13⟩
    exact ⟨h1, h2, h3, h4, h5, h6, h7, h8, h9, h10, h11, h12, h13⟩
  · rintro ⟨h1, h2, h3, h4, h5, h6, h7, h8, h9, h10, h11, h12, h13⟩
    exact ⟨⟨⟨⟨⟨⟨⟨⟨⟨⟨⟨⟨h1, h2⟩, h3⟩, h4⟩, h5⟩, h6⟩, h7⟩, h8⟩, h9⟩, h10⟩, h11⟩, h12⟩, h13⟩
def trN (B : Ow) (ul : Nat) (ws : List Int) : Bool := (trS B ul 60 0 ws none).isNone
noncomputable def trQ (L : List Ro) (e : Nat) (B : Ow) (ul : Nat) (ws : List Int) : Bool := @decide (trS B ul 60 0 ws none = some (L, e)) (Classical.propDecidable _)
theorem trQ_spec {L : List Ro} {e : Nat} {B : Ow} {ul : Nat} {ws : List Int} (h : trQ L e B ul ws = true) : trS B ul 60 0 ws none = some (L, e) := @of_decide_eq_true _ (Classical.propDecidable _) h
theorem trQ_of {L : List Ro} {e : Nat} {B : Ow} {ul : Nat} {ws : List Int} (h : trS B ul 60 0 ws none = some (L, e)) : trQ L e B ul ws = true := @decide_eq_true _ (Classical.propDecidable _) h
abbrev OBf := Ow → Nat → Nat → Bool
abbrev ONf := Ow → Nat → List Int → Bool
set_option maxHeartbeats 4000000 in
noncomputable def cT0 (OB : OBf) (ON OQ : ONf) (L5 : List Ro) (X5 : Nat) : HeadO := fun vs h K => match vs, h with
  | [.e (.c (.slice ⟨1, 0, 1, 0, 0, 0, 0⟩ 1 ud 0 false)), .e (.c (.slice ⟨2, 0, 9, 0, 0, 0, 0⟩ 9 ul 0 false)), .e (.c (.ptr ⟨3, 0, 0, 0, 0, 0, 0⟩)), .e (.c (.ptr ⟨4, 0, 0, 0, 0, 0, 0⟩)), .e (.c (.int .i64 i))],
    [(false, some ⟨true, .rows [.ints .u64 zs]⟩), (false, some ⟨true, .rows [.ints .i64 ds]⟩), (false, some ⟨true, .rows [.ints .i64 ok, .ints .i64 os, .ints .i64 od, .ints .i64 oa, .bools ow, .bools ov, .bools oe, .ints .i64 oz, .ints .u64 op]⟩), (true, some ⟨false, .mix [.slice ⟨5, 0, 1, 0, 0, 0, 0⟩ 1 m c true]⟩), (true, some ⟨false, .mix [.nils]⟩), (true, some ⟨false, .rows [.ints .u64 ws]⟩)] =>
    match decide (i = 0) && OB ⟨zs, ds, ok, os, od, oa, ow, ov, oe, oz, op⟩ ud ul && okM m ws && allW ws with
    | true => match ON ⟨zs, ds, ok, os, od, oa, ow, ov, oe, oz, op⟩ ul ws with
      | true => K (.exit 0) [vPt 3] [bRw zs, bR1 ds, bOp ok os od oa ow ov oe oz op, bT0]
      | false => match OQ ⟨zs, ds, ok, os, od, oa, ow, ov, oe, oz, op⟩ ul ws with
        | true => K (.exit 0) [vPt 3] [bRw zs, bR1 ds, bOp ok os od oa ow ov oe oz op, bT 4 L5.length X5, bCL L5 X5]
        | false => none
    | false => none
  | _, _ => none
set_option maxHeartbeats 4000000 in
theorem cT0_sound (L5 : List Ro) (X5 : Nat) : HeadSound Try.prog iT0 (loopOf Try.prog 6 0) (cT0 owB trN (trQ L5 X5) L5 X5) := by
  refine HeadSound.short (iterR_sound (F := 60) sTr_ok mix lT_in) fun vs h K r ee => ?_
  unfold cT0 at ee
  split at ee
  · rename_i ud ul i zs ds ok os od oa ow ov oe oz op m c ws
    obtain ⟨B, hBB⟩ : ∃ B : Ow, (⟨zs, ds, ok, os, od, oa, ow, ov, oe, oz, op⟩ : Ow) = B := ⟨_, rfl⟩
    split at ee
    · rename_i hc
      simp only [Bool.and_eq_true, decide_eq_true_eq] at hc
      obtain ⟨⟨⟨rfl, c1⟩, c2⟩, c3⟩ := hc
      have hB := (owB_iff _ _ _).1 c1
      refine ⟨61, (loopT0 ud ul m c ⟨zs, ds, ok, os, od, oa, ow, ov, oe, oz, op⟩ hB K 60 0 ws none ⟨c2, c3, trivial, rfl, rfl⟩ rfl).trans (Eq.trans ?_ ee)⟩
      rw [hBB] at ee ⊢
      unfold trN at ee ⊢
      cases cs : trS B ul 60 0 ws none with
      | none => rw [← hBB]; rfl
      | some q =>
        rw [cs] at ee
        cases cq : trQ L5 X5 B ul ws with
        | false => rw [cq] at ee; cases ee
        | true =>
          have := trQ_spec cq
          rw [cs] at this
          rw [this, ← hBB]; rfl
    · cases ee
  · cases ee
noncomputable def lTr (OB : OBf) (ON OQ : ONf) (L5 : List Ro) (X5 : Nat) : Nat → Option Orc := lAdd lNil 0 (wrapO iT0 0 (cT0 OB ON OQ L5 X5))
theorem lTr_for (L5 : List Ro) (X5 : Nat) : LFor 3 Try.prog 6 (lTr owB trN (trQ L5 X5) L5 X5) := lAdd_for (I := iT0) lNil_for (by kernel_rfl) (cT0_sound L5 X5)
noncomputable def sTt (N : Int → Nat) (M : Int → List Int → List Int) : Summ := sAdd (sAdd (sAdd (sAdd sNil 8 gWk) 14 (gMadeV N M)) 9 gNewT) 12 gLenT
theorem sTt_ok : SummOk Try.prog (sTt mdN mdW) := sAdd_ok (sAdd_ok (sAdd_ok (sAdd_ok sNil_ok gWk_sound (enters Try.func8 rfl (by kernel_rfl))) gMade_sound (enters Try.func14 rfl (by kernel_rfl))) gNewT_sound (enters Try.func9 rfl (by kernel_rfl))) gLenT_sound (enters Try.func12 rfl (by kernel_rfl))
theorem t_true (N : Int → Nat) (M : Int → List Int → List Int) (OB : OBf) (ON OQ : ONf) (L5 : List Ro) (X5 : Nat) (vl ud ul : Nat) (n : Int) (zs ds : List Int) (ok os od oa : List Int) (ow ov oe : List Bool) (oz op : List Int) (k : Res → Option Res) : runLG Try.prog (sTt N M) (lTr OB ON OQ L5 X5) 3 200 6 [aint .i64 n, vS0 vl, vD ud, vO ul] [some ⟨true, .rows [.ints .u64 zs]⟩, some ⟨true, .rows [.ints .i64 ds]⟩, some ⟨true, .rows [.ints .i64 ok, .ints .i64 os, .ints .i64 od, .ints .i64 oa, .bools ow, .bools ov, .bools oe, .ints .i64 oz, .ints .u64 op]⟩] k = (cond (Nat.beq vl (List.length zs) && decide (List.length zs < 4611686018427387904)) (cond (true && OB { zs := zs, ds := ds, ok := ok, os := os, od := od, oa := oa, ow := ow, ov := ov, oe := oe, oz := oz, op := op } ud ul && Go.Proofs.Ytnloobnpgkpbhaa.Wlk.okM (N n) (M n zs) && Go.Proofs.Ytnloobnpgkpbhaa.Wlk.allW (M n zs)) (cond (ON { zs := zs, ds := ds, ok := ok, os := os, od := od, oa := oa, ow := ow, ov := ov, oe := oe, oz := oz, op := op } ul (M n zs)) (k (Res.mk (AV.e (AE.c (AC.bool true))) [(none), (none), (none)])) (cond (OQ { zs := zs, ds := ds, ok := ok, os := os, od := od, oa := oa, ow := ow, ov := ov, oe := oe, oz := oz, op := op } ul (M n zs)) (k (Res.mk (AV.e (AE.c (AC.bool (decide ((↑(List.length L5) : Int) ≤ 8))))) [(none), (none), (none)])) none)) none) none) := by kernel_rfl
end Go.Proofs.Ytnloobnpgkpbhaa.Wlk
