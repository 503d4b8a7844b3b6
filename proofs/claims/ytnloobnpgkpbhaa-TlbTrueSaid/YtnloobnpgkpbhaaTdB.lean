/- One page's entry dropped: the loops. -/
import Derived.Test.YtnloobnpgkpbhaaTdA
set_option linter.unusedVariables false
set_option linter.unusedSimpArgs false
set_option maxRecDepth 100000
namespace Go.Proofs.Ytnloobnpgkpbhaa.Wlk
open Go Go.Eng Go.Proofs Go.RowKit
/-- What is kept: nothing yet, or rows with room behind them. -/
abbrev Ts := Option (List Ro × Nat)
def rowsO : Ts → List Ro
  | none => []
  | some (L, _) => L
def roomO : Ts → Nat
  | none => 0
  | some (_, e) => e
structure InvW (L : List Ro) (e : Nat) : Prop where
  len : L.length ≤ 8
  room : L.length + e ≤ 16
theorem InvW.fill {L : List Ro} {e : Nat} (h : InvW L e) (x y : Int) (v w : Bool) (a : Int) : InvW (fillL x y v w a L) (fillX x y L e) := by
  have hd := drop_le x y L
  have := h.len
  have := h.room
  refine ⟨?_, ?_⟩
  · rw [fill_len]; split <;> omega
  · rw [fill_len]
    unfold fillX addX
    split <;> omega
theorem InvW.drop {L : List Ro} {e : Nat} (h : InvW L e) (x y : Int) : InvW (dropL x y L) (e + (L.length - (dropL x y L).length)) := by
  have := drop_le x y L
  have := h.len
  have := h.room
  exact ⟨by omega, by omega⟩
theorem InvW.flush {L : List Ro} {e : Nat} (h : InvW L e) (c : Int) : InvW (flushL c L) (e + (L.length - (flushL c L).length)) := by
  have := flush_le c L
  have := h.len
  have := h.room
  exact ⟨by omega, by omega⟩
def InvO : Ts → Prop
  | none => True
  | some (L, e) => InvW L e
def stTo (ws : List Int) (sp d a : Int) : Ts → Ts
  | none => if tC ws [] sp d a = true then some (tL ws [] sp d a, 0) else none
  | some (L, e) => if tC ws L sp d a = true then some (tL ws L sp d a, tX L sp a e) else some (L, e)
theorem stTo_none (ws : List Int) (sp d a : Int) : stTo ws sp d a none = if tC ws [] sp d a = true then some (tL ws [] sp d a, 0) else none := rfl
theorem stTo_some (ws : List Int) (sp d a : Int) (L : List Ro) (e : Nat) : stTo ws sp d a (some (L, e)) = if tC ws L sp d a = true then some (tL ws L sp d a, tX L sp a e) else some (L, e) := rfl
theorem tL_nil (ws : List Int) (sp d a : Int) : tL ws [] sp d a = [⟨sp, pgN a, pgV ws d a, pgW ws d a, pgA ws d a⟩] := rfl
theorem InvO.to {ws : List Int} {o : Ts} (h : InvO o) (sp d a : Int) : InvO (stTo ws sp d a o) := by
  cases o with
  | none =>
    rw [stTo_none]
    split
    · show InvW (tL ws [] sp d a) 0
      rw [tL_nil]; exact ⟨by simp, by simp⟩
    · trivial
  | some q =>
    obtain ⟨L, e⟩ := q
    rw [stTo_some]
    split
    · exact InvW.fill h _ _ _ _ _
    · exact h
theorem ag_to {ws : List Int} {o : Ts} {sp d a sp' d' : Int} (hag : agL ws sp' d' (rowsO o) = true) (hd : sp' = sp → d' = d) : agL ws sp' d' (rowsO (stTo ws sp d a o)) = true := by
  cases o with
  | none =>
    rw [stTo_none]
    split
    · rename_i h; exact ag_fill h hag hd
    · exact hag
  | some q =>
    obtain ⟨L, e⟩ := q
    rw [stTo_some]
    split
    · rename_i h; exact ag_fill h hag hd
    · exact hag
theorem inI_wrap (x : Int) : inI (IntKind.wrap IntKind.i64 x) = true := by
  rw [wrap_i64_eq]
  split <;> exact inI_of (by omega) (by omega)
def a16 (l : List Int) (i : Nat) : Int := IntKind.wrap IntKind.i64 (16 * kx l i 16)
def dH (l : List Int) (m c : Nat) (ws : List Int) : Ts → Heap
  | none => [bR1 l, bM 3 m c, bT0, bW ws]
  | some (L, e) => [bR1 l, bM 3 m c, bT 4 L.length e, bW ws, bC5 (cS L e) (cP L e) (cV L e) (cW L e) (cA L e)]
set_option maxHeartbeats 4000000 in
theorem round2 (u m c : Nat) (x y : Int) (wr : Bool) (l ws : List Int) (hu : u = l.length) (hm : okM m ws = true) (hw : allW ws = true) (K : HeadK) (i : Nat) (o : Ts) (ho : InvO o) (h1 : i < u) (h2 : i < 30) :
    bodyR Try.prog (sDt tE tA tC tL tX tW) lNil iD2 60 (loopOf Try.prog 7 2) [vS0 u, aint .i64 x, aint .i64 y, wr_ wr, vPt 1, vPt 2, aint .i64 i] (dH l m c ws o) K = K .normal [vS0 u, aint .i64 x, aint .i64 y, wr_ wr, vPt 1, vPt 2, aint .i64 (i + 1 : Nat)] (dH l m c ws (stTo ws 5 0 (a16 l i) o)) := by
  have hi : IntKind.wrap IntKind.i64 ((i : Int) + 1) = ((i + 1 : Nat) : Int) := by rw [wrap_i64 (by omega) (by omega)]; omega
  have ea : IntKind.wrap IntKind.i64 (16 * IntKind.wrap IntKind.i64 (Int.tmod (IntKind.wrap IntKind.u64 (l.getD i 0)) 16)) = a16 l i := rfl
  have ia : inI (a16 l i) = true := inI_wrap _
  cases o with
  | none =>
    refine (t_d2N tE tA tC tL tX tW u m c x y i wr l ws K).trans ?_
    rw [decide_eq_true (show (i : Int) < (u : Int) by omega), cT, decide_eq_true (show (i : Int) < 30 by omega), cT, decide_eq_true (show (0 : Int) ≤ (i : Int) by omega), Bool.and_self, cT, Int.toNat_natCast, Nat.zero_add, decide_eq_true (show i < l.length by omega), cT, ea, ia, hm, hw, show inI 0 = true from rfl, hi]
    repeat rw [Bool.and_self]
    rw [cT]
    rw [stTo_none]
    cases cc : tC ws [] 5 0 (a16 l i) with
    | true => rw [cT, if_pos rfl]; rfl
    | false => rw [cF, if_neg Bool.false_ne_true]; rfl
  | some q =>
    obtain ⟨L, e⟩ := q
    have hl := InvW.len ho
    have hr := InvW.room ho
    refine (t_d2S tE tA tC tL tX tW u m c L.length e x y i wr l ws _ _ _ _ _ K).trans ?_
    rw [decide_eq_true (show (i : Int) < (u : Int) by omega), cT, decide_eq_true (show (i : Int) < 30 by omega), cT, decide_eq_true (show (0 : Int) ≤ (i : Int) by omega), Bool.and_self, cT, Int.toNat_natCast, Nat.zero_add, decide_eq_true (show i < l.length by omega), cT, ea, ia, hm, hw, show inI 0 = true from rfl, hi, rowsN_cols, okK_self L e (by omega), Nat.ble_eq_true_of_le hl]
    repeat rw [Bool.and_self]
    rw [cT, bsame (tW L 5 (a16 l i) e)]
    rw [stTo_some]
    cases cc : tC ws L 5 0 (a16 l i) with
    | true => rw [cT, if_pos rfl]; rfl
    | false => rw [cF, if_neg Bool.false_ne_true]; rfl
theorem stop2 (u m c : Nat) (x y : Int) (wr : Bool) (l ws : List Int) (K : HeadK) (i : Nat) (o : Ts) (hs : ¬ (i < u ∧ i < 30)) :
    bodyR Try.prog (sDt tE tA tC tL tX tW) lNil iD2 60 (loopOf Try.prog 7 2) [vS0 u, aint .i64 x, aint .i64 y, wr_ wr, vPt 1, vPt 2, aint .i64 i] (dH l m c ws o) K = K (.exit 2) [aint .i64 x, aint .i64 y, wr_ wr, vPt 1, vPt 2] (dH l m c ws o) := by
  cases o with
  | none =>
    refine (t_d2N tE tA tC tL tX tW u m c x y i wr l ws K).trans ?_
    by_cases a1 : i < u
    · rw [decide_eq_true (show (i : Int) < (u : Int) by omega), cT, decide_eq_false (show ¬ (i : Int) < 30 by omega), cF]; rfl
    · rw [decide_eq_false (show ¬ (i : Int) < (u : Int) by omega), cF]; rfl
  | some q =>
    obtain ⟨L, e⟩ := q
    refine (t_d2S tE tA tC tL tX tW u m c L.length e x y i wr l ws _ _ _ _ _ K).trans ?_
    by_cases a1 : i < u
    · rw [decide_eq_true (show (i : Int) < (u : Int) by omega), cT, decide_eq_false (show ¬ (i : Int) < 30 by omega), cF]; rfl
    · rw [decide_eq_false (show ¬ (i : Int) < (u : Int) by omega), cF]; rfl
def d2S (ws l : List Int) : Nat → Nat → Ts → Ts
  | 0, _, o => o
  | c + 1, i, o => if i < l.length then d2S ws l c (i + 1) (stTo ws 5 0 (a16 l i) o) else o
theorem loopD2 (u m c : Nat) (x y : Int) (wr : Bool) (l ws : List Int) (hu : u = l.length) (hm : okM m ws = true) (hw : allW ws = true) (K : HeadK) (j : Nat) : ∀ (i : Nat) (o : Ts), InvO o → i + j = 30 →
    iterR Try.prog (sDt tE tA tC tL tX tW) lNil iD2 60 (loopOf Try.prog 7 2) (j + 1) [vS0 u, aint .i64 x, aint .i64 y, wr_ wr, vPt 1, vPt 2, aint .i64 i] (dH l m c ws o) K = K (.exit 2) [aint .i64 x, aint .i64 y, wr_ wr, vPt 1, vPt 2] (dH l m c ws (d2S ws l j i o)) := by
  induction j with
  | zero =>
    intro i o ho hi
    rw [iterR]
    exact stop2 u m c x y wr l ws _ i o (by omega)
  | succ j ih =>
    intro i o ho hi
    rw [iterR, d2S]
    by_cases hs : i < l.length
    · rw [if_pos hs]
      refine (round2 u m c x y wr l ws hu hm hw _ i o ho (by omega) (by omega)).trans ?_
      exact ih _ _ (ho.to _ _ _) (by omega)
    · rw [if_neg hs]
      exact stop2 u m c x y wr l ws _ i o (by omega)
abbrev DNf := List Int → List Int → Bool
abbrev D2q := List Int → List Int → Bool
def d2N (ws l : List Int) : Bool := (d2S ws l 30 0 none).isNone
/-- That such a state is reached. -/
noncomputable def d2Q (L : List Ro) (e : Nat) (ws l : List Int) : Bool := @decide (d2S ws l 30 0 none = some (L, e)) (Classical.propDecidable _)
theorem d2Q_spec {L : List Ro} {e : Nat} {ws l : List Int} (h : d2Q L e ws l = true) : d2S ws l 30 0 none = some (L, e) := @of_decide_eq_true _ (Classical.propDecidable _) h
theorem d2Q_of {L : List Ro} {e : Nat} {ws l : List Int} (h : d2S ws l 30 0 none = some (L, e)) : d2Q L e ws l = true := @decide_eq_true _ (Classical.propDecidable _) h
abbrev bCL (L : List Ro) (e : Nat) : Bool × Option Block := bC5 (cS L e) (cP L e) (cV L e) (cW L e) (cA L e)
def cD2 (DN : DNf) (DQ : D2q) (L2 : List Ro) (X2 : Nat) : HeadO := fun vs h K => match vs, h with
  | [.e (.c (.slice ⟨0, 0, 1, 0, 0, 0, 0⟩ 1 u 0 false)), .e (.c (.int .i64 x)), .e (.c (.int .i64 y)), .e (.c (.bool wr)), .e (.c (.ptr ⟨1, 0, 0, 0, 0, 0, 0⟩)), .e (.c (.ptr ⟨2, 0, 0, 0, 0, 0, 0⟩)), .e (.c (.int .i64 i))],
    [(false, some ⟨true, .rows [.ints .i64 l]⟩), (true, some ⟨false, .mix [.slice ⟨3, 0, 1, 0, 0, 0, 0⟩ 1 m c true]⟩), (true, some ⟨false, .mix [.nils]⟩), (true, some ⟨false, .rows [.ints .u64 ws]⟩)] =>
    match decide (i = 0) && decide (u = l.length) && okM m ws && allW ws with
    | true => match DN ws l with
      | true => K (.exit 2) [aint .i64 x, aint .i64 y, wr_ wr, vPt 1, vPt 2] [bR1 l, bM 3 m c, bT0, bW ws]
      | false => match DQ ws l with
        | true => K (.exit 2) [aint .i64 x, aint .i64 y, wr_ wr, vPt 1, vPt 2] [bR1 l, bM 3 m c, bT 4 L2.length X2, bW ws, bCL L2 X2]
        | false => none
    | false => none
  | _, _ => none
theorem cD2_sound (L2 : List Ro) (X2 : Nat) : HeadSound Try.prog iD2 (loopOf Try.prog 7 2) (cD2 d2N (d2Q L2 X2) L2 X2) := by
  refine HeadSound.short (iterR_sound (F := 60) sDt_ok mix lNil_ok) fun vs h K r ee => ?_
  unfold cD2 at ee
  split at ee
  · rename_i u x y wr i l m c ws
    split at ee
    · rename_i hc
      simp only [Bool.and_eq_true, decide_eq_true_eq] at hc
      obtain ⟨⟨⟨rfl, c1⟩, c2⟩, c3⟩ := hc
      refine ⟨31, (loopD2 u m c x y wr l ws c1 c2 c3 K 30 0 none trivial rfl).trans (Eq.trans ?_ ee)⟩
      unfold d2N at ee ⊢
      cases cs : d2S ws l 30 0 none with
      | none => rfl
      | some q =>
        rw [cs] at ee
        cases cq : d2Q L2 X2 ws l with
        | false => rw [cq] at ee; cases ee
        | true =>
          have := d2Q_spec cq
          rw [cs] at this
          rw [this]; rfl
    · cases ee
  · cases ee
end Go.Proofs.Ytnloobnpgkpbhaa.Wlk
