/- Flushed behind each word: the inner loops; a round of the outer one. -/
import Derived.Test.YtnloobnpgkpbhaaTrA
set_option linter.unusedVariables false
set_option linter.unusedSimpArgs false
set_option maxRecDepth 100000
namespace Go.Proofs.Ytnloobnpgkpbhaa.Wlk
open Go Go.Eng Go.Proofs Go.RowKit
/-- What came in, by columns. -/
structure Ow where
  zs : List Int
  ds : List Int
  ok : List Int
  os : List Int
  od : List Int
  oa : List Int
  ow : List Bool
  ov : List Bool
  oe : List Bool
  oz : List Int
  op : List Int
abbrev bOw (B : Ow) : Bool × Option Block := bOp B.ok B.os B.od B.oa B.ow B.ov B.oe B.oz B.op
def tH (B : Ow) (m c : Nat) (ws : List Int) : Ts → Heap
  | none => [bRw B.zs, bR1 B.ds, bOw B, bM 5 m c, bT0, bW ws]
  | some (L, e) => [bRw B.zs, bR1 B.ds, bOw B, bM 5 m c, bT 6 L.length e, bW ws, bC5 (cS L e) (cP L e) (cV L e) (cW L e) (cA L e)]
def dirF (ds : List Int) (s : Int) : Int := if s < ds.length then ds.getD s.toNat 0 else 0
def allI (l : List Int) : Bool := l.all inI
theorem getD_allI {l : List Int} (h : allI l = true) (i : Nat) : inI (l.getD i 0) = true := by
  rw [List.getD_eq_getElem?_getD]
  cases e : l[i]? with
  | none => rfl
  | some x =>
    simp only [allI, List.all_eq_true] at h
    exact h x (List.mem_of_getElem? e)
theorem dirF_in {ds : List Int} (h : allI ds = true) (s : Int) : inI (dirF ds s) = true := by
  unfold dirF
  split
  · exact getD_allI h _
  · rfl
abbrev tV (ud ul : Nat) (i s : Int) : List AV := [vD ud, vO ul, vPt 3, vPt 4, aint .i64 i, aint .i64 s]
abbrev tVo (ud ul : Nat) (i : Int) : List AV := [vD ud, vO ul, vPt 3, vPt 4, aint .i64 i]
set_option maxHeartbeats 2000000 in
theorem roundT4 (ud ul m c : Nat) (i : Int) (B : Ow) (ws : List Int) (hd : ud = B.ds.length) (hI : allI B.ds = true) (hm : okM m ws = true) (hw : allW ws = true) (K : HeadK) (s : Nat) (o : Ts) (ho : InvO o) (hs : s < 4) (hag : agL ws s (dirF B.ds s) (rowsO o) = true) :
    bodyR Try.prog (sTg agL) lNil iT4 60 (loopOf Try.prog 6 4) (tV ud ul i s) (tH B m c ws o) K = K .normal (tV ud ul i (s + 1 : Nat)) (tH B m c ws o) := by
  have hw1 : IntKind.wrap IntKind.i64 ((s : Int) + 1) = ((s + 1 : Nat) : Int) := by rw [wrap_i64 (by omega) (by omega)]; omega
  cases o with
  | none =>
    refine (t_t4N agL ud ul m c i s B.zs B.ds B.ok B.os B.od B.oa B.ow B.ov B.oe B.oz B.op ws K).trans ?_
    rw [decide_eq_true (show (s : Int) < 4 by omega), cT]
    by_cases hu : s < ud
    · rw [decide_eq_true (show (s : Int) < (ud : Int) by omega), cT, decide_eq_true (show (0 : Int) ≤ (s : Int) by omega), Bool.and_self, cT, Int.toNat_natCast, Nat.zero_add, decide_eq_true (show s < B.ds.length by omega), cT, hw1] <;> rfl
    · rw [decide_eq_false (show ¬ (s : Int) < (ud : Int) by omega), cF, hw1] <;> rfl
  | some q =>
    obtain ⟨L, e⟩ := q
    have hl := InvW.len ho
    have hr := InvW.room ho
    refine (t_t4S agL ud ul m c L.length e i s B.zs B.ds B.ok B.os B.od B.oa B.ow B.ov B.oe B.oz B.op ws _ _ _ _ _ K).trans ?_
    rw [decide_eq_true (show (s : Int) < 4 by omega), cT]
    unfold dirF at hag
    have hag : agL ws s (if (s : Int) < B.ds.length then B.ds.getD (s : Int).toNat 0 else 0) L = true := hag
    by_cases hu : s < ud
    · rw [if_pos (by omega), Int.toNat_natCast] at hag
      rw [decide_eq_true (show (s : Int) < (ud : Int) by omega), cT, decide_eq_true (show (0 : Int) ≤ (s : Int) by omega), Bool.and_self, cT, Int.toNat_natCast, Nat.zero_add, decide_eq_true (show s < B.ds.length by omega), cT, hw1, rowsN_cols, okK_self L e (by omega), hm, hw, getD_allI hI, hag]
      repeat rw [Bool.and_self]
      rw [cT, Bool.not_true, cF] <;> rfl
    · rw [if_neg (by omega)] at hag
      rw [decide_eq_false (show ¬ (s : Int) < (ud : Int) by omega), cF, hw1, rowsN_cols, okK_self L e (by omega), hm, hw, hag, show inI 0 = true from rfl]
      repeat rw [Bool.and_self]
      rw [cT, Bool.not_true, cF] <;> rfl
theorem stopT4 (ud ul m c : Nat) (i : Int) (B : Ow) (ws : List Int) (K : HeadK) (s : Nat) (o : Ts) (hs : ¬ s < 4) :
    bodyR Try.prog (sTg agL) lNil iT4 60 (loopOf Try.prog 6 4) (tV ud ul i s) (tH B m c ws o) K = K (.exit 4) (tVo ud ul i) (tH B m c ws o) := by
  cases o with
  | none =>
    refine (t_t4N agL ud ul m c i s B.zs B.ds B.ok B.os B.od B.oa B.ow B.ov B.oe B.oz B.op ws K).trans ?_
    rw [decide_eq_false (show ¬ (s : Int) < 4 by omega), cF] <;> rfl
  | some q =>
    obtain ⟨L, e⟩ := q
    refine (t_t4S agL ud ul m c L.length e i s B.zs B.ds B.ok B.os B.od B.oa B.ow B.ov B.oe B.oz B.op ws _ _ _ _ _ K).trans ?_
    rw [decide_eq_false (show ¬ (s : Int) < 4 by omega), cF] <;> rfl
/-- All spaces' entries agree. -/
def ag4 (ws ds : List Int) (L : List Ro) : Bool := agL ws 0 (dirF ds 0) L && agL ws 1 (dirF ds 1) L && agL ws 2 (dirF ds 2) L && agL ws 3 (dirF ds 3) L
theorem ag4_at {ws ds : List Int} {L : List Ro} (h : ag4 ws ds L = true) (s : Nat) (hs : s < 4) : agL ws s (dirF ds s) L = true := by
  unfold ag4 at h
  simp only [Bool.and_eq_true] at h
  have : s = 0 ∨ s = 1 ∨ s = 2 ∨ s = 3 := by omega
  rcases this with rfl | rfl | rfl | rfl
  · exact h.1.1.1
  · exact h.1.1.2
  · exact h.1.2
  · exact h.2
theorem ag4_of {ws ds : List Int} {L : List Ro} (h : ∀ s : Nat, s < 4 → agL ws s (dirF ds s) L = true) : ag4 ws ds L = true := by
  unfold ag4
  simp only [Bool.and_eq_true]
  exact ⟨⟨⟨h 0 (by omega), h 1 (by omega)⟩, h 2 (by omega)⟩, h 3 (by omega)⟩
theorem loopT4 (ud ul m c : Nat) (i : Int) (B : Ow) (ws : List Int) (hd : ud = B.ds.length) (hI : allI B.ds = true) (hm : okM m ws = true) (hw : allW ws = true) (K : HeadK) (o : Ts) (ho : InvO o) (hag : ag4 ws B.ds (rowsO o) = true) (j : Nat) : ∀ s : Nat, s + j = 4 →
    iterR Try.prog (sTg agL) lNil iT4 60 (loopOf Try.prog 6 4) (j + 1) (tV ud ul i s) (tH B m c ws o) K = K (.exit 4) (tVo ud ul i) (tH B m c ws o) := by
  induction j with
  | zero =>
    intro s hs
    rw [iterR]
    exact stopT4 ud ul m c i B ws _ s o (by omega)
  | succ j ih =>
    intro s hs
    rw [iterR]
    refine (roundT4 ud ul m c i B ws hd hI hm hw _ s o ho (by omega) (ag4_at hag s (by omega))).trans ?_
    exact ih _ (by omega)
set_option maxHeartbeats 2000000 in
theorem loopT2S (ud ul m c : Nat) (i : Int) (B : Ow) (ws : List Int) (K : HeadK) (j : Nat) : ∀ (s : Nat) (L : List Ro) (e : Nat), s + j = 4 → L.length + e < 4611686018427387904 → (∀ r ∈ L, (s : Int) ≤ r.s ∧ r.s < 4) →
    iterR Try.prog (sTf flushL) lNil iT2 60 (loopOf Try.prog 6 2) (j + 1) (tV ud ul i s) (tH B m c ws (some (L, e))) K = K (.exit 2) (tVo ud ul i) (tH B m c ws (some ([], e + L.length))) := by
  induction j with
  | zero =>
    intro s L e hs hb hr
    have hL : L = [] := by
      cases L with
      | nil => rfl
      | cons r L => have := hr r (List.mem_cons_self ..); omega
    subst hL
    rw [iterR]
    refine (t_t2S flushL ud ul m c 0 e i s B.zs B.ds B.ok B.os B.od B.oa B.ow B.ov B.oe B.oz B.op ws _ _ _ _ _ _).trans ?_
    rw [decide_eq_false (show ¬ (s : Int) < 4 by omega), cF] <;> rfl
  | succ j ih =>
    intro s L e hs hb hr
    have hw1 : IntKind.wrap IntKind.i64 ((s : Int) + 1) = ((s + 1 : Nat) : Int) := by rw [wrap_i64 (by omega) (by omega)]; omega
    have hf := flush_le (s : Int) L
    have ih' := ih (s + 1) (flushL s L) (e + (L.length - (flushL s L).length)) (by omega) (by omega) (fun r hr' => by
      unfold flushL at hr'
      rw [List.mem_filter] at hr'
      have h1 := hr r hr'.1
      have h2 : r.s ≠ (s : Int) := by
        intro c
        have := hr'.2
        simp [c] at this
      omega)
    rw [show e + (L.length - (flushL s L).length) + (flushL s L).length = e + L.length from by omega] at ih'
    rw [iterR]
    refine (t_t2S flushL ud ul m c L.length e i s B.zs B.ds B.ok B.os B.od B.oa B.ow B.ov B.oe B.oz B.op ws _ _ _ _ _ _).trans ?_
    rw [decide_eq_true (show (s : Int) < 4 by omega), cT, hw1, okK_self L e hb, cT, rowsN_cols]
    exact ih'
theorem loopT2N (ud ul m c : Nat) (i : Int) (B : Ow) (ws : List Int) (K : HeadK) (j : Nat) : ∀ (s : Nat), s + j = 4 →
    iterR Try.prog (sTf flushL) lNil iT2 60 (loopOf Try.prog 6 2) (j + 1) (tV ud ul i s) (tH B m c ws none) K = K (.exit 2) (tVo ud ul i) (tH B m c ws none) := by
  induction j with
  | zero =>
    intro s hs
    rw [iterR]
    refine (t_t2N flushL ud ul m c i s B.zs B.ds B.ok B.os B.od B.oa B.ow B.ov B.oe B.oz B.op ws _).trans ?_
    rw [decide_eq_false (show ¬ (s : Int) < 4 by omega), cF] <;> rfl
  | succ j ih =>
    intro s hs
    have hw1 : IntKind.wrap IntKind.i64 ((s : Int) + 1) = ((s + 1 : Nat) : Int) := by rw [wrap_i64 (by omega) (by omega)]; omega
    have ih' := ih (s + 1) (by omega)
    rw [iterR]
    refine (t_t2N flushL ud ul m c i s B.zs B.ds B.ok B.os B.od B.oa B.ow B.ov B.oe B.oz B.op ws _).trans ?_
    rw [decide_eq_true (show (s : Int) < 4 by omega), cT, hw1]
    exact ih'
end Go.Proofs.Ytnloobnpgkpbhaa.Wlk
