/- What is listed, told in short. -/
import Derived.Test.YtmpmnjekcajlgaaSpH
set_option linter.unusedVariables false
set_option linter.unusedSimpArgs false
set_option maxRecDepth 100000
namespace Go.Proofs.Ytmpmnjekcajlgaa.Wlk
open Go Go.Eng Go.Proofs Go.RowKit
def pgL (ws : List Int) (d : Int) : Nat → List Nat
  | 0 => []
  | p + 1 => pgL ws d p ++ (if pgE ws d (16 * p) = 0 then [p] else [])
def cP (L : List Nat) : List Int := L.map fun (p : Nat) => (p : Int)
def cA (ws : List Int) (d : Int) (L : List Nat) : List Int := L.map fun (p : Nat) => pgA ws d (16 * (p : Int))
def cB (ws : List Int) (d : Int) (L : List Nat) : List Bool := L.map fun (p : Nat) => pgW ws d (16 * (p : Int))
theorem pgL_len (ws : List Int) (d : Int) : ∀ p, (pgL ws d p).length ≤ p
  | 0 => Nat.le_refl _
  | p + 1 => by
    have := pgL_len ws d p
    simp only [pgL, List.length_append]
    split <;> simp <;> omega
def lsA (L : List Nat) : AC := match L with
  | [] => .nils
  | _ :: _ => .slice ⟨2, 0, 3, 0, 0, 0, 0⟩ 3 L.length 0 false
def lsHp (n x : Nat) (ws : List Int) (d : Int) (L : List Nat) : Heap := match L with
  | [] => lsH0 n x ws
  | _ :: _ => lsH1 n x ws (cP L) (cA ws d L) (cB ws d L)
theorem lsA_snoc (L : List Nat) (p : Nat) : lsA (L ++ [p]) = .slice ⟨2, 0, 3, 0, 0, 0, 0⟩ 3 (L.length + 1) 0 false := by
  cases L with
  | nil => rfl
  | cons q r => simp [lsA]
theorem lsHp_snoc (n x : Nat) (ws : List Int) (d : Int) (L : List Nat) (p : Nat) : lsHp n x ws d (L ++ [p]) = lsH1 n x ws (cP L ++ [(p : Int)]) (cA ws d L ++ [pgA ws d (16 * p)]) (cB ws d L ++ [pgW ws d (16 * p)]) := by
  cases L with
  | nil => rfl
  | cons q r => simp [lsHp, cP, cA, cB]
theorem loopLs (d : Int) (x : Nat) (ws : List Int) (hd : inI d = true) (hw : allW ws = true) (hl : ws.length ≤ 65536) (K : HeadK) : ∀ j p : Nat, p + j = 256 →
    iterR Try.prog (sLs pgV pgW pgA pgE) lNil iLs 60 (loopOf Try.prog 12 0) (j + 1) (lsV d (lsA (pgL ws d p)) p) (lsHp ws.length x ws d (pgL ws d p)) K = K (.exit 0) [.e (.c (lsA (pgL ws d 256)))] (lsHp ws.length x ws d (pgL ws d 256))
  | 0, p, hp => by
    obtain rfl : p = 256 := by omega
    rw [iterR]
    cases pgL ws d 256 with
    | nil =>
      refine (t_ls0 pgV pgW pgA pgE d _ ws.length x ws _).trans ?_
      rw [decide_eq_false (show ¬ ((256 : Nat) : Int) < 256 by omega), cF]; rfl
    | cons q L =>
      refine (t_ls1 pgV pgW pgA pgE d _ false ws.length x (q :: L).length ws (cP (q :: L)) (cA ws d (q :: L)) (cB ws d (q :: L)) _).trans ?_
      rw [decide_eq_false (show ¬ ((256 : Nat) : Int) < 256 by omega), cF]; rfl
  | j + 1, p, hp => by
    have ih := loopLs d x ws hd hw hl K j (p + 1) (by omega)
    have f1 : okM ws.length ws = true := by simp [okM, hl]
    have f2 : inI ((p : Int) * 16) = true := inI_of (by omega) (by omega)
    have hlen := pgL_len ws d p
    rw [iterR]
    rw [pgL] at ih
    cases hL : pgL ws d p with
    | nil =>
      rw [hL] at ih
      refine (t_ls0 pgV pgW pgA pgE d p ws.length x ws _).trans ?_
      rw [decide_eq_true (show (p : Int) < 256 by omega), cT, wrap_i64 (n := (p : Int) * 16) (by omega) (by omega), wrap_i64 (n := (p : Int) + 1) (by omega) (by omega), f1, hd, f2, hw, Bool.and_self, Bool.and_self, Bool.and_self, cT, show (p : Int) + 1 = ((p + 1 : Nat) : Int) from by omega, show (p : Int) * 16 = 16 * (p : Int) from by omega]
      by_cases c : pgE ws d (16 * p) = 0
      · rw [show (pgE ws d (16 * p) == 0) = true from by simpa using c, cT]
        rw [if_pos c] at ih
        exact ih
      · rw [show (pgE ws d (16 * p) == 0) = false from by simpa using c, cF]
        rw [if_neg c] at ih
        exact ih
    | cons q L =>
      rw [hL] at ih hlen
      refine (t_ls1 pgV pgW pgA pgE d p false ws.length x (q :: L).length ws (cP (q :: L)) (cA ws d (q :: L)) (cB ws d (q :: L)) _).trans ?_
      rw [decide_eq_true (show (p : Int) < 256 by omega), cT, wrap_i64 (n := (p : Int) * 16) (by omega) (by omega), wrap_i64 (n := (p : Int) + 1) (by omega) (by omega), f1, hd, f2, hw, Bool.and_self, Bool.and_self, Bool.and_self, cT, show (p : Int) + 1 = ((p + 1 : Nat) : Int) from by omega, show (p : Int) * 16 = 16 * (p : Int) from by omega]
      by_cases c : pgE ws d (16 * p) = 0
      · rw [show (pgE ws d (16 * p) == 0) = true from by simpa using c, cT]
        rw [if_pos c, lsA_snoc, lsHp_snoc] at ih
        have e1 : (cP (q :: L)).length = (q :: L).length := by simp [cP]
        have e2 : (cA ws d (q :: L)).length = (q :: L).length := by simp [cA]
        have e3 : (cB ws d (q :: L)).length = (q :: L).length := by simp [cB]
        have g1 : List.take (q :: L).length (List.drop 0 (cP (q :: L))) = cP (q :: L) := by rw [List.drop_zero, ← e1, List.take_length]
        have g2 : List.take (q :: L).length (List.drop 0 (cA ws d (q :: L))) = cA ws d (q :: L) := by rw [List.drop_zero, ← e2, List.take_length]
        have g3 : List.take (q :: L).length (List.drop 0 (cB ws d (q :: L))) = cB ws d (q :: L) := by rw [List.drop_zero, ← e3, List.take_length]
        rw [e1, e2, e3, g1, g2, g3, decide_eq_true (show ((q :: L).length + 1) * 24 ≤ 140737488355328 by omega), decide_eq_true (show (q :: L).length + 1 ≤ 140737488355328 by omega)]
        have h0 : decide (0 + (q :: L).length ≤ (q :: L).length) = true := decide_eq_true (by omega)
        have h1 : decide (0 + 1 ≤ [(p : Int)].length) = true := rfl
        have h2 : decide (0 + 1 ≤ [pgA ws d (16 * (p : Int))].length) = true := rfl
        have h3 : decide (0 + 1 ≤ [pgW ws d (16 * (p : Int))].length) = true := rfl
        rw [h0, h1, h2, h3]
        rw [show (true && (true && (true && true)) && (true && (true && (true && true))) && true && true) = true from rfl, cT]
        exact ih
      · rw [show (pgE ws d (16 * p) == 0) = false from by simpa using c, cF]
        rw [if_neg c, List.append_nil] at ih
        exact ih
theorem loopRl (d : Int) (x : Nat) (ws : List Int) (hd : inI d = true) (hw : allW ws = true) (hl : ws.length ≤ 65536) (K : HeadK) : ∀ j p : Nat, p + j = 256 →
    iterR Try.prog (sLs pgV pgW pgA pgE) lNil iRl 60 (loopOf Try.prog 22 0) (j + 1) (lsV d (lsA (pgL ws d p)) p) (lsHp ws.length x ws d (pgL ws d p)) K = K (.exit 0) [.e (.c (lsA (pgL ws d 256)))] (lsHp ws.length x ws d (pgL ws d 256))
  | 0, p, hp => by
    obtain rfl : p = 256 := by omega
    rw [iterR]
    cases pgL ws d 256 with
    | nil =>
      refine (t_rl0 pgV pgW pgA pgE d _ ws.length x ws _).trans ?_
      rw [decide_eq_false (show ¬ ((256 : Nat) : Int) < 256 by omega), cF]; rfl
    | cons q L =>
      refine (t_rl1 pgV pgW pgA pgE d _ false ws.length x (q :: L).length ws (cP (q :: L)) (cA ws d (q :: L)) (cB ws d (q :: L)) _).trans ?_
      rw [decide_eq_false (show ¬ ((256 : Nat) : Int) < 256 by omega), cF]; rfl
  | j + 1, p, hp => by
    have ih := loopRl d x ws hd hw hl K j (p + 1) (by omega)
    have f1 : okM ws.length ws = true := by simp [okM, hl]
    have f2 : inI (16 * (p : Int)) = true := inI_of (by omega) (by omega)
    have hlen := pgL_len ws d p
    rw [iterR]
    rw [pgL] at ih
    cases hL : pgL ws d p with
    | nil =>
      rw [hL] at ih
      refine (t_rl0 pgV pgW pgA pgE d p ws.length x ws _).trans ?_
      rw [decide_eq_true (show (p : Int) < 256 by omega), cT, wrap_i64 (n := 16 * (p : Int)) (by omega) (by omega), wrap_i64 (n := (p : Int) + 1) (by omega) (by omega), f1, hd, f2, hw, Bool.and_self, Bool.and_self, Bool.and_self, cT, show (p : Int) + 1 = ((p + 1 : Nat) : Int) from by omega]
      by_cases c : pgE ws d (16 * p) = 0
      · rw [show (pgE ws d (16 * p) == 0) = true from by simpa using c, cT]
        rw [if_pos c] at ih
        exact ih
      · rw [show (pgE ws d (16 * p) == 0) = false from by simpa using c, cF]
        rw [if_neg c] at ih
        exact ih
    | cons q L =>
      rw [hL] at ih hlen
      refine (t_rl1 pgV pgW pgA pgE d p false ws.length x (q :: L).length ws (cP (q :: L)) (cA ws d (q :: L)) (cB ws d (q :: L)) _).trans ?_
      rw [decide_eq_true (show (p : Int) < 256 by omega), cT, wrap_i64 (n := 16 * (p : Int)) (by omega) (by omega), wrap_i64 (n := (p : Int) + 1) (by omega) (by omega), f1, hd, f2, hw, Bool.and_self, Bool.and_self, Bool.and_self, cT, show (p : Int) + 1 = ((p + 1 : Nat) : Int) from by omega]
      by_cases c : pgE ws d (16 * p) = 0
      · rw [show (pgE ws d (16 * p) == 0) = true from by simpa using c, cT]
        rw [if_pos c, lsA_snoc, lsHp_snoc] at ih
        have e1 : (cP (q :: L)).length = (q :: L).length := by simp [cP]
        have e2 : (cA ws d (q :: L)).length = (q :: L).length := by simp [cA]
        have e3 : (cB ws d (q :: L)).length = (q :: L).length := by simp [cB]
        have g1 : List.take (q :: L).length (List.drop 0 (cP (q :: L))) = cP (q :: L) := by rw [List.drop_zero, ← e1, List.take_length]
        have g2 : List.take (q :: L).length (List.drop 0 (cA ws d (q :: L))) = cA ws d (q :: L) := by rw [List.drop_zero, ← e2, List.take_length]
        have g3 : List.take (q :: L).length (List.drop 0 (cB ws d (q :: L))) = cB ws d (q :: L) := by rw [List.drop_zero, ← e3, List.take_length]
        rw [e1, e2, e3, g1, g2, g3, decide_eq_true (show ((q :: L).length + 1) * 24 ≤ 140737488355328 by omega), decide_eq_true (show (q :: L).length + 1 ≤ 140737488355328 by omega)]
        have h0 : decide (0 + (q :: L).length ≤ (q :: L).length) = true := decide_eq_true (by omega)
        have h1 : decide (0 + 1 ≤ [(p : Int)].length) = true := rfl
        have h2 : decide (0 + 1 ≤ [pgA ws d (16 * (p : Int))].length) = true := rfl
        have h3 : decide (0 + 1 ≤ [pgW ws d (16 * (p : Int))].length) = true := rfl
        rw [h0, h1, h2, h3]
        rw [show (true && (true && (true && true)) && (true && (true && (true && true))) && true && true) = true from rfl, cT]
        exact ih
      · rw [show (pgE ws d (16 * p) == 0) = false from by simpa using c, cF]
        rw [if_neg c, List.append_nil] at ih
        exact ih
def cLsV (EM : List Int → Int → Bool) (LN : List Int → Int → Nat) (CP CA : List Int → Int → List Int) (CB : List Int → Int → List Bool) : HeadO := fun vs h K => match vs, h with
  | [.e (.c (.ptr ⟨0, 0, 0, 0, 0, 0, 0⟩)), .e (.c (.int .i64 d)), .e (.c .nils), .e (.c (.int .i64 0))], [(false, some ⟨false, .mix [.slice ⟨1, 0, 1, 0, 0, 0, 0⟩ 1 n x true]⟩), (false, some ⟨false, .rows [.ints .u64 ws]⟩)] =>
    match okM n ws && inI d && allW ws with
    | true => match EM ws d with
      | true => K (.exit 0) [.e (.c .nils)] [(false, some ⟨false, .mix [.slice ⟨1, 0, 1, 0, 0, 0, 0⟩ 1 n x true]⟩), (false, some ⟨false, .rows [.ints .u64 ws]⟩)]
      | false => K (.exit 0) [.e (.c (.slice ⟨2, 0, 3, 0, 0, 0, 0⟩ 3 (LN ws d) 0 false))] [(false, some ⟨false, .mix [.slice ⟨1, 0, 1, 0, 0, 0, 0⟩ 1 n x true]⟩), (false, some ⟨false, .rows [.ints .u64 ws]⟩), (true, some ⟨false, .rows [.ints .i64 (CP ws d), .ints .i64 (CA ws d), .bools (CB ws d)]⟩)]
    | false => none
  | _, _ => none
def lEM (ws : List Int) (d : Int) : Bool := (pgL ws d 256).isEmpty
def lLN (ws : List Int) (d : Int) : Nat := (pgL ws d 256).length
def lCP (ws : List Int) (d : Int) : List Int := cP (pgL ws d 256)
def lCA (ws : List Int) (d : Int) : List Int := cA ws d (pgL ws d 256)
def lCB (ws : List Int) (d : Int) : List Bool := cB ws d (pgL ws d 256)
theorem ls_yes {n x : Nat} {ws : List Int} {d : Int} (h : lEM ws d = true) : lsA (pgL ws d 256) = .nils ∧ lsHp n x ws d (pgL ws d 256) = lsH0 n x ws := by
  unfold lEM at h
  generalize pgL ws d 256 = L at h ⊢
  cases L with
  | nil => exact ⟨rfl, rfl⟩
  | cons q L => cases h
theorem ls_no {n x : Nat} {ws : List Int} {d : Int} (h : lEM ws d = false) : lsA (pgL ws d 256) = .slice ⟨2, 0, 3, 0, 0, 0, 0⟩ 3 (lLN ws d) 0 false ∧ lsHp n x ws d (pgL ws d 256) = lsH1 n x ws (lCP ws d) (lCA ws d) (lCB ws d) := by
  unfold lEM at h
  unfold lLN lCP lCA lCB
  generalize pgL ws d 256 = L at h ⊢
  cases L with
  | nil => cases h
  | cons q L => exact ⟨rfl, rfl⟩
theorem pgL_0 (ws : List Int) (d : Int) : pgL ws d 0 = [] := rfl
theorem cLs_sound : HeadSound Try.prog iLs (loopOf Try.prog 12 0) (cLsV lEM lLN lCP lCA lCB) := by
  refine HeadSound.short (iterR_sound (F := 60) sLs_ok mix lNil_ok) fun vs h K r e => ?_
  unfold cLsV at e
  split at e
  · rename_i d n x ws
    split at e
    · rename_i hc
      simp only [Bool.and_eq_true] at hc
      obtain ⟨⟨c1, c2⟩, c3⟩ := hc
      obtain ⟨rfl, hn⟩ := okM_spec c1
      have h := loopLs d x ws c2 c3 hn K 256 0 (by omega)
      rw [pgL_0] at h
      refine ⟨256 + 1, Eq.trans h ?_⟩
      split at e
      · rename_i hem
        rw [(ls_yes (n := ws.length) (x := x) hem).1, (ls_yes (n := ws.length) (x := x) hem).2]; exact e
      · rename_i hem
        rw [(ls_no (n := ws.length) (x := x) hem).1, (ls_no (n := ws.length) (x := x) hem).2]; exact e
    · cases e
  · cases e
theorem cRl_sound : HeadSound Try.prog iRl (loopOf Try.prog 22 0) (cLsV lEM lLN lCP lCA lCB) := by
  refine HeadSound.short (iterR_sound (F := 60) sLs_ok mix lNil_ok) fun vs h K r e => ?_
  unfold cLsV at e
  split at e
  · rename_i d n x ws
    split at e
    · rename_i hc
      simp only [Bool.and_eq_true] at hc
      obtain ⟨⟨c1, c2⟩, c3⟩ := hc
      obtain ⟨rfl, hn⟩ := okM_spec c1
      have h := loopRl d x ws c2 c3 hn K 256 0 (by omega)
      rw [pgL_0] at h
      refine ⟨256 + 1, Eq.trans h ?_⟩
      split at e
      · rename_i hem
        rw [(ls_yes (n := ws.length) (x := x) hem).1, (ls_yes (n := ws.length) (x := x) hem).2]; exact e
      · rename_i hem
        rw [(ls_no (n := ws.length) (x := x) hem).1, (ls_no (n := ws.length) (x := x) hem).2]; exact e
    · cases e
  · cases e
end Go.Proofs.Ytmpmnjekcajlgaa.Wlk
