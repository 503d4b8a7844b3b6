/- What is kept: filled in: told in short. -/
import Derived.Test.YtnloobnpgkpbhaaTlL
set_option linter.unusedVariables false
set_option linter.unusedSimpArgs false
set_option maxRecDepth 100000
namespace Go.Proofs.Ytnloobnpgkpbhaa.Wlk
open Go Go.Eng Go.Proofs Go.RowKit
def filE (x y : Int) (v w : Bool) (a : Int) : Int := if rgt x y = true then (if epE v w a = 0 ∧ v = true then 0 else 10) else 1
def addL (r : Ro) (M : List Ro) : List Ro := if 8 < M.length + 1 then (M ++ [r]).drop 1 else M ++ [r]
def addX (e1 : Nat) (M : List Ro) : Nat := e1 + (if 8 < M.length + 1 then 1 else 0)
def fillL (x y : Int) (v w : Bool) (a : Int) (L : List Ro) : List Ro := addL ⟨x, y, v, w, a⟩ (dropL x y L)
def fillX (x y : Int) (L : List Ro) (e : Nat) : Nat := addX (e + (L.length - (dropL x y L).length) - 1) (dropL x y L)
def fillN (x y : Int) (L : List Ro) (e : Nat) : Bool := Nat.beq (e + (L.length - (dropL x y L).length)) 0
theorem col_snoc0 {α : Type} (f : Ro → α) (d : α) (M : List Ro) (r : Ro) : List.take M.length (List.drop 0 (M.map f ++ List.replicate 0 d)) ++ List.take 1 (List.drop 0 [f r]) = (M ++ [r]).map f ++ List.replicate 0 d := by
  rw [List.drop_zero, List.drop_zero, List.replicate_zero, List.append_nil, List.append_nil, List.take_of_length_le (Nat.le_of_eq (List.length_map ..)), List.map_append]; rfl
theorem col_snoc1 {α : Type} (f : Ro → α) (d : α) (M : List Ro) (r : Ro) (e1 : Nat) : List.take (0 + M.length) (M.map f ++ List.replicate (e1 + 1) d) ++ List.take 1 (List.drop 0 [f r]) ++ List.drop (0 + M.length + (List.take 1 (List.drop 0 [f r])).length) (M.map f ++ List.replicate (e1 + 1) d) = (M ++ [r]).map f ++ List.replicate e1 d := by
  have hm : (M.map f).length = M.length := List.length_map ..
  have h1 : List.take 1 (List.drop 0 [f r]) = [f r] := rfl
  rw [h1, Nat.zero_add, List.take_append_of_le_length (Nat.le_of_eq hm.symm), List.take_of_length_le (Nat.le_of_eq hm), List.drop_append, List.drop_of_length_le (by rw [hm]; exact Nat.le_add_right _ _), List.nil_append, hm, List.length_singleton, show M.length + 1 - M.length = 1 from by omega, List.drop_replicate, Nat.add_sub_cancel, List.map_append]; rfl
abbrev FE := Int → Int → Bool → Bool → Int → Int
abbrev FI8 := Int → Int → Bool → Bool → Int → List Ro → List Ro
abbrev FX8 := Int → Int → List Ro → Nat → Nat
abbrev FN8 := Int → Int → List Ro → Nat → Bool
def gFillT (E : FE) (FI : FI8) (FX : FX8) (NW : FN8) : Fun := fun args sub κ => match args, sub with
  | [.e (.c (.ptr ⟨0, 0, 0, 0, 0, 0, 0⟩)), .e (.c (.int .i64 x)), .e (.c (.int .i64 y)), .e (.agg [.bool v0, .bool w0, .int .i64 a0])], [some ⟨false, .mix [.slice ⟨1, 0, 5, 0, 0, 0, 0⟩ 5 n e false]⟩, some ⟨false, .rows [.ints .i64 s, .ints .i64 p, .bools v, .bools w, .ints .i64 a]⟩] =>
    match okK n e s p v w a && Nat.ble n 8 && inI a0 with
    | true => match decide (E x y v0 w0 a0 = 0) with
      | true => match NW x y (rowsN n s p v w a) e with
        | true => κ ⟨aint .i64 0, [some (some ⟨false, .mix [.slice ⟨2, 0, 5, 0, 0, 0, 0⟩ 5 (FI x y v0 w0 a0 (rowsN n s p v w a)).length (FX x y (rowsN n s p v w a) e) false]⟩), some none, some (kR (FI x y v0 w0 a0 (rowsN n s p v w a)) (FX x y (rowsN n s p v w a) e))]⟩
        | false => κ ⟨aint .i64 0, [some (some ⟨false, .mix [.slice ⟨1, 0, 5, 0, 0, 0, 0⟩ 5 (FI x y v0 w0 a0 (rowsN n s p v w a)).length (FX x y (rowsN n s p v w a) e) false]⟩), some (kR (FI x y v0 w0 a0 (rowsN n s p v w a)) (FX x y (rowsN n s p v w a) e))]⟩
      | false => κ ⟨aint .i64 (E x y v0 w0 a0), [none, none]⟩
    | false => none
  | [.e (.c (.ptr ⟨0, 0, 0, 0, 0, 0, 0⟩)), .e (.c (.int .i64 x)), .e (.c (.int .i64 y)), .e (.agg [.bool v0, .bool w0, .int .i64 a0])], [some ⟨false, .mix [.nils]⟩] =>
    match inI a0 with
    | true => match decide (E x y v0 w0 a0 = 0) with
      | true => κ ⟨aint .i64 0, [some (some ⟨false, .mix [.slice ⟨1, 0, 5, 0, 0, 0, 0⟩ 5 1 0 false]⟩), some (kR [⟨x, y, v0, w0, a0⟩] 0)]⟩
      | false => κ ⟨aint .i64 (E x y v0 w0 a0), [none]⟩
    | false => none
  | _, _ => none
theorem filE_split (x y : Int) (v w : Bool) (a : Int) {β : Type} (A : Int → β) (B : β) : cond (!rgt x y) (A 1) (cond (epE v w a != 0) (A 10) (cond (!v) (A 10) B)) = cond (decide (filE x y v w a = 0)) B (A (filE x y v w a)) := by
  unfold filE
  cases rgt x y
  · rfl
  · by_cases c : epE v w a = 0
    · cases v
      · simp [c]
      · simp [c]
    · rw [show (epE v w a != 0) = true from by simp [c], cT]; simp [c]
theorem bne_false {a : Int} (h : a = 0) : (a != 0) = false := by simp [h]
set_option maxHeartbeats 4000000 in
theorem gFillT_sound : FunSound Try.prog 10 (gFillT filE fillL fillX fillN) := by
  refine (runG_sound sFi_ok mix 100 10).short fun args sub κ r h => ?_
  unfold gFillT at h
  split at h
  · rename_i x y v0 w0 a0 n e s p v w a
    split at h
    · rename_i hc
      simp only [Bool.and_eq_true] at hc
      obtain ⟨⟨hc, h8⟩, hi⟩ := hc
      have h8 := Nat.le_of_ble_eq_true h8
      obtain ⟨L, hL, rfl, rfl, rfl, rfl, rfl, hb, hr⟩ := okK_spec hc
      subst hL
      have hd := drop_le x y L
      rw [rowsN_cols] at h
      refine (t_fillS rgt epW epE dropL tlR L.length e x y v0 w0 a0 _ _ _ _ _ κ).trans ?_
      rw [hi, cT, hc, cT, rowsN_cols]
      refine (filE_split x y v0 w0 a0 (fun E => κ ⟨aint .i64 E, [none, none]⟩) _).trans ?_
      cases cE : decide (filE x y v0 w0 a0 = 0) with
      | false =>
        rw [cE] at h
        rw [cF]; exact h
      | true =>
        rw [cE] at h
        rw [cT]
        unfold fillN fillX fillL at h
        generalize dropL x y L = M at h hd ⊢
        have hM : M.length ≤ 8 := by omega
        generalize hq : e + (L.length - M.length) = q at h ⊢
        have a1 : (M ++ [(⟨x, y, v0, w0, a0⟩ : Ro)]).length = M.length + 1 := by simp
        have x1 : ([x] : List Int).length = 1 := rfl
        have x2 : ([y] : List Int).length = 1 := rfl
        have x3 : ([v0] : List Bool).length = 1 := rfl
        have x4 : ([w0] : List Bool).length = 1 := rfl
        have x5 : ([a0] : List Int).length = 1 := rfl
        cases cq : Nat.beq q 0 with
        | true =>
          rw [cq] at h
          have q0 := Nat.eq_of_beq_eq_true cq
          rw [cT]
          have s1 : List.take M.length (List.drop 0 (cS M 0)) ++ List.take 1 (List.drop 0 [x]) = cS (M ++ [⟨x, y, v0, w0, a0⟩]) 0 := col_snoc0 Ro.s 0 M ⟨x, y, v0, w0, a0⟩
          have s2 : List.take M.length (List.drop 0 (cP M 0)) ++ List.take 1 (List.drop 0 [y]) = cP (M ++ [⟨x, y, v0, w0, a0⟩]) 0 := col_snoc0 Ro.p 0 M ⟨x, y, v0, w0, a0⟩
          have s3 : List.take M.length (List.drop 0 (cV M 0)) ++ List.take 1 (List.drop 0 [v0]) = cV (M ++ [⟨x, y, v0, w0, a0⟩]) 0 := col_snoc0 Ro.v false M ⟨x, y, v0, w0, a0⟩
          have s4 : List.take M.length (List.drop 0 (cW M 0)) ++ List.take 1 (List.drop 0 [w0]) = cW (M ++ [⟨x, y, v0, w0, a0⟩]) 0 := col_snoc0 Ro.w false M ⟨x, y, v0, w0, a0⟩
          have s5 : List.take M.length (List.drop 0 (cA M 0)) ++ List.take 1 (List.drop 0 [a0]) = cA (M ++ [⟨x, y, v0, w0, a0⟩]) 0 := col_snoc0 Ro.a 0 M ⟨x, y, v0, w0, a0⟩
          rw [s1, s2, s3, s4, s5, cS_len, cP_len, cV_len, cW_len, cA_len, x1, x2, x3, x4, x5, decide_eq_true (show 0 + M.length ≤ M.length + 0 by omega), decide_eq_true (show 0 + 1 ≤ 1 by omega), decide_eq_true (show (M.length + 1) * 32 ≤ 140737488355328 by omega), decide_eq_true (show M.length + 1 ≤ 140737488355328 by omega)]
          repeat rw [Bool.and_self]
          rw [cT]
          unfold addX addL at h
          by_cases c8 : 8 < M.length + 1
          · rw [if_pos c8, if_pos c8] at h
            have k := okK_self (M ++ [(⟨x, y, v0, w0, a0⟩ : Ro)]) 0 (by rw [a1]; omega)
            have rc := rowsN_cols (M ++ [(⟨x, y, v0, w0, a0⟩ : Ro)]) 0
            rw [a1] at k rc
            rw [decide_eq_true (show ((M.length + 1 : Nat) : Int) > 8 by omega), cT, k, Nat.ble_eq_true_of_le (show 1 ≤ M.length + 1 by omega), Bool.and_self, cT, rc]
            rw [List.length_drop, a1, q0] at h
            exact h
          · rw [if_neg c8, if_neg c8] at h
            rw [decide_eq_false (show ¬ ((M.length + 1 : Nat) : Int) > 8 by omega), cF]
            rw [a1, q0] at h
            exact h
        | false =>
          rw [cq] at h
          obtain ⟨e1, he1⟩ : ∃ e1, q - 1 = e1 := ⟨_, rfl⟩
          have q0 : q ≠ 0 := fun hz => by rw [hz] at cq; cases cq
          rw [he1] at h ⊢
          rw [cF]
          have s1 : List.take (0 + M.length) (cS M (e1 + 1)) ++ List.take 1 (List.drop 0 [x]) ++ List.drop (0 + M.length + (List.take 1 (List.drop 0 [x])).length) (cS M (e1 + 1)) = cS (M ++ [⟨x, y, v0, w0, a0⟩]) e1 := col_snoc1 Ro.s 0 M ⟨x, y, v0, w0, a0⟩ e1
          have s2 : List.take (0 + M.length) (cP M (e1 + 1)) ++ List.take 1 (List.drop 0 [y]) ++ List.drop (0 + M.length + (List.take 1 (List.drop 0 [y])).length) (cP M (e1 + 1)) = cP (M ++ [⟨x, y, v0, w0, a0⟩]) e1 := col_snoc1 Ro.p 0 M ⟨x, y, v0, w0, a0⟩ e1
          have s3 : List.take (0 + M.length) (cV M (e1 + 1)) ++ List.take 1 (List.drop 0 [v0]) ++ List.drop (0 + M.length + (List.take 1 (List.drop 0 [v0])).length) (cV M (e1 + 1)) = cV (M ++ [⟨x, y, v0, w0, a0⟩]) e1 := col_snoc1 Ro.v false M ⟨x, y, v0, w0, a0⟩ e1
          have s4 : List.take (0 + M.length) (cW M (e1 + 1)) ++ List.take 1 (List.drop 0 [w0]) ++ List.drop (0 + M.length + (List.take 1 (List.drop 0 [w0])).length) (cW M (e1 + 1)) = cW (M ++ [⟨x, y, v0, w0, a0⟩]) e1 := col_snoc1 Ro.w false M ⟨x, y, v0, w0, a0⟩ e1
          have s5 : List.take (0 + M.length) (cA M (e1 + 1)) ++ List.take 1 (List.drop 0 [a0]) ++ List.drop (0 + M.length + (List.take 1 (List.drop 0 [a0])).length) (cA M (e1 + 1)) = cA (M ++ [⟨x, y, v0, w0, a0⟩]) e1 := col_snoc1 Ro.a 0 M ⟨x, y, v0, w0, a0⟩ e1
          have y1 : (List.take 1 (List.drop 0 [x])).length = 1 := rfl
          have y2 : (List.take 1 (List.drop 0 [y])).length = 1 := rfl
          have y3 : (List.take 1 (List.drop 0 [v0])).length = 1 := rfl
          have y4 : (List.take 1 (List.drop 0 [w0])).length = 1 := rfl
          have y5 : (List.take 1 (List.drop 0 [a0])).length = 1 := rfl
          rw [s1, s2, s3, s4, s5, cS_len, cP_len, cV_len, cW_len, cA_len, x1, x2, x3, x4, x5, y1, y2, y3, y4, y5, decide_eq_true (show 0 + M.length + 1 ≤ M.length + (e1 + 1) by omega), decide_eq_true (show 0 + 1 ≤ 1 by omega), decide_eq_true (show 1 ≤ e1 + 1 by omega)]
          repeat rw [Bool.and_self]
          rw [cT, Nat.add_sub_cancel]
          unfold addX addL at h
          by_cases c8 : 8 < M.length + 1
          · rw [if_pos c8, if_pos c8] at h
            have k := okK_self (M ++ [(⟨x, y, v0, w0, a0⟩ : Ro)]) e1 (by rw [a1]; omega)
            have rc := rowsN_cols (M ++ [(⟨x, y, v0, w0, a0⟩ : Ro)]) e1
            rw [a1] at k rc
            rw [decide_eq_true (show ((M.length + 1 : Nat) : Int) > 8 by omega), cT, k, Nat.ble_eq_true_of_le (show 1 ≤ M.length + 1 by omega), Bool.and_self, cT, rc]
            rw [List.length_drop, a1] at h
            exact h
          · rw [if_neg c8, if_neg c8] at h
            rw [decide_eq_false (show ¬ ((M.length + 1 : Nat) : Int) > 8 by omega), cF]
            rw [a1] at h
            exact h
    · cases h
  · rename_i x y v0 w0 a0
    split at h
    · rename_i hi
      refine (t_fillN rgt epW epE dropL tlR x y v0 w0 a0 κ).trans ?_
      rw [hi, cT]
      refine (filE_split x y v0 w0 a0 (fun E => κ ⟨aint .i64 E, [none]⟩) _).trans ?_
      cases cE : decide (filE x y v0 w0 a0 = 0) with
      | false =>
        rw [cE] at h
        rw [cF]; exact h
      | true =>
        rw [cE] at h
        rw [cT]; exact h
    · cases h
  · cases h
end Go.Proofs.Ytnloobnpgkpbhaa.Wlk
