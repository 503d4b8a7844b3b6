/- One page's entry dropped: the law. -/
import Derived.Test.YtnloobnpgkpbhaaTdD
set_option linter.unusedVariables false
set_option linter.unusedSimpArgs false
set_option maxRecDepth 100000
namespace Go.Proofs.Ytnloobnpgkpbhaa.Wlk
open Go Go.Eng Go.Proofs Go.RowKit
theorem getW_put {ws : List Int} {a b v : Int} (h : inM ws.length a 1 = true) : getW (putW ws a v) b = if b = a then v else getW ws b := by
  have k := h
  simp only [inM, Bool.and_eq_true, decide_eq_true_eq] at k
  unfold putW; rw [if_pos h]
  unfold getW
  rw [List.length_set]
  by_cases e : b = a
  · subst e
    rw [if_pos h, if_pos rfl, List.getD_eq_getElem?_getD, List.getElem?_set_self (by omega)]; rfl
  · rw [if_neg e]
    by_cases c : inM ws.length b 1 = true
    · rw [if_pos c, if_pos c]
      have k2 := c
      simp only [inM, Bool.and_eq_true, decide_eq_true_eq] at k2
      rw [List.getD_eq_getElem?_getD, List.getD_eq_getElem?_getD, List.getElem?_set_ne (by omega)]
    · rw [if_neg c, if_neg c]
theorem pg_congr {ws wt : List Int} {d a : Int} (hl : ws.length = wt.length) (h1 : w1 ws d a = w1 wt d a) (h2 : w2 ws d a = w2 wt d a) : pgE ws d a = pgE wt d a ∧ pgV ws d a = pgV wt d a ∧ pgW ws d a = pgW wt d a ∧ pgA ws d a = pgA wt d a := by
  have f3 : pgOk ws d a = pgOk wt d a := by unfold pgOk lokW; rw [h1, h2, hl]
  have f4 : pgE ws d a = pgE wt d a := by unfold pgE; rw [hl, f3]
  refine ⟨f4, ?_, ?_, ?_⟩
  · unfold pgV; rw [f4]
  · unfold pgW; rw [f4, h2]
  · unfold pgA; rw [f4, h2]
theorem dW_len : dW.length = 400 := by
  have h : ∀ c i ws, (dPut c i ws).length = ws.length := by
    intro c
    induction c with
    | zero => intro i ws; rfl
    | succ c ih => intro i ws; rw [dPut, ih, putW_len]
  unfold dW dW0
  rw [h, putW_len, List.length_replicate]
theorem dW_all : allW dW = true := by
  have h : ∀ c i ws, i + c ≤ 16 → allW ws = true → allW (dPut c i ws) = true := by
    intro c
    induction c with
    | zero => intro i ws _ hw; exact hw
    | succ c ih =>
      intro i ws hi hw
      rw [dPut]
      refine ih (i + 1) _ (by omega) (putW_all hw ?_)
      simp only [word, Bool.and_eq_true, decide_eq_true_eq]
      omega
  unfold dW dW0
  refine h 16 0 _ (by omega) (putW_all ?_ rfl)
  simp only [allW, List.all_eq_true]
  intro x hx
  rw [List.eq_of_mem_replicate hx]; rfl
theorem dW_0 : getW dW 0 = 17 := by
  have h : ∀ c i ws, ws.length = 400 → i + c ≤ 16 → getW (dPut c i ws) 0 = getW ws 0 := by
    intro c
    induction c with
    | zero => intro i ws _ _; rfl
    | succ c ih =>
      intro i ws hl hi
      have hin : inM ws.length (16 + (i : Int)) 1 = true := by rw [hl]; simp [inM]; omega
      rw [dPut, ih (i + 1) _ (by rw [putW_len]; exact hl) (by omega), getW_put hin, if_neg (by omega)]
  unfold dW
  rw [h 16 0 dW0 (by unfold dW0; rw [putW_len, List.length_replicate]) (by omega)]
  unfold dW0
  rw [getW_put (by rw [List.length_replicate]; rfl), if_pos rfl]
theorem sp12 {p : Int} (h : 0 ≤ p ∧ p < 16) : sp1 (p * 16) = 0 ∧ sp2 (p * 16) = p := by
  unfold sp1 sp2
  rw [if_pos (spOk_of (by omega)), if_pos (spOk_of (by omega))]
  omega
/-- A page whose entry stays is where it was. -/
theorem dW_same {p pp v : Int} (h : 0 ≤ p ∧ p < 16) (hp : 0 ≤ pp ∧ pp < 16) (hne : p ≠ pp) : pgE (putW dW (16 + pp) v) 0 (p * 16) = pgE dW 0 (p * 16) ∧ pgV (putW dW (16 + pp) v) 0 (p * 16) = pgV dW 0 (p * 16) ∧ pgW (putW dW (16 + pp) v) 0 (p * 16) = pgW dW 0 (p * 16) ∧ pgA (putW dW (16 + pp) v) 0 (p * 16) = pgA dW 0 (p * 16) := by
  obtain ⟨s1, s2⟩ := sp12 h
  have hin : inM dW.length (16 + pp) 1 = true := by rw [dW_len]; simp [inM]; omega
  have e1 : w1 (putW dW (16 + pp) v) 0 (p * 16) = w1 dW 0 (p * 16) := by
    unfold w1
    rw [s1, getW_put hin, if_neg (by omega)]
  have e17 : w1 dW 0 (p * 16) = 17 := by unfold w1; rw [s1]; exact dW_0
  have e2 : w2 (putW dW (16 + pp) v) 0 (p * 16) = w2 dW 0 (p * 16) := by
    unfold w2
    rw [e1, e17, s2, show eA 17 = 16 from by decide, getW_put hin, if_neg (by omega)]
  exact pg_congr (putW_len ..) e1 e2
def In5 (L : List Ro) : Prop := ∀ r ∈ L, r.s = 5 ∧ 0 ≤ r.p ∧ r.p < 16
theorem In5.to {ws : List Int} {o : Ts} (h : In5 (rowsO o)) {a : Int} (ha : 0 ≤ a ∧ a < 256) : In5 (rowsO (stTo ws 5 0 a o)) := by
  have hn : 0 ≤ pgN a ∧ pgN a < 16 := by
    rw [pgN_ok (spOk_of (by omega))]; omega
  have key : ∀ L, In5 L → In5 (tL ws L 5 0 a) := fun L hL r hr => by
    rcases mem_fillL hr with h1 | h1
    · exact hL r h1
    · subst h1; exact ⟨rfl, hn⟩
  cases o with
  | none =>
    rw [stTo_none]
    split
    · exact key _ h
    · exact h
  | some q =>
    obtain ⟨L, e⟩ := q
    rw [stTo_some]
    split
    · exact key _ h
    · exact h
theorem d2_inv (ws l : List Int) : ∀ (j i : Nat) (o : Ts), InvO o → agL ws 5 0 (rowsO o) = true → In5 (rowsO o) → InvO (d2S ws l j i o) ∧ agL ws 5 0 (rowsO (d2S ws l j i o)) = true ∧ In5 (rowsO (d2S ws l j i o))
  | 0, _, _, h, g, f => ⟨h, g, f⟩
  | j + 1, i, o, h, g, f => by
    rw [d2S]
    split
    · have hk := kx_in l i (m := 16) (by omega) (by omega)
      have ha : a16 l i = 16 * kx l i 16 := wrap_i64 (by omega) (by omega)
      exact d2_inv ws l j (i + 1) _ (h.to _ _ _) (ag_to g (fun _ => rfl)) (f.to (by rw [ha]; omega))
    · exact ⟨h, g, f⟩
theorem ag_dropped {L : List Ro} {pp v : Int} (hp : 0 ≤ pp ∧ pp < 16) (g : agL dW 5 0 L = true) (f : In5 L) : agL (putW dW (16 + pp) v) 5 0 (dropL 5 pp L) = true := by
  refine List.all_eq_true.2 fun r hr => ?_
  unfold dropL at hr
  rw [List.mem_filter] at hr
  obtain ⟨h1, h2, h3⟩ := f r hr.1
  have hne : r.p ≠ pp := by
    intro c
    have := hr.2
    simp [h1, c] at this
  have hR : agR dW 5 0 r = true := List.all_eq_true.1 g r hr.1
  obtain ⟨q1, q2, q3, q4⟩ := agR_of hR h1
  obtain ⟨t1, t2, t3, t4⟩ := dW_same (v := v) ⟨h2, h3⟩ hp hne
  rw [w16_ok (by omega)] at q1 q2 q3 q4
  unfold agR
  rw [if_pos h1, w16_ok (by omega), t1, t2, t3, t4, if_pos q1, q2, q3, q4]
  simp
end Go.Proofs.Ytnloobnpgkpbhaa.Wlk
