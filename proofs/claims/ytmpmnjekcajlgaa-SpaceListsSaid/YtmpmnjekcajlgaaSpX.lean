/- What the laws of the listed share: memory made, words laid. -/
import Derived.Test.YtmpmnjekcajlgaaSpK
set_option linter.unusedVariables false
set_option linter.unusedSimpArgs false
set_option maxRecDepth 100000
namespace Go.Proofs.Ytmpmnjekcajlgaa.Wlk
open Go Go.Eng Go.Proofs Go.RowKit
def gNewV (Z : Int → List Int) : Fun := fun args sub κ => match args, sub with
  | [.e (.c (.int .i64 n))], [] => match newOk n with
    | true => κ ⟨.tup [.c (.ptr ⟨0, 0, 0, 0, 0, 0, 0⟩), .c (.int .i64 0)], [some (some ⟨false, .mix [.slice ⟨1, 0, 1, 0, 0, 0, 0⟩ 1 n.toNat 0 true]⟩), some (some ⟨false, .rows [.ints .u64 (Z n)]⟩)]⟩
    | false => none
  | _, _ => none
def newZ (n : Int) : List Int := List.replicate n.toNat 0
theorem gNewV_sound : FunSound Try.prog 9 (gNewV newZ) := by
  refine gNew_sound.short fun args sub κ r h => ?_
  unfold gNewV at h
  unfold gNew
  split at h
  · split at h
    · rename_i hc; simp only [hc]; exact h
    · cases h
  · cases h
theorem getW_put {ws : List Int} {a b v : Int} (h : inM ws.length a 1 = true) : getW (putW ws a v) b = if b = a then v else getW ws b := by
  have k := h
  simp only [inM, Bool.and_eq_true, decide_eq_true_eq] at k
  unfold putW; rw [if_pos h]
  unfold getW
  rw [List.length_set]
  by_cases e : b = a
  · subst e
    rw [if_pos h, if_pos rfl, List.getD_eq_getElem?_getD, List.getElem?_set_self (by omega)]; rfl
  · rw [if_neg e]
    by_cases c : inM ws.length b 1 = true
    · rw [if_pos c, if_pos c]
      have k2 := c
      simp only [inM, Bool.and_eq_true, decide_eq_true_eq] at k2
      rw [List.getD_eq_getElem?_getD, List.getD_eq_getElem?_getD, List.getElem?_set_ne (by omega)]
    · rw [if_neg c, if_neg c]
theorem epW_facts {f : Int} (w : Bool) (h0 : 0 ≤ f) (h1 : f ≤ 65520) (h2 : f % 16 = 0) :
    eV (epW true w f) = true ∧ eWr (epW true w f) = w ∧ eA (epW true w f) = f ∧ eE (epW true w f) = 0 ∧ epW true w f ≠ 0 ∧ word (epW true w f) = true := by
  have e : epW true w f = f + 1 + (if w = true then 2 else 0) := by unfold epW; rw [if_pos rfl, if_pos ⟨h0, h1, h2⟩]
  rw [e]
  cases w with
  | true =>
    rw [if_pos rfl]
    have ok : eOk (f + 1 + 2) = true := by
      have : f + 1 + 2 < 65536 ∧ (f + 1 + 2) % 2 = 1 ∧ (f + 1 + 2) / 4 % 4 = 0 := by omega
      simp [eOk, this]
    refine ⟨by unfold eV; rw [ok, decide_eq_true (by omega)]; rfl, by unfold eWr; rw [ok, decide_eq_true (by omega)]; rfl, by unfold eA; rw [if_pos ok]; omega, by unfold eE; rw [if_pos ok], by omega, ?_⟩
    have : 0 ≤ f + 1 + 2 ∧ f + 1 + 2 < 18446744073709551616 := by omega
    simp [word, this]
  | false =>
    rw [if_neg (by decide)]
    have ok : eOk (f + 1 + 0) = true := by
      have : f + 1 + 0 < 65536 ∧ (f + 1 + 0) % 2 = 1 ∧ (f + 1 + 0) / 4 % 4 = 0 := by omega
      simp only [eOk, decide_eq_true this.1, decide_eq_true this.2.1, decide_eq_true this.2.2]; simp
    refine ⟨by unfold eV; rw [ok, decide_eq_true (by omega)]; rfl, by unfold eWr; rw [ok, decide_eq_false (by omega)]; rfl, by unfold eA; rw [if_pos ok]; omega, by unfold eE; rw [if_pos ok], by omega, ?_⟩
    have : 0 ≤ f + 1 + 0 ∧ f + 1 + 0 < 18446744073709551616 := by omega
    simp only [word, decide_eq_true this.1, decide_eq_true this.2]; rfl
theorem sp_lt {a : Int} (h : spOk a = true) : 0 ≤ sp1 a ∧ sp1 a ≤ 15 ∧ 0 ≤ sp2 a ∧ sp2 a ≤ 15 ∧ 0 ≤ sp3 a ∧ sp3 a ≤ 15 ∧ sp3 a = a % 16 := by
  have c := h
  simp only [spOk, Bool.and_eq_true, decide_eq_true_eq] at c
  unfold sp1 sp2 sp3; rw [if_pos h, if_pos h, if_pos h]; omega
theorem fi_0 {a o : Int} {ws : List Int} (hl : ws.length = 512) (ha : spOk a = true) (h0 : 0 ≤ o) (h1 : o + 16 ≤ 512) (h2 : o % 16 = 0) : fiE ws 0 a o = 0 ∧ fiA ws 0 a o = 0 + sp1 a := by
  have s0 : sth 512 0 = true := by decide
  have so : sth 512 o = true := by simp [sth, inM, h0, h1, h2]
  have e : fiE ws 0 a o = 0 := by unfold fiE; rw [if_pos ha, hl, s0, so]; rfl
  exact ⟨e, by unfold fiA; rw [if_pos e]⟩
theorem l_len (ws : List Int) (d : Int) : (lCP ws d).length = lLN ws d ∧ (lCA ws d).length = lLN ws d ∧ (lCB ws d).length = lLN ws d ∧ lLN ws d < 4611686018427387904 := by
  have h := pgL_len ws d 256
  unfold lCP lCA lCB lLN cP cA cB
  rw [List.length_map, List.length_map, List.length_map]
  generalize (pgL ws d 256).length = n at h ⊢
  exact ⟨rfl, rfl, rfl, by omega⟩
end Go.Proofs.Ytmpmnjekcajlgaa.Wlk
