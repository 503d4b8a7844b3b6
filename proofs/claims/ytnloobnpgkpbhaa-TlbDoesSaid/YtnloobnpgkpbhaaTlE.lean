/- What is kept: taking out, told in short. -/
import Derived.Test.YtnloobnpgkpbhaaTlD
set_option linter.unusedVariables false
set_option linter.unusedSimpArgs false
set_option maxRecDepth 100000
namespace Go.Proofs.Ytnloobnpgkpbhaa.Wlk
open Go Go.Eng Go.Proofs Go.RowKit
theorem fi_cond {F : Int} {α : Type} (A : Int → α) : cond (decide (F = -1)) (A (-1)) (A F) = A F := by
  by_cases c : F = -1
  · rw [c]; rfl
  · rw [decide_eq_false c, cF]
theorem gIx_sound : FunSound Try.prog 35 (gIx fiD fiF) := by
  intro args sub κ r h
  unfold gIx at h
  split at h
  · rename_i n e f s p v w a x y
    split at h
    · rename_i hc
      rw [Bool.and_eq_true, Bool.or_eq_true] at hc
      obtain ⟨c1, c2⟩ := hc
      rcases c1 with c1 | c1
      · have c1 := Nat.eq_of_beq_eq_true c1
        subst c1
        refine (runL_sound sKf_ok mix 100 35 ix_dis lIx3G_for).gc _ _ κ r ((t_fiG fiD n e x y s p v w a κ).trans ?_)
        rw [c2, show (Nat.beq 36 36) = true from rfl, decide_eq_true rfl, Bool.and_self, Bool.and_self, Bool.and_self, cT, fi_cond (fun F => κ ⟨.e (.c (.int .i64 F)), [none, none, none]⟩)]
        exact h
      · have c1 := Nat.eq_of_beq_eq_true c1
        subst c1
        refine (runL_sound sKf_ok mix 100 35 ix_dis lIx3D_for).gc _ _ κ r ((t_fiDr fiD n e x y s p v w a κ).trans ?_)
        rw [c2, show (Nat.beq 46 46) = true from rfl, decide_eq_true rfl, Bool.and_self, Bool.and_self, Bool.and_self, cT, fi_cond (fun F => κ ⟨.e (.c (.int .i64 F)), [none, none, none]⟩)]
        exact h
    · cases h
  · rename_i n e s p v w a x
    split at h
    · rename_i c2
      refine (runL_sound sKf_ok mix 100 35 ix_dis lIx2_for).gc _ _ κ r ((t_fiFl fiF n e x s p v w a κ).trans ?_)
      rw [c2, show (Nat.beq 38 38) = true from rfl, decide_eq_true rfl, Bool.and_self, Bool.and_self, Bool.and_self, cT, fi_cond (fun F => κ ⟨.e (.c (.int .i64 F)), [none, none]⟩)]
      exact h
    · cases h
  · rename_i f x y
    exact runG_sound sKf_ok mix 100 35 _ _ κ r ((t_fiN2 f x y κ).trans h)
  · rename_i f x
    exact runG_sound sKf_ok mix 100 35 _ _ κ r ((t_fiN1 f x κ).trans h)
  · cases h
/-- What a test leaves of the first places. -/
def filtN {α : Type} (h : Nat → Bool) (c : List α) (d : α) : Nat → List α
  | 0 => []
  | n + 1 => filtN h c d n ++ (if h n = true then [] else [c.getD n d])
def cntN (h : Nat → Bool) : Nat → Nat
  | 0 => 0
  | n + 1 => cntN h n + (if h n = true then 0 else 1)
theorem filtN_len {α : Type} (h : Nat → Bool) (c : List α) (d : α) : ∀ n, (filtN h c d n).length = cntN h n
  | 0 => rfl
  | n + 1 => by
    rw [filtN, cntN, List.length_append, filtN_len h c d n]
    split <;> rfl
theorem cntN_le (h : Nat → Bool) : ∀ n, cntN h n ≤ n
  | 0 => Nat.le_refl _
  | n + 1 => by
    have := cntN_le h n
    rw [cntN]; split <;> omega
/-- A column on the way: what is left, and behind it what was. -/
def midN {α : Type} (h : Nat → Bool) (c : List α) (d : α) (i : Nat) : List α := filtN h c d i ++ c.drop (cntN h i)
theorem midN_len {α : Type} (h : Nat → Bool) (c : List α) (d : α) (i : Nat) (hi : i ≤ c.length) : (midN h c d i).length = c.length := by
  have := cntN_le h i
  rw [midN, List.length_append, filtN_len, List.length_drop]; omega
theorem midN_get {α : Type} (h : Nat → Bool) (c : List α) (d : α) (i : Nat) (hi : i < c.length) : (midN h c d i).getD i d = c.getD i d := by
  have := cntN_le h i
  rw [midN, List.getD_eq_getElem?_getD, List.getElem?_append_right (by rw [filtN_len]; exact this), filtN_len, List.getElem?_drop, List.getD_eq_getElem?_getD]
  congr 2; omega
theorem midN_yes {α : Type} (h : Nat → Bool) (c : List α) (d : α) (i : Nat) (hh : h i = true) : midN h c d (i + 1) = midN h c d i := by
  rw [midN, midN, filtN, cntN, if_pos hh, if_pos hh, List.append_nil, Nat.add_zero]
theorem midN_no {α : Type} (h : Nat → Bool) (c : List α) (d : α) (i : Nat) (hi : i < c.length) (hh : h i = false) : midN h c d (i + 1) = (midN h c d i).set (cntN h i) (c.getD i d) := by
  have k := cntN_le h i
  have hf : ¬ h i = true := by rw [hh]; decide
  rw [midN, midN, filtN, cntN, if_neg hf, if_neg hf, List.set_append_right _ _ (by rw [filtN_len]; exact Nat.le_refl _), filtN_len, Nat.sub_self, List.drop_eq_getElem_cons (show cntN h i < c.length by omega), List.set_cons_zero, List.append_assoc]
  rfl
def anyN (h : Nat → Bool) : Nat → Nat → Bool
  | 0, _ => false
  | j + 1, i => !h i || anyN h j (i + 1)
end Go.Proofs.Ytnloobnpgkpbhaa.Wlk
