/- Flushed: the plain law. -/
import Derived.Test.YtnloobnpgkpbhaaTlYc
set_option linter.unusedVariables false
set_option linter.unusedSimpArgs false
set_option maxRecDepth 100000
namespace Go.Proofs.Ytnloobnpgkpbhaa.Wlk
open Go Go.Eng Go.Proofs Go.RowKit
/-- Filled in one after the other. -/
def flS (l1 l2 : List Int) : Nat → Nat → List Ro → List Ro
  | 0, _, L => L
  | c + 1, i, L => flS l1 l2 c (i + 1) (fillL (kx l1 i 4) (kx l2 i 256) true false 16 L)
def flX (l1 l2 : List Int) : Nat → Nat → List Ro → Nat → Nat
  | 0, _, _, e => e
  | c + 1, i, L, e => flX l1 l2 c (i + 1) (fillL (kx l1 i 4) (kx l2 i 256) true false 16 L) (fillX (kx l1 i 4) (kx l2 i 256) L e)
theorem flS_inv (l1 l2 : List Int) : ∀ (c i : Nat) (L : List Ro) (e : Nat), InvT L e → InvT (flS l1 l2 c i L) (flX l1 l2 c i L e)
  | 0, _, _, _, h => h
  | c + 1, i, L, e, h => flS_inv l1 l2 c (i + 1) _ _ (h.fill _ _ _ _ _)
def orF (l1 l2 : List Int) (s p : Int) : Nat → Nat → Bool → Bool
  | 0, _, b => b
  | c + 1, i, b => orF l1 l2 s p c (i + 1) (b || (kx l1 i 4 == s && kx l2 i 256 == p))
theorem mem_fill (x y s p : Int) (v w : Bool) (a : Int) (L : List Ro) (h : (keys L).length < 8) : ((s, p) ∈ keys (fillL x y v w a L)) ↔ ((s, p) ∈ keys L ∨ (x = s ∧ y = p)) := by
  have hl : (flK x y (keys L)).length ≤ (keys L).length := List.length_filter_le _ _
  rw [keys_fill, if_neg (by omega), List.mem_append, List.mem_singleton, Prod.mk.injEq]
  unfold flK
  rw [List.mem_filter]
  constructor
  · rintro (⟨h1, _⟩ | h1)
    · exact .inl h1
    · exact .inr ⟨h1.1.symm, h1.2.symm⟩
  · rintro (h1 | h1)
    · by_cases c : s = x ∧ p = y
      · exact .inr c
      · refine .inl ⟨h1, ?_⟩
        simp only [neK, Bool.and_true, Bool.not_eq_true', Bool.and_eq_false_iff, beq_eq_false_iff_ne]
        by_cases c1 : s = x
        · exact .inr fun c2 => c ⟨c1, c2⟩
        · exact .inl c1
    · exact .inr ⟨h1.1.symm, h1.2.symm⟩
theorem len_fill_le (x y : Int) (v w : Bool) (a : Int) (L : List Ro) : (keys (fillL x y v w a L)).length ≤ (keys L).length + 1 := by
  have := drop_le x y L
  rw [keys_len, keys_len, fill_len]
  split <;> omega
theorem flS_mem (l1 l2 : List Int) (s p : Int) : ∀ (c i : Nat) (L : List Ro) (b : Bool), (keys L).length + c ≤ 8 → (((s, p) ∈ keys L) ↔ b = true) → (((s, p) ∈ keys (flS l1 l2 c i L)) ↔ orF l1 l2 s p c i b = true)
  | 0, _, _, _, _, h => h
  | c + 1, i, L, b, hl, h => by
    have := len_fill_le (kx l1 i 4) (kx l2 i 256) true false 16 L
    refine flS_mem l1 l2 s p c (i + 1) _ _ (by omega) ?_
    rw [mem_fill _ _ _ _ _ _ _ _ (by omega), h, Bool.or_eq_true, Bool.and_eq_true, beq_iff_eq, beq_iff_eq]
def InR (L : List Ro) : Prop := ∀ q ∈ keys L, 0 ≤ q.1 ∧ q.1 < 4 ∧ 0 ≤ q.2 ∧ q.2 < 256
theorem InR.fill {L : List Ro} (h : InR L) {x y : Int} (hx : 0 ≤ x ∧ x < 4) (hy : 0 ≤ y ∧ y < 256) (v w : Bool) (a : Int) : InR (fillL x y v w a L) := by
  intro q hq
  rw [keys_fill] at hq
  have hq' : q ∈ flK x y (keys L) ++ [(x, y)] := by
    split at hq
    · exact List.mem_of_mem_drop hq
    · exact hq
  rw [List.mem_append, List.mem_singleton] at hq'
  rcases hq' with h1 | h1
  · exact h q (List.mem_filter.1 h1).1
  · subst h1; exact ⟨hx.1, hx.2, hy.1, hy.2⟩
theorem flS_in (l1 l2 : List Int) : ∀ (c i : Nat) (L : List Ro), InR L → InR (flS l1 l2 c i L)
  | 0, _, _, h => h
  | c + 1, i, L, h => flS_in l1 l2 c (i + 1) _ (h.fill (kx_in l1 i (by omega) (by omega)) (kx_in l2 i (by omega) (by omega)) _ _ _)
theorem keys_flush (c : Int) (L : List Ro) : keys (flushL c L) = (keys L).filter fun q => !(q.1 == c) := by
  unfold keys flushL
  rw [List.filter_map]
  rfl
theorem InvT.flush {L : List Ro} {e : Nat} (h : InvT L e) (c : Int) : InvT (flushL c L) (e + (L.length - (flushL c L).length)) := by
  have := flush_le c L
  have := h.len
  have := h.room
  refine ⟨?_, by omega, by omega⟩
  rw [keys_flush]
  exact List.Pairwise.filter _ h.nd
theorem ktI_flush (s p c : Int) (L : List Ro) : ktI s p (flushL c L) = (ktI s p L && !(s == c)) := by
  have h1 := ktI_iff s p (flushL c L)
  have h2 := ktI_iff s p L
  rw [keys_flush, List.mem_filter] at h1
  cases e1 : ktI s p (flushL c L) <;> cases e2 : ktI s p L <;> cases e3 : (s == c) <;> simp_all
/-- How many of some places of a row are there. -/
def cntR (h : Int → Bool) : Nat → Nat → Nat
  | 0, _ => 0
  | c + 1, i => (if h i = true then 1 else 0) + cntR h c (i + 1)
def cntA (h : Int → Int → Bool) : Nat → Nat → Nat
  | 0, _ => 0
  | c + 1, i => cntR (h i) 256 0 + cntA h c (i + 1)
theorem cntR_le (h : Int → Bool) : ∀ c i, cntR h c i ≤ c
  | 0, _ => Nat.le_refl _
  | c + 1, i => by have := cntR_le h c (i + 1); rw [cntR]; split <;> omega
theorem cntR_ext {h g : Int → Bool} : ∀ c i, (∀ j : Nat, i ≤ j → j < i + c → h j = g j) → cntR h c i = cntR g c i
  | 0, _, _ => rfl
  | c + 1, i, hh => by rw [cntR, cntR, hh i (by omega) (by omega), cntR_ext c (i + 1) fun j h1 h2 => hh j (by omega) (by omega)]
theorem cntR_false : ∀ c i, cntR (fun _ => false) c i = 0
  | 0, _ => rfl
  | c + 1, i => by rw [cntR, cntR_false c (i + 1)]; rfl
/-- One place more. -/
theorem cntR_one {h : Int → Bool} (k : Nat) (hk : h k = false) : ∀ c i, cntR (fun j => j == (k : Int) || h j) c i = (if i ≤ k ∧ k < i + c then 1 else 0) + cntR h c i
  | 0, i => by rw [cntR, cntR, if_neg (by omega)]
  | c + 1, i => by
    rw [cntR, cntR, cntR_one k hk c (i + 1)]
    by_cases e : i = k
    · subst e
      rw [hk, if_neg (by omega : ¬ (i + 1 ≤ i ∧ i < i + 1 + c)), if_pos (by omega : i ≤ i ∧ i < i + (c + 1))]
      simp
    · have e1 : ((i : Int) == (k : Int)) = false := by rw [beq_eq_false_iff_ne]; omega
      simp only [e1, Bool.false_or]
      by_cases f : i + 1 ≤ k ∧ k < i + 1 + c
      · rw [if_pos f, if_pos (by omega : i ≤ k ∧ k < i + (c + 1))]; omega
      · rw [if_neg f, if_neg (by omega : ¬ (i ≤ k ∧ k < i + (c + 1)))]; omega
theorem cntA_ext {h g : Int → Int → Bool} : ∀ c i, (∀ s p : Nat, i ≤ s → s < i + c → p < 256 → h s p = g s p) → cntA h c i = cntA g c i
  | 0, _, _ => rfl
  | c + 1, i, hh => by rw [cntA, cntA, cntR_ext 256 0 (fun j h1 h2 => hh i j (by omega) (by omega) (by omega)), cntA_ext c (i + 1) fun s p h1 h2 h3 => hh s p (by omega) (by omega) h3]
theorem cntA_one {h : Int → Int → Bool} (k m : Nat) (hm : m < 256) (hk : h k m = false) : ∀ c i, cntA (fun s p => (s == (k : Int) && p == (m : Int)) || h s p) c i = (if i ≤ k ∧ k < i + c then 1 else 0) + cntA h c i
  | 0, i => by rw [cntA, cntA, if_neg (by omega)]
  | c + 1, i => by
    rw [cntA, cntA, cntA_one k m hm hk c (i + 1)]
    by_cases e : i = k
    · subst e
      rw [if_neg (by omega : ¬ (i + 1 ≤ i ∧ i < i + 1 + c)), if_pos (by omega : i ≤ i ∧ i < i + (c + 1))]
      have := cntR_one (h := h i) m hk 256 0
      rw [if_pos (by omega)] at this
      rw [show (fun p => ((i : Int) == (i : Int) && p == (m : Int)) || h i p) = (fun p => p == (m : Int) || h i p) from by funext p; simp, this]
      omega
    · have e1 : ((i : Int) == (k : Int)) = false := by rw [beq_eq_false_iff_ne]; omega
      rw [show (fun p => ((i : Int) == (k : Int) && p == (m : Int)) || h i p) = h i from by funext p; simp [e1]]
      by_cases f : i + 1 ≤ k ∧ k < i + 1 + c
      · rw [if_pos f, if_pos (by omega : i ≤ k ∧ k < i + (c + 1))]; omega
      · rw [if_neg f, if_neg (by omega : ¬ (i ≤ k ∧ k < i + (c + 1)))]; omega
def memB (I : List Ky) (s p : Int) : Bool := decide ((s, p) ∈ I)
theorem cntA_false : ∀ c i, cntA (fun _ _ => false) c i = 0
  | 0, _ => rfl
  | c + 1, i => by rw [cntA, cntR_false, cntA_false c (i + 1)]
theorem cntA_mem (c : Nat) (hc : c = 4) (I : List Ky) : I.Nodup → (∀ q ∈ I, 0 ≤ q.1 ∧ q.1 < 4 ∧ 0 ≤ q.2 ∧ q.2 < 256) → cntA (memB I) c 0 = I.length := by
  induction I with
  | nil =>
    intro _ _
    rw [show memB [] = (fun _ _ => false) from by funext s p; simp [memB]]
    exact cntA_false c 0
  | cons q I ih =>
    obtain ⟨x, y⟩ := q
    intro hn hr
    rw [List.nodup_cons] at hn
    have r := hr (x, y) (List.mem_cons_self ..)
    simp only at r
    obtain ⟨k, hk⟩ : ∃ k : Nat, x = (k : Int) := ⟨x.toNat, by omega⟩
    obtain ⟨m, hm⟩ : ∃ m : Nat, y = (m : Int) := ⟨y.toNat, by omega⟩
    subst hk hm
    have ih' := ih hn.2 fun q hq => hr q (List.mem_cons_of_mem _ hq)
    have h1 := cntA_one (h := memB I) k m (by omega) (by simp [memB, hn.1]) c 0
    rw [if_pos (by omega), ih'] at h1
    rw [List.length_cons, Nat.add_comm, ← h1]
    congr 1
    funext s p
    simp only [memB, List.mem_cons, Prod.mk.injEq]
    rw [Bool.decide_or, Bool.decide_and]
    rfl
theorem ktI_memB (L : List Ro) (s p : Int) : ktI s p L = memB (keys L) s p := by
  have := ktI_iff s p L
  unfold memB
  cases e : ktI s p L with
  | true => rw [e] at this; rw [decide_eq_true (this.1 rfl)]
  | false => rw [e] at this; rw [decide_eq_false fun h => Bool.false_ne_true (this.2 h)]
end Go.Proofs.Ytnloobnpgkpbhaa.Wlk
