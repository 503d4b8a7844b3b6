/- The law of walks over any memory, walked. -/
import Derived.Test.YtplinjjleenomaaWalkE
set_option linter.unusedVariables false
set_option linter.unusedSimpArgs false
set_option maxRecDepth 100000
namespace Go.Proofs.Ytplinjjleenomaa.Wlk
open Go Go.Eng Go.Proofs Go.RowKit
theorem cT {α : Type} (a b : α) : cond true a b = a := by
  have h : ∀ c : Bool, c = true → cond c a b = a := fun c hc => by rw [hc, cond_true]
  exact h true rfl
theorem cF {α : Type} (a b : α) : cond false a b = b := by
  have h : ∀ c : Bool, c = false → cond c a b = b := fun c hc => by rw [hc, cond_false]
  exact h false rfl
def allI (l : List Int) : Bool := l.all inI
theorem getD_allI {l : List Int} (h : allI l = true) (i : Nat) : inI (l.getD i 0) = true := by
  rw [List.getD_eq_getElem?_getD]
  cases e : l[i]? with
  | none => rfl
  | some x =>
    simp only [allI, List.all_eq_true] at h
    exact h x (List.mem_of_getElem? e)
theorem allI_of {l : List Int} (h : ∀ n ∈ l, IntKind.i64.min ≤ n ∧ n ≤ IntKind.i64.max) : allI l = true := by
  simp only [allI, List.all_eq_true]
  intro x hx
  obtain ⟨h1, h2⟩ := h x hx
  have e1 : IntKind.min .i64 = -9223372036854775808 := by decide
  have e2 : IntKind.max .i64 = 9223372036854775807 := by decide
  rw [e1] at h1; rw [e2] at h2
  exact inI_of h1 h2
def doesF (S : List Int → Int → Int → Int → List Int) (d : Int) (an vn : List Int) : Nat → Nat → List Int → List Int
  | 0, _, ws => ws
  | j + 1, i, ws => if i < an.length then doesF S d an vn j (i + 1) (if i < vn.length then S ws d (an.getD i 0) (vn.getD i 0) else ws) else ws
theorem doesF_ok (d : Int) (an vn : List Int) (hv : allW vn = true) : ∀ j i ws, allW ws = true → (doesF stW d an vn j i ws).length = ws.length ∧ allW (doesF stW d an vn j i ws) = true
  | 0, _, ws, h => ⟨rfl, h⟩
  | j + 1, i, ws, h => by
    simp only [doesF]
    split
    · split
      · have := doesF_ok d an vn hv j (i + 1) (stW ws d (an.getD i 0) (vn.getD i 0)) (stW_all h (getD_all hv i))
        rw [stW_len] at this; exact this
      · exact doesF_ok d an vn hv j (i + 1) ws h
    · exact ⟨rfl, h⟩
theorem loopDoes (d : Int) (l an vn : List Int) (x y : Nat) (hd : inI d = true) (ha : allI an = true) (hv : allW vn = true) (hal : an.length < 4611686018427387904) (hvl : vn.length < 4611686018427387904) (K : HeadK) : ∀ (j i : Nat) (ws : List Int), i + j = 30 → allW ws = true → ws.length ≤ 65536 →
    iterR Try.prog sW lNil iDoes 60 (loopOf Try.prog 5 0) (j + 1) (doesV d an.length vn.length i) (doesH l an vn ws.length x ws.length y ws ws) K =
      K (.exit 0) [.e (.c (.ptr ⟨3, 0, 0, 0, 0, 0, 0⟩)), .e (.c (.ptr ⟨4, 0, 0, 0, 0, 0, 0⟩))] (doesH l an vn ws.length x ws.length y (doesF stW d an vn j i ws) (doesF stW d an vn j i ws))
  | 0, i, ws, hi, hw, hl => by
    rw [iterR]
    refine (t_doesB mdN mdW toA toE pgV pgW pgA pgE ldV stW d i l an vn an.length vn.length ws.length x ws.length y ws ws _).trans ?_
    rw [decide_eq_false (show ¬ (i : Int) < 30 by omega), cond_false]
    cases decide ((i : Int) < (an.length : Int))
    · rw [cond_false]; rfl
    · rw [cond_true]; rfl
  | j + 1, i, ws, hi, hw, hl => by
    rw [iterR]
    refine (t_doesB mdN mdW toA toE pgV pgW pgA pgE ldV stW d i l an vn an.length vn.length ws.length x ws.length y ws ws _).trans ?_
    rw [decide_eq_true (show (i : Int) < 30 by omega), cond_true]
    by_cases c1 : i < an.length
    rotate_left
    · rw [decide_eq_false (show ¬ (i : Int) < (an.length : Int) by omega), cond_false]
      simp only [doesF, c1, if_false]
    have f1 : okM ws.length ws = true := by simp [okM, hl]
    have f2 : inI (an.getD i 0) = true := getD_allI ha i
    rw [decide_eq_true (show (i : Int) < (an.length : Int) by omega), cond_true, decide_eq_true (show (0 : Int) ≤ i by omega), Bool.and_self, cond_true, Int.toNat_natCast, Nat.zero_add, decide_eq_true c1, cond_true, f1, hd, f2, hw, Bool.and_self, Bool.and_self]
    rw [cond_true, cond_true, cond_true, cond_true, cond_true, cond_true, cond_true, cond_true, cond_true, cond_true]
    simp only [beq_self_eq_true, bne_self_eq_false, Bool.and_self, Bool.not_true]
    rw [cond_false, cond_false, cond_false, cond_false, wrap_i64 (n := (i : Int) + 1) (by omega) (by omega), show (i : Int) + 1 = ((i + 1 : Nat) : Int) from by omega]
    by_cases c2 : i < vn.length
    · have ih := loopDoes d l an vn x y hd ha hv hal hvl K j (i + 1) (stW ws d (an.getD i 0) (vn.getD i 0)) (by omega) (stW_all hw (getD_all hv i)) (by rw [stW_len]; exact hl)
      simp only [stW_len] at ih
      have f3 : okM ws.length (stW ws d (an.getD i 0) (vn.getD i 0)) = true := by simp [okM, stW_len, hl]
      have f4 := stW_all hw (d := d) (a := an.getD i 0) (getD_all hv i)
      rw [decide_eq_true (show (i : Int) < (vn.length : Int) by omega), decide_eq_true c2, f3, f4]
      simp only [Bool.and_self, cT, cF]
      refine ih.trans ?_
      simp only [doesF, c1, c2, if_true]
    · have ih := loopDoes d l an vn x y hd ha hv hal hvl K j (i + 1) ws (by omega) hw hl
      rw [decide_eq_false (show ¬ (i : Int) < (vn.length : Int) by omega), cond_false]
      simp only [cT, cF]
      refine ih.trans ?_
      simp only [doesF, c1, c2, if_true, if_false]
def cDoesV (S : List Int → Int → Int → Int → List Int) : HeadO := fun vs h K => match vs, h with
  | [.e (.c (.int .i64 d)), .e (.c (.slice ⟨1, 0, 1, 0, 0, 0, 0⟩ 1 al 0 false)), .e (.c (.slice ⟨2, 0, 1, 0, 0, 0, 0⟩ 1 vl 0 false)), .e (.c (.ptr ⟨3, 0, 0, 0, 0, 0, 0⟩)), .e (.c (.ptr ⟨4, 0, 0, 0, 0, 0, 0⟩)), .e (.c (.int .i64 i))],
    [(false, some ⟨true, .rows [.ints .u64 l]⟩), (false, some ⟨true, .rows [.ints .i64 an]⟩), (false, some ⟨true, .rows [.ints .u64 vn]⟩), (true, some ⟨false, .mix [.slice ⟨5, 0, 1, 0, 0, 0, 0⟩ 1 n x true]⟩), (true, some ⟨false, .mix [.slice ⟨6, 0, 1, 0, 0, 0, 0⟩ 1 m y true]⟩), (true, some ⟨false, .rows [.ints .u64 ws]⟩), (true, some ⟨false, .rows [.ints .u64 wt]⟩)] =>
    match decide (i = 0) && inI d && allI an && allW vn && allW ws && okM n ws && Nat.beq m n && decide (wt = ws) && Nat.beq al an.length && Nat.beq vl vn.length && decide (an.length < 4611686018427387904) && decide (vn.length < 4611686018427387904) with
    | true => K (.exit 0) [.e (.c (.ptr ⟨3, 0, 0, 0, 0, 0, 0⟩)), .e (.c (.ptr ⟨4, 0, 0, 0, 0, 0, 0⟩))]
        [(false, some ⟨true, .rows [.ints .u64 l]⟩), (false, some ⟨true, .rows [.ints .i64 an]⟩), (false, some ⟨true, .rows [.ints .u64 vn]⟩), (true, some ⟨false, .mix [.slice ⟨5, 0, 1, 0, 0, 0, 0⟩ 1 n x true]⟩), (true, some ⟨false, .mix [.slice ⟨6, 0, 1, 0, 0, 0, 0⟩ 1 m y true]⟩), (true, some ⟨false, .rows [.ints .u64 (doesF S d an vn 30 0 ws)]⟩), (true, some ⟨false, .rows [.ints .u64 (doesF S d an vn 30 0 ws)]⟩)]
    | false => none
  | _, _ => none
theorem cDoes_sound : HeadSound Try.prog iDoes (loopOf Try.prog 5 0) (cDoesV stW) := by
  refine HeadSound.short (iterR_sound (F := 60) sWl_ok mix lNil_ok) fun vs h K r e => ?_
  unfold cDoesV at e
  split at e
  · rename_i d al vl i l an vn n x m y ws wt
    split at e
    · rename_i hc
      simp only [Bool.and_eq_true, decide_eq_true_eq] at hc
      obtain ⟨⟨⟨⟨⟨⟨⟨⟨⟨⟨⟨rfl, c1⟩, c2⟩, c3⟩, c4⟩, c5⟩, c6⟩, rfl⟩, c7⟩, c8⟩, c9⟩, c10⟩ := hc
      obtain ⟨rfl, hn⟩ := okM_spec c5
      have c6 := Nat.eq_of_beq_eq_true c6
      have c7 := Nat.eq_of_beq_eq_true c7
      have c8 := Nat.eq_of_beq_eq_true c8
      subst c6; subst c7; subst c8
      exact ⟨31, (loopDoes d l an vn x y c1 c2 c3 c9 c10 K 30 0 wt (by omega) c4 hn).trans e⟩
    · cases e
  · cases e
noncomputable def lDoesV (S : List Int → Int → Int → Int → List Int) : Nat → Option Orc := lAdd lNil 0 (wrapO iDoes 0 (cDoesV S))
theorem lDoes_for : LFor 3 Try.prog 5 (lDoesV stW) := lAdd_for (I := iDoes) lNil_for (by kernel_rfl) cDoes_sound
theorem does_dis : Go.Eng.distinct (blockIds (codeOf Try.prog 5)) = true := by kernel_rfl
end Go.Proofs.Ytplinjjleenomaa.Wlk
