/- What is kept: taking out, told as a loop. -/
import Derived.Test.YtnloobnpgkpbhaaTlF
set_option linter.unusedVariables false
set_option linter.unusedSimpArgs false
set_option maxRecDepth 100000
namespace Go.Proofs.Ytnloobnpgkpbhaa.Wlk
open Go Go.Eng Go.Proofs Go.RowKit
theorem fndF_spec (h : Nat → Bool) : ∀ j i, fndF h j i = -1 ∧ (∀ m, i ≤ m → m < i + j → h m = false) ∨ ∃ k : Nat, fndF h j i = (k : Int) ∧ i ≤ k ∧ k < i + j ∧ h k = true ∧ ∀ m, i ≤ m → m < k → h m = false
  | 0, i => Or.inl ⟨rfl, fun m h1 h2 => by omega⟩
  | j + 1, i => by
    rw [fndF]
    by_cases c : h i = true
    · rw [if_pos c]
      exact Or.inr ⟨i, rfl, Nat.le_refl _, by omega, c, fun m h1 h2 => by omega⟩
    · rw [if_neg c]
      have c' : h i = false := by simpa using c
      rcases fndF_spec h j (i + 1) with ⟨e, f⟩ | ⟨k, e, k1, k2, k3, k4⟩
      · refine Or.inl ⟨e, fun m m1 m2 => ?_⟩
        by_cases d : m = i
        · rw [d]; exact c'
        · exact f m (by omega) (by omega)
      · refine Or.inr ⟨k, e, by omega, by omega, k3, fun m m1 m2 => ?_⟩
        by_cases d : m = i
        · rw [d]; exact c'
        · exact k4 m (by omega) m2
theorem cntN_none (h : Nat → Bool) : ∀ k, (∀ m, m < k → h m = false) → cntN h k = k
  | 0, _ => rfl
  | k + 1, hh => by
    rw [cntN, cntN_none h k (fun m hm => hh m (by omega)), if_neg (by rw [hh k (by omega)]; decide)]
theorem filtN_none {α : Type} (h : Nat → Bool) (c : List α) (d : α) : ∀ k, k ≤ c.length → (∀ m, m < k → h m = false) → filtN h c d k = c.take k
  | 0, _, _ => by rw [List.take_zero]; rfl
  | k + 1, hk, hh => by
    rw [filtN, filtN_none h c d k (by omega) (fun m hm => hh m (by omega)), if_neg (by rw [hh k (by omega)]; decide), List.take_add_one, List.getElem?_eq_getElem (show k < c.length by omega), List.getD_eq_getElem?_getD, List.getElem?_eq_getElem (show k < c.length by omega)]
    rfl
theorem midN_none {α : Type} (h : Nat → Bool) (c : List α) (d : α) (k : Nat) (hk : k ≤ c.length) (hh : ∀ m, m < k → h m = false) : midN h c d k = c := by
  rw [midN, filtN_none h c d k hk hh, cntN_none h k hh, List.take_append_drop]
/-- Behind the first hit nothing has moved yet. -/
theorem mid_first {h : Nat → Bool} {k : Nat} (hk : h k = true) (hh : ∀ m, m < k → h m = false) : cntN h (k + 1) = k ∧ ∀ {α : Type} (c : List α) (d : α), k ≤ c.length → midN h c d (k + 1) = c := by
  refine ⟨?_, fun c d hc => ?_⟩
  · rw [cntN, cntN_none h k hh, if_pos hk, Nat.add_zero]
  · rw [midN_yes h c d k hk, midN_none h c d k hc hh]
abbrev DC := List Int → List Int → Int → Int → Nat → Nat
abbrev DZ := List Int → List Int → Int → Int → List Int → Nat → List Int
abbrev DB := List Int → List Int → Int → Int → List Bool → Nat → List Bool
abbrev DA := List Int → List Int → Int → Int → Nat → Bool
abbrev FC := List Int → Int → Nat → Nat
abbrev FZ := List Int → Int → List Int → Nat → List Int
abbrev FB := List Int → Int → List Bool → Nat → List Bool
abbrev FA := List Int → Int → Nat → Bool
def dCn (s p : List Int) (x y : Int) (n : Nat) : Nat := cntN (hitD s p x y) n
def dMz (s p : List Int) (x y : Int) (c : List Int) (n : Nat) : List Int := midN (hitD s p x y) c 0 n
def dMb (s p : List Int) (x y : Int) (c : List Bool) (n : Nat) : List Bool := midN (hitD s p x y) c false n
def dAn (s p : List Int) (x y : Int) (n : Nat) : Bool := anyN (hitD s p x y) (n - ((fiD s p x y n).toNat + 1)) ((fiD s p x y n).toNat + 1)
def fCn (s : List Int) (x : Int) (n : Nat) : Nat := cntN (hitF s x) n
def fMz (s : List Int) (x : Int) (c : List Int) (n : Nat) : List Int := midN (hitF s x) c 0 n
def fMb (s : List Int) (x : Int) (c : List Bool) (n : Nat) : List Bool := midN (hitF s x) c false n
def fAn (s : List Int) (x : Int) (n : Nat) : Bool := anyN (hitF s x) (n - ((fiF s x n).toNat + 1)) ((fiF s x n).toNat + 1)
def cDl3 (FD : ID) (C : DC) (MZ : DZ) (MB : DB) (AN : DA) : HeadO := fun vs h K => match vs, h with
  | [.e (.c (.slice ⟨0, 0, 5, 0, 0, 0, 0⟩ 5 n e false)), .e (.c (.clos 46 [⟨1, 0, 0, 0, 0, 0, 0⟩, ⟨2, 0, 0, 0, 0, 0, 0⟩])), .e (.c (.int .i64 j)), .e (.c (.int .i64 i))], [(false, some ⟨false, .rows [.ints .i64 s, .ints .i64 p, .bools v, .bools w, .ints .i64 a]⟩), (false, some ⟨false, .mix [.int .i64 x]⟩), (false, some ⟨false, .mix [.int .i64 y]⟩)] =>
    match lensK n s p v w a && decide (j = FD s p x y n) && decide (0 ≤ j) && decide (i = IntKind.wrap IntKind.i64 (j + 1)) with
    | true => K (.exit 0) [kS n e, aint .i64 (C s p x y n : Nat)] [(AN s p x y n, kB (MZ s p x y s n) (MZ s p x y p n) (MB s p x y v n) (MB s p x y w n) (MZ s p x y a n)), (false, bI x), (false, bI y)]
    | false => none
  | _, _ => none
def cDl2 (FF : IF_) (C : FC) (MZ : FZ) (MB : FB) (AN : FA) : HeadO := fun vs h K => match vs, h with
  | [.e (.c (.slice ⟨0, 0, 5, 0, 0, 0, 0⟩ 5 n e false)), .e (.c (.clos 38 [⟨1, 0, 0, 0, 0, 0, 0⟩])), .e (.c (.int .i64 j)), .e (.c (.int .i64 i))], [(false, some ⟨false, .rows [.ints .i64 s, .ints .i64 p, .bools v, .bools w, .ints .i64 a]⟩), (false, some ⟨false, .mix [.int .i64 x]⟩)] =>
    match lensK n s p v w a && decide (j = FF s x n) && decide (0 ≤ j) && decide (i = IntKind.wrap IntKind.i64 (j + 1)) with
    | true => K (.exit 0) [kS n e, aint .i64 (C s x n : Nat)] [(AN s x n, kB (MZ s x s n) (MZ s x p n) (MB s x v n) (MB s x w n) (MZ s x a n)), (false, bI x)]
    | false => none
  | _, _ => none
theorem cDl3_sound : HeadSound Try.prog iDl3 (loopOf Try.prog 37 0) (cDl3 fiD dCn dMz dMb dAn) := by
  refine HeadSound.short (iterR_sound (F := 60) sKf_ok mix lNil_ok) fun vs h K r ee => ?_
  unfold cDl3 at ee
  split at ee
  · rename_i n e j i s p v w a x y
    split at ee
    · rename_i hc
      simp only [Bool.and_eq_true, decide_eq_true_eq] at hc
      obtain ⟨⟨⟨c1, c2⟩, c3⟩, c4⟩ := hc
      obtain ⟨k1, k2, k3, k4, k5, k6⟩ := lensK_spec c1
      rcases fndF_spec (hitD s p x y) n 0 with ⟨q, _⟩ | ⟨k, q, _, q1, q2, q3⟩
      · have : fiD s p x y n = -1 := q
        omega
      have q' : fiD s p x y n = (k : Int) := q
      obtain ⟨m1, m2⟩ := mid_first q2 (fun m hm => q3 m (Nat.zero_le _) hm)
      rw [q'] at c2
      subst c2
      rw [wrap_i64 (n := (k : Int) + 1) (by omega) (by omega)] at c4
      subst c4
      have L := loopDlD n e x y s p v w a k1 k2 k3 k4 k5 k6 K (n - (k + 1)) (k + 1) false (by omega)
      rw [m1, m2 s 0 (by omega), m2 p 0 (by omega), m2 v false (by omega), m2 w false (by omega), m2 a 0 (by omega)] at L
      refine ⟨n - (k + 1) + 1, Eq.trans ?_ ee⟩
      have an : dAn s p x y n = (false || anyN (hitD s p x y) (n - (k + 1)) (k + 1)) := by unfold dAn; rw [q', Int.toNat_natCast, Bool.false_or]
      rw [an]
      exact L
    · cases ee
  · cases ee
theorem cDl2_sound : HeadSound Try.prog iDl2 (loopOf Try.prog 37 0) (cDl2 fiF fCn fMz fMb fAn) := by
  refine HeadSound.short (iterR_sound (F := 60) sKf_ok mix lNil_ok) fun vs h K r ee => ?_
  unfold cDl2 at ee
  split at ee
  · rename_i n e j i s p v w a x
    split at ee
    · rename_i hc
      simp only [Bool.and_eq_true, decide_eq_true_eq] at hc
      obtain ⟨⟨⟨c1, c2⟩, c3⟩, c4⟩ := hc
      obtain ⟨k1, k2, k3, k4, k5, k6⟩ := lensK_spec c1
      rcases fndF_spec (hitF s x) n 0 with ⟨q, _⟩ | ⟨k, q, _, q1, q2, q3⟩
      · have : fiF s x n = -1 := q
        omega
      have q' : fiF s x n = (k : Int) := q
      obtain ⟨m1, m2⟩ := mid_first q2 (fun m hm => q3 m (Nat.zero_le _) hm)
      rw [q'] at c2
      subst c2
      rw [wrap_i64 (n := (k : Int) + 1) (by omega) (by omega)] at c4
      subst c4
      have L := loopDlF n e x s p v w a k1 k2 k3 k4 k5 k6 K (n - (k + 1)) (k + 1) false (by omega)
      rw [m1, m2 s 0 (by omega), m2 p 0 (by omega), m2 v false (by omega), m2 w false (by omega), m2 a 0 (by omega)] at L
      refine ⟨n - (k + 1) + 1, Eq.trans ?_ ee⟩
      have an : fAn s x n = (false || anyN (hitF s x) (n - (k + 1)) (k + 1)) := by unfold fAn; rw [q', Int.toNat_natCast, Bool.false_or]
      rw [an]
      exact L
    · cases ee
  · cases ee
noncomputable def lDl3 (FD : ID) (C : DC) (MZ : DZ) (MB : DB) (AN : DA) : Nat → Option Orc := lAdd lNil 0 (wrapO iDl3 0 (cDl3 FD C MZ MB AN))
noncomputable def lDl2 (FF : IF_) (C : FC) (MZ : FZ) (MB : FB) (AN : FA) : Nat → Option Orc := lAdd lNil 0 (wrapO iDl2 0 (cDl2 FF C MZ MB AN))
theorem lDl3_for : LFor 3 Try.prog 37 (lDl3 fiD dCn dMz dMb dAn) := lAdd_for (I := iDl3) lNil_for (by kernel_rfl) cDl3_sound
theorem lDl2_for : LFor 2 Try.prog 37 (lDl2 fiF fCn fMz fMb fAn) := lAdd_for (I := iDl2) lNil_for (by kernel_rfl) cDl2_sound
theorem dl_dis : Go.Eng.distinct (blockIds (codeOf Try.prog 37)) = true := by kernel_rfl
noncomputable def sKi (FD : ID) (FF : IF_) : Summ := sAdd sKf 35 (gIx FD FF)
theorem sKi_ok : SummOk Try.prog (sKi fiD fiF) := sAdd_ok sKf_ok gIx_sound (enters Try.func35 rfl (by kernel_rfl))
end Go.Proofs.Ytnloobnpgkpbhaa.Wlk
