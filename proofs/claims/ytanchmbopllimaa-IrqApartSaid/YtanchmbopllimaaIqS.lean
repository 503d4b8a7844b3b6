/- Lines of interrupts: what is needed without the reference. -/
import Derived.Test.YtanchmbopllimaaIqE
set_option linter.unusedVariables false
set_option linter.unusedSimpArgs false
set_option maxRecDepth 100000
namespace Go.Proofs.Ytanchmbopllimaa.Wlk
open Go Go.Eng Go.Proofs Go.RowKit
def bC : List Bool → List AC → List AC
  | [], k => k
  | b :: r, k => .bool b :: bC r k
def iC : List Int → List AC
  | [] => []
  | n :: r => .int .i64 n :: iC r
def tR : List Bool → List Nat
  | [] => []
  | b :: r => (if b = true then 1 else 0) :: tR r
theorem bits_tR : ∀ (is : List Bool), bitsT (tR is) = is
  | [] => rfl
  | b :: r => by rw [tR, bitsT, bits_tR r]; cases b <;> rfl
theorem tR_up (ix : Nat) : ∀ (j : Nat) (is : List Bool), upT ix j (tR is) = tR (setN ix true j is)
  | j, [] => rfl
  | j, b :: r => by
    rw [tR, upT, setN, tR, tR_up ix (j + 1) r]
    by_cases c : ix = j
    · rw [if_pos c, if_pos c]; cases b <;> rfl
    · rw [if_neg c, if_neg c]
theorem tR_dn (ix : Nat) : ∀ (j : Nat) (is : List Bool), dnT ix j (tR is) = tR (setN ix false j is)
  | j, [] => rfl
  | j, b :: r => by
    rw [tR, dnT, setN, tR, tR_dn ix (j + 1) r]
    by_cases c : ix = j
    · rw [if_pos c, if_pos c]; cases b <;> rfl
    · rw [if_neg c, if_neg c]
theorem setN_length {α : Type} (ix : Nat) (x : α) : ∀ (j : Nat) (l : List α), (setN ix x j l).length = l.length
  | _, [] => rfl
  | j, _ :: r => congrArg (· + 1) (setN_length ix x (j + 1) r)
theorem setN_out {α : Type} (ix : Nat) (x : α) : ∀ (j : Nat) (l : List α), j + l.length ≤ ix → setN ix x j l = l
  | _, [], _ => rfl
  | j, y :: r, h => by
    simp only [List.length_cons] at h
    rw [setN, if_neg (by omega), setN_out ix x (j + 1) r (by omega)]
theorem inL_lt {n : Int} (h : inL n = true) : n.toNat < 8 := by
  unfold inL at h
  simp only [Bool.and_eq_true, decide_eq_true_eq] at h
  omega
theorem same_ff {a b : Int} (h : a = b) : (a != b) = false := by simp [h]
theorem bsame_ff {a b : Bool} (h : a = b) : (!(a == b)) = false := by subst h; cases a <;> rfl
theorem ctr {α : Type} {c : Bool} {a b : α} (h : c = true) : cond c a b = a := by subst h; exact cT a b
theorem cfr {α : Type} {c : Bool} {a b : α} (h : c = false) : cond c a b = b := by subst h; exact cF a b
noncomputable def isQ (p : Prop) : Bool := @decide p (Classical.propDecidable p)
theorem isQ_spec {p : Prop} (h : isQ p = true) : p := @of_decide_eq_true _ (Classical.propDecidable _) h
theorem isQ_of {p : Prop} (h : p) : isQ p = true := @decide_eq_true _ (Classical.propDecidable _) h
abbrev vP (n : Nat) : AV := .e (.c (.ptr ⟨n, 0, 0, 0, 0, 0, 0⟩))
def news : List (Option Block) → Heap
  | [] => []
  | b :: r => (true, b) :: news r
def gWorks : Fun := fun args sub κ => match args, sub with
  | [], [] => κ ⟨.e (.c (.bool true)), []⟩
  | _, _ => none
theorem t_worksG (k : Res → Option Res) : runG Try.prog sQ2 60 7 [] [] k = (k (Res.mk (AV.e (AE.c (AC.bool true))) [])) := by kernel_rfl
theorem gWorks_sound : FunSound Try.prog 7 gWorks := by
  refine (runF_sound sQ2_ok mix 60 7).gc.short fun args sub κ r h => ?_
  unfold gWorks at h
  split at h
  · exact (t_worksG κ).trans h
  · cases h
noncomputable def sW : Summ := sAdd sQ2 7 gWorks
theorem sW_ok : SummOk Try.prog sW := sAdd_ok sQ2_ok gWorks_sound (enters Try.func7 rfl (by kernel_rfl))
abbrev bQb (b : Nat) (os : List Int) (ms : List Bool) : Bool × Option Block := (true, some ⟨false, .mix (qCells b os ms)⟩)
abbrev bB (l : List Bool) : Bool × Option Block := (true, some ⟨false, .mix (bC l [])⟩)
abbrev bI (l : List Int) : Bool × Option Block := (true, some ⟨false, .mix (iC l)⟩)
noncomputable def cAt (id : Nat) (V : List AV) (H : Heap) (V' : List AV) (H' : Heap) : HeadO := fun vs h K => match isQ (vs = V ∧ h = H) with
  | true => K (.exit id) V' H'
  | false => none
theorem cAt_sound {S : Summ} {I : LI} {y : Code} {id : Nat} {V : List AV} {H : Heap} {V' : List AV} {H' : Heap} (hS : SummOk Try.prog S) (n : Nat) (e : ∀ K : HeadK, iterR Try.prog S lNil I 60 y n V H K = K (.exit id) V' H') : HeadSound Try.prog I y (cAt id V H V' H') := by
  refine HeadSound.short (iterR_sound (F := 60) hS mix lNil_ok) fun vs h K r q => ?_
  unfold cAt at q
  split at q
  · rename_i hc
    obtain ⟨rfl, rfl⟩ := isQ_spec hc
    exact ⟨n, (e K).trans q⟩
  · cases q
theorem wd_bits : ∀ e0 e1 e2 e3 e4 e5 e6 e7 : Bool, (Int.tmod (Int.fdiv (wd 0 0 [e0, e1, e2, e3, e4, e5, e6, e7]) 1) 2 == 1) = e0 ∧ (Int.tmod (Int.fdiv (wd 0 0 [e0, e1, e2, e3, e4, e5, e6, e7]) 2) 2 == 1) = e1 ∧ (Int.tmod (Int.fdiv (wd 0 0 [e0, e1, e2, e3, e4, e5, e6, e7]) 4) 2 == 1) = e2 ∧ (Int.tmod (Int.fdiv (wd 0 0 [e0, e1, e2, e3, e4, e5, e6, e7]) 8) 2 == 1) = e3 ∧ (Int.tmod (Int.fdiv (wd 0 0 [e0, e1, e2, e3, e4, e5, e6, e7]) 16) 2 == 1) = e4 ∧ (Int.tmod (Int.fdiv (wd 0 0 [e0, e1, e2, e3, e4, e5, e6, e7]) 32) 2 == 1) = e5 ∧ (Int.tmod (Int.fdiv (wd 0 0 [e0, e1, e2, e3, e4, e5, e6, e7]) 64) 2 == 1) = e6 ∧ (Int.tmod (Int.fdiv (wd 0 0 [e0, e1, e2, e3, e4, e5, e6, e7]) 128) 2 == 1) = e7 := by decide +kernel
end Go.Proofs.Ytanchmbopllimaa.Wlk
