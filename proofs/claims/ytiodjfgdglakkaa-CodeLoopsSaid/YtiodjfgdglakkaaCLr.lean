/- The law CodeLoops, walked. -/
import Derived.Test.YtiodjfgdglakkaaCLq
set_option linter.unusedVariables false
set_option linter.unusedSimpArgs false
set_option maxRecDepth 100000
namespace Go.Proofs.Ytiodjfgdglakkaa.Wlk
open Go Go.Eng Go.Proofs Go.RowKit
theorem cT {α : Type} (a b : α) : cond true a b = a := by
  have h : ∀ c : Bool, c = true → cond c a b = a := fun c hc => by rw [hc, cond_true]
  exact h true rfl
theorem cF {α : Type} (a b : α) : cond false a b = b := by
  have h : ∀ c : Bool, c = false → cond c a b = b := fun c hc => by rw [hc, cond_false]
  exact h false rfl
def addF (a : Int) : Nat → Int → Int
  | 0, z => z
  | n + 1, z => addF a n (addU z a)
theorem addF_mul (a : Int) : ∀ (n : Nat) (z : Int), 0 ≤ z → z < 18446744073709551616 → addF a n z = IntKind.u64.wrap (z + a * n)
  | 0, z, h0, h1 => by simp only [addF]; rw [wrap_u64_emod]; omega
  | n + 1, z, h0, h1 => by
    have hz : 0 ≤ addU z a ∧ addU z a < 18446744073709551616 := by unfold addU; rw [wrap_u64_emod]; omega
    simp only [addF]
    rw [addF_mul a n (addU z a) hz.1 hz.2]
    unfold addU
    rw [wrap_u64_emod, wrap_u64_emod, wrap_u64_emod, show a * ((n + 1 : Nat) : Int) = a * (n : Int) + a by rw [Int.natCast_add, Int.mul_add]; simp]
    rw [Int.emod_add_emod]
    congr 1
    omega
theorem vl3 (x y m : Int) : VL addU 3 x y m = addU x y := by simp [VL]
theorem vl4 (y : Int) : VL addU 4 y 1 0 = IntKind.u64.wrap (y - 1) := by rw [VL_eq]; rfl
theorem loop_run (a st : Int) (K : HeadK) (hst : st ≤ 4611686018427387904) : ∀ (n : Nat) (i z : Int), n ≤ 39 → 0 ≤ i → i + 4 * n + 1 = st →
    iterR Try.prog (sLp addU) lNil iLoop 60 (loopOf Try.prog 20 0) (4 * n + 2) (lpV st 0 i) (lpH a n z) K =
      K (.exit 0) [.e (.c (.ptr ⟨1, 0, 0, 0, 0, 0, 0⟩)), .e (.c (.ptr ⟨2, 0, 0, 0, 0, 0, 0⟩)), .e (.c (.int .i64 4))] (lpH a 0 (addF a n z))
  | 0, i, z, hn, h0, hi => by
    show iterR _ _ _ _ _ _ (1 + 1) _ _ _ = _
    rw [iterR]
    refine (t_lp0 addU st i a 0 z _).trans ?_
    rw [decide_eq_true (show i < st by omega), cT, show (inI 14 && inI 1 && inI 0 && inI 4 && inI 0 && packOk 14 1 0 4 && place 0 && loopOp 14 0) = true from by decide, cT, if_pos rfl, wrap_i64 (n := i + 1) (by omega) (by omega)]
    show iterR _ _ _ _ _ _ (0 + 1) _ _ _ = _
    rw [iterR]
    refine (t_lp4 addU st (i + 1) a 0 z _).trans ?_
    rw [decide_eq_false (show ¬ i + 1 < st by omega), cF]
    rfl
  | n + 1, i, z, hn, h0, hi => by
    have ih := loop_run a st K hst n (i + 4) (addU z a) (by omega) (by omega) (by omega)
    show iterR _ _ _ _ _ _ ((4 * n + 2 + 3) + 1) _ _ _ = _
    rw [iterR]
    refine (t_lp0 addU st i a ((n + 1 : Nat) : Int) z _).trans ?_
    have hw : loopOp 14 ((n + 1 : Nat) : Int) = true := by
      have : (0 : Int) ≤ ((n + 1 : Nat) : Int) ∧ ((n + 1 : Nat) : Int) < 18446744073709551616 := by omega
      simp only [loopOp, word, decide_eq_true this.1, decide_eq_true this.2]; rfl
    rw [decide_eq_true (show i < st by omega), cT, hw, show (inI 14 && inI 1 && inI 0 && inI 4 && inI 0 && packOk 14 1 0 4 && place 0 && true) = true from by decide, cT, if_neg (by omega), wrap_i64 (n := i + 1) (by omega) (by omega)]
    show iterR _ _ _ _ _ _ ((4 * n + 2 + 2) + 1) _ _ _ = _
    rw [iterR]
    refine (t_lp1 addU st (i + 1) a ((n + 1 : Nat) : Int) z _).trans ?_
    rw [decide_eq_true (show i + 1 < st by omega), cT, vl3, wrap_i64 (n := i + 1 + 1) (by omega) (by omega)]
    show iterR _ _ _ _ _ _ ((4 * n + 2 + 1) + 1) _ _ _ = _
    rw [iterR]
    refine (t_lp2 addU st (i + 1 + 1) a ((n + 1 : Nat) : Int) (addU z a) _).trans ?_
    rw [decide_eq_true (show i + 1 + 1 < st by omega), cT, vl4, wrap_u64 (n := ((n + 1 : Nat) : Int) - 1) (by omega) (by omega), show ((n + 1 : Nat) : Int) - 1 = (n : Int) from by omega, wrap_i64 (n := i + 1 + 1 + 1) (by omega) (by omega)]
    show iterR _ _ _ _ _ _ ((4 * n + 2) + 1) _ _ _ = _
    rw [iterR]
    refine (t_lp3 addU st (i + 1 + 1 + 1) a (n : Int) (addU z a) _).trans ?_
    rw [decide_eq_true (show i + 1 + 1 + 1 < st by omega), cT, wrap_i64 (n := i + 1 + 1 + 1 + 1) (by omega) (by omega), show i + 1 + 1 + 1 + 1 = i + 4 from by omega]
    exact ih
def cLoopV (G : Int → Int → Int → Int) : HeadO := fun vs h K => match vs, h with
  | [.e (.c (.slice ⟨0, 0, 4, 0, 0, 0, 0⟩ 4 4 0 true)), .e (.c (.int .i64 st)), .e (.c (.ptr ⟨1, 0, 0, 0, 0, 0, 0⟩)), .e (.c (.ptr ⟨2, 0, 0, 0, 0, 0, 0⟩)), .e (.c (.int .i64 0)), .e (.c (.int .i64 0))],
    [(false, some ⟨false, .rows [.ints .i64 [14, 3, 4, 13], .ints .i64 [1, 2, 1, 0], .ints .i64 [0, 0, 3, 0], .ints .i64 [4, 0, 0, 0]]⟩), (true, some ⟨false, .mix [.int .u64 a, .int .u64 q, .int .u64 z, .int .u64 1, .int .u64 0, .int .u64 0, .int .u64 0, .int .u64 0]⟩), (true, some ⟨false, .mix [.int .u64 0, .int .u64 0, .int .u64 0, .int .u64 0, .int .u64 0, .int .u64 0, .int .u64 0, .int .u64 0]⟩)] =>
    match decide (0 ≤ q) && decide (q ≤ 39) && decide (st = 4 * q + 1) with
    | true => K (.exit 0) [.e (.c (.ptr ⟨1, 0, 0, 0, 0, 0, 0⟩)), .e (.c (.ptr ⟨2, 0, 0, 0, 0, 0, 0⟩)), .e (.c (.int .i64 4))]
       [(false, some ⟨false, .rows [.ints .i64 [14, 3, 4, 13], .ints .i64 [1, 2, 1, 0], .ints .i64 [0, 0, 3, 0], .ints .i64 [4, 0, 0, 0]]⟩), (true, some ⟨false, .mix [.int .u64 a, .int .u64 0, .int .u64 (G a q z), .int .u64 1, .int .u64 0, .int .u64 0, .int .u64 0, .int .u64 0]⟩), (true, some ⟨false, .mix [.int .u64 0, .int .u64 0, .int .u64 0, .int .u64 0, .int .u64 0, .int .u64 0, .int .u64 0, .int .u64 0]⟩)]
    | false => none
  | _, _ => none
def addG (a q z : Int) : Int := addF a q.toNat z
theorem cLoop_sound : HeadSound Try.prog iLoop (loopOf Try.prog 20 0) (cLoopV addG) := by
  refine HeadSound.short (iterR_sound (F := 60) sLp_ok mix lNil_ok) fun vs h K r e => ?_
  unfold cLoopV at e
  split at e
  · rename_i st a q z
    split at e
    · rename_i hc
      simp only [Bool.and_eq_true, decide_eq_true_eq] at hc
      obtain ⟨⟨h0, h1⟩, rfl⟩ := hc
      obtain ⟨n, rfl⟩ : ∃ n : Nat, q = (n : Int) := ⟨q.toNat, by omega⟩
      exact ⟨4 * n + 2, (loop_run a _ K (by omega) n 0 z (by omega) (by omega) (by omega)).trans e⟩
    · cases e
  · cases e
noncomputable def lLoopV (G : Int → Int → Int → Int) : Nat → Option Orc := lAdd lNil 0 (wrapO iLoop 0 (cLoopV G))
theorem lLoop_for : LFor 1 Try.prog 20 (lLoopV addG) := lAdd_for (I := iLoop) lNil_for (by kernel_rfl) cLoop_sound
theorem loop_dis : Go.Eng.distinct (blockIds (codeOf Try.prog 20)) = true := by kernel_rfl
def gLoop : Fun := fun args sub κ => match args, sub with
  | [.e (.c (.slice ⟨0, 0, 4, 0, 0, 0, 0⟩ 4 4 0 true)), .e (.agg [.int .u64 a, .int .u64 q, .int .u64 0, .int .u64 1, .int .u64 0, .int .u64 0, .int .u64 0, .int .u64 0]), .e (.c (.int .i64 st))],
    [some ⟨false, .rows [.ints .i64 [14, 3, 4, 13], .ints .i64 [1, 2, 1, 0], .ints .i64 [0, 0, 3, 0], .ints .i64 [4, 0, 0, 0]]⟩] =>
    match decide (0 ≤ q) && decide (q ≤ 39) && decide (st = 4 * q + 1) with
    | true => κ ⟨.tup [.agg [.int .u64 a, .int .u64 0, .int .u64 (IntKind.u64.wrap (a * q)), .int .u64 1, .int .u64 0, .int .u64 0, .int .u64 0, .int .u64 0], .c (.int .i64 4)], [none]⟩
    | false => none
  | _, _ => none
theorem t_runLp (A : AF) (G : Int → Int → Int → Int) (a q st : Int) (k : Res → Option Res) : runLG Try.prog (sLp A) (lLoopV G) 1 100 20 [.e (.c (.slice ⟨0, 0, 4, 0, 0, 0, 0⟩ 4 4 0 true)), .e (.agg [.int .u64 a, .int .u64 q, .int .u64 0, .int .u64 1, .int .u64 0, .int .u64 0, .int .u64 0, .int .u64 0]), aint .i64 st] [some ⟨false, .rows [.ints .i64 [14, 3, 4, 13], .ints .i64 [1, 2, 1, 0], .ints .i64 [0, 0, 3, 0], .ints .i64 [4, 0, 0, 0]]⟩] k = (cond (decide (0 ≤ q) && decide (q ≤ 39) && decide (st = 4 * q + 1)) (k (Res.mk (AV.tup [(AE.agg [(AC.int (IntKind.u64) (a)), (AC.int (IntKind.u64) (0)), (AC.int (IntKind.u64) (G a q 0)), (AC.int (IntKind.u64) (1)), (AC.int (IntKind.u64) (0)), (AC.int (IntKind.u64) (0)), (AC.int (IntKind.u64) (0)), (AC.int (IntKind.u64) (0))]), (AE.c (AC.int (IntKind.i64) (4)))]) [(none)])) none) := by kernel_rfl
theorem gLoop_sound : FunSound Try.prog 20 gLoop := by
  refine (runL_sound sLp_ok mix 100 20 loop_dis lLoop_for).gc.short fun args sub κ r h => ?_
  unfold gLoop at h
  split at h
  · rename_i a q st
    split at h
    · rename_i hc
      have hc' := hc
      simp only [Bool.and_eq_true, decide_eq_true_eq] at hc
      refine (t_runLp addU addG a q st κ).trans ?_
      rw [hc', cT]
      have : addG a q 0 = IntKind.u64.wrap (a * q) := by
        unfold addG; rw [addF_mul a _ 0 (by decide) (by decide), Int.zero_add, Int.toNat_of_nonneg hc.1.1]
      rw [this]; exact h
    · cases h
  · cases h
noncomputable def sLq : Summ := sAdd sQ 20 gLoop
theorem sLq_ok : SummOk Try.prog sLq := sAdd_ok sQ_ok gLoop_sound (enters Try.func20 rfl (by kernel_rfl))
end Go.Proofs.Ytiodjfgdglakkaa.Wlk
