/- Lines of interrupts: the least comes first: the loops, the law. -/
import Derived.Test.YtanchmbopllimaaIqP
set_option linter.unusedVariables false
set_option linter.unusedSimpArgs false
set_option maxRecDepth 100000
namespace Go.Proofs.Ytanchmbopllimaa.Wlk
open Go Go.Eng Go.Proofs Go.RowKit
theorem md_range (x : Int) (m : Int) (h0 : 0 < m) (h1 : m ≤ 8) : 0 ≤ IntKind.wrap IntKind.i64 (Int.tmod (IntKind.wrap IntKind.u64 x) m) ∧ IntKind.wrap IntKind.i64 (Int.tmod (IntKind.wrap IntKind.u64 x) m) < m := by
  have a : 0 ≤ IntKind.wrap IntKind.u64 x := by rw [wrap_u64_emod]; exact Int.emod_nonneg _ (by omega)
  rw [Int.tmod_eq_emod_of_nonneg a]
  have b := Int.emod_nonneg (IntKind.wrap IntKind.u64 x) (show m ≠ 0 by omega)
  have c := Int.emod_lt_of_pos (IntKind.wrap IntKind.u64 x) h0
  rw [wrap_i64 (by omega) (by omega)]
  exact ⟨b, c⟩
theorem wd_zero : ∀ e0 e1 e2 e3 e4 e5 e6 e7 : Bool, (Int.tmod (Int.fdiv (wd 0 0 [e0, e1, e2, e3, e4, e5, e6, e7]) 1) 2 == 0) = !e0 ∧ (Int.tmod (Int.fdiv (wd 0 0 [e0, e1, e2, e3, e4, e5, e6, e7]) 2) 2 == 0) = !e1 ∧ (Int.tmod (Int.fdiv (wd 0 0 [e0, e1, e2, e3, e4, e5, e6, e7]) 4) 2 == 0) = !e2 ∧ (Int.tmod (Int.fdiv (wd 0 0 [e0, e1, e2, e3, e4, e5, e6, e7]) 8) 2 == 0) = !e3 ∧ (Int.tmod (Int.fdiv (wd 0 0 [e0, e1, e2, e3, e4, e5, e6, e7]) 16) 2 == 0) = !e4 ∧ (Int.tmod (Int.fdiv (wd 0 0 [e0, e1, e2, e3, e4, e5, e6, e7]) 32) 2 == 0) = !e5 ∧ (Int.tmod (Int.fdiv (wd 0 0 [e0, e1, e2, e3, e4, e5, e6, e7]) 64) 2 == 0) = !e6 ∧ (Int.tmod (Int.fdiv (wd 0 0 [e0, e1, e2, e3, e4, e5, e6, e7]) 128) 2 == 0) = !e7 := by decide +kernel
theorem bne_t {a b : Int} {c : Bool} (h : (a == b) = c) : (a != b) = !c := by show (!(a == b)) = !c; rw [h]
theorem o0_go8 (ul : Nat) (d : Int) (l : List Int) (h0 : 0 ≤ d) (h4 : d < 4) (K : HeadK) : iterR Try.prog sW lNil iO0 60 (loopOf Try.prog 5 0) 1 [vSl ul, aint .i64 d, vP 1, vP 2, aint .i64 8] (hO l [d, d, d, d, d, d, d, d] [false, false, false, false, false, false, false, false] [0, 0, 0, 0, 0, 0, 0, 0] [false, false, false, false, false, false, false, false]) K = K (.exit 0) [vSl ul, aint .i64 d, vP 1, vP 2] (hO l [d, d, d, d, d, d, d, d] [false, false, false, false, false, false, false, false] [0, 0, 0, 0, 0, 0, 0, 0] [false, false, false, false, false, false, false, false]) := by
  rw [iterR]
  refine (t_o0_8 ul d l d d d d d d d d false false false false false false false false 0 0 0 0 0 0 0 0 false false false false false false false false _).trans ?_
  rfl
theorem o0_go7 (ul : Nat) (d : Int) (l : List Int) (h0 : 0 ≤ d) (h4 : d < 4) (K : HeadK) : iterR Try.prog sW lNil iO0 60 (loopOf Try.prog 5 0) 2 [vSl ul, aint .i64 d, vP 1, vP 2, aint .i64 7] (hO l [d, d, d, d, d, d, d, -1] [false, false, false, false, false, false, false, true] [0, 0, 0, 0, 0, 0, 0, 0] [false, false, false, false, false, false, false, false]) K = K (.exit 0) [vSl ul, aint .i64 d, vP 1, vP 2] (hO l [d, d, d, d, d, d, d, d] [false, false, false, false, false, false, false, false] [0, 0, 0, 0, 0, 0, 0, 0] [false, false, false, false, false, false, false, false]) := by
  rw [iterR]
  refine (t_o0_7 ul d l d d d d d d d (-1) false false false false false false false true 0 0 0 0 0 0 0 0 false false false false false false false false _).trans ?_
  have e : ownE 7 d [d, d, d, d, d, d, d, -1] = 0 := by unfold ownE; rw [if_pos ⟨rfl, h0, h4⟩]; rfl
  have x : ownIx 7 d [d, d, d, d, d, d, d, -1] = 7 := by unfold ownIx; rw [if_pos e]; rfl
  refine (cfr (same_ff e)).trans ?_
  rw [x]
  exact o0_go8 ul d l h0 h4 K
theorem o0_go6 (ul : Nat) (d : Int) (l : List Int) (h0 : 0 ≤ d) (h4 : d < 4) (K : HeadK) : iterR Try.prog sW lNil iO0 60 (loopOf Try.prog 5 0) 3 [vSl ul, aint .i64 d, vP 1, vP 2, aint .i64 6] (hO l [d, d, d, d, d, d, -1, -1] [false, false, false, false, false, false, true, true] [0, 0, 0, 0, 0, 0, 0, 0] [false, false, false, false, false, false, false, false]) K = K (.exit 0) [vSl ul, aint .i64 d, vP 1, vP 2] (hO l [d, d, d, d, d, d, d, d] [false, false, false, false, false, false, false, false] [0, 0, 0, 0, 0, 0, 0, 0] [false, false, false, false, false, false, false, false]) := by
  rw [iterR]
  refine (t_o0_6 ul d l d d d d d d (-1) (-1) false false false false false false true true 0 0 0 0 0 0 0 0 false false false false false false false false _).trans ?_
  have e : ownE 6 d [d, d, d, d, d, d, -1, -1] = 0 := by unfold ownE; rw [if_pos ⟨rfl, h0, h4⟩]; rfl
  have x : ownIx 6 d [d, d, d, d, d, d, -1, -1] = 6 := by unfold ownIx; rw [if_pos e]; rfl
  refine (cfr (same_ff e)).trans ?_
  rw [x]
  exact o0_go7 ul d l h0 h4 K
theorem o0_go5 (ul : Nat) (d : Int) (l : List Int) (h0 : 0 ≤ d) (h4 : d < 4) (K : HeadK) : iterR Try.prog sW lNil iO0 60 (loopOf Try.prog 5 0) 4 [vSl ul, aint .i64 d, vP 1, vP 2, aint .i64 5] (hO l [d, d, d, d, d, -1, -1, -1] [false, false, false, false, false, true, true, true] [0, 0, 0, 0, 0, 0, 0, 0] [false, false, false, false, false, false, false, false]) K = K (.exit 0) [vSl ul, aint .i64 d, vP 1, vP 2] (hO l [d, d, d, d, d, d, d, d] [false, false, false, false, false, false, false, false] [0, 0, 0, 0, 0, 0, 0, 0] [false, false, false, false, false, false, false, false]) := by
  rw [iterR]
  refine (t_o0_5 ul d l d d d d d (-1) (-1) (-1) false false false false false true true true 0 0 0 0 0 0 0 0 false false false false false false false false _).trans ?_
  have e : ownE 5 d [d, d, d, d, d, -1, -1, -1] = 0 := by unfold ownE; rw [if_pos ⟨rfl, h0, h4⟩]; rfl
  have x : ownIx 5 d [d, d, d, d, d, -1, -1, -1] = 5 := by unfold ownIx; rw [if_pos e]; rfl
  refine (cfr (same_ff e)).trans ?_
  rw [x]
  exact o0_go6 ul d l h0 h4 K
theorem o0_go4 (ul : Nat) (d : Int) (l : List Int) (h0 : 0 ≤ d) (h4 : d < 4) (K : HeadK) : iterR Try.prog sW lNil iO0 60 (loopOf Try.prog 5 0) 5 [vSl ul, aint .i64 d, vP 1, vP 2, aint .i64 4] (hO l [d, d, d, d, -1, -1, -1, -1] [false, false, false, false, true, true, true, true] [0, 0, 0, 0, 0, 0, 0, 0] [false, false, false, false, false, false, false, false]) K = K (.exit 0) [vSl ul, aint .i64 d, vP 1, vP 2] (hO l [d, d, d, d, d, d, d, d] [false, false, false, false, false, false, false, false] [0, 0, 0, 0, 0, 0, 0, 0] [false, false, false, false, false, false, false, false]) := by
  rw [iterR]
  refine (t_o0_4 ul d l d d d d (-1) (-1) (-1) (-1) false false false false true true true true 0 0 0 0 0 0 0 0 false false false false false false false false _).trans ?_
  have e : ownE 4 d [d, d, d, d, -1, -1, -1, -1] = 0 := by unfold ownE; rw [if_pos ⟨rfl, h0, h4⟩]; rfl
  have x : ownIx 4 d [d, d, d, d, -1, -1, -1, -1] = 4 := by unfold ownIx; rw [if_pos e]; rfl
  refine (cfr (same_ff e)).trans ?_
  rw [x]
  exact o0_go5 ul d l h0 h4 K
theorem o0_go3 (ul : Nat) (d : Int) (l : List Int) (h0 : 0 ≤ d) (h4 : d < 4) (K : HeadK) : iterR Try.prog sW lNil iO0 60 (loopOf Try.prog 5 0) 6 [vSl ul, aint .i64 d, vP 1, vP 2, aint .i64 3] (hO l [d, d, d, -1, -1, -1, -1, -1] [false, false, false, true, true, true, true, true] [0, 0, 0, 0, 0, 0, 0, 0] [false, false, false, false, false, false, false, false]) K = K (.exit 0) [vSl ul, aint .i64 d, vP 1, vP 2] (hO l [d, d, d, d, d, d, d, d] [false, false, false, false, false, false, false, false] [0, 0, 0, 0, 0, 0, 0, 0] [false, false, false, false, false, false, false, false]) := by
  rw [iterR]
  refine (t_o0_3 ul d l d d d (-1) (-1) (-1) (-1) (-1) false false false true true true true true 0 0 0 0 0 0 0 0 false false false false false false false false _).trans ?_
  have e : ownE 3 d [d, d, d, -1, -1, -1, -1, -1] = 0 := by unfold ownE; rw [if_pos ⟨rfl, h0, h4⟩]; rfl
  have x : ownIx 3 d [d, d, d, -1, -1, -1, -1, -1] = 3 := by unfold ownIx; rw [if_pos e]; rfl
  refine (cfr (same_ff e)).trans ?_
  rw [x]
  exact o0_go4 ul d l h0 h4 K
theorem o0_go2 (ul : Nat) (d : Int) (l : List Int) (h0 : 0 ≤ d) (h4 : d < 4) (K : HeadK) : iterR Try.prog sW lNil iO0 60 (loopOf Try.prog 5 0) 7 [vSl ul, aint .i64 d, vP 1, vP 2, aint .i64 2] (hO l [d, d, -1, -1, -1, -1, -1, -1] [false, false, true, true, true, true, true, true] [0, 0, 0, 0, 0, 0, 0, 0] [false, false, false, false, false, false, false, false]) K = K (.exit 0) [vSl ul, aint .i64 d, vP 1, vP 2] (hO l [d, d, d, d, d, d, d, d] [false, false, false, false, false, false, false, false] [0, 0, 0, 0, 0, 0, 0, 0] [false, false, false, false, false, false, false, false]) := by
  rw [iterR]
  refine (t_o0_2 ul d l d d (-1) (-1) (-1) (-1) (-1) (-1) false false true true true true true true 0 0 0 0 0 0 0 0 false false false false false false false false _).trans ?_
  have e : ownE 2 d [d, d, -1, -1, -1, -1, -1, -1] = 0 := by unfold ownE; rw [if_pos ⟨rfl, h0, h4⟩]; rfl
  have x : ownIx 2 d [d, d, -1, -1, -1, -1, -1, -1] = 2 := by unfold ownIx; rw [if_pos e]; rfl
  refine (cfr (same_ff e)).trans ?_
  rw [x]
  exact o0_go3 ul d l h0 h4 K
theorem o0_go1 (ul : Nat) (d : Int) (l : List Int) (h0 : 0 ≤ d) (h4 : d < 4) (K : HeadK) : iterR Try.prog sW lNil iO0 60 (loopOf Try.prog 5 0) 8 [vSl ul, aint .i64 d, vP 1, vP 2, aint .i64 1] (hO l [d, -1, -1, -1, -1, -1, -1, -1] [false, true, true, true, true, true, true, true] [0, 0, 0, 0, 0, 0, 0, 0] [false, false, false, false, false, false, false, false]) K = K (.exit 0) [vSl ul, aint .i64 d, vP 1, vP 2] (hO l [d, d, d, d, d, d, d, d] [false, false, false, false, false, false, false, false] [0, 0, 0, 0, 0, 0, 0, 0] [false, false, false, false, false, false, false, false]) := by
  rw [iterR]
  refine (t_o0_1 ul d l d (-1) (-1) (-1) (-1) (-1) (-1) (-1) false true true true true true true true 0 0 0 0 0 0 0 0 false false false false false false false false _).trans ?_
  have e : ownE 1 d [d, -1, -1, -1, -1, -1, -1, -1] = 0 := by unfold ownE; rw [if_pos ⟨rfl, h0, h4⟩]; rfl
  have x : ownIx 1 d [d, -1, -1, -1, -1, -1, -1, -1] = 1 := by unfold ownIx; rw [if_pos e]; rfl
  refine (cfr (same_ff e)).trans ?_
  rw [x]
  exact o0_go2 ul d l h0 h4 K
theorem o0_go0 (ul : Nat) (d : Int) (l : List Int) (h0 : 0 ≤ d) (h4 : d < 4) (K : HeadK) : iterR Try.prog sW lNil iO0 60 (loopOf Try.prog 5 0) 9 [vSl ul, aint .i64 d, vP 1, vP 2, aint .i64 0] (hO l [-1, -1, -1, -1, -1, -1, -1, -1] [true, true, true, true, true, true, true, true] [0, 0, 0, 0, 0, 0, 0, 0] [false, false, false, false, false, false, false, false]) K = K (.exit 0) [vSl ul, aint .i64 d, vP 1, vP 2] (hO l [d, d, d, d, d, d, d, d] [false, false, false, false, false, false, false, false] [0, 0, 0, 0, 0, 0, 0, 0] [false, false, false, false, false, false, false, false]) := by
  rw [iterR]
  refine (t_o0_0 ul d l (-1) (-1) (-1) (-1) (-1) (-1) (-1) (-1) true true true true true true true true 0 0 0 0 0 0 0 0 false false false false false false false false _).trans ?_
  have e : ownE 0 d [-1, -1, -1, -1, -1, -1, -1, -1] = 0 := by unfold ownE; rw [if_pos ⟨rfl, h0, h4⟩]; rfl
  have x : ownIx 0 d [-1, -1, -1, -1, -1, -1, -1, -1] = 0 := by unfold ownIx; rw [if_pos e]; rfl
  refine (cfr (same_ff e)).trans ?_
  rw [x]
  exact o0_go1 ul d l h0 h4 K
abbrev oX (l : List Int) (i : Nat) : Int := IntKind.wrap IntKind.i64 (Int.tmod (IntKind.wrap IntKind.u64 (List.getD l (0 + Int.toNat i) 0)) 8)
def oZ (ul : Nat) (l : List Int) : Nat → Nat → List Bool → List Bool
  | 0, _, s => s
  | j + 1, i, s => if i < ul ∧ i < 40 then oZ ul l j (i + 1) (setN (oX l i).toNat true 0 s) else s
theorem oZ_len (ul : Nat) (l : List Int) : ∀ (j i : Nat) (s : List Bool), (oZ ul l j i s).length = s.length
  | 0, _, _ => rfl
  | j + 1, i, s => by
    rw [oZ]
    split
    · rw [oZ_len ul l j, setN_length]
    · rfl
theorem o2_round (ul i : Nat) (d : Int) (l : List Int) (s : List Bool) (hs : s.length = 8) (l1 : ul = l.length) (y1 : i < ul) (y2 : i < 40) (K : HeadK) :
    bodyR Try.prog sW lNil iO2 60 (loopOf Try.prog 5 2) [vSl ul, aint .i64 d, vP 1, vP 2, aint .i64 (i : Nat)] (hO l [d, d, d, d, d, d, d, d] [false, false, false, false, false, false, false, false] (tR s) s) K = K .normal [vSl ul, aint .i64 d, vP 1, vP 2, aint .i64 (i + 1 : Nat)] (hO l [d, d, d, d, d, d, d, d] [false, false, false, false, false, false, false, false] (tR (setN (oX l i).toNat true 0 s)) (setN (oX l i).toNat true 0 s)) := by
  obtain ⟨e0, e1, e2, e3, e4, e5, e6, e7, rfl⟩ := len8 hs
  have wi : IntKind.wrap IntKind.i64 ((i : Int) + 1) = ((i + 1 : Nat) : Int) := by rw [wrap_i64 (by omega) (by omega)]; omega
  refine (t_o2 ul i d l d d d d d d d d false false false false false false false false (if e0 = true then 1 else 0) (if e1 = true then 1 else 0) (if e2 = true then 1 else 0) (if e3 = true then 1 else 0) (if e4 = true then 1 else 0) (if e5 = true then 1 else 0) (if e6 = true then 1 else 0) (if e7 = true then 1 else 0) e0 e1 e2 e3 e4 e5 e6 e7 K).trans ?_
  refine (ctr (decide_eq_true (by omega))).trans ?_
  refine (ctr (decide_eq_true (by omega))).trans ?_
  refine (ctr (by rw [decide_eq_true (show 0 ≤ (i : Int) by omega), decide_eq_true (show (i : Int) < (ul : Int) by omega)]; rfl)).trans ?_
  refine (ctr (decide_eq_true (show 0 + Int.toNat (i : Int) < l.length by omega))).trans ?_
  obtain ⟨x0, x8⟩ := md_range (List.getD l (0 + Int.toNat i) 0) 8 (by decide) (by decide)
  rw [wi]
  show cond _ _ _ = K .normal [vSl ul, aint .i64 d, vP 1, vP 2, aint .i64 (i + 1 : Nat)] (hO l [d, d, d, d, d, d, d, d] [false, false, false, false, false, false, false, false] (tR (setN (IntKind.wrap IntKind.i64 (Int.tmod (IntKind.wrap IntKind.u64 (List.getD l (0 + Int.toNat i) 0)) 8)).toNat true 0 [e0, e1, e2, e3, e4, e5, e6, e7])) (setN (IntKind.wrap IntKind.i64 (Int.tmod (IntKind.wrap IntKind.u64 (List.getD l (0 + Int.toNat i) 0)) 8)).toNat true 0 [e0, e1, e2, e3, e4, e5, e6, e7]))
  generalize IntKind.wrap IntKind.i64 (Int.tmod (IntKind.wrap IntKind.u64 (List.getD l (0 + Int.toNat i) 0)) 8) = X at x0 x8 ⊢
  have hin : inL X = true := inL_t (by omega) (by omega)
  have q : upIx X = X.toNat := by unfold upIx; rw [hin]; rfl
  refine (cfr (show (upE X != 0) = false by unfold upE; rw [hin]; rfl)).trans ?_
  refine (ctr (by rw [decide_eq_true x0, decide_eq_true x8]; rfl)).trans ?_
  refine (ctr (by rw [Bool.and_true]; exact decide_eq_true (show X.toNat < 8 by omega))).trans ?_
  rw [← tR_up]
  rw [q]
  rfl
theorem o2_stop (ul i : Nat) (d : Int) (l : List Int) (s : List Bool) (hs : s.length = 8) (h : ¬ (i < ul ∧ i < 40)) (K : HeadK) :
    bodyR Try.prog sW lNil iO2 60 (loopOf Try.prog 5 2) [vSl ul, aint .i64 d, vP 1, vP 2, aint .i64 (i : Nat)] (hO l [d, d, d, d, d, d, d, d] [false, false, false, false, false, false, false, false] (tR s) s) K = K (.exit 2) [aint .i64 d, vP 1, vP 2] (hO l [d, d, d, d, d, d, d, d] [false, false, false, false, false, false, false, false] (tR s) s) := by
  obtain ⟨e0, e1, e2, e3, e4, e5, e6, e7, rfl⟩ := len8 hs
  refine (t_o2 ul i d l d d d d d d d d false false false false false false false false (if e0 = true then 1 else 0) (if e1 = true then 1 else 0) (if e2 = true then 1 else 0) (if e3 = true then 1 else 0) (if e4 = true then 1 else 0) (if e5 = true then 1 else 0) (if e6 = true then 1 else 0) (if e7 = true then 1 else 0) e0 e1 e2 e3 e4 e5 e6 e7 K).trans ?_
  by_cases a1 : i < ul
  · refine (ctr (decide_eq_true (by omega))).trans ?_
    exact cfr (decide_eq_false (by omega))
  · exact cfr (decide_eq_false (by omega))
theorem o2_loop (ul : Nat) (d : Int) (l : List Int) (l1 : ul = l.length) (K : HeadK) : ∀ (j i : Nat) (s : List Bool), s.length = 8 → 40 ≤ i + j →
    iterR Try.prog sW lNil iO2 60 (loopOf Try.prog 5 2) (j + 1) [vSl ul, aint .i64 d, vP 1, vP 2, aint .i64 (i : Nat)] (hO l [d, d, d, d, d, d, d, d] [false, false, false, false, false, false, false, false] (tR s) s) K = K (.exit 2) [aint .i64 d, vP 1, vP 2] (hO l [d, d, d, d, d, d, d, d] [false, false, false, false, false, false, false, false] (tR (oZ ul l j i s)) (oZ ul l j i s))
  | 0, i, s, hs, h => by
    rw [iterR]
    exact o2_stop ul i d l s hs (by omega) _
  | j + 1, i, s, hs, h => by
    rw [iterR, oZ]
    by_cases c : i < ul ∧ i < 40
    · rw [if_pos c]
      refine (o2_round ul i d l s hs l1 c.1 c.2 _).trans ?_
      exact o2_loop ul d l l1 K j (i + 1) _ (by rw [setN_length, hs]) (by omega)
    · rw [if_neg c]
      exact o2_stop ul i d l s hs c _
theorem o4_go8 (d : Int) (l : List Int) (hd : d ≠ -1) (e0 e1 e2 e3 e4 e5 e6 e7 : Bool) (K : HeadK) : iterR Try.prog sW lNil iO4 60 (loopOf Try.prog 5 4) 1 [aint .i64 d, vP 1, vP 2, aint .i64 8] (hO l [d, d, d, d, d, d, d, d] [e0, e1, e2, e3, e4, e5, e6, e7] [0, 0, 0, 0, 0, 0, 0, 0] [e0, e1, e2, e3, e4, e5, e6, e7]) K = K (.exit 4) [aint .i64 d, vP 1, vP 2] (hO l [d, d, d, d, d, d, d, d] [e0, e1, e2, e3, e4, e5, e6, e7] [0, 0, 0, 0, 0, 0, 0, 0] [e0, e1, e2, e3, e4, e5, e6, e7]) := by
  rw [iterR]
  refine (t_o4_8 d l d d d d d d d d e0 e1 e2 e3 e4 e5 e6 e7 0 0 0 0 0 0 0 0 e0 e1 e2 e3 e4 e5 e6 e7 _).trans ?_
  rfl
theorem o4_go7 (d : Int) (l : List Int) (hd : d ≠ -1) (e0 e1 e2 e3 e4 e5 e6 e7 : Bool) (K : HeadK) : iterR Try.prog sW lNil iO4 60 (loopOf Try.prog 5 4) 2 [aint .i64 d, vP 1, vP 2, aint .i64 7] (hO l [d, d, d, d, d, d, d, d] [e0, e1, e2, e3, e4, e5, e6, false] [0, 0, 0, 0, 0, 0, 0, if e7 = true then 1 else 0] [e0, e1, e2, e3, e4, e5, e6, e7]) K = K (.exit 4) [aint .i64 d, vP 1, vP 2] (hO l [d, d, d, d, d, d, d, d] [e0, e1, e2, e3, e4, e5, e6, e7] [0, 0, 0, 0, 0, 0, 0, 0] [e0, e1, e2, e3, e4, e5, e6, e7]) := by
  rw [iterR]
  cases e7 with
  | false =>
    refine (t_o4_7 d l d d d d d d d d e0 e1 e2 e3 e4 e5 e6 false 0 0 0 0 0 0 0 (if false = true then 1 else 0) e0 e1 e2 e3 e4 e5 e6 false _).trans ?_
    exact (ctr rfl).trans (o4_go8 d l hd e0 e1 e2 e3 e4 e5 e6 false K)
  | true =>
    refine (t_o4_7 d l d d d d d d d d e0 e1 e2 e3 e4 e5 e6 false 0 0 0 0 0 0 0 (if true = true then 1 else 0) e0 e1 e2 e3 e4 e5 e6 true _).trans ?_
    refine (cfr rfl).trans ?_
    have x : nxI d 0 [d, d, d, d, d, d, d, d] [e0, e1, e2, e3, e4, e5, e6, false] [0, 0, 0, 0, 0, 0, 0, if true = true then 1 else 0] = 7 := by simp [nxI, hd]
    rw [x]
    refine (cfr rfl).trans ?_
    refine (cfr rfl).trans ?_
    refine (cfr (bne_t (wd_bits e0 e1 e2 e3 e4 e5 e6 true).2.2.2.2.2.2.2)).trans ?_
    refine (cfr (show (Int.tmod (Int.fdiv (wd 0 0 (bitsT (dnT 7 0 (tR [false, false, false, false, false, false, false, true])))) 128) 2 != 0) = false by rw [tR_dn, bits_tR]; exact bne_t (wd_zero false false false false false false false false).2.2.2.2.2.2.2)).trans ?_
    exact o4_go8 d l hd e0 e1 e2 e3 e4 e5 e6 true K
theorem o4_go6 (d : Int) (l : List Int) (hd : d ≠ -1) (e0 e1 e2 e3 e4 e5 e6 e7 : Bool) (K : HeadK) : iterR Try.prog sW lNil iO4 60 (loopOf Try.prog 5 4) 3 [aint .i64 d, vP 1, vP 2, aint .i64 6] (hO l [d, d, d, d, d, d, d, d] [e0, e1, e2, e3, e4, e5, false, false] [0, 0, 0, 0, 0, 0, if e6 = true then 1 else 0, if e7 = true then 1 else 0] [e0, e1, e2, e3, e4, e5, e6, e7]) K = K (.exit 4) [aint .i64 d, vP 1, vP 2] (hO l [d, d, d, d, d, d, d, d] [e0, e1, e2, e3, e4, e5, e6, e7] [0, 0, 0, 0, 0, 0, 0, 0] [e0, e1, e2, e3, e4, e5, e6, e7]) := by
  rw [iterR]
  cases e6 with
  | false =>
    refine (t_o4_6 d l d d d d d d d d e0 e1 e2 e3 e4 e5 false false 0 0 0 0 0 0 (if false = true then 1 else 0) (if e7 = true then 1 else 0) e0 e1 e2 e3 e4 e5 false e7 _).trans ?_
    exact (ctr rfl).trans (o4_go7 d l hd e0 e1 e2 e3 e4 e5 false e7 K)
  | true =>
    refine (t_o4_6 d l d d d d d d d d e0 e1 e2 e3 e4 e5 false false 0 0 0 0 0 0 (if true = true then 1 else 0) (if e7 = true then 1 else 0) e0 e1 e2 e3 e4 e5 true e7 _).trans ?_
    refine (cfr rfl).trans ?_
    have x : nxI d 0 [d, d, d, d, d, d, d, d] [e0, e1, e2, e3, e4, e5, false, false] [0, 0, 0, 0, 0, 0, if true = true then 1 else 0, if e7 = true then 1 else 0] = 6 := by simp [nxI, hd]
    rw [x]
    refine (cfr rfl).trans ?_
    refine (cfr rfl).trans ?_
    refine (cfr (bne_t (wd_bits e0 e1 e2 e3 e4 e5 true false).2.2.2.2.2.2.1)).trans ?_
    refine (cfr (show (Int.tmod (Int.fdiv (wd 0 0 (bitsT (dnT 6 0 (tR [false, false, false, false, false, false, true, e7])))) 64) 2 != 0) = false by rw [tR_dn, bits_tR]; exact bne_t (wd_zero false false false false false false false e7).2.2.2.2.2.2.1)).trans ?_
    exact o4_go7 d l hd e0 e1 e2 e3 e4 e5 true e7 K
theorem o4_go5 (d : Int) (l : List Int) (hd : d ≠ -1) (e0 e1 e2 e3 e4 e5 e6 e7 : Bool) (K : HeadK) : iterR Try.prog sW lNil iO4 60 (loopOf Try.prog 5 4) 4 [aint .i64 d, vP 1, vP 2, aint .i64 5] (hO l [d, d, d, d, d, d, d, d] [e0, e1, e2, e3, e4, false, false, false] [0, 0, 0, 0, 0, if e5 = true then 1 else 0, if e6 = true then 1 else 0, if e7 = true then 1 else 0] [e0, e1, e2, e3, e4, e5, e6, e7]) K = K (.exit 4) [aint .i64 d, vP 1, vP 2] (hO l [d, d, d, d, d, d, d, d] [e0, e1, e2, e3, e4, e5, e6, e7] [0, 0, 0, 0, 0, 0, 0, 0] [e0, e1, e2, e3, e4, e5, e6, e7]) := by
  rw [iterR]
  cases e5 with
  | false =>
    refine (t_o4_5 d l d d d d d d d d e0 e1 e2 e3 e4 false false false 0 0 0 0 0 (if false = true then 1 else 0) (if e6 = true then 1 else 0) (if e7 = true then 1 else 0) e0 e1 e2 e3 e4 false e6 e7 _).trans ?_
    exact (ctr rfl).trans (o4_go6 d l hd e0 e1 e2 e3 e4 false e6 e7 K)
  | true =>
    refine (t_o4_5 d l d d d d d d d d e0 e1 e2 e3 e4 false false false 0 0 0 0 0 (if true = true then 1 else 0) (if e6 = true then 1 else 0) (if e7 = true then 1 else 0) e0 e1 e2 e3 e4 true e6 e7 _).trans ?_
    refine (cfr rfl).trans ?_
    have x : nxI d 0 [d, d, d, d, d, d, d, d] [e0, e1, e2, e3, e4, false, false, false] [0, 0, 0, 0, 0, if true = true then 1 else 0, if e6 = true then 1 else 0, if e7 = true then 1 else 0] = 5 := by simp [nxI, hd]
    rw [x]
    refine (cfr rfl).trans ?_
    refine (cfr rfl).trans ?_
    refine (cfr (bne_t (wd_bits e0 e1 e2 e3 e4 true false false).2.2.2.2.2.1)).trans ?_
    refine (cfr (show (Int.tmod (Int.fdiv (wd 0 0 (bitsT (dnT 5 0 (tR [false, false, false, false, false, true, e6, e7])))) 32) 2 != 0) = false by rw [tR_dn, bits_tR]; exact bne_t (wd_zero false false false false false false e6 e7).2.2.2.2.2.1)).trans ?_
    exact o4_go6 d l hd e0 e1 e2 e3 e4 true e6 e7 K
theorem o4_go4 (d : Int) (l : List Int) (hd : d ≠ -1) (e0 e1 e2 e3 e4 e5 e6 e7 : Bool) (K : HeadK) : iterR Try.prog sW lNil iO4 60 (loopOf Try.prog 5 4) 5 [aint .i64 d, vP 1, vP 2, aint .i64 4] (hO l [d, d, d, d, d, d, d, d] [e0, e1, e2, e3, false, false, false, false] [0, 0, 0, 0, if e4 = true then 1 else 0, if e5 = true then 1 else 0, if e6 = true then 1 else 0, if e7 = true then 1 else 0] [e0, e1, e2, e3, e4, e5, e6, e7]) K = K (.exit 4) [aint .i64 d, vP 1, vP 2] (hO l [d, d, d, d, d, d, d, d] [e0, e1, e2, e3, e4, e5, e6, e7] [0, 0, 0, 0, 0, 0, 0, 0] [e0, e1, e2, e3, e4, e5, e6, e7]) := by
  rw [iterR]
  cases e4 with
  | false =>
    refine (t_o4_4 d l d d d d d d d d e0 e1 e2 e3 false false false false 0 0 0 0 (if false = true then 1 else 0) (if e5 = true then 1 else 0) (if e6 = true then 1 else 0) (if e7 = true then 1 else 0) e0 e1 e2 e3 false e5 e6 e7 _).trans ?_
    exact (ctr rfl).trans (o4_go5 d l hd e0 e1 e2 e3 false e5 e6 e7 K)
  | true =>
    refine (t_o4_4 d l d d d d d d d d e0 e1 e2 e3 false false false false 0 0 0 0 (if true = true then 1 else 0) (if e5 = true then 1 else 0) (if e6 = true then 1 else 0) (if e7 = true then 1 else 0) e0 e1 e2 e3 true e5 e6 e7 _).trans ?_
    refine (cfr rfl).trans ?_
    have x : nxI d 0 [d, d, d, d, d, d, d, d] [e0, e1, e2, e3, false, false, false, false] [0, 0, 0, 0, if true = true then 1 else 0, if e5 = true then 1 else 0, if e6 = true then 1 else 0, if e7 = true then 1 else 0] = 4 := by simp [nxI, hd]
    rw [x]
    refine (cfr rfl).trans ?_
    refine (cfr rfl).trans ?_
    refine (cfr (bne_t (wd_bits e0 e1 e2 e3 true false false false).2.2.2.2.1)).trans ?_
    refine (cfr (show (Int.tmod (Int.fdiv (wd 0 0 (bitsT (dnT 4 0 (tR [false, false, false, false, true, e5, e6, e7])))) 16) 2 != 0) = false by rw [tR_dn, bits_tR]; exact bne_t (wd_zero false false false false false e5 e6 e7).2.2.2.2.1)).trans ?_
    exact o4_go5 d l hd e0 e1 e2 e3 true e5 e6 e7 K
theorem o4_go3 (d : Int) (l : List Int) (hd : d ≠ -1) (e0 e1 e2 e3 e4 e5 e6 e7 : Bool) (K : HeadK) : iterR Try.prog sW lNil iO4 60 (loopOf Try.prog 5 4) 6 [aint .i64 d, vP 1, vP 2, aint .i64 3] (hO l [d, d, d, d, d, d, d, d] [e0, e1, e2, false, false, false, false, false] [0, 0, 0, if e3 = true then 1 else 0, if e4 = true then 1 else 0, if e5 = true then 1 else 0, if e6 = true then 1 else 0, if e7 = true then 1 else 0] [e0, e1, e2, e3, e4, e5, e6, e7]) K = K (.exit 4) [aint .i64 d, vP 1, vP 2] (hO l [d, d, d, d, d, d, d, d] [e0, e1, e2, e3, e4, e5, e6, e7] [0, 0, 0, 0, 0, 0, 0, 0] [e0, e1, e2, e3, e4, e5, e6, e7]) := by
  rw [iterR]
  cases e3 with
  | false =>
    refine (t_o4_3 d l d d d d d d d d e0 e1 e2 false false false false false 0 0 0 (if false = true then 1 else 0) (if e4 = true then 1 else 0) (if e5 = true then 1 else 0) (if e6 = true then 1 else 0) (if e7 = true then 1 else 0) e0 e1 e2 false e4 e5 e6 e7 _).trans ?_
    exact (ctr rfl).trans (o4_go4 d l hd e0 e1 e2 false e4 e5 e6 e7 K)
  | true =>
    refine (t_o4_3 d l d d d d d d d d e0 e1 e2 false false false false false 0 0 0 (if true = true then 1 else 0) (if e4 = true then 1 else 0) (if e5 = true then 1 else 0) (if e6 = true then 1 else 0) (if e7 = true then 1 else 0) e0 e1 e2 true e4 e5 e6 e7 _).trans ?_
    refine (cfr rfl).trans ?_
    have x : nxI d 0 [d, d, d, d, d, d, d, d] [e0, e1, e2, false, false, false, false, false] [0, 0, 0, if true = true then 1 else 0, if e4 = true then 1 else 0, if e5 = true then 1 else 0, if e6 = true then 1 else 0, if e7 = true then 1 else 0] = 3 := by simp [nxI, hd]
    rw [x]
    refine (cfr rfl).trans ?_
    refine (cfr rfl).trans ?_
    refine (cfr (bne_t (wd_bits e0 e1 e2 true false false false false).2.2.2.1)).trans ?_
    refine (cfr (show (Int.tmod (Int.fdiv (wd 0 0 (bitsT (dnT 3 0 (tR [false, false, false, true, e4, e5, e6, e7])))) 8) 2 != 0) = false by rw [tR_dn, bits_tR]; exact bne_t (wd_zero false false false false e4 e5 e6 e7).2.2.2.1)).trans ?_
    exact o4_go4 d l hd e0 e1 e2 true e4 e5 e6 e7 K
theorem o4_go2 (d : Int) (l : List Int) (hd : d ≠ -1) (e0 e1 e2 e3 e4 e5 e6 e7 : Bool) (K : HeadK) : iterR Try.prog sW lNil iO4 60 (loopOf Try.prog 5 4) 7 [aint .i64 d, vP 1, vP 2, aint .i64 2] (hO l [d, d, d, d, d, d, d, d] [e0, e1, false, false, false, false, false, false] [0, 0, if e2 = true then 1 else 0, if e3 = true then 1 else 0, if e4 = true then 1 else 0, if e5 = true then 1 else 0, if e6 = true then 1 else 0, if e7 = true then 1 else 0] [e0, e1, e2, e3, e4, e5, e6, e7]) K = K (.exit 4) [aint .i64 d, vP 1, vP 2] (hO l [d, d, d, d, d, d, d, d] [e0, e1, e2, e3, e4, e5, e6, e7] [0, 0, 0, 0, 0, 0, 0, 0] [e0, e1, e2, e3, e4, e5, e6, e7]) := by
  rw [iterR]
  cases e2 with
  | false =>
    refine (t_o4_2 d l d d d d d d d d e0 e1 false false false false false false 0 0 (if false = true then 1 else 0) (if e3 = true then 1 else 0) (if e4 = true then 1 else 0) (if e5 = true then 1 else 0) (if e6 = true then 1 else 0) (if e7 = true then 1 else 0) e0 e1 false e3 e4 e5 e6 e7 _).trans ?_
    exact (ctr rfl).trans (o4_go3 d l hd e0 e1 false e3 e4 e5 e6 e7 K)
  | true =>
    refine (t_o4_2 d l d d d d d d d d e0 e1 false false false false false false 0 0 (if true = true then 1 else 0) (if e3 = true then 1 else 0) (if e4 = true then 1 else 0) (if e5 = true then 1 else 0) (if e6 = true then 1 else 0) (if e7 = true then 1 else 0) e0 e1 true e3 e4 e5 e6 e7 _).trans ?_
    refine (cfr rfl).trans ?_
    have x : nxI d 0 [d, d, d, d, d, d, d, d] [e0, e1, false, false, false, false, false, false] [0, 0, if true = true then 1 else 0, if e3 = true then 1 else 0, if e4 = true then 1 else 0, if e5 = true then 1 else 0, if e6 = true then 1 else 0, if e7 = true then 1 else 0] = 2 := by simp [nxI, hd]
    rw [x]
    refine (cfr rfl).trans ?_
    refine (cfr rfl).trans ?_
    refine (cfr (bne_t (wd_bits e0 e1 true false false false false false).2.2.1)).trans ?_
    refine (cfr (show (Int.tmod (Int.fdiv (wd 0 0 (bitsT (dnT 2 0 (tR [false, false, true, e3, e4, e5, e6, e7])))) 4) 2 != 0) = false by rw [tR_dn, bits_tR]; exact bne_t (wd_zero false false false e3 e4 e5 e6 e7).2.2.1)).trans ?_
    exact o4_go3 d l hd e0 e1 true e3 e4 e5 e6 e7 K
theorem o4_go1 (d : Int) (l : List Int) (hd : d ≠ -1) (e0 e1 e2 e3 e4 e5 e6 e7 : Bool) (K : HeadK) : iterR Try.prog sW lNil iO4 60 (loopOf Try.prog 5 4) 8 [aint .i64 d, vP 1, vP 2, aint .i64 1] (hO l [d, d, d, d, d, d, d, d] [e0, false, false, false, false, false, false, false] [0, if e1 = true then 1 else 0, if e2 = true then 1 else 0, if e3 = true then 1 else 0, if e4 = true then 1 else 0, if e5 = true then 1 else 0, if e6 = true then 1 else 0, if e7 = true then 1 else 0] [e0, e1, e2, e3, e4, e5, e6, e7]) K = K (.exit 4) [aint .i64 d, vP 1, vP 2] (hO l [d, d, d, d, d, d, d, d] [e0, e1, e2, e3, e4, e5, e6, e7] [0, 0, 0, 0, 0, 0, 0, 0] [e0, e1, e2, e3, e4, e5, e6, e7]) := by
  rw [iterR]
  cases e1 with
  | false =>
    refine (t_o4_1 d l d d d d d d d d e0 false false false false false false false 0 (if false = true then 1 else 0) (if e2 = true then 1 else 0) (if e3 = true then 1 else 0) (if e4 = true then 1 else 0) (if e5 = true then 1 else 0) (if e6 = true then 1 else 0) (if e7 = true then 1 else 0) e0 false e2 e3 e4 e5 e6 e7 _).trans ?_
    exact (ctr rfl).trans (o4_go2 d l hd e0 false e2 e3 e4 e5 e6 e7 K)
  | true =>
    refine (t_o4_1 d l d d d d d d d d e0 false false false false false false false 0 (if true = true then 1 else 0) (if e2 = true then 1 else 0) (if e3 = true then 1 else 0) (if e4 = true then 1 else 0) (if e5 = true then 1 else 0) (if e6 = true then 1 else 0) (if e7 = true then 1 else 0) e0 true e2 e3 e4 e5 e6 e7 _).trans ?_
    refine (cfr rfl).trans ?_
    have x : nxI d 0 [d, d, d, d, d, d, d, d] [e0, false, false, false, false, false, false, false] [0, if true = true then 1 else 0, if e2 = true then 1 else 0, if e3 = true then 1 else 0, if e4 = true then 1 else 0, if e5 = true then 1 else 0, if e6 = true then 1 else 0, if e7 = true then 1 else 0] = 1 := by simp [nxI, hd]
    rw [x]
    refine (cfr rfl).trans ?_
    refine (cfr rfl).trans ?_
    refine (cfr (bne_t (wd_bits e0 true false false false false false false).2.1)).trans ?_
    refine (cfr (show (Int.tmod (Int.fdiv (wd 0 0 (bitsT (dnT 1 0 (tR [false, true, e2, e3, e4, e5, e6, e7])))) 2) 2 != 0) = false by rw [tR_dn, bits_tR]; exact bne_t (wd_zero false false e2 e3 e4 e5 e6 e7).2.1)).trans ?_
    exact o4_go2 d l hd e0 true e2 e3 e4 e5 e6 e7 K
theorem o4_go0 (d : Int) (l : List Int) (hd : d ≠ -1) (e0 e1 e2 e3 e4 e5 e6 e7 : Bool) (K : HeadK) : iterR Try.prog sW lNil iO4 60 (loopOf Try.prog 5 4) 9 [aint .i64 d, vP 1, vP 2, aint .i64 0] (hO l [d, d, d, d, d, d, d, d] [false, false, false, false, false, false, false, false] [if e0 = true then 1 else 0, if e1 = true then 1 else 0, if e2 = true then 1 else 0, if e3 = true then 1 else 0, if e4 = true then 1 else 0, if e5 = true then 1 else 0, if e6 = true then 1 else 0, if e7 = true then 1 else 0] [e0, e1, e2, e3, e4, e5, e6, e7]) K = K (.exit 4) [aint .i64 d, vP 1, vP 2] (hO l [d, d, d, d, d, d, d, d] [e0, e1, e2, e3, e4, e5, e6, e7] [0, 0, 0, 0, 0, 0, 0, 0] [e0, e1, e2, e3, e4, e5, e6, e7]) := by
  rw [iterR]
  cases e0 with
  | false =>
    refine (t_o4_0 d l d d d d d d d d false false false false false false false false (if false = true then 1 else 0) (if e1 = true then 1 else 0) (if e2 = true then 1 else 0) (if e3 = true then 1 else 0) (if e4 = true then 1 else 0) (if e5 = true then 1 else 0) (if e6 = true then 1 else 0) (if e7 = true then 1 else 0) false e1 e2 e3 e4 e5 e6 e7 _).trans ?_
    exact (ctr rfl).trans (o4_go1 d l hd false e1 e2 e3 e4 e5 e6 e7 K)
  | true =>
    refine (t_o4_0 d l d d d d d d d d false false false false false false false false (if true = true then 1 else 0) (if e1 = true then 1 else 0) (if e2 = true then 1 else 0) (if e3 = true then 1 else 0) (if e4 = true then 1 else 0) (if e5 = true then 1 else 0) (if e6 = true then 1 else 0) (if e7 = true then 1 else 0) true e1 e2 e3 e4 e5 e6 e7 _).trans ?_
    refine (cfr rfl).trans ?_
    have x : nxI d 0 [d, d, d, d, d, d, d, d] [false, false, false, false, false, false, false, false] [if true = true then 1 else 0, if e1 = true then 1 else 0, if e2 = true then 1 else 0, if e3 = true then 1 else 0, if e4 = true then 1 else 0, if e5 = true then 1 else 0, if e6 = true then 1 else 0, if e7 = true then 1 else 0] = 0 := by simp [nxI, hd]
    rw [x]
    refine (cfr rfl).trans ?_
    refine (cfr rfl).trans ?_
    refine (cfr (bne_t (wd_bits true false false false false false false false).1)).trans ?_
    refine (cfr (show (Int.tmod (Int.fdiv (wd 0 0 (bitsT (dnT 0 0 (tR [true, e1, e2, e3, e4, e5, e6, e7])))) 1) 2 != 0) = false by rw [tR_dn, bits_tR]; exact bne_t (wd_zero false e1 e2 e3 e4 e5 e6 e7).1)).trans ?_
    exact o4_go1 d l hd true e1 e2 e3 e4 e5 e6 e7 K
theorem o6_go8 (d : Int) (l : List Int) (hd : d ≠ -1) (e0 e1 e2 e3 e4 e5 e6 e7 : Bool) (K : HeadK) : iterR Try.prog sW lNil iO6 60 (loopOf Try.prog 5 6) 1 [vP 1, vP 2, aint .i64 8] (hO l [d, d, d, d, d, d, d, d] [false, false, false, false, false, false, false, false] [0, 0, 0, 0, 0, 0, 0, 0] [e0, e1, e2, e3, e4, e5, e6, e7]) K = K (.exit 6) [vP 1] (hO6 l [d, d, d, d, d, d, d, d] [false, false, false, false, false, false, false, false] [0, 0, 0, 0, 0, 0, 0, 0]) := by
  rw [iterR]
  refine (t_o6_8 l d d d d d d d d false false false false false false false false 0 0 0 0 0 0 0 0 e0 e1 e2 e3 e4 e5 e6 e7 _).trans ?_
  rfl
theorem o6_go7 (d : Int) (l : List Int) (hd : d ≠ -1) (e0 e1 e2 e3 e4 e5 e6 e7 : Bool) (K : HeadK) : iterR Try.prog sW lNil iO6 60 (loopOf Try.prog 5 6) 2 [vP 1, vP 2, aint .i64 7] (hO l [d, d, d, d, d, d, d, d] [false, false, false, false, false, false, false, e7] [0, 0, 0, 0, 0, 0, 0, 0] [e0, e1, e2, e3, e4, e5, e6, e7]) K = K (.exit 6) [vP 1] (hO6 l [d, d, d, d, d, d, d, d] [false, false, false, false, false, false, false, false] [0, 0, 0, 0, 0, 0, 0, 0]) := by
  rw [iterR]
  cases e7 with
  | false =>
    refine (t_o6_7 l d d d d d d d d false false false false false false false false 0 0 0 0 0 0 0 0 e0 e1 e2 e3 e4 e5 e6 false _).trans ?_
    have x : ackE 7 [d, d, d, d, d, d, d, d] [false, false, false, false, false, false, false, false] = 8 := by unfold ackE; exact (if_pos (show inL 7 = true from rfl)).trans (if_pos (.inr rfl))
    have y : ackIx 7 [d, d, d, d, d, d, d, d] [false, false, false, false, false, false, false, false] = 8 := by unfold ackIx; rw [x]; rfl
    refine (cfr (bsame_ff (show (ackE 7 [d, d, d, d, d, d, d, d] [false, false, false, false, false, false, false, false] == 0) = false by rw [x]; rfl))).trans ?_
    rw [y]
    exact o6_go8 d l hd e0 e1 e2 e3 e4 e5 e6 false K
  | true =>
    refine (t_o6_7 l d d d d d d d d false false false false false false false true 0 0 0 0 0 0 0 0 e0 e1 e2 e3 e4 e5 e6 true _).trans ?_
    have x : ackE 7 [d, d, d, d, d, d, d, d] [false, false, false, false, false, false, false, true] = 0 := by unfold ackE; exact (if_pos (show inL 7 = true from rfl)).trans (if_neg (by rintro (h | h); exact hd h; exact Bool.noConfusion h))
    have y : ackIx 7 [d, d, d, d, d, d, d, d] [false, false, false, false, false, false, false, true] = 7 := by unfold ackIx; rw [x]; rfl
    refine (cfr (bsame_ff (show (ackE 7 [d, d, d, d, d, d, d, d] [false, false, false, false, false, false, false, true] == 0) = true by rw [x]; rfl))).trans ?_
    rw [y]
    exact o6_go8 d l hd e0 e1 e2 e3 e4 e5 e6 true K
theorem o6_go6 (d : Int) (l : List Int) (hd : d ≠ -1) (e0 e1 e2 e3 e4 e5 e6 e7 : Bool) (K : HeadK) : iterR Try.prog sW lNil iO6 60 (loopOf Try.prog 5 6) 3 [vP 1, vP 2, aint .i64 6] (hO l [d, d, d, d, d, d, d, d] [false, false, false, false, false, false, e6, e7] [0, 0, 0, 0, 0, 0, 0, 0] [e0, e1, e2, e3, e4, e5, e6, e7]) K = K (.exit 6) [vP 1] (hO6 l [d, d, d, d, d, d, d, d] [false, false, false, false, false, false, false, false] [0, 0, 0, 0, 0, 0, 0, 0]) := by
  rw [iterR]
  cases e6 with
  | false =>
    refine (t_o6_6 l d d d d d d d d false false false false false false false e7 0 0 0 0 0 0 0 0 e0 e1 e2 e3 e4 e5 false e7 _).trans ?_
    have x : ackE 6 [d, d, d, d, d, d, d, d] [false, false, false, false, false, false, false, e7] = 8 := by unfold ackE; exact (if_pos (show inL 6 = true from rfl)).trans (if_pos (.inr rfl))
    have y : ackIx 6 [d, d, d, d, d, d, d, d] [false, false, false, false, false, false, false, e7] = 8 := by unfold ackIx; rw [x]; rfl
    refine (cfr (bsame_ff (show (ackE 6 [d, d, d, d, d, d, d, d] [false, false, false, false, false, false, false, e7] == 0) = false by rw [x]; rfl))).trans ?_
    rw [y]
    exact o6_go7 d l hd e0 e1 e2 e3 e4 e5 false e7 K
  | true =>
    refine (t_o6_6 l d d d d d d d d false false false false false false true e7 0 0 0 0 0 0 0 0 e0 e1 e2 e3 e4 e5 true e7 _).trans ?_
    have x : ackE 6 [d, d, d, d, d, d, d, d] [false, false, false, false, false, false, true, e7] = 0 := by unfold ackE; exact (if_pos (show inL 6 = true from rfl)).trans (if_neg (by rintro (h | h); exact hd h; exact Bool.noConfusion h))
    have y : ackIx 6 [d, d, d, d, d, d, d, d] [false, false, false, false, false, false, true, e7] = 6 := by unfold ackIx; rw [x]; rfl
    refine (cfr (bsame_ff (show (ackE 6 [d, d, d, d, d, d, d, d] [false, false, false, false, false, false, true, e7] == 0) = true by rw [x]; rfl))).trans ?_
    rw [y]
    exact o6_go7 d l hd e0 e1 e2 e3 e4 e5 true e7 K
theorem o6_go5 (d : Int) (l : List Int) (hd : d ≠ -1) (e0 e1 e2 e3 e4 e5 e6 e7 : Bool) (K : HeadK) : iterR Try.prog sW lNil iO6 60 (loopOf Try.prog 5 6) 4 [vP 1, vP 2, aint .i64 5] (hO l [d, d, d, d, d, d, d, d] [false, false, false, false, false, e5, e6, e7] [0, 0, 0, 0, 0, 0, 0, 0] [e0, e1, e2, e3, e4, e5, e6, e7]) K = K (.exit 6) [vP 1] (hO6 l [d, d, d, d, d, d, d, d] [false, false, false, false, false, false, false, false] [0, 0, 0, 0, 0, 0, 0, 0]) := by
  rw [iterR]
  cases e5 with
  | false =>
    refine (t_o6_5 l d d d d d d d d false false false false false false e6 e7 0 0 0 0 0 0 0 0 e0 e1 e2 e3 e4 false e6 e7 _).trans ?_
    have x : ackE 5 [d, d, d, d, d, d, d, d] [false, false, false, false, false, false, e6, e7] = 8 := by unfold ackE; exact (if_pos (show inL 5 = true from rfl)).trans (if_pos (.inr rfl))
    have y : ackIx 5 [d, d, d, d, d, d, d, d] [false, false, false, false, false, false, e6, e7] = 8 := by unfold ackIx; rw [x]; rfl
    refine (cfr (bsame_ff (show (ackE 5 [d, d, d, d, d, d, d, d] [false, false, false, false, false, false, e6, e7] == 0) = false by rw [x]; rfl))).trans ?_
    rw [y]
    exact o6_go6 d l hd e0 e1 e2 e3 e4 false e6 e7 K
  | true =>
    refine (t_o6_5 l d d d d d d d d false false false false false true e6 e7 0 0 0 0 0 0 0 0 e0 e1 e2 e3 e4 true e6 e7 _).trans ?_
    have x : ackE 5 [d, d, d, d, d, d, d, d] [false, false, false, false, false, true, e6, e7] = 0 := by unfold ackE; exact (if_pos (show inL 5 = true from rfl)).trans (if_neg (by rintro (h | h); exact hd h; exact Bool.noConfusion h))
    have y : ackIx 5 [d, d, d, d, d, d, d, d] [false, false, false, false, false, true, e6, e7] = 5 := by unfold ackIx; rw [x]; rfl
    refine (cfr (bsame_ff (show (ackE 5 [d, d, d, d, d, d, d, d] [false, false, false, false, false, true, e6, e7] == 0) = true by rw [x]; rfl))).trans ?_
    rw [y]
    exact o6_go6 d l hd e0 e1 e2 e3 e4 true e6 e7 K
theorem o6_go4 (d : Int) (l : List Int) (hd : d ≠ -1) (e0 e1 e2 e3 e4 e5 e6 e7 : Bool) (K : HeadK) : iterR Try.prog sW lNil iO6 60 (loopOf Try.prog 5 6) 5 [vP 1, vP 2, aint .i64 4] (hO l [d, d, d, d, d, d, d, d] [false, false, false, false, e4, e5, e6, e7] [0, 0, 0, 0, 0, 0, 0, 0] [e0, e1, e2, e3, e4, e5, e6, e7]) K = K (.exit 6) [vP 1] (hO6 l [d, d, d, d, d, d, d, d] [false, false, false, false, false, false, false, false] [0, 0, 0, 0, 0, 0, 0, 0]) := by
  rw [iterR]
  cases e4 with
  | false =>
    refine (t_o6_4 l d d d d d d d d false false false false false e5 e6 e7 0 0 0 0 0 0 0 0 e0 e1 e2 e3 false e5 e6 e7 _).trans ?_
    have x : ackE 4 [d, d, d, d, d, d, d, d] [false, false, false, false, false, e5, e6, e7] = 8 := by unfold ackE; exact (if_pos (show inL 4 = true from rfl)).trans (if_pos (.inr rfl))
    have y : ackIx 4 [d, d, d, d, d, d, d, d] [false, false, false, false, false, e5, e6, e7] = 8 := by unfold ackIx; rw [x]; rfl
    refine (cfr (bsame_ff (show (ackE 4 [d, d, d, d, d, d, d, d] [false, false, false, false, false, e5, e6, e7] == 0) = false by rw [x]; rfl))).trans ?_
    rw [y]
    exact o6_go5 d l hd e0 e1 e2 e3 false e5 e6 e7 K
  | true =>
    refine (t_o6_4 l d d d d d d d d false false false false true e5 e6 e7 0 0 0 0 0 0 0 0 e0 e1 e2 e3 true e5 e6 e7 _).trans ?_
    have x : ackE 4 [d, d, d, d, d, d, d, d] [false, false, false, false, true, e5, e6, e7] = 0 := by unfold ackE; exact (if_pos (show inL 4 = true from rfl)).trans (if_neg (by rintro (h | h); exact hd h; exact Bool.noConfusion h))
    have y : ackIx 4 [d, d, d, d, d, d, d, d] [false, false, false, false, true, e5, e6, e7] = 4 := by unfold ackIx; rw [x]; rfl
    refine (cfr (bsame_ff (show (ackE 4 [d, d, d, d, d, d, d, d] [false, false, false, false, true, e5, e6, e7] == 0) = true by rw [x]; rfl))).trans ?_
    rw [y]
    exact o6_go5 d l hd e0 e1 e2 e3 true e5 e6 e7 K
theorem o6_go3 (d : Int) (l : List Int) (hd : d ≠ -1) (e0 e1 e2 e3 e4 e5 e6 e7 : Bool) (K : HeadK) : iterR Try.prog sW lNil iO6 60 (loopOf Try.prog 5 6) 6 [vP 1, vP 2, aint .i64 3] (hO l [d, d, d, d, d, d, d, d] [false, false, false, e3, e4, e5, e6, e7] [0, 0, 0, 0, 0, 0, 0, 0] [e0, e1, e2, e3, e4, e5, e6, e7]) K = K (.exit 6) [vP 1] (hO6 l [d, d, d, d, d, d, d, d] [false, false, false, false, false, false, false, false] [0, 0, 0, 0, 0, 0, 0, 0]) := by
  rw [iterR]
  cases e3 with
  | false =>
    refine (t_o6_3 l d d d d d d d d false false false false e4 e5 e6 e7 0 0 0 0 0 0 0 0 e0 e1 e2 false e4 e5 e6 e7 _).trans ?_
    have x : ackE 3 [d, d, d, d, d, d, d, d] [false, false, false, false, e4, e5, e6, e7] = 8 := by unfold ackE; exact (if_pos (show inL 3 = true from rfl)).trans (if_pos (.inr rfl))
    have y : ackIx 3 [d, d, d, d, d, d, d, d] [false, false, false, false, e4, e5, e6, e7] = 8 := by unfold ackIx; rw [x]; rfl
    refine (cfr (bsame_ff (show (ackE 3 [d, d, d, d, d, d, d, d] [false, false, false, false, e4, e5, e6, e7] == 0) = false by rw [x]; rfl))).trans ?_
    rw [y]
    exact o6_go4 d l hd e0 e1 e2 false e4 e5 e6 e7 K
  | true =>
    refine (t_o6_3 l d d d d d d d d false false false true e4 e5 e6 e7 0 0 0 0 0 0 0 0 e0 e1 e2 true e4 e5 e6 e7 _).trans ?_
    have x : ackE 3 [d, d, d, d, d, d, d, d] [false, false, false, true, e4, e5, e6, e7] = 0 := by unfold ackE; exact (if_pos (show inL 3 = true from rfl)).trans (if_neg (by rintro (h | h); exact hd h; exact Bool.noConfusion h))
    have y : ackIx 3 [d, d, d, d, d, d, d, d] [false, false, false, true, e4, e5, e6, e7] = 3 := by unfold ackIx; rw [x]; rfl
    refine (cfr (bsame_ff (show (ackE 3 [d, d, d, d, d, d, d, d] [false, false, false, true, e4, e5, e6, e7] == 0) = true by rw [x]; rfl))).trans ?_
    rw [y]
    exact o6_go4 d l hd e0 e1 e2 true e4 e5 e6 e7 K
theorem o6_go2 (d : Int) (l : List Int) (hd : d ≠ -1) (e0 e1 e2 e3 e4 e5 e6 e7 : Bool) (K : HeadK) : iterR Try.prog sW lNil iO6 60 (loopOf Try.prog 5 6) 7 [vP 1, vP 2, aint .i64 2] (hO l [d, d, d, d, d, d, d, d] [false, false, e2, e3, e4, e5, e6, e7] [0, 0, 0, 0, 0, 0, 0, 0] [e0, e1, e2, e3, e4, e5, e6, e7]) K = K (.exit 6) [vP 1] (hO6 l [d, d, d, d, d, d, d, d] [false, false, false, false, false, false, false, false] [0, 0, 0, 0, 0, 0, 0, 0]) := by
  rw [iterR]
  cases e2 with
  | false =>
    refine (t_o6_2 l d d d d d d d d false false false e3 e4 e5 e6 e7 0 0 0 0 0 0 0 0 e0 e1 false e3 e4 e5 e6 e7 _).trans ?_
    have x : ackE 2 [d, d, d, d, d, d, d, d] [false, false, false, e3, e4, e5, e6, e7] = 8 := by unfold ackE; exact (if_pos (show inL 2 = true from rfl)).trans (if_pos (.inr rfl))
    have y : ackIx 2 [d, d, d, d, d, d, d, d] [false, false, false, e3, e4, e5, e6, e7] = 8 := by unfold ackIx; rw [x]; rfl
    refine (cfr (bsame_ff (show (ackE 2 [d, d, d, d, d, d, d, d] [false, false, false, e3, e4, e5, e6, e7] == 0) = false by rw [x]; rfl))).trans ?_
    rw [y]
    exact o6_go3 d l hd e0 e1 false e3 e4 e5 e6 e7 K
  | true =>
    refine (t_o6_2 l d d d d d d d d false false true e3 e4 e5 e6 e7 0 0 0 0 0 0 0 0 e0 e1 true e3 e4 e5 e6 e7 _).trans ?_
    have x : ackE 2 [d, d, d, d, d, d, d, d] [false, false, true, e3, e4, e5, e6, e7] = 0 := by unfold ackE; exact (if_pos (show inL 2 = true from rfl)).trans (if_neg (by rintro (h | h); exact hd h; exact Bool.noConfusion h))
    have y : ackIx 2 [d, d, d, d, d, d, d, d] [false, false, true, e3, e4, e5, e6, e7] = 2 := by unfold ackIx; rw [x]; rfl
    refine (cfr (bsame_ff (show (ackE 2 [d, d, d, d, d, d, d, d] [false, false, true, e3, e4, e5, e6, e7] == 0) = true by rw [x]; rfl))).trans ?_
    rw [y]
    exact o6_go3 d l hd e0 e1 true e3 e4 e5 e6 e7 K
theorem o6_go1 (d : Int) (l : List Int) (hd : d ≠ -1) (e0 e1 e2 e3 e4 e5 e6 e7 : Bool) (K : HeadK) : iterR Try.prog sW lNil iO6 60 (loopOf Try.prog 5 6) 8 [vP 1, vP 2, aint .i64 1] (hO l [d, d, d, d, d, d, d, d] [false, e1, e2, e3, e4, e5, e6, e7] [0, 0, 0, 0, 0, 0, 0, 0] [e0, e1, e2, e3, e4, e5, e6, e7]) K = K (.exit 6) [vP 1] (hO6 l [d, d, d, d, d, d, d, d] [false, false, false, false, false, false, false, false] [0, 0, 0, 0, 0, 0, 0, 0]) := by
  rw [iterR]
  cases e1 with
  | false =>
    refine (t_o6_1 l d d d d d d d d false false e2 e3 e4 e5 e6 e7 0 0 0 0 0 0 0 0 e0 false e2 e3 e4 e5 e6 e7 _).trans ?_
    have x : ackE 1 [d, d, d, d, d, d, d, d] [false, false, e2, e3, e4, e5, e6, e7] = 8 := by unfold ackE; exact (if_pos (show inL 1 = true from rfl)).trans (if_pos (.inr rfl))
    have y : ackIx 1 [d, d, d, d, d, d, d, d] [false, false, e2, e3, e4, e5, e6, e7] = 8 := by unfold ackIx; rw [x]; rfl
    refine (cfr (bsame_ff (show (ackE 1 [d, d, d, d, d, d, d, d] [false, false, e2, e3, e4, e5, e6, e7] == 0) = false by rw [x]; rfl))).trans ?_
    rw [y]
    exact o6_go2 d l hd e0 false e2 e3 e4 e5 e6 e7 K
  | true =>
    refine (t_o6_1 l d d d d d d d d false true e2 e3 e4 e5 e6 e7 0 0 0 0 0 0 0 0 e0 true e2 e3 e4 e5 e6 e7 _).trans ?_
    have x : ackE 1 [d, d, d, d, d, d, d, d] [false, true, e2, e3, e4, e5, e6, e7] = 0 := by unfold ackE; exact (if_pos (show inL 1 = true from rfl)).trans (if_neg (by rintro (h | h); exact hd h; exact Bool.noConfusion h))
    have y : ackIx 1 [d, d, d, d, d, d, d, d] [false, true, e2, e3, e4, e5, e6, e7] = 1 := by unfold ackIx; rw [x]; rfl
    refine (cfr (bsame_ff (show (ackE 1 [d, d, d, d, d, d, d, d] [false, true, e2, e3, e4, e5, e6, e7] == 0) = true by rw [x]; rfl))).trans ?_
    rw [y]
    exact o6_go2 d l hd e0 true e2 e3 e4 e5 e6 e7 K
theorem o6_go0 (d : Int) (l : List Int) (hd : d ≠ -1) (e0 e1 e2 e3 e4 e5 e6 e7 : Bool) (K : HeadK) : iterR Try.prog sW lNil iO6 60 (loopOf Try.prog 5 6) 9 [vP 1, vP 2, aint .i64 0] (hO l [d, d, d, d, d, d, d, d] [e0, e1, e2, e3, e4, e5, e6, e7] [0, 0, 0, 0, 0, 0, 0, 0] [e0, e1, e2, e3, e4, e5, e6, e7]) K = K (.exit 6) [vP 1] (hO6 l [d, d, d, d, d, d, d, d] [false, false, false, false, false, false, false, false] [0, 0, 0, 0, 0, 0, 0, 0]) := by
  rw [iterR]
  cases e0 with
  | false =>
    refine (t_o6_0 l d d d d d d d d false e1 e2 e3 e4 e5 e6 e7 0 0 0 0 0 0 0 0 false e1 e2 e3 e4 e5 e6 e7 _).trans ?_
    have x : ackE 0 [d, d, d, d, d, d, d, d] [false, e1, e2, e3, e4, e5, e6, e7] = 8 := by unfold ackE; exact (if_pos (show inL 0 = true from rfl)).trans (if_pos (.inr rfl))
    have y : ackIx 0 [d, d, d, d, d, d, d, d] [false, e1, e2, e3, e4, e5, e6, e7] = 8 := by unfold ackIx; rw [x]; rfl
    refine (cfr (bsame_ff (show (ackE 0 [d, d, d, d, d, d, d, d] [false, e1, e2, e3, e4, e5, e6, e7] == 0) = false by rw [x]; rfl))).trans ?_
    rw [y]
    exact o6_go1 d l hd false e1 e2 e3 e4 e5 e6 e7 K
  | true =>
    refine (t_o6_0 l d d d d d d d d true e1 e2 e3 e4 e5 e6 e7 0 0 0 0 0 0 0 0 true e1 e2 e3 e4 e5 e6 e7 _).trans ?_
    have x : ackE 0 [d, d, d, d, d, d, d, d] [true, e1, e2, e3, e4, e5, e6, e7] = 0 := by unfold ackE; exact (if_pos (show inL 0 = true from rfl)).trans (if_neg (by rintro (h | h); exact hd h; exact Bool.noConfusion h))
    have y : ackIx 0 [d, d, d, d, d, d, d, d] [true, e1, e2, e3, e4, e5, e6, e7] = 0 := by unfold ackIx; rw [x]; rfl
    refine (cfr (bsame_ff (show (ackE 0 [d, d, d, d, d, d, d, d] [true, e1, e2, e3, e4, e5, e6, e7] == 0) = true by rw [x]; rfl))).trans ?_
    rw [y]
    exact o6_go1 d l hd true e1 e2 e3 e4 e5 e6 e7 K
noncomputable def lOr (ul : Nat) (d : Int) (l : List Int) (e0 e1 e2 e3 e4 e5 e6 e7 : Bool) : Nat → Option Orc := lAdd (lAdd (lAdd (lAdd lNil 0 (wrapO iO0 0 (cAt 0 [vSl ul, aint .i64 d, vP 1, vP 2, aint .i64 0] (hO l [-1, -1, -1, -1, -1, -1, -1, -1] [true, true, true, true, true, true, true, true] [0, 0, 0, 0, 0, 0, 0, 0] [false, false, false, false, false, false, false, false]) [vSl ul, aint .i64 d, vP 1, vP 2] (hO l [d, d, d, d, d, d, d, d] [false, false, false, false, false, false, false, false] [0, 0, 0, 0, 0, 0, 0, 0] [false, false, false, false, false, false, false, false])))) 2 (wrapO iO2 2 (cAt 2 [vSl ul, aint .i64 d, vP 1, vP 2, aint .i64 0] (hO l [d, d, d, d, d, d, d, d] [false, false, false, false, false, false, false, false] [0, 0, 0, 0, 0, 0, 0, 0] [false, false, false, false, false, false, false, false]) [aint .i64 d, vP 1, vP 2] (hO l [d, d, d, d, d, d, d, d] [false, false, false, false, false, false, false, false] [if e0 = true then 1 else 0, if e1 = true then 1 else 0, if e2 = true then 1 else 0, if e3 = true then 1 else 0, if e4 = true then 1 else 0, if e5 = true then 1 else 0, if e6 = true then 1 else 0, if e7 = true then 1 else 0] [e0, e1, e2, e3, e4, e5, e6, e7])))) 4 (wrapO iO4 4 (cAt 4 [aint .i64 d, vP 1, vP 2, aint .i64 0] (hO l [d, d, d, d, d, d, d, d] [false, false, false, false, false, false, false, false] [if e0 = true then 1 else 0, if e1 = true then 1 else 0, if e2 = true then 1 else 0, if e3 = true then 1 else 0, if e4 = true then 1 else 0, if e5 = true then 1 else 0, if e6 = true then 1 else 0, if e7 = true then 1 else 0] [e0, e1, e2, e3, e4, e5, e6, e7]) [aint .i64 d, vP 1, vP 2] (hO l [d, d, d, d, d, d, d, d] [e0, e1, e2, e3, e4, e5, e6, e7] [0, 0, 0, 0, 0, 0, 0, 0] [e0, e1, e2, e3, e4, e5, e6, e7])))) 6 (wrapO iO6 6 (cAt 6 [vP 1, vP 2, aint .i64 0] (hO l [d, d, d, d, d, d, d, d] [e0, e1, e2, e3, e4, e5, e6, e7] [0, 0, 0, 0, 0, 0, 0, 0] [e0, e1, e2, e3, e4, e5, e6, e7]) [vP 1] (hO6 l [d, d, d, d, d, d, d, d] [false, false, false, false, false, false, false, false] [0, 0, 0, 0, 0, 0, 0, 0])))
theorem lOr_for (ul : Nat) (d : Int) (l : List Int) (h0 : 0 ≤ d) (h4 : d < 4) (l1 : ul = l.length) (e0 e1 e2 e3 e4 e5 e6 e7 : Bool) (he : oZ ul l 40 0 [false, false, false, false, false, false, false, false] = [e0, e1, e2, e3, e4, e5, e6, e7]) : LFor 1 Try.prog 5 (lOr ul d l e0 e1 e2 e3 e4 e5 e6 e7) := by
  have g2 : ∀ K : HeadK, iterR Try.prog sW lNil iO2 60 (loopOf Try.prog 5 2) 41 [vSl ul, aint .i64 d, vP 1, vP 2, aint .i64 0] (hO l [d, d, d, d, d, d, d, d] [false, false, false, false, false, false, false, false] [0, 0, 0, 0, 0, 0, 0, 0] [false, false, false, false, false, false, false, false]) K = K (.exit 2) [aint .i64 d, vP 1, vP 2] (hO l [d, d, d, d, d, d, d, d] [false, false, false, false, false, false, false, false] [if e0 = true then 1 else 0, if e1 = true then 1 else 0, if e2 = true then 1 else 0, if e3 = true then 1 else 0, if e4 = true then 1 else 0, if e5 = true then 1 else 0, if e6 = true then 1 else 0, if e7 = true then 1 else 0] [e0, e1, e2, e3, e4, e5, e6, e7]) := fun K => by
    have := o2_loop ul d l l1 K 40 0 [false, false, false, false, false, false, false, false] rfl (by omega)
    rw [he] at this
    exact this
  have c0 := cAt_sound (I := iO0) sW_ok 9 (fun K => o0_go0 ul d l h0 h4 K)
  have c2 := cAt_sound (I := iO2) sW_ok 41 g2
  have c4 := cAt_sound (I := iO4) sW_ok 9 (fun K => o4_go0 d l (by omega) e0 e1 e2 e3 e4 e5 e6 e7 K)
  have c6 := cAt_sound (I := iO6) sW_ok 9 (fun K => o6_go0 d l (by omega) e0 e1 e2 e3 e4 e5 e6 e7 K)
  exact lAdd_for (lAdd_for (lAdd_for (lAdd_for lNil_for (by kernel_rfl) c0) (by kernel_rfl) c2) (by kernel_rfl) c4) (by kernel_rfl) c6
theorem or_dis : Go.Eng.distinct (blockIds (codeOf Try.prog 5)) = true := by kernel_rfl
set_option maxHeartbeats 4000000 in
theorem t_order (ul : Nat) (d z : Int) (l : List Int) (e0 e1 e2 e3 e4 e5 e6 e7 : Bool) (k : Res → Option Res) : runLG Try.prog sW (lOr ul z l e0 e1 e2 e3 e4 e5 e6 e7) 1 100 5 [vSl ul, aint .i64 d] [some ⟨true, .rows [.ints .i64 l]⟩] k = (cond (Go.Proofs.Ytanchmbopllimaa.Wlk.isQ ([AV.e (AE.c (AC.slice { id := 0, row := 0, sz := 1, col := 0, ix := 0, es := 0, n := 0 } 1 ul 0 false)), AV.e (AE.c (AC.int IntKind.i64 (IntKind.wrap IntKind.i64 (Int.tmod (IntKind.wrap IntKind.u64 d) 4)))), AV.e (AE.c (AC.ptr { id := 1, row := 0, sz := 0, col := 0, ix := 0, es := 0, n := 0 })), AV.e (AE.c (AC.ptr { id := 2, row := 0, sz := 0, col := 0, ix := 0, es := 0, n := 0 })), AV.e (AE.c (AC.int IntKind.i64 0))] = [Go.Proofs.Ytanchmbopllimaa.Wlk.vSl ul, aint IntKind.i64 z, Go.Proofs.Ytanchmbopllimaa.Wlk.vP 1, Go.Proofs.Ytanchmbopllimaa.Wlk.vP 2, aint IntKind.i64 0] ∧ [(false, some { ro := true, d := Data.rows [Col.ints IntKind.i64 l] }), (true, some { ro := false, d := Data.mix [AC.chan { id := 3, row := 0, sz := 0, col := 0, ix := 0, es := 0, n := 0 }, AC.int IntKind.i64 (-1), AC.bool true, AC.chan { id := 4, row := 0, sz := 0, col := 0, ix := 0, es := 0, n := 0 }, AC.int IntKind.i64 (-1), AC.bool true, AC.chan { id := 5, row := 0, sz := 0, col := 0, ix := 0, es := 0, n := 0 }, AC.int IntKind.i64 (-1), AC.bool true, AC.chan { id := 6, row := 0, sz := 0, col := 0, ix := 0, es := 0, n := 0 }, AC.int IntKind.i64 (-1), AC.bool true, AC.chan { id := 7, row := 0, sz := 0, col := 0, ix := 0, es := 0, n := 0 }, AC.int IntKind.i64 (-1), AC.bool true, AC.chan { id := 8, row := 0, sz := 0, col := 0, ix := 0, es := 0, n := 0 }, AC.int IntKind.i64 (-1), AC.bool true, AC.chan { id := 9, row := 0, sz := 0, col := 0, ix := 0, es := 0, n := 0 }, AC.int IntKind.i64 (-1), AC.bool true, AC.chan { id := 10, row := 0, sz := 0, col := 0, ix := 0, es := 0, n := 0 }, AC.int IntKind.i64 (-1), AC.bool true] }), (true, some { ro := false, d := Data.mix [AC.bool false, AC.bool false, AC.bool false, AC.bool false, AC.bool false, AC.bool false, AC.bool false, AC.bool false] }), (true, some { ro := false, d := Data.chan 1 0 }), (true, some { ro := false, d := Data.chan 1 0 }), (true, some { ro := false, d := Data.chan 1 0 }), (true, some { ro := false, d := Data.chan 1 0 }), (true, some { ro := false, d := Data.chan 1 0 }), (true, some { ro := false, d := Data.chan 1 0 }), (true, some { ro := false, d := Data.chan 1 0 }), (true, some { ro := false, d := Data.chan 1 0 })] = Go.Proofs.Ytanchmbopllimaa.Wlk.hO l [-1, -1, -1, -1, -1, -1, -1, -1] [true, true, true, true, true, true, true, true] [0, 0, 0, 0, 0, 0, 0, 0] [false, false, false, false, false, false, false, false])) (cond (Go.Proofs.Ytanchmbopllimaa.Wlk.isQ ([AV.e (AE.c (AC.slice { id := 0, row := 0, sz := 1, col := 0, ix := 0, es := 0, n := 0 } 1 ul 0 false)), AV.e (AE.c (AC.int IntKind.i64 z)), AV.e (AE.c (AC.ptr { id := 1, row := 0, sz := 0, col := 0, ix := 0, es := 0, n := 0 })), AV.e (AE.c (AC.ptr { id := 2, row := 0, sz := 0, col := 0, ix := 0, es := 0, n := 0 })), AV.e (AE.c (AC.int IntKind.i64 0))] = [Go.Proofs.Ytanchmbopllimaa.Wlk.vSl ul, aint IntKind.i64 z, Go.Proofs.Ytanchmbopllimaa.Wlk.vP 1, Go.Proofs.Ytanchmbopllimaa.Wlk.vP 2, aint IntKind.i64 0] ∧ [(false, some { ro := true, d := Data.rows [Col.ints IntKind.i64 l] }), (true, some { ro := false, d := Data.mix [AC.chan { id := 3, row := 0, sz := 0, col := 0, ix := 0, es := 0, n := 0 }, AC.int IntKind.i64 z, AC.bool false, AC.chan { id := 4, row := 0, sz := 0, col := 0, ix := 0, es := 0, n := 0 }, AC.int IntKind.i64 z, AC.bool false, AC.chan { id := 5, row := 0, sz := 0, col := 0, ix := 0, es := 0, n := 0 }, AC.int IntKind.i64 z, AC.bool false, AC.chan { id := 6, row := 0, sz := 0, col := 0, ix := 0, es := 0, n := 0 }, AC.int IntKind.i64 z, AC.bool false, AC.chan { id := 7, row := 0, sz := 0, col := 0, ix := 0, es := 0, n := 0 }, AC.int IntKind.i64 z, AC.bool false, AC.chan { id := 8, row := 0, sz := 0, col := 0, ix := 0, es := 0, n := 0 }, AC.int IntKind.i64 z, AC.bool false, AC.chan { id := 9, row := 0, sz := 0, col := 0, ix := 0, es := 0, n := 0 }, AC.int IntKind.i64 z, AC.bool false, AC.chan { id := 10, row := 0, sz := 0, col := 0, ix := 0, es := 0, n := 0 }, AC.int IntKind.i64 z, AC.bool false] }), (true, some { ro := false, d := Data.mix [AC.bool false, AC.bool false, AC.bool false, AC.bool false, AC.bool false, AC.bool false, AC.bool false, AC.bool false] }), (true, some { ro := false, d := Data.chan 1 0 }), (true, some { ro := false, d := Data.chan 1 0 }), (true, some { ro := false, d := Data.chan 1 0 }), (true, some { ro := false, d := Data.chan 1 0 }), (true, some { ro := false, d := Data.chan 1 0 }), (true, some { ro := false, d := Data.chan 1 0 }), (true, some { ro := false, d := Data.chan 1 0 }), (true, some { ro := false, d := Data.chan 1 0 })] = Go.Proofs.Ytanchmbopllimaa.Wlk.hO l [z, z, z, z, z, z, z, z] [false, false, false, false, false, false, false, false] [0, 0, 0, 0, 0, 0, 0, 0] [false, false, false, false, false, false, false, false])) (cond (Go.Proofs.Ytanchmbopllimaa.Wlk.isQ ([AV.e (AE.c (AC.int IntKind.i64 z)), AV.e (AE.c (AC.ptr { id := 1, row := 0, sz := 0, col := 0, ix := 0, es := 0, n := 0 })), AV.e (AE.c (AC.ptr { id := 2, row := 0, sz := 0, col := 0, ix := 0, es := 0, n := 0 })), AV.e (AE.c (AC.int IntKind.i64 0))] = [aint IntKind.i64 z, Go.Proofs.Ytanchmbopllimaa.Wlk.vP 1, Go.Proofs.Ytanchmbopllimaa.Wlk.vP 2, aint IntKind.i64 0] ∧ [(false, some { ro := true, d := Data.rows [Col.ints IntKind.i64 l] }), (true, some { ro := false, d := Data.mix [AC.chan { id := 3, row := 0, sz := 0, col := 0, ix := 0, es := 0, n := 0 }, AC.int IntKind.i64 z, AC.bool false, AC.chan { id := 4, row := 0, sz := 0, col := 0, ix := 0, es := 0, n := 0 }, AC.int IntKind.i64 z, AC.bool false, AC.chan { id := 5, row := 0, sz := 0, col := 0, ix := 0, es := 0, n := 0 }, AC.int IntKind.i64 z, AC.bool false, AC.chan { id := 6, row := 0, sz := 0, col := 0, ix := 0, es := 0, n := 0 }, AC.int IntKind.i64 z, AC.bool false, AC.chan { id := 7, row := 0, sz := 0, col := 0, ix := 0, es := 0, n := 0 }, AC.int IntKind.i64 z, AC.bool false, AC.chan { id := 8, row := 0, sz := 0, col := 0, ix := 0, es := 0, n := 0 }, AC.int IntKind.i64 z, AC.bool false, AC.chan { id := 9, row := 0, sz := 0, col := 0, ix := 0, es := 0, n := 0 }, AC.int IntKind.i64 z, AC.bool false, AC.chan { id := 10, row := 0, sz := 0, col := 0, ix := 0, es := 0, n := 0 }, AC.int IntKind.i64 z, AC.bool false] }), (true, some { ro := false, d := Data.mix [AC.bool e0, AC.bool e1, AC.bool e2, AC.bool e3, AC.bool e4, AC.bool e5, AC.bool e6, AC.bool e7] }), (true, some { ro := false, d := Data.chan 1 (if e0 = true then 1 else 0) }), (true, some { ro := false, d := Data.chan 1 (if e1 = true then 1 else 0) }), (true, some { ro := false, d := Data.chan 1 (if e2 = true then 1 else 0) }), (true, some { ro := false, d := Data.chan 1 (if e3 = true then 1 else 0) }), (true, some { ro := false, d := Data.chan 1 (if e4 = true then 1 else 0) }), (true, some { ro := false, d := Data.chan 1 (if e5 = true then 1 else 0) }), (true, some { ro := false, d := Data.chan 1 (if e6 = true then 1 else 0) }), (true, some { ro := false, d := Data.chan 1 (if e7 = true then 1 else 0) })] = Go.Proofs.Ytanchmbopllimaa.Wlk.hO l [z, z, z, z, z, z, z, z] [false, false, false, false, false, false, false, false] [if e0 = true then 1 else 0, if e1 = true then 1 else 0, if e2 = true then 1 else 0, if e3 = true then 1 else 0, if e4 = true then 1 else 0, if e5 = true then 1 else 0, if e6 = true then 1 else 0, if e7 = true then 1 else 0] [e0, e1, e2, e3, e4, e5, e6, e7])) (cond (Nat.ble (Go.Proofs.Ytanchmbopllimaa.Wlk.nxI z 0 [z, z, z, z, z, z, z, z] [e0, e1, e2, e3, e4, e5, e6, e7] [0, 0, 0, 0, 0, 0, 0, 0] + 1) 8) (k (Res.mk (AV.e (AE.c (AC.bool false))) [(none)])) (cond (Go.Proofs.Ytanchmbopllimaa.Wlk.wd 0 0 (Go.Proofs.Ytanchmbopllimaa.Wlk.bitsT [if Go.Proofs.Ytanchmbopllimaa.Wlk.nxI z 0 [z, z, z, z, z, z, z, z] [e0, e1, e2, e3, e4, e5, e6, e7] [0, 0, 0, 0, 0, 0, 0, 0] = 0 then 0 else 0, if Go.Proofs.Ytanchmbopllimaa.Wlk.nxI z 0 [z, z, z, z, z, z, z, z] [e0, e1, e2, e3, e4, e5, e6, e7] [0, 0, 0, 0, 0, 0, 0, 0] = 1 then 0 else 0, if Go.Proofs.Ytanchmbopllimaa.Wlk.nxI z 0 [z, z, z, z, z, z, z, z] [e0, e1, e2, e3, e4, e5, e6, e7] [0, 0, 0, 0, 0, 0, 0, 0] = 2 then 0 else 0, if Go.Proofs.Ytanchmbopllimaa.Wlk.nxI z 0 [z, z, z, z, z, z, z, z] [e0, e1, e2, e3, e4, e5, e6, e7] [0, 0, 0, 0, 0, 0, 0, 0] = 3 then 0 else 0, if Go.Proofs.Ytanchmbopllimaa.Wlk.nxI z 0 [z, z, z, z, z, z, z, z] [e0, e1, e2, e3, e4, e5, e6, e7] [0, 0, 0, 0, 0, 0, 0, 0] = 4 then 0 else 0, if Go.Proofs.Ytanchmbopllimaa.Wlk.nxI z 0 [z, z, z, z, z, z, z, z] [e0, e1, e2, e3, e4, e5, e6, e7] [0, 0, 0, 0, 0, 0, 0, 0] = 5 then 0 else 0, if Go.Proofs.Ytanchmbopllimaa.Wlk.nxI z 0 [z, z, z, z, z, z, z, z] [e0, e1, e2, e3, e4, e5, e6, e7] [0, 0, 0, 0, 0, 0, 0, 0] = 6 then 0 else 0, if Go.Proofs.Ytanchmbopllimaa.Wlk.nxI z 0 [z, z, z, z, z, z, z, z] [e0, e1, e2, e3, e4, e5, e6, e7] [0, 0, 0, 0, 0, 0, 0, 0] = 7 then 0 else 0]) != 0) (k (Res.mk (AV.e (AE.c (AC.bool false))) [(none)])) (cond (Go.Proofs.Ytanchmbopllimaa.Wlk.isQ ([AV.e (AE.c (AC.ptr { id := 1, row := 0, sz := 0, col := 0, ix := 0, es := 0, n := 0 })), AV.e (AE.c (AC.ptr { id := 2, row := 0, sz := 0, col := 0, ix := 0, es := 0, n := 0 })), AV.e (AE.c (AC.int IntKind.i64 0))] = [Go.Proofs.Ytanchmbopllimaa.Wlk.vP 1, Go.Proofs.Ytanchmbopllimaa.Wlk.vP 2, aint IntKind.i64 0] ∧ [(false, some { ro := true, d := Data.rows [Col.ints IntKind.i64 l] }), (true, some { ro := false, d := Data.mix [AC.chan { id := 3, row := 0, sz := 0, col := 0, ix := 0, es := 0, n := 0 }, AC.int IntKind.i64 z, AC.bool (if Go.Proofs.Ytanchmbopllimaa.Wlk.nxI z 0 [z, z, z, z, z, z, z, z] [e0, e1, e2, e3, e4, e5, e6, e7] [0, 0, 0, 0, 0, 0, 0, 0] = 0 then true else e0), AC.chan { id := 4, row := 0, sz := 0, col := 0, ix := 0, es := 0, n := 0 }, AC.int IntKind.i64 z, AC.bool (if Go.Proofs.Ytanchmbopllimaa.Wlk.nxI z 0 [z, z, z, z, z, z, z, z] [e0, e1, e2, e3, e4, e5, e6, e7] [0, 0, 0, 0, 0, 0, 0, 0] = 1 then true else e1), AC.chan { id := 5, row := 0, sz := 0, col := 0, ix := 0, es := 0, n := 0 }, AC.int IntKind.i64 z, AC.bool (if Go.Proofs.Ytanchmbopllimaa.Wlk.nxI z 0 [z, z, z, z, z, z, z, z] [e0, e1, e2, e3, e4, e5, e6, e7] [0, 0, 0, 0, 0, 0, 0, 0] = 2 then true else e2), AC.chan { id := 6, row := 0, sz := 0, col := 0, ix := 0, es := 0, n := 0 }, AC.int IntKind.i64 z, AC.bool (if Go.Proofs.Ytanchmbopllimaa.Wlk.nxI z 0 [z, z, z, z, z, z, z, z] [e0, e1, e2, e3, e4, e5, e6, e7] [0, 0, 0, 0, 0, 0, 0, 0] = 3 then true else e3), AC.chan { id := 7, row := 0, sz := 0, col := 0, ix := 0, es := 0, n := 0 }, AC.int IntKind.i64 z, AC.bool (if Go.Proofs.Ytanchmbopllimaa.Wlk.nxI z 0 [z, z, z, z, z, z, z, z] [e0, e1, e2, e3, e4, e5, e6, e7] [0, 0, 0, 0, 0, 0, 0, 0] = 4 then true else e4), AC.chan { id := 8, row := 0, sz := 0, col := 0, ix := 0, es := 0, n := 0 }, AC.int IntKind.i64 z, AC.bool (if Go.Proofs.Ytanchmbopllimaa.Wlk.nxI z 0 [z, z, z, z, z, z, z, z] [e0, e1, e2, e3, e4, e5, e6, e7] [0, 0, 0, 0, 0, 0, 0, 0] = 5 then true else e5), AC.chan { id := 9, row := 0, sz := 0, col := 0, ix := 0, es := 0, n := 0 }, AC.int IntKind.i64 z, AC.bool (if Go.Proofs.Ytanchmbopllimaa.Wlk.nxI z 0 [z, z, z, z, z, z, z, z] [e0, e1, e2, e3, e4, e5, e6, e7] [0, 0, 0, 0, 0, 0, 0, 0] = 6 then true else e6), AC.chan { id := 10, row := 0, sz := 0, col := 0, ix := 0, es := 0, n := 0 }, AC.int IntKind.i64 z, AC.bool (if Go.Proofs.Ytanchmbopllimaa.Wlk.nxI z 0 [z, z, z, z, z, z, z, z] [e0, e1, e2, e3, e4, e5, e6, e7] [0, 0, 0, 0, 0, 0, 0, 0] = 7 then true else e7)] }), (true, some { ro := false, d := Data.mix [AC.bool e0, AC.bool e1, AC.bool e2, AC.bool e3, AC.bool e4, AC.bool e5, AC.bool e6, AC.bool e7] }), (true, some { ro := false, d := Data.chan 1 (if Go.Proofs.Ytanchmbopllimaa.Wlk.nxI z 0 [z, z, z, z, z, z, z, z] [e0, e1, e2, e3, e4, e5, e6, e7] [0, 0, 0, 0, 0, 0, 0, 0] = 0 then 0 else 0) }), (true, some { ro := false, d := Data.chan 1 (if Go.Proofs.Ytanchmbopllimaa.Wlk.nxI z 0 [z, z, z, z, z, z, z, z] [e0, e1, e2, e3, e4, e5, e6, e7] [0, 0, 0, 0, 0, 0, 0, 0] = 1 then 0 else 0) }), (true, some { ro := false, d := Data.chan 1 (if Go.Proofs.Ytanchmbopllimaa.Wlk.nxI z 0 [z, z, z, z, z, z, z, z] [e0, e1, e2, e3, e4, e5, e6, e7] [0, 0, 0, 0, 0, 0, 0, 0] = 2 then 0 else 0) }), (true, some { ro := false, d := Data.chan 1 (if Go.Proofs.Ytanchmbopllimaa.Wlk.nxI z 0 [z, z, z, z, z, z, z, z] [e0, e1, e2, e3, e4, e5, e6, e7] [0, 0, 0, 0, 0, 0, 0, 0] = 3 then 0 else 0) }), (true, some { ro := false, d := Data.chan 1 (if Go.Proofs.Ytanchmbopllimaa.Wlk.nxI z 0 [z, z, z, z, z, z, z, z] [e0, e1, e2, e3, e4, e5, e6, e7] [0, 0, 0, 0, 0, 0, 0, 0] = 4 then 0 else 0) }), (true, some { ro := false, d := Data.chan 1 (if Go.Proofs.Ytanchmbopllimaa.Wlk.nxI z 0 [z, z, z, z, z, z, z, z] [e0, e1, e2, e3, e4, e5, e6, e7] [0, 0, 0, 0, 0, 0, 0, 0] = 5 then 0 else 0) }), (true, some { ro := false, d := Data.chan 1 (if Go.Proofs.Ytanchmbopllimaa.Wlk.nxI z 0 [z, z, z, z, z, z, z, z] [e0, e1, e2, e3, e4, e5, e6, e7] [0, 0, 0, 0, 0, 0, 0, 0] = 6 then 0 else 0) }), (true, some { ro := false, d := Data.chan 1 (if Go.Proofs.Ytanchmbopllimaa.Wlk.nxI z 0 [z, z, z, z, z, z, z, z] [e0, e1, e2, e3, e4, e5, e6, e7] [0, 0, 0, 0, 0, 0, 0, 0] = 7 then 0 else 0) })] = Go.Proofs.Ytanchmbopllimaa.Wlk.hO l [z, z, z, z, z, z, z, z] [e0, e1, e2, e3, e4, e5, e6, e7] [0, 0, 0, 0, 0, 0, 0, 0] [e0, e1, e2, e3, e4, e5, e6, e7])) (k (Res.mk (AV.e (AE.c (AC.bool true))) [(none)])) none))) none) none) none) := by kernel_rfl
end Go.Proofs.Ytanchmbopllimaa.Wlk
