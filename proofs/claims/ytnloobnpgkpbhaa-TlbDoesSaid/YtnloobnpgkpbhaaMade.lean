/- A memory of a list's words, told in short; what works. -/
import Derived.Test.YtnloobnpgkpbhaaWalkB
set_option linter.unusedVariables false
set_option linter.unusedSimpArgs false
set_option maxRecDepth 100000
namespace Go.Proofs.Ytnloobnpgkpbhaa.Wlk
open Go Go.Eng Go.Proofs Go.RowKit
def putsF (vn : List Int) : Nat → Nat → List Int → List Int
  | 0, _, ws => ws
  | j + 1, i, ws => if i < vn.length ∧ i < ws.length then putsF vn j (i + 1) (putW ws i (vn.getD i 0)) else ws
theorem putsF_len (vn : List Int) : ∀ j i ws, (putsF vn j i ws).length = ws.length
  | 0, _, _ => rfl
  | j + 1, i, ws => by
    simp only [putsF]
    split
    · rw [putsF_len vn j, putW_len]
    · rfl
theorem getD_all {l : List Int} (h : allW l = true) (i : Nat) : word (l.getD i 0) = true := by
  rw [List.getD_eq_getElem?_getD]
  cases e : l[i]? with
  | none => rfl
  | some x =>
    simp only [allW, List.all_eq_true] at h
    exact h x (List.mem_of_getElem? e)
theorem putsF_all {vn : List Int} (hv : allW vn = true) : ∀ j i ws, allW ws = true → allW (putsF vn j i ws) = true
  | 0, _, _, h => h
  | j + 1, i, ws, h => by
    simp only [putsF]
    split
    · exact putsF_all hv j _ _ (putW_all h (getD_all hv i))
    · exact h
noncomputable def sMk : Summ := sAdd (sAdd (sAdd sNil 31 gNew) 39 gNew) 22 gPut
theorem sMk_ok : SummOk Try.prog sMk := sAdd_ok (sAdd_ok (sAdd_ok sNil_ok gNew_sound (enters Try.func31 rfl (by kernel_rfl))) gRefNew_sound (enters Try.func39 rfl (by kernel_rfl))) gPut_sound (enters Try.func22 rfl (by kernel_rfl))
noncomputable def iMade : LI := ⟨1, nT 14, [0, 1, 7, 9, 11], [7, 9], [4, 5, 6]⟩
abbrev madeV (nI : Int) (vl : Nat) (i : Int) : List AV := [.e (.c (.int .i64 nI)), .e (.c (.slice ⟨0, 0, 1, 0, 0, 0, 0⟩ 1 vl 0 false)), .e (.c (.ptr ⟨1, 0, 0, 0, 0, 0, 0⟩)), .e (.c (.ptr ⟨2, 0, 0, 0, 0, 0, 0⟩)), .e (.c (.int .i64 i))]
abbrev madeH (vn : List Int) (n x y : Nat) (ws wt : List Int) : Heap := [(false, some ⟨true, .rows [.ints .u64 vn]⟩), (true, some ⟨false, .mix [.slice ⟨3, 0, 1, 0, 0, 0, 0⟩ 1 n x true]⟩), (true, some ⟨false, .mix [.slice ⟨4, 0, 1, 0, 0, 0, 0⟩ 1 n y true]⟩), (true, some ⟨false, .rows [.ints .u64 ws]⟩), (true, some ⟨false, .rows [.ints .u64 wt]⟩)]
theorem t_madeB (nI i : Int) (vl n x y : Nat) (vn ws wt : List Int) (k : HeadK) : bodyR Try.prog sMk lNil iMade 60 (loopOf Try.prog 14 0) (madeV nI vl i) (madeH vn n x y ws wt) k = (cond (decide (i < (↑vl : Int))) (cond (decide (i < nI)) (cond (decide (0 ≤ i) && decide (i < (↑vl : Int))) (cond (decide (0 + Int.toNat i < List.length vn)) (cond (Go.Proofs.Ytnloobnpgkpbhaa.Wlk.okM n ws && inI i) (cond (decide (0 ≤ i) && decide (i < (↑vl : Int))) (cond (decide (0 + Int.toNat i < List.length vn)) (cond (decide (0 ≤ i) && decide (i < (↑n : Int))) (cond (decide (0 + Int.toNat i < List.length wt) && true) (k (Ex.normal) [(AV.e (AE.c (AC.int (IntKind.i64) (nI)))), (AV.e (AE.c (AC.slice (Loc.mk 0 0 1 0 0 0 0) 1 (vl) 0 false))), (AV.e (AE.c (AC.ptr (Loc.mk 1 0 0 0 0 0 0)))), (AV.e (AE.c (AC.ptr (Loc.mk 2 0 0 0 0 0 0)))), (AV.e (AE.c (AC.int (IntKind.i64) (IntKind.wrap IntKind.i64 (i + 1)))))] [(Prod.mk false (some (Block.mk true (Data.rows [(Col.ints (IntKind.u64) (vn))])))), (Prod.mk true (some (Block.mk false (Data.mix [(AC.slice (Loc.mk 3 0 1 0 0 0 0) 1 (n) (x) true)])))), (Prod.mk true (some (Block.mk false (Data.mix [(AC.slice (Loc.mk 4 0 1 0 0 0 0) 1 (n) (y) true)])))), (Prod.mk true (some (Block.mk false (Data.rows [(Col.ints (IntKind.u64) (Go.Proofs.Ytnloobnpgkpbhaa.Wlk.putW ws i (List.getD vn (0 + Int.toNat i) 0)))])))), (Prod.mk true (some (Block.mk false (Data.rows [(Col.ints (IntKind.u64) (List.set wt (0 + Int.toNat i) (List.getD vn (0 + Int.toNat i) 0)))]))))]) none) none) none) none) none) none) none) (k (Ex.exit 0) [(AV.e (AE.c (AC.ptr (Loc.mk 1 0 0 0 0 0 0)))), (AV.e (AE.c (AC.ptr (Loc.mk 2 0 0 0 0 0 0))))] [(Prod.mk false (some (Block.mk true (Data.rows [(Col.ints (IntKind.u64) (vn))])))), (Prod.mk true (some (Block.mk false (Data.mix [(AC.slice (Loc.mk 3 0 1 0 0 0 0) 1 (n) (x) true)])))), (Prod.mk true (some (Block.mk false (Data.mix [(AC.slice (Loc.mk 4 0 1 0 0 0 0) 1 (n) (y) true)])))), (Prod.mk true (some (Block.mk false (Data.rows [(Col.ints (IntKind.u64) (ws))])))), (Prod.mk true (some (Block.mk false (Data.rows [(Col.ints (IntKind.u64) (wt))]))))])) (k (Ex.exit 0) [(AV.e (AE.c (AC.ptr (Loc.mk 1 0 0 0 0 0 0)))), (AV.e (AE.c (AC.ptr (Loc.mk 2 0 0 0 0 0 0))))] [(Prod.mk false (some (Block.mk true (Data.rows [(Col.ints (IntKind.u64) (vn))])))), (Prod.mk true (some (Block.mk false (Data.mix [(AC.slice (Loc.mk 3 0 1 0 0 0 0) 1 (n) (x) true)])))), (Prod.mk true (some (Block.mk false (Data.mix [(AC.slice (Loc.mk 4 0 1 0 0 0 0) 1 (n) (y) true)])))), (Prod.mk true (some (Block.mk false (Data.rows [(Col.ints (IntKind.u64) (ws))])))), (Prod.mk true (some (Block.mk false (Data.rows [(Col.ints (IntKind.u64) (wt))]))))])) := by kernel_rfl
theorem loopMade (vn : List Int) (x y : Nat) (hv : vn.length < 4611686018427387904) (K : HeadK) : ∀ (j i : Nat) (ws : List Int), ws.length ≤ i + j → ws.length ≤ 65536 →
    iterR Try.prog sMk lNil iMade 60 (loopOf Try.prog 14 0) (j + 1) (madeV ws.length vn.length i) (madeH vn ws.length x y ws ws) K = K (.exit 0) [.e (.c (.ptr ⟨1, 0, 0, 0, 0, 0, 0⟩)), .e (.c (.ptr ⟨2, 0, 0, 0, 0, 0, 0⟩))] (madeH vn ws.length x y (putsF vn j i ws) (putsF vn j i ws))
  | 0, i, ws, hi, h1 => by
    rw [iterR]
    refine (t_madeB ws.length i vn.length ws.length x y vn ws ws _).trans ?_
    rw [decide_eq_false (show ¬ (i : Int) < (ws.length : Int) by omega)]
    cases decide ((i : Int) < (vn.length : Int)) <;> rfl
  | j + 1, i, ws, hi, h1 => by
    rw [iterR]
    refine (t_madeB ws.length i vn.length ws.length x y vn ws ws _).trans ?_
    by_cases hv' : i < vn.length
    rotate_left
    · rw [decide_eq_false (show ¬ (i : Int) < (vn.length : Int) by omega)]
      simp only [putsF, hv', false_and, if_false]; rfl
    rw [decide_eq_true (show (i : Int) < (vn.length : Int) by omega)]
    by_cases hw : i < ws.length
    rotate_left
    · rw [decide_eq_false (show ¬ (i : Int) < (ws.length : Int) by omega)]
      simp only [putsF, hw, and_false, if_false]; rfl
    rw [decide_eq_true (show (i : Int) < (ws.length : Int) by omega), decide_eq_true (show (0 : Int) ≤ i by omega)]
    simp only [Int.toNat_natCast, Nat.zero_add]
    rw [decide_eq_true hv', decide_eq_true hw]
    have f1 : okM ws.length ws = true := by simp [okM, h1]
    have f2 : inI (i : Int) = true := inI_of (by omega) (by omega)
    rw [f1, f2]
    simp only [Bool.and_self, cond_true]
    rw [wrap_i64 (n := (i : Int) + 1) (by omega) (by omega), show (i : Int) + 1 = ((i + 1 : Nat) : Int) from by omega]
    have hp : ws.set i (vn.getD i 0) = putW ws i (vn.getD i 0) := by
      have : inM ws.length (i : Int) 1 = true := by
        have : (0 : Int) ≤ i ∧ (i : Int) + 1 ≤ ws.length := by omega
        simp [inM, this]
      unfold putW; rw [if_pos this]; rfl
    rw [hp]
    have ih := loopMade vn x y hv K j (i + 1) (putW ws i (vn.getD i 0)) (by rw [putW_len]; omega) (by rw [putW_len]; exact h1)
    simp only [putW_len] at ih
    refine ih.trans ?_
    simp only [putsF, hv', hw, and_self, if_true]
def cMade : HeadO := fun vs h K => match vs, h with
  | [.e (.c (.int .i64 nI)), .e (.c (.slice ⟨0, 0, 1, 0, 0, 0, 0⟩ 1 vl 0 false)), .e (.c (.ptr ⟨1, 0, 0, 0, 0, 0, 0⟩)), .e (.c (.ptr ⟨2, 0, 0, 0, 0, 0, 0⟩)), .e (.c (.int .i64 i))],
    [(false, some ⟨true, .rows [.ints .u64 vn]⟩), (true, some ⟨false, .mix [.slice ⟨3, 0, 1, 0, 0, 0, 0⟩ 1 n x true]⟩), (true, some ⟨false, .mix [.slice ⟨4, 0, 1, 0, 0, 0, 0⟩ 1 m y true]⟩), (true, some ⟨false, .rows [.ints .u64 ws]⟩), (true, some ⟨false, .rows [.ints .u64 wt]⟩)] =>
    match decide (i = 0) && decide (nI = n) && Nat.beq m n && Nat.beq n ws.length && decide (wt = ws) && decide (ws.length ≤ 65536) && Nat.beq vl vn.length && decide (vn.length < 4611686018427387904) with
    | true => K (.exit 0) [.e (.c (.ptr ⟨1, 0, 0, 0, 0, 0, 0⟩)), .e (.c (.ptr ⟨2, 0, 0, 0, 0, 0, 0⟩))]
       [(false, some ⟨true, .rows [.ints .u64 vn]⟩), (true, some ⟨false, .mix [.slice ⟨3, 0, 1, 0, 0, 0, 0⟩ 1 n x true]⟩), (true, some ⟨false, .mix [.slice ⟨4, 0, 1, 0, 0, 0, 0⟩ 1 m y true]⟩), (true, some ⟨false, .rows [.ints .u64 (putsF vn ws.length 0 ws)]⟩), (true, some ⟨false, .rows [.ints .u64 (putsF vn ws.length 0 ws)]⟩)]
    | false => none
  | _, _ => none
theorem cMade_sound : HeadSound Try.prog iMade (loopOf Try.prog 14 0) cMade := by
  refine HeadSound.short (iterR_sound (F := 60) sMk_ok mix lNil_ok) fun vs h K r e => ?_
  unfold cMade at e
  split at e
  · rename_i nI vl i vn n x m y ws wt
    split at e
    · rename_i hc
      simp only [Bool.and_eq_true, decide_eq_true_eq] at hc
      obtain ⟨⟨⟨⟨⟨⟨⟨rfl, rfl⟩, c1⟩, c2⟩, rfl⟩, c4⟩, c6⟩, c8⟩ := hc
      have c1 := Nat.eq_of_beq_eq_true c1
      have c2 := Nat.eq_of_beq_eq_true c2
      have c6 := Nat.eq_of_beq_eq_true c6
      subst c1; subst c2; subst c6
      exact ⟨wt.length + 1, (loopMade vn x y c8 K wt.length 0 wt (by omega) c4).trans e⟩
    · cases e
  · cases e
noncomputable def lMade : Nat → Option Orc := lAdd lNil 0 (wrapO iMade 0 cMade)
theorem lMade_for : LFor 1 Try.prog 14 lMade := lAdd_for (I := iMade) lNil_for (by kernel_rfl) cMade_sound
theorem made_dis : Go.Eng.distinct (blockIds (codeOf Try.prog 14)) = true := by kernel_rfl
def mdN (n : Int) : Nat := (64 + n % 18446744073709551616 % 256).toNat
def mdW (n : Int) (l : List Int) : List Int := putsF l (mdN n) 0 (List.replicate (mdN n) 0)
theorem mdN_in (n : Int) : 64 ≤ mdN n ∧ mdN n ≤ 319 := by unfold mdN; omega
theorem mdW_len (n : Int) (l : List Int) : (mdW n l).length = mdN n := by unfold mdW; rw [putsF_len, List.length_replicate]
theorem rep_all (n : Nat) : allW (List.replicate n 0) = true := by
  simp only [allW, List.all_eq_true]
  intro x hx
  rw [List.eq_of_mem_replicate hx]; rfl
theorem mdW_all (n : Int) {l : List Int} (h : allW l = true) : allW (mdW n l) = true := by unfold mdW; exact putsF_all h _ _ _ (rep_all _)
def gMadeV (N : Int → Nat) (M : Int → List Int → List Int) : Fun := fun args sub κ => match args, sub with
  | [.e (.c (.int .i64 n)), .e (.c (.slice ⟨0, 0, 1, 0, 0, 0, 0⟩ 1 vl 0 false))], [some ⟨true, .rows [.ints .u64 l]⟩] => match Nat.beq vl l.length && decide (l.length < 4611686018427387904) with
    | true => κ ⟨.tup [.c (.ptr ⟨1, 0, 0, 0, 0, 0, 0⟩), .c (.ptr ⟨2, 0, 0, 0, 0, 0, 0⟩), .c (.bool true)], [none, some (some ⟨false, .mix [.slice ⟨3, 0, 1, 0, 0, 0, 0⟩ 1 (N n) 0 true]⟩), some (some ⟨false, .mix [.slice ⟨4, 0, 1, 0, 0, 0, 0⟩ 1 (N n) 0 true]⟩), some (some ⟨false, .rows [.ints .u64 (M n l)]⟩), some (some ⟨false, .rows [.ints .u64 (M n l)]⟩)]⟩
    | false => none
  | _, _ => none
abbrev gMade : Fun := gMadeV mdN mdW
end Go.Proofs.Ytnloobnpgkpbhaa.Wlk
