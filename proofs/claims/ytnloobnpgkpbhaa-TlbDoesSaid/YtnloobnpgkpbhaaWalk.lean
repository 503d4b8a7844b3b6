/- Where addresses lie, walked. -/
import Derived.Test.YtnloobnpgkpbhaaPteU
set_option linter.unusedVariables false
set_option linter.unusedSimpArgs false
set_option maxRecDepth 100000
namespace Go.Proofs.Ytnloobnpgkpbhaa.Wlk
open Go Go.Eng Go.Proofs Go.RowKit
abbrev IF := Int → Int
abbrev BF := Int → Bool
noncomputable def sSz : Summ := sAdd sNil 49 gSize
theorem sSz_ok : SummOk Try.prog sSz := sAdd_ok sNil_ok gSize_sound (enters Try.func49 rfl (by kernel_rfl))
def gThr : Fun := fun args sub κ => match args, sub with
  | [.e (.c (.ptr ⟨0, 0, 0, 0, 0, 0, 0⟩)), .e (.c (.int .i64 a))], [some ⟨false, .mix [.slice ⟨1, 0, 1, 0, 0, 0, 0⟩ 1 n x true]⟩, some ⟨false, .rows [.ints .u64 ws]⟩] => match okM n ws && inI a with
    | true => κ ⟨.e (.c (.bool (inM n a 16))), [none, none]⟩
    | false => none
  | _, _ => none
noncomputable def sPgV (A B C E : IF) (V W : BF) (EA EE : IF) : Summ :=
  sAdd (sAdd (sAdd (sAdd (sAdd (sAdd (sAdd sNil 40 (gSplitV A B C E)) 42 (gSplitV A B C E)) 52 gGet) 59 gGet) 53 (gEUnV V W EA EE)) 60 (gEUnV V W EA EE)) 51 gThr
noncomputable def sPg2 (A B C E : IF) (V W : BF) (EA EE : IF) : Summ := sAdd (sAdd (sPgV A B C E V W EA EE) 54 gThere) 55 (runG Try.prog (sAdd (sPgV A B C E V W EA EE) 54 gThere) 100 55)
theorem t_thr (a : Int) (n x : Nat) (ws : List Int) (k : Res → Option Res) : runG Try.prog sSz 100 51 [mP, aint .i64 a] (mB n x ws) k = (cond (decide (a ≥ 0)) (k (Res.mk (AV.e (AE.c (AC.bool (decide (a ≤ IntKind.wrap IntKind.i64 ((↑n : Int) - 16)))))) [(none), (none)])) (k (Res.mk (AV.e (AE.c (AC.bool false))) [(none), (none)]))) := by kernel_rfl
theorem t_page (A B C E : IF) (V W : BF) (EA EE : IF) (d a : Int) (n x : Nat) (ws : List Int) (k : Res → Option Res) : runG Try.prog (sPgV A B C E V W EA EE) 100 41 [mP, aint .i64 d, aint .i64 a] (mB n x ws) k = (cond (inI a) (cond (E a != 0) (k (Res.mk (AV.tup [(AE.agg [(AC.bool false), (AC.bool false), (AC.int (IntKind.i64) (0))]), (AE.c (AC.int (IntKind.i64) (E a)))]) [(none), (none)])) (cond (Go.Proofs.Ytnloobnpgkpbhaa.Wlk.okM n ws && inI d) (cond (!Go.Proofs.Ytnloobnpgkpbhaa.Wlk.inM n d 16) (k (Res.mk (AV.tup [(AE.agg [(AC.bool false), (AC.bool false), (AC.int (IntKind.i64) (0))]), (AE.c (AC.int (IntKind.i64) (9)))]) [(none), (none)])) (cond (Int.tmod d 16 != 0) (k (Res.mk (AV.tup [(AE.agg [(AC.bool false), (AC.bool false), (AC.int (IntKind.i64) (0))]), (AE.c (AC.int (IntKind.i64) (9)))]) [(none), (none)])) (cond (Go.Proofs.Ytnloobnpgkpbhaa.Wlk.okM n ws && inI (IntKind.wrap IntKind.i64 (d + A a))) (cond (word (Go.Proofs.Ytnloobnpgkpbhaa.Wlk.getW ws (IntKind.wrap IntKind.i64 (d + A a)))) (cond (EE (Go.Proofs.Ytnloobnpgkpbhaa.Wlk.getW ws (IntKind.wrap IntKind.i64 (d + A a))) != 0) (k (Res.mk (AV.tup [(AE.agg [(AC.bool false), (AC.bool false), (AC.int (IntKind.i64) (0))]), (AE.c (AC.int (IntKind.i64) (12)))]) [(none), (none)])) (cond (!V (Go.Proofs.Ytnloobnpgkpbhaa.Wlk.getW ws (IntKind.wrap IntKind.i64 (d + A a)))) (k (Res.mk (AV.tup [(AE.agg [(AC.bool false), (AC.bool false), (AC.int (IntKind.i64) (0))]), (AE.c (AC.int (IntKind.i64) (12)))]) [(none), (none)])) (cond (Go.Proofs.Ytnloobnpgkpbhaa.Wlk.okM n ws && inI (EA (Go.Proofs.Ytnloobnpgkpbhaa.Wlk.getW ws (IntKind.wrap IntKind.i64 (d + A a))))) (cond (!Go.Proofs.Ytnloobnpgkpbhaa.Wlk.inM n (EA (Go.Proofs.Ytnloobnpgkpbhaa.Wlk.getW ws (IntKind.wrap IntKind.i64 (d + A a)))) 16) (k (Res.mk (AV.tup [(AE.agg [(AC.bool false), (AC.bool false), (AC.int (IntKind.i64) (0))]), (AE.c (AC.int (IntKind.i64) (12)))]) [(none), (none)])) (cond (W (Go.Proofs.Ytnloobnpgkpbhaa.Wlk.getW ws (IntKind.wrap IntKind.i64 (d + A a)))) (k (Res.mk (AV.tup [(AE.agg [(AC.bool false), (AC.bool false), (AC.int (IntKind.i64) (0))]), (AE.c (AC.int (IntKind.i64) (12)))]) [(none), (none)])) (cond (Go.Proofs.Ytnloobnpgkpbhaa.Wlk.okM n ws && inI (IntKind.wrap IntKind.i64 (EA (Go.Proofs.Ytnloobnpgkpbhaa.Wlk.getW ws (IntKind.wrap IntKind.i64 (d + A a))) + B a))) (cond (word (Go.Proofs.Ytnloobnpgkpbhaa.Wlk.getW ws (IntKind.wrap IntKind.i64 (EA (Go.Proofs.Ytnloobnpgkpbhaa.Wlk.getW ws (IntKind.wrap IntKind.i64 (d + A a))) + B a)))) (cond (EE (Go.Proofs.Ytnloobnpgkpbhaa.Wlk.getW ws (IntKind.wrap IntKind.i64 (EA (Go.Proofs.Ytnloobnpgkpbhaa.Wlk.getW ws (IntKind.wrap IntKind.i64 (d + A a))) + B a))) != 0) (k (Res.mk (AV.tup [(AE.agg [(AC.bool false), (AC.bool false), (AC.int (IntKind.i64) (0))]), (AE.c (AC.int (IntKind.i64) (12)))]) [(none), (none)])) (cond (!V (Go.Proofs.Ytnloobnpgkpbhaa.Wlk.getW ws (IntKind.wrap IntKind.i64 (EA (Go.Proofs.Ytnloobnpgkpbhaa.Wlk.getW ws (IntKind.wrap IntKind.i64 (d + A a))) + B a)))) (k (Res.mk (AV.tup [(AE.agg [(AC.bool false), (AC.bool false), (AC.int (IntKind.i64) (0))]), (AE.c (AC.int (IntKind.i64) (12)))]) [(none), (none)])) (cond (Go.Proofs.Ytnloobnpgkpbhaa.Wlk.okM n ws && inI (EA (Go.Proofs.Ytnloobnpgkpbhaa.Wlk.getW ws (IntKind.wrap IntKind.i64 (EA (Go.Proofs.Ytnloobnpgkpbhaa.Wlk.getW ws (IntKind.wrap IntKind.i64 (d + A a))) + B a))))) (cond (!Go.Proofs.Ytnloobnpgkpbhaa.Wlk.inM n (EA (Go.Proofs.Ytnloobnpgkpbhaa.Wlk.getW ws (IntKind.wrap IntKind.i64 (EA (Go.Proofs.Ytnloobnpgkpbhaa.Wlk.getW ws (IntKind.wrap IntKind.i64 (d + A a))) + B a)))) 16) (k (Res.mk (AV.tup [(AE.agg [(AC.bool false), (AC.bool false), (AC.int (IntKind.i64) (0))]), (AE.c (AC.int (IntKind.i64) (12)))]) [(none), (none)])) (k (Res.mk (AV.tup [(AE.agg [(AC.bool (V (Go.Proofs.Ytnloobnpgkpbhaa.Wlk.getW ws (IntKind.wrap IntKind.i64 (EA (Go.Proofs.Ytnloobnpgkpbhaa.Wlk.getW ws (IntKind.wrap IntKind.i64 (d + A a))) + B a))))), (AC.bool (W (Go.Proofs.Ytnloobnpgkpbhaa.Wlk.getW ws (IntKind.wrap IntKind.i64 (EA (Go.Proofs.Ytnloobnpgkpbhaa.Wlk.getW ws (IntKind.wrap IntKind.i64 (d + A a))) + B a))))), (AC.int (IntKind.i64) (EA (Go.Proofs.Ytnloobnpgkpbhaa.Wlk.getW ws (IntKind.wrap IntKind.i64 (EA (Go.Proofs.Ytnloobnpgkpbhaa.Wlk.getW ws (IntKind.wrap IntKind.i64 (d + A a))) + B a)))))]), (AE.c (AC.int (IntKind.i64) (0)))]) [(none), (none)]))) none))) none) none))) none))) none) none))) none)) none) := by kernel_rfl
theorem t_refPage (A B C E : IF) (V W : BF) (EA EE : IF) (d a : Int) (n x : Nat) (ws : List Int) (k : Res → Option Res) : runG Try.prog (sPg2 A B C E V W EA EE) 100 44 [mP, aint .i64 d, aint .i64 a] (mB n x ws) k = (cond (inI a) (cond (E a != 0) (k (Res.mk (AV.tup [(AE.agg [(AC.bool false), (AC.bool false), (AC.int (IntKind.i64) (0))]), (AE.c (AC.int (IntKind.i64) (E a)))]) [(none), (none)])) (cond (decide (d < 0)) (k (Res.mk (AV.tup [(AE.agg [(AC.bool false), (AC.bool false), (AC.int (IntKind.i64) (0))]), (AE.c (AC.int (IntKind.i64) (9)))]) [(none), (none)])) (cond (Int.tmod d 16 != 0) (k (Res.mk (AV.tup [(AE.agg [(AC.bool false), (AC.bool false), (AC.int (IntKind.i64) (0))]), (AE.c (AC.int (IntKind.i64) (9)))]) [(none), (none)])) (cond (Go.Proofs.Ytnloobnpgkpbhaa.Wlk.okM n ws && inI d && inI 16) (cond (!Go.Proofs.Ytnloobnpgkpbhaa.Wlk.inM n d 16) (k (Res.mk (AV.tup [(AE.agg [(AC.bool false), (AC.bool false), (AC.int (IntKind.i64) (0))]), (AE.c (AC.int (IntKind.i64) (9)))]) [(none), (none)])) (cond (Go.Proofs.Ytnloobnpgkpbhaa.Wlk.okM n ws && inI (IntKind.wrap IntKind.i64 (d + A a))) (cond (word (Go.Proofs.Ytnloobnpgkpbhaa.Wlk.getW ws (IntKind.wrap IntKind.i64 (d + A a)))) (cond (Go.Proofs.Ytnloobnpgkpbhaa.Wlk.pE (Go.Proofs.Ytnloobnpgkpbhaa.Wlk.inM n (IntKind.wrap IntKind.i64 (d + A a)) 1) == 0) (cond (EE (Go.Proofs.Ytnloobnpgkpbhaa.Wlk.getW ws (IntKind.wrap IntKind.i64 (d + A a))) == 0) (cond (V (Go.Proofs.Ytnloobnpgkpbhaa.Wlk.getW ws (IntKind.wrap IntKind.i64 (d + A a)))) (cond (Go.Proofs.Ytnloobnpgkpbhaa.Wlk.okM n ws && inI (EA (Go.Proofs.Ytnloobnpgkpbhaa.Wlk.getW ws (IntKind.wrap IntKind.i64 (d + A a)))) && inI 16) (cond (!Go.Proofs.Ytnloobnpgkpbhaa.Wlk.inM n (EA (Go.Proofs.Ytnloobnpgkpbhaa.Wlk.getW ws (IntKind.wrap IntKind.i64 (d + A a)))) 16) (k (Res.mk (AV.tup [(AE.agg [(AC.bool false), (AC.bool false), (AC.int (IntKind.i64) (0))]), (AE.c (AC.int (IntKind.i64) (12)))]) [(none), (none)])) (cond (W (Go.Proofs.Ytnloobnpgkpbhaa.Wlk.getW ws (IntKind.wrap IntKind.i64 (d + A a)))) (k (Res.mk (AV.tup [(AE.agg [(AC.bool false), (AC.bool false), (AC.int (IntKind.i64) (0))]), (AE.c (AC.int (IntKind.i64) (12)))]) [(none), (none)])) (cond (Go.Proofs.Ytnloobnpgkpbhaa.Wlk.okM n ws && inI (IntKind.wrap IntKind.i64 (EA (Go.Proofs.Ytnloobnpgkpbhaa.Wlk.getW ws (IntKind.wrap IntKind.i64 (d + A a))) + B a))) (cond (word (Go.Proofs.Ytnloobnpgkpbhaa.Wlk.getW ws (IntKind.wrap IntKind.i64 (EA (Go.Proofs.Ytnloobnpgkpbhaa.Wlk.getW ws (IntKind.wrap IntKind.i64 (d + A a))) + B a)))) (cond (Go.Proofs.Ytnloobnpgkpbhaa.Wlk.pE (Go.Proofs.Ytnloobnpgkpbhaa.Wlk.inM n (IntKind.wrap IntKind.i64 (EA (Go.Proofs.Ytnloobnpgkpbhaa.Wlk.getW ws (IntKind.wrap IntKind.i64 (d + A a))) + B a)) 1) == 0) (cond (EE (Go.Proofs.Ytnloobnpgkpbhaa.Wlk.getW ws (IntKind.wrap IntKind.i64 (EA (Go.Proofs.Ytnloobnpgkpbhaa.Wlk.getW ws (IntKind.wrap IntKind.i64 (d + A a))) + B a))) == 0) (cond (V (Go.Proofs.Ytnloobnpgkpbhaa.Wlk.getW ws (IntKind.wrap IntKind.i64 (EA (Go.Proofs.Ytnloobnpgkpbhaa.Wlk.getW ws (IntKind.wrap IntKind.i64 (d + A a))) + B a)))) (cond (Go.Proofs.Ytnloobnpgkpbhaa.Wlk.okM n ws && inI (EA (Go.Proofs.Ytnloobnpgkpbhaa.Wlk.getW ws (IntKind.wrap IntKind.i64 (EA (Go.Proofs.Ytnloobnpgkpbhaa.Wlk.getW ws (IntKind.wrap IntKind.i64 (d + A a))) + B a)))) && inI 16) (cond (!Go.Proofs.Ytnloobnpgkpbhaa.Wlk.inM n (EA (Go.Proofs.Ytnloobnpgkpbhaa.Wlk.getW ws (IntKind.wrap IntKind.i64 (EA (Go.Proofs.Ytnloobnpgkpbhaa.Wlk.getW ws (IntKind.wrap IntKind.i64 (d + A a))) + B a)))) 16) (k (Res.mk (AV.tup [(AE.agg [(AC.bool false), (AC.bool false), (AC.int (IntKind.i64) (0))]), (AE.c (AC.int (IntKind.i64) (12)))]) [(none), (none)])) (k (Res.mk (AV.tup [(AE.agg [(AC.bool (V (Go.Proofs.Ytnloobnpgkpbhaa.Wlk.getW ws (IntKind.wrap IntKind.i64 (EA (Go.Proofs.Ytnloobnpgkpbhaa.Wlk.getW ws (IntKind.wrap IntKind.i64 (d + A a))) + B a))))), (AC.bool (W (Go.Proofs.Ytnloobnpgkpbhaa.Wlk.getW ws (IntKind.wrap IntKind.i64 (EA (Go.Proofs.Ytnloobnpgkpbhaa.Wlk.getW ws (IntKind.wrap IntKind.i64 (d + A a))) + B a))))), (AC.int (IntKind.i64) (EA (Go.Proofs.Ytnloobnpgkpbhaa.Wlk.getW ws (IntKind.wrap IntKind.i64 (EA (Go.Proofs.Ytnloobnpgkpbhaa.Wlk.getW ws (IntKind.wrap IntKind.i64 (d + A a))) + B a)))))]), (AE.c (AC.int (IntKind.i64) (0)))]) [(none), (none)]))) none) (k (Res.mk (AV.tup [(AE.agg [(AC.bool false), (AC.bool false), (AC.int (IntKind.i64) (0))]), (AE.c (AC.int (IntKind.i64) (12)))]) [(none), (none)]))) (k (Res.mk (AV.tup [(AE.agg [(AC.bool false), (AC.bool false), (AC.int (IntKind.i64) (0))]), (AE.c (AC.int (IntKind.i64) (12)))]) [(none), (none)]))) (k (Res.mk (AV.tup [(AE.agg [(AC.bool false), (AC.bool false), (AC.int (IntKind.i64) (0))]), (AE.c (AC.int (IntKind.i64) (12)))]) [(none), (none)]))) none) none))) none) (k (Res.mk (AV.tup [(AE.agg [(AC.bool false), (AC.bool false), (AC.int (IntKind.i64) (0))]), (AE.c (AC.int (IntKind.i64) (12)))]) [(none), (none)]))) (k (Res.mk (AV.tup [(AE.agg [(AC.bool false), (AC.bool false), (AC.int (IntKind.i64) (0))]), (AE.c (AC.int (IntKind.i64) (12)))]) [(none), (none)]))) (k (Res.mk (AV.tup [(AE.agg [(AC.bool false), (AC.bool false), (AC.int (IntKind.i64) (0))]), (AE.c (AC.int (IntKind.i64) (12)))]) [(none), (none)]))) none) none)) none)))) none) := by kernel_rfl
def allW (ws : List Int) : Bool := ws.all word
theorem getW_word {ws : List Int} (h : allW ws = true) {a : Int} : word (getW ws a) = true := by
  unfold getW
  split
  · rw [List.getD_eq_getElem?_getD]
    cases e : ws[a.toNat]? with
    | none => rfl
    | some x =>
      simp only [allW, List.all_eq_true] at h
      exact h x (List.mem_of_getElem? e)
  · rfl
theorem eE_of {w : Int} (h : eV w = true) : eE w = 0 := by
  simp only [eV, Bool.and_eq_true] at h
  unfold eE; rw [if_pos h.1]
theorem inI_eA0 {w : Int} (hw : 0 ≤ w) : inI (eA w) = true := by
  have : 0 ≤ eA w ∧ eA w < 65536 := by
    unfold eA
    split
    · rename_i h
      simp only [eOk, Bool.or_eq_true, Bool.and_eq_true, decide_eq_true_eq] at h
      rcases h with h | h
      · omega
      · have := hw; omega
    · omega
  have : -9223372036854775808 ≤ eA w ∧ eA w ≤ 9223372036854775807 := by omega
  simp [inI, this]
/-- The words that lead from a directory to a page. -/
def w1 (ws : List Int) (d a : Int) : Int := getW ws (d + sp1 a)
def w2 (ws : List Int) (d a : Int) : Int := getW ws (eA (w1 ws d a) + sp2 a)
def lokW (ws : List Int) (w : Int) : Bool := eV w && inM ws.length (eA w) 16
def pgOk (ws : List Int) (d a : Int) : Bool := lokW ws (w1 ws d a) && !eWr (w1 ws d a) && lokW ws (w2 ws d a)
def pgE (ws : List Int) (d a : Int) : Int := if spOk a = true then (if inM ws.length d 16 = true ∧ d % 16 = 0 then (if pgOk ws d a = true then 0 else 12) else 9) else 1
def pgV (ws : List Int) (d a : Int) : Bool := decide (pgE ws d a = 0)
def pgW (ws : List Int) (d a : Int) : Bool := decide (pgE ws d a = 0) && eWr (w2 ws d a)
def pgA (ws : List Int) (d a : Int) : Int := if pgE ws d a = 0 then eA (w2 ws d a) else 0
abbrev LF := List Int → Int → Int → Int
abbrev LB := List Int → Int → Int → Bool
def gPageV (V W : LB) (A E : LF) : Fun := fun args sub κ => match args, sub with
  | [.e (.c (.ptr ⟨0, 0, 0, 0, 0, 0, 0⟩)), .e (.c (.int .i64 d)), .e (.c (.int .i64 a))], [some ⟨false, .mix [.slice ⟨1, 0, 1, 0, 0, 0, 0⟩ 1 n x true]⟩, some ⟨false, .rows [.ints .u64 ws]⟩] => match okM n ws && inI d && inI a && allW ws with
    | true => κ ⟨.tup [.agg [.bool (V ws d a), .bool (W ws d a), .int .i64 (A ws d a)], .c (.int .i64 (E ws d a))], [none, none]⟩
    | false => none
  | _, _ => none
abbrev gPage : Fun := gPageV pgV pgW pgA pgE
theorem gThr_sound : FunSound Try.prog 51 gThr := by
  refine (runG_sound sSz_ok mix 100 51).short fun args sub κ r h => ?_
  unfold gThr at h
  split at h
  · rename_i a n x ws
    split at h
    · rename_i hc
      simp only [Bool.and_eq_true] at hc
      obtain ⟨rfl, hn⟩ := okM_spec hc.1
      refine (t_thr a ws.length x ws κ).trans ?_
      rw [wrap_i64 (n := (ws.length : Int) - 16) (by omega) (by omega)]
      by_cases h1 : a ≥ 0
      · have : inM ws.length a 16 = decide (a ≤ (ws.length : Int) - 16) := by
          simp only [inM]; rw [decide_eq_true (show 0 ≤ a from h1)]
          have : decide ((0 : Int) ≤ 16) = true := rfl
          rw [this]; simp only [Bool.true_and]; exact decide_eq_decide.2 (by omega)
        rw [decide_eq_true h1, cond_true]; rw [this] at h; exact h
      · have : inM ws.length a 16 = false := by simp [inM]; omega
        rw [decide_eq_false h1, cond_false]; rw [this] at h; exact h
    · cases h
  · cases h
theorem sPg_ok : SummOk Try.prog (sPgV sp1 sp2 sp3 spE eV eWr eA eE) :=
  sAdd_ok (sAdd_ok (sAdd_ok (sAdd_ok (sAdd_ok (sAdd_ok (sAdd_ok sNil_ok gSplit_sound (enters Try.func40 rfl (by kernel_rfl))) gRefSplit_sound (enters Try.func42 rfl (by kernel_rfl))) gGet_sound (enters Try.func52 rfl (by kernel_rfl))) gRefGet_sound (enters Try.func59 rfl (by kernel_rfl))) gEUn_sound (enters Try.func53 rfl (by kernel_rfl))) gRefEUn_sound (enters Try.func60 rfl (by kernel_rfl))) gThr_sound (enters Try.func51 rfl (by kernel_rfl))
theorem sPg1_ok : SummOk Try.prog (sAdd (sPgV sp1 sp2 sp3 spE eV eWr eA eE) 54 gThere) := sAdd_ok sPg_ok gThere_sound (enters Try.func54 rfl (by kernel_rfl))
theorem sPg2_ok : SummOk Try.prog (sPg2 sp1 sp2 sp3 spE eV eWr eA eE) := sAdd_ok sPg1_ok (runG_sound sPg1_ok mix _ _) (enters Try.func55 rfl (by kernel_rfl))
theorem gPage_sound : FunSound Try.prog 41 gPage := by
  refine (runG_sound sPg_ok mix 100 41).short fun args sub κ r h => ?_
  unfold gPage gPageV at h
  split at h
  · rename_i d a n x ws
    split at h
    · rename_i hc
      simp only [Bool.and_eq_true] at hc
      obtain ⟨⟨⟨ho, hd⟩, ha⟩, hw⟩ := hc
      have ho' := ho
      obtain ⟨rfl, hn⟩ := okM_spec ho
      have hd' := iwf hd
      refine (t_page sp1 sp2 sp3 spE eV eWr eA eE d a ws.length x ws κ).trans ?_
      have bad : ∀ e, e ≠ 0 → pgE ws d a = e → κ ⟨.tup [.agg [.bool false, .bool false, .int .i64 0], .c (.int .i64 e)], [none, none]⟩ = some r := by
        intro e he hp
        have h0 : ¬ pgE ws d a = 0 := fun c => he (by rw [← hp, c])
        rw [hp] at h
        simp only [pgV, pgW, pgA, decide_eq_false h0, if_neg h0, Bool.false_and] at h
        exact h
      rw [ha, cond_true]
      by_cases c1 : spOk a = true
      rotate_left
      · have e1 : spE a = 1 := by unfold spE; rw [if_neg c1]
        rw [e1, show ((1 : Int) != 0) = true from rfl, cond_true]
        exact bad 1 (by decide) (by unfold pgE; rw [if_neg c1])
      have e1 : spE a = 0 := by unfold spE; rw [if_pos c1]
      rw [e1, show ((0 : Int) != 0) = false from rfl, cond_false]
      rw [ho', hd, Bool.and_self, cond_true]
      by_cases c2 : inM ws.length d 16 = true
      rotate_left
      · rw [show (!inM ws.length d 16) = true from by simpa using c2, cond_true]
        exact bad 9 (by decide) (by unfold pgE; rw [if_pos c1, if_neg (fun c => c2 c.1)])
      rw [c2, Bool.not_true, cond_false]
      have d0 : 0 ≤ d := by
        simp only [inM, Bool.and_eq_true, decide_eq_true_eq] at c2; omega
      rw [Int.tmod_eq_emod_of_nonneg d0]
      by_cases c3 : d % 16 = 0
      rotate_left
      · rw [show (d % 16 != 0) = true from by simpa using c3, cond_true]
        exact bad 9 (by decide) (by unfold pgE; rw [if_pos c1, if_neg (fun c => c3 c.2)])
      rw [show (d % 16 != 0) = false from by simpa using c3, cond_false]
      have k1 : 0 ≤ sp1 a ∧ sp1 a ≤ 15 ∧ 0 ≤ sp2 a ∧ sp2 a ≤ 15 := by
        have c1' := c1
        simp only [spOk, Bool.and_eq_true, decide_eq_true_eq] at c1'
        unfold sp1 sp2; rw [if_pos c1, if_pos c1]; omega
      have k2 : okM ws.length ws = true := ho'
      have kd := c2
      simp only [inM, Bool.and_eq_true, decide_eq_true_eq] at kd
      rw [wrap_i64 (n := d + sp1 a) (by omega) (by omega)]
      have i1 : inI (d + sp1 a) = true := by
        have : -9223372036854775808 ≤ d + sp1 a ∧ d + sp1 a ≤ 9223372036854775807 := by omega
        simp [inI, this]
      rw [i1, Bool.and_self, cond_true, getW_word hw, cond_true]
      have b12 : pgOk ws d a = false → κ ⟨.tup [.agg [.bool false, .bool false, .int .i64 0], .c (.int .i64 12)], [none, none]⟩ = some r := fun q => bad 12 (by decide) (by unfold pgE; rw [if_pos c1, if_pos ⟨c2, c3⟩, if_neg (by rw [q]; simp)])
      by_cases v1 : eV (getW ws (d + sp1 a)) = true
      rotate_left
      · rw [show (!eV (getW ws (d + sp1 a))) = true from by simpa using v1, cond_true]
        have := b12 (by unfold pgOk lokW w1; simp [v1])
        cases (eE (getW ws (d + sp1 a)) != 0)
        · exact this
        · exact this
      rw [eE_of v1, show ((0 : Int) != 0) = false from rfl, cond_false, v1, Bool.not_true, cond_false, inI_eA0 (u64wf (getW_word hw)).1, Bool.and_self, cond_true]
      by_cases v2 : inM ws.length (eA (getW ws (d + sp1 a))) 16 = true
      rotate_left
      · rw [show (!inM ws.length (eA (getW ws (d + sp1 a))) 16) = true from by simpa using v2, cond_true]
        exact b12 (by unfold pgOk lokW w1; simp [v2])
      rw [v2, Bool.not_true, cond_false]
      by_cases v3 : eWr (getW ws (d + sp1 a)) = true
      · rw [v3, cond_true]
        exact b12 (by unfold pgOk w1; simp [v3])
      have v3' : eWr (getW ws (d + sp1 a)) = false := by simpa using v3
      rw [v3', cond_false]
      have kd2 := v2
      simp only [inM, Bool.and_eq_true, decide_eq_true_eq] at kd2
      rw [wrap_i64 (n := eA (getW ws (d + sp1 a)) + sp2 a) (by omega) (by omega)]
      have i2 : inI (eA (getW ws (d + sp1 a)) + sp2 a) = true := by
        have : -9223372036854775808 ≤ eA (getW ws (d + sp1 a)) + sp2 a ∧ eA (getW ws (d + sp1 a)) + sp2 a ≤ 9223372036854775807 := by omega
        simp [inI, this]
      rw [i2, Bool.and_self, cond_true, getW_word hw, cond_true]
      by_cases u1 : eV (getW ws (eA (getW ws (d + sp1 a)) + sp2 a)) = true
      rotate_left
      · rw [show (!eV (getW ws (eA (getW ws (d + sp1 a)) + sp2 a))) = true from by simpa using u1, cond_true]
        have := b12 (by unfold pgOk lokW w2 w1; simp [u1])
        cases (eE (getW ws (eA (getW ws (d + sp1 a)) + sp2 a)) != 0)
        · exact this
        · exact this
      rw [eE_of u1, show ((0 : Int) != 0) = false from rfl, cond_false, u1, Bool.not_true, cond_false, inI_eA0 (u64wf (getW_word hw)).1, Bool.and_self, cond_true]
      by_cases u2 : inM ws.length (eA (getW ws (eA (getW ws (d + sp1 a)) + sp2 a))) 16 = true
      rotate_left
      · rw [show (!inM ws.length (eA (getW ws (eA (getW ws (d + sp1 a)) + sp2 a))) 16) = true from by simpa using u2, cond_true]
        exact b12 (by unfold pgOk lokW w2 w1; simp [u2])
      rw [u2, Bool.not_true, cond_false]
      have ok : pgE ws d a = 0 := by
        unfold pgE; rw [if_pos c1, if_pos ⟨c2, c3⟩, if_pos (by unfold pgOk lokW w2 w1; simp [v1, v2, v3', u1, u2])]
      simp only [pgV, pgW, pgA, ok, decide_true, if_true, Bool.true_and] at h
      exact h
    · cases h
  · cases h
theorem gRefPage_sound : FunSound Try.prog 44 gPage := by
  refine (runG_sound sPg2_ok mix 100 44).short fun args sub κ r h => ?_
  unfold gPage gPageV at h
  split at h
  · rename_i d a n x ws
    split at h
    · rename_i hc
      simp only [Bool.and_eq_true] at hc
      obtain ⟨⟨⟨ho, hd⟩, ha⟩, hw⟩ := hc
      have ho' := ho
      obtain ⟨rfl, hn⟩ := okM_spec ho
      have hd' := iwf hd
      refine (t_refPage sp1 sp2 sp3 spE eV eWr eA eE d a ws.length x ws κ).trans ?_
      have bad : ∀ e, e ≠ 0 → pgE ws d a = e → κ ⟨.tup [.agg [.bool false, .bool false, .int .i64 0], .c (.int .i64 e)], [none, none]⟩ = some r := by
        intro e he hp
        have h0 : ¬ pgE ws d a = 0 := fun c => he (by rw [← hp, c])
        rw [hp] at h
        simp only [pgV, pgW, pgA, decide_eq_false h0, if_neg h0, Bool.false_and] at h
        exact h
      rw [ha, cond_true]
      by_cases c1 : spOk a = true
      rotate_left
      · have e1 : spE a = 1 := by unfold spE; rw [if_neg c1]
        rw [e1, show ((1 : Int) != 0) = true from rfl, cond_true]
        exact bad 1 (by decide) (by unfold pgE; rw [if_neg c1])
      have e1 : spE a = 0 := by unfold spE; rw [if_pos c1]
      rw [e1, show ((0 : Int) != 0) = false from rfl, cond_false]
      by_cases c2 : inM ws.length d 16 = true
      rotate_left
      · have q : κ ⟨.tup [.agg [.bool false, .bool false, .int .i64 0], .c (.int .i64 9)], [none, none]⟩ = some r := bad 9 (by decide) (by unfold pgE; rw [if_pos c1, if_neg (fun c => c2 c.1)])
        rw [ho', hd, show inI 16 = true from rfl, Bool.and_self, Bool.and_self, cond_true, show (!inM ws.length d 16) = true from by simpa using c2, cond_true]
        cases decide (d < 0)
        · cases (Int.tmod d 16 != 0)
          · exact q
          · exact q
        · exact q
      have d0 : 0 ≤ d := by
        simp only [inM, Bool.and_eq_true, decide_eq_true_eq] at c2; omega
      rw [decide_eq_false (show ¬ d < 0 by omega), cond_false, Int.tmod_eq_emod_of_nonneg d0]
      by_cases c3 : d % 16 = 0
      rotate_left
      · rw [show (d % 16 != 0) = true from by simpa using c3, cond_true]
        exact bad 9 (by decide) (by unfold pgE; rw [if_pos c1, if_neg (fun c => c3 c.2)])
      rw [show (d % 16 != 0) = false from by simpa using c3, cond_false, ho', hd, show inI 16 = true from rfl, Bool.and_self, Bool.and_self, cond_true, c2, Bool.not_true, cond_false]
      have k1 : 0 ≤ sp1 a ∧ sp1 a ≤ 15 ∧ 0 ≤ sp2 a ∧ sp2 a ≤ 15 := by
        have c1' := c1
        simp only [spOk, Bool.and_eq_true, decide_eq_true_eq] at c1'
        unfold sp1 sp2; rw [if_pos c1, if_pos c1]; omega
      have k2 : okM ws.length ws = true := ho'
      have kd := c2
      simp only [inM, Bool.and_eq_true, decide_eq_true_eq] at kd
      rw [wrap_i64 (n := d + sp1 a) (by omega) (by omega)]
      have i1 : inI (d + sp1 a) = true := by
        have : -9223372036854775808 ≤ d + sp1 a ∧ d + sp1 a ≤ 9223372036854775807 := by omega
        simp [inI, this]
      rw [i1, Bool.and_self, cond_true, getW_word hw, cond_true]
      have b12 : pgOk ws d a = false → κ ⟨.tup [.agg [.bool false, .bool false, .int .i64 0], .c (.int .i64 12)], [none, none]⟩ = some r := fun q => bad 12 (by decide) (by unfold pgE; rw [if_pos c1, if_pos ⟨c2, c3⟩, if_neg (by rw [q]; simp)])
      have j1 : inM ws.length (d + sp1 a) 1 = true := by
        have : 0 ≤ d + sp1 a ∧ d + sp1 a + 1 ≤ (ws.length : Int) := by omega
        simp [inM, this]
      rw [j1, show (pE true == 0) = true from rfl, cond_true]
      by_cases v1 : eV (getW ws (d + sp1 a)) = true
      rotate_left
      · rw [show eV (getW ws (d + sp1 a)) = false from by simpa using v1, cond_false]
        have := b12 (by unfold pgOk lokW w1; simp [v1])
        cases (eE (getW ws (d + sp1 a)) == 0)
        · exact this
        · exact this
      rw [eE_of v1, show ((0 : Int) == 0) = true from rfl, cond_true, v1, cond_true, inI_eA0 (u64wf (getW_word hw)).1, Bool.and_self, Bool.and_self, cond_true]
      by_cases v2 : inM ws.length (eA (getW ws (d + sp1 a))) 16 = true
      rotate_left
      · rw [show (!inM ws.length (eA (getW ws (d + sp1 a))) 16) = true from by simpa using v2, cond_true]
        exact b12 (by unfold pgOk lokW w1; simp [v2])
      rw [v2, Bool.not_true, cond_false]
      by_cases v3 : eWr (getW ws (d + sp1 a)) = true
      · rw [v3, cond_true]
        exact b12 (by unfold pgOk w1; simp [v3])
      have v3' : eWr (getW ws (d + sp1 a)) = false := by simpa using v3
      rw [v3', cond_false]
      have kd2 := v2
      simp only [inM, Bool.and_eq_true, decide_eq_true_eq] at kd2
      rw [wrap_i64 (n := eA (getW ws (d + sp1 a)) + sp2 a) (by omega) (by omega)]
      have i2 : inI (eA (getW ws (d + sp1 a)) + sp2 a) = true := by
        have : -9223372036854775808 ≤ eA (getW ws (d + sp1 a)) + sp2 a ∧ eA (getW ws (d + sp1 a)) + sp2 a ≤ 9223372036854775807 := by omega
        simp [inI, this]
      have j2 : inM ws.length (eA (getW ws (d + sp1 a)) + sp2 a) 1 = true := by
        have : 0 ≤ eA (getW ws (d + sp1 a)) + sp2 a ∧ eA (getW ws (d + sp1 a)) + sp2 a + 1 ≤ (ws.length : Int) := by omega
        simp [inM, this]
      rw [i2, Bool.and_self, cond_true, getW_word hw, cond_true, j2, show (pE true == 0) = true from rfl, cond_true]
      by_cases u1 : eV (getW ws (eA (getW ws (d + sp1 a)) + sp2 a)) = true
      rotate_left
      · rw [show eV (getW ws (eA (getW ws (d + sp1 a)) + sp2 a)) = false from by simpa using u1, cond_false]
        have := b12 (by unfold pgOk lokW w2 w1; simp [u1])
        cases (eE (getW ws (eA (getW ws (d + sp1 a)) + sp2 a)) == 0)
        · exact this
        · exact this
      rw [eE_of u1, show ((0 : Int) == 0) = true from rfl, cond_true, u1, cond_true, inI_eA0 (u64wf (getW_word hw)).1, Bool.and_self, Bool.and_self, cond_true]
      by_cases u2 : inM ws.length (eA (getW ws (eA (getW ws (d + sp1 a)) + sp2 a))) 16 = true
      rotate_left
      · rw [show (!inM ws.length (eA (getW ws (eA (getW ws (d + sp1 a)) + sp2 a))) 16) = true from by simpa using u2, cond_true]
        exact b12 (by unfold pgOk lokW w2 w1; simp [u2])
      rw [u2, Bool.not_true, cond_false]
      have ok : pgE ws d a = 0 := by
        unfold pgE; rw [if_pos c1, if_pos ⟨c2, c3⟩, if_pos (by unfold pgOk lokW w2 w1; simp [v1, v2, v3', u1, u2])]
      simp only [pgV, pgW, pgA, ok, decide_true, if_true, Bool.true_and] at h
      exact h
    · cases h
  · cases h
end Go.Proofs.Ytnloobnpgkpbhaa.Wlk
