/- Places of directories' and tables' words, told in short. -/
import Derived.Test.YtmpmnjekcajlgaaMadeB
set_option linter.unusedVariables false
set_option linter.unusedSimpArgs false
set_option maxRecDepth 100000
namespace Go.Proofs.Ytmpmnjekcajlgaa.Wlk
open Go Go.Eng Go.Proofs Go.RowKit
abbrev DF := List Int → Int → Int → Int → Int
def sth (n : Nat) (a : Int) : Bool := inM n a 16 && decide (a % 16 = 0)
def gSth : Fun := fun args sub κ => match args, sub with
  | [.e (.c (.ptr ⟨0, 0, 0, 0, 0, 0, 0⟩)), .e (.c (.int .i64 a))], [some ⟨false, .mix [.slice ⟨1, 0, 1, 0, 0, 0, 0⟩ 1 n x true]⟩, some ⟨false, .rows [.ints .u64 ws]⟩] => match okM n ws && inI a with
    | true => κ ⟨.e (.c (.bool (sth n a))), [none, none]⟩
    | false => none
  | _, _ => none
def fiE (ws : List Int) (d a o : Int) : Int := if spOk a = true then (if (sth ws.length d && sth ws.length o) = true then 0 else 9) else 1
def fiA (ws : List Int) (d a o : Int) : Int := if fiE ws d a o = 0 then d + sp1 a else 0
def gFirV (A E : DF) : Fun := fun args sub κ => match args, sub with
  | [.e (.c (.ptr ⟨0, 0, 0, 0, 0, 0, 0⟩)), .e (.c (.int .i64 d)), .e (.c (.int .i64 a)), .e (.c (.int .i64 o))], [some ⟨false, .mix [.slice ⟨1, 0, 1, 0, 0, 0, 0⟩ 1 n x true]⟩, some ⟨false, .rows [.ints .u64 ws]⟩] => match okM n ws && inI d && inI a && inI o && allW ws with
    | true => κ ⟨.tup [.c (.int .i64 (A ws d a o)), .c (.int .i64 (E ws d a o))], [none, none]⟩
    | false => none
  | _, _ => none
def seE (ws : List Int) (d a o : Int) : Int := if fiE ws d a o = 0 then (if (eV (getW ws (fiA ws d a o)) && !eWr (getW ws (fiA ws d a o)) && inM ws.length (eA (getW ws (fiA ws d a o))) 16) = true then 0 else 12) else fiE ws d a o
def seA (ws : List Int) (d a o : Int) : Int := if seE ws d a o = 0 then eA (getW ws (fiA ws d a o)) + sp2 a else 0
noncomputable def sSi : Summ := sAdd (sAdd sNil 32 gSize) 56 gThere
noncomputable def sFi (A B C E : IF) : Summ := sAdd (sAdd (sAdd (sAdd sNil 34 (gSplitV A B C E)) 57 (gSplitV A B C E)) 29 gSth) 45 gSth
noncomputable def sSe (FA FE : DF) (A B C E : IF) (V W : BF) (EA EE : IF) : Summ := sAdd (sAdd (sAdd (sAdd (sAdd (sAdd (sFi A B C E) 25 (gFirV FA FE)) 52 (gFirV FA FE)) 24 gGet) 36 (gEUnV V W EA EE)) 55 (gEUnV V W EA EE)) 56 gThere
theorem t_sth (a : Int) (n x : Nat) (ws : List Int) (k : Res → Option Res) : runG Try.prog sSi 100 29 [mP, aint .i64 a] (mB n x ws) k = (cond (decide (a ≥ 0)) (cond (Int.tmod a 16 == 0) (k (Res.mk (AV.e (AE.c (AC.bool (decide (a ≤ IntKind.wrap IntKind.i64 ((↑n : Int) - 16)))))) [(none), (none)])) (k (Res.mk (AV.e (AE.c (AC.bool false))) [(none), (none)]))) (k (Res.mk (AV.e (AE.c (AC.bool false))) [(none), (none)]))) := by kernel_rfl
theorem t_rth (a : Int) (n x : Nat) (ws : List Int) (k : Res → Option Res) : runG Try.prog sSi 100 45 [mP, aint .i64 a] (mB n x ws) k = (cond (decide (a ≥ 0)) (cond (Int.tmod a 16 == 0) (cond (Go.Proofs.Ytmpmnjekcajlgaa.Wlk.okM n ws && inI a && inI 16) (k (Res.mk (AV.e (AE.c (AC.bool (Go.Proofs.Ytmpmnjekcajlgaa.Wlk.inM n a 16)))) [(none), (none)])) none) (k (Res.mk (AV.e (AE.c (AC.bool false))) [(none), (none)]))) (k (Res.mk (AV.e (AE.c (AC.bool false))) [(none), (none)]))) := by kernel_rfl
theorem t_fir (A B C E : IF) (d a o : Int) (n x : Nat) (ws : List Int) (k : Res → Option Res) : runG Try.prog (sFi A B C E) 100 25 [mP, aint .i64 d, aint .i64 a, aint .i64 o] (mB n x ws) k = (cond (inI a) (cond (E a != 0) (k (Res.mk (AV.tup [(AE.c (AC.int (IntKind.i64) (0))), (AE.c (AC.int (IntKind.i64) (E a)))]) [(none), (none)])) (cond (Go.Proofs.Ytmpmnjekcajlgaa.Wlk.okM n ws && inI d) (cond (!Go.Proofs.Ytmpmnjekcajlgaa.Wlk.sth n d) (k (Res.mk (AV.tup [(AE.c (AC.int (IntKind.i64) (0))), (AE.c (AC.int (IntKind.i64) (9)))]) [(none), (none)])) (cond (Go.Proofs.Ytmpmnjekcajlgaa.Wlk.okM n ws && inI o) (cond (!Go.Proofs.Ytmpmnjekcajlgaa.Wlk.sth n o) (k (Res.mk (AV.tup [(AE.c (AC.int (IntKind.i64) (0))), (AE.c (AC.int (IntKind.i64) (9)))]) [(none), (none)])) (k (Res.mk (AV.tup [(AE.c (AC.int (IntKind.i64) (IntKind.wrap IntKind.i64 (d + A a)))), (AE.c (AC.int (IntKind.i64) (0)))]) [(none), (none)]))) none)) none)) none) := by kernel_rfl
theorem t_rfir (A B C E : IF) (d a o : Int) (n x : Nat) (ws : List Int) (k : Res → Option Res) : runG Try.prog (sFi A B C E) 100 52 [mP, aint .i64 d, aint .i64 a, aint .i64 o] (mB n x ws) k = (cond (inI a) (cond (E a != 0) (k (Res.mk (AV.tup [(AE.c (AC.int (IntKind.i64) (0))), (AE.c (AC.int (IntKind.i64) (E a)))]) [(none), (none)])) (cond (Go.Proofs.Ytmpmnjekcajlgaa.Wlk.okM n ws && inI d) (cond (!Go.Proofs.Ytmpmnjekcajlgaa.Wlk.sth n d) (k (Res.mk (AV.tup [(AE.c (AC.int (IntKind.i64) (0))), (AE.c (AC.int (IntKind.i64) (9)))]) [(none), (none)])) (cond (Go.Proofs.Ytmpmnjekcajlgaa.Wlk.okM n ws && inI o) (cond (!Go.Proofs.Ytmpmnjekcajlgaa.Wlk.sth n o) (k (Res.mk (AV.tup [(AE.c (AC.int (IntKind.i64) (0))), (AE.c (AC.int (IntKind.i64) (9)))]) [(none), (none)])) (k (Res.mk (AV.tup [(AE.c (AC.int (IntKind.i64) (IntKind.wrap IntKind.i64 (d + A a)))), (AE.c (AC.int (IntKind.i64) (0)))]) [(none), (none)]))) none)) none)) none) := by kernel_rfl
theorem t_sec (FA FE : DF) (A B C E : IF) (V W : BF) (EA EE : IF) (d a o : Int) (n x : Nat) (ws : List Int) (k : Res → Option Res) : runG Try.prog (sSe FA FE A B C E V W EA EE) 100 28 [mP, aint .i64 d, aint .i64 a, aint .i64 o] (mB n x ws) k = (cond (Go.Proofs.Ytmpmnjekcajlgaa.Wlk.okM n ws && inI d && inI a && inI o && Go.Proofs.Ytmpmnjekcajlgaa.Wlk.allW ws) (cond (FE ws d a o != 0) (k (Res.mk (AV.tup [(AE.c (AC.int (IntKind.i64) (0))), (AE.c (AC.int (IntKind.i64) (FE ws d a o)))]) [(none), (none)])) (cond (Go.Proofs.Ytmpmnjekcajlgaa.Wlk.okM n ws && inI (FA ws d a o)) (cond (word (Go.Proofs.Ytmpmnjekcajlgaa.Wlk.getW ws (FA ws d a o))) (cond (EE (Go.Proofs.Ytmpmnjekcajlgaa.Wlk.getW ws (FA ws d a o)) != 0) (k (Res.mk (AV.tup [(AE.c (AC.int (IntKind.i64) (0))), (AE.c (AC.int (IntKind.i64) (12)))]) [(none), (none)])) (cond (!V (Go.Proofs.Ytmpmnjekcajlgaa.Wlk.getW ws (FA ws d a o))) (k (Res.mk (AV.tup [(AE.c (AC.int (IntKind.i64) (0))), (AE.c (AC.int (IntKind.i64) (12)))]) [(none), (none)])) (cond (W (Go.Proofs.Ytmpmnjekcajlgaa.Wlk.getW ws (FA ws d a o))) (k (Res.mk (AV.tup [(AE.c (AC.int (IntKind.i64) (0))), (AE.c (AC.int (IntKind.i64) (12)))]) [(none), (none)])) (cond (Go.Proofs.Ytmpmnjekcajlgaa.Wlk.okM n ws && inI (EA (Go.Proofs.Ytmpmnjekcajlgaa.Wlk.getW ws (FA ws d a o)))) (cond (!Go.Proofs.Ytmpmnjekcajlgaa.Wlk.sth n (EA (Go.Proofs.Ytmpmnjekcajlgaa.Wlk.getW ws (FA ws d a o)))) (k (Res.mk (AV.tup [(AE.c (AC.int (IntKind.i64) (0))), (AE.c (AC.int (IntKind.i64) (12)))]) [(none), (none)])) (cond (inI a) (k (Res.mk (AV.tup [(AE.c (AC.int (IntKind.i64) (IntKind.wrap IntKind.i64 (EA (Go.Proofs.Ytmpmnjekcajlgaa.Wlk.getW ws (FA ws d a o)) + B a)))), (AE.c (AC.int (IntKind.i64) (0)))]) [(none), (none)])) none)) none)))) none) none)) none) := by kernel_rfl
theorem t_rsec (FA FE : DF) (A B C E : IF) (V W : BF) (EA EE : IF) (d a o : Int) (n x : Nat) (ws : List Int) (k : Res → Option Res) : runG Try.prog (sSe FA FE A B C E V W EA EE) 100 54 [mP, aint .i64 d, aint .i64 a, aint .i64 o] (mB n x ws) k = (cond (Go.Proofs.Ytmpmnjekcajlgaa.Wlk.okM n ws && inI d && inI a && inI o && Go.Proofs.Ytmpmnjekcajlgaa.Wlk.allW ws) (cond (FE ws d a o != 0) (k (Res.mk (AV.tup [(AE.c (AC.int (IntKind.i64) (0))), (AE.c (AC.int (IntKind.i64) (FE ws d a o)))]) [(none), (none)])) (cond (decide (0 ≤ FA ws d a o) && decide (FA ws d a o < (↑n : Int))) (cond (decide (0 + Int.toNat (FA ws d a o) < List.length ws)) (cond (word (List.getD ws (0 + Int.toNat (FA ws d a o)) 0)) (cond (EE (List.getD ws (0 + Int.toNat (FA ws d a o)) 0) != 0) (k (Res.mk (AV.tup [(AE.c (AC.int (IntKind.i64) (0))), (AE.c (AC.int (IntKind.i64) (12)))]) [(none), (none)])) (cond (!V (List.getD ws (0 + Int.toNat (FA ws d a o)) 0)) (k (Res.mk (AV.tup [(AE.c (AC.int (IntKind.i64) (0))), (AE.c (AC.int (IntKind.i64) (12)))]) [(none), (none)])) (cond (W (List.getD ws (0 + Int.toNat (FA ws d a o)) 0)) (k (Res.mk (AV.tup [(AE.c (AC.int (IntKind.i64) (0))), (AE.c (AC.int (IntKind.i64) (12)))]) [(none), (none)])) (cond (Go.Proofs.Ytmpmnjekcajlgaa.Wlk.okM n ws && inI (EA (List.getD ws (0 + Int.toNat (FA ws d a o)) 0)) && inI 16) (cond (!Go.Proofs.Ytmpmnjekcajlgaa.Wlk.inM n (EA (List.getD ws (0 + Int.toNat (FA ws d a o)) 0)) 16) (k (Res.mk (AV.tup [(AE.c (AC.int (IntKind.i64) (0))), (AE.c (AC.int (IntKind.i64) (12)))]) [(none), (none)])) (cond (inI a) (k (Res.mk (AV.tup [(AE.c (AC.int (IntKind.i64) (IntKind.wrap IntKind.i64 (EA (List.getD ws (0 + Int.toNat (FA ws d a o)) 0) + B a)))), (AE.c (AC.int (IntKind.i64) (0)))]) [(none), (none)])) none)) none)))) none) none) none)) none) := by kernel_rfl
theorem sSi_ok : SummOk Try.prog sSi := sAdd_ok (sAdd_ok sNil_ok gSize_sound (enters Try.func32 rfl (by kernel_rfl))) gThere_sound (enters Try.func56 rfl (by kernel_rfl))
theorem gSth_sound : FunSound Try.prog 29 gSth := by
  refine (runG_sound sSi_ok mix 100 29).short fun args sub κ r h => ?_
  unfold gSth at h
  split at h
  · rename_i a n x ws
    split at h
    · rename_i hc
      simp only [Bool.and_eq_true] at hc
      obtain ⟨rfl, hn⟩ := okM_spec hc.1
      refine (t_sth a ws.length x ws κ).trans ?_
      rw [wrap_i64 (n := (ws.length : Int) - 16) (by omega) (by omega)]
      by_cases h1 : a ≥ 0
      rotate_left
      · have : sth ws.length a = false := by unfold sth inM; rw [decide_eq_false (show ¬ 0 ≤ a from h1)]; rfl
        rw [decide_eq_false h1, cond_false]; rw [this] at h; exact h
      rw [decide_eq_true h1, cond_true, Int.tmod_eq_emod_of_nonneg h1]
      by_cases h2 : a % 16 = 0
      rotate_left
      · have : sth ws.length a = false := by unfold sth; rw [decide_eq_false h2, Bool.and_false]
        rw [show (a % 16 == 0) = false from by simpa using h2, cond_false]; rw [this] at h; exact h
      have : sth ws.length a = decide (a ≤ (ws.length : Int) - 16) := by
        unfold sth inM
        rw [decide_eq_true h2, decide_eq_true (show 0 ≤ a from h1), show decide ((0 : Int) ≤ 16) = true from rfl]
        simp only [Bool.true_and, Bool.and_true]; exact decide_eq_decide.2 (by omega)
      rw [show (a % 16 == 0) = true from by simpa using h2, cond_true]; rw [this] at h; exact h
    · cases h
  · cases h
theorem gRth_sound : FunSound Try.prog 45 gSth := by
  refine (runG_sound sSi_ok mix 100 45).short fun args sub κ r h => ?_
  unfold gSth at h
  split at h
  · rename_i a n x ws
    split at h
    · rename_i hc
      have hc' := hc
      simp only [Bool.and_eq_true] at hc
      obtain ⟨rfl, hn⟩ := okM_spec hc.1
      refine (t_rth a ws.length x ws κ).trans ?_
      by_cases h1 : a ≥ 0
      rotate_left
      · have : sth ws.length a = false := by unfold sth inM; rw [decide_eq_false (show ¬ 0 ≤ a from h1)]; rfl
        rw [decide_eq_false h1, cond_false]; rw [this] at h; exact h
      rw [decide_eq_true h1, cond_true, Int.tmod_eq_emod_of_nonneg h1]
      by_cases h2 : a % 16 = 0
      rotate_left
      · have : sth ws.length a = false := by unfold sth; rw [decide_eq_false h2, Bool.and_false]
        rw [show (a % 16 == 0) = false from by simpa using h2, cond_false]; rw [this] at h; exact h
      have : sth ws.length a = inM ws.length a 16 := by unfold sth; rw [decide_eq_true h2, Bool.and_true]
      rw [show (a % 16 == 0) = true from by simpa using h2, cond_true, hc', show inI 16 = true from rfl, Bool.and_self, cond_true]; rw [this] at h; exact h
    · cases h
  · cases h
theorem sFi_ok : SummOk Try.prog (sFi sp1 sp2 sp3 spE) :=
  sAdd_ok (sAdd_ok (sAdd_ok (sAdd_ok sNil_ok gSplit_sound (enters Try.func34 rfl (by kernel_rfl))) gRefSplit_sound (enters Try.func57 rfl (by kernel_rfl))) gSth_sound (enters Try.func29 rfl (by kernel_rfl))) gRth_sound (enters Try.func45 rfl (by kernel_rfl))
theorem gFir_sound : FunSound Try.prog 25 (gFirV fiA fiE) := by
  refine (runG_sound sFi_ok mix 100 25).short fun args sub κ r h => ?_
  unfold gFirV at h
  split at h
  · rename_i d a o n x ws
    split at h
    · rename_i hc
      simp only [Bool.and_eq_true] at hc
      obtain ⟨⟨⟨⟨ho, hd⟩, ha⟩, hO⟩, hw⟩ := hc
      have ho' := ho
      obtain ⟨rfl, hn⟩ := okM_spec ho
      refine (t_fir sp1 sp2 sp3 spE d a o ws.length x ws κ).trans ?_
      rw [ha, cond_true]
      by_cases c1 : spOk a = true
      rotate_left
      · have e1 : spE a = 1 := by unfold spE; rw [if_neg c1]
        have e2 : fiE ws d a o = 1 := by unfold fiE; rw [if_neg c1]
        have e3 : fiA ws d a o = 0 := by unfold fiA; rw [e2, if_neg (by decide)]
        rw [e1, show ((1 : Int) != 0) = true from rfl, cond_true]
        rw [e2, e3] at h; exact h
      have e1 : spE a = 0 := by unfold spE; rw [if_pos c1]
      rw [e1, show ((0 : Int) != 0) = false from rfl, cond_false, ho', hd, Bool.and_self, cond_true]
      have bad : (sth ws.length d && sth ws.length o) = false → κ ⟨.tup [.c (.int .i64 0), .c (.int .i64 9)], [none, none]⟩ = some r := fun q => by
        have e2 : fiE ws d a o = 9 := by unfold fiE; rw [if_pos c1, q, if_neg (by decide)]
        have e3 : fiA ws d a o = 0 := by unfold fiA; rw [e2, if_neg (by decide)]
        rw [e2, e3] at h; exact h
      by_cases c2 : sth ws.length d = true
      rotate_left
      · rw [show (!sth ws.length d) = true from by simpa using c2, cond_true]
        exact bad (by rw [show sth ws.length d = false from by simpa using c2]; rfl)
      rw [c2, Bool.not_true, cond_false, hO, Bool.and_self, cond_true]
      by_cases c3 : sth ws.length o = true
      rotate_left
      · rw [show (!sth ws.length o) = true from by simpa using c3, cond_true]
        exact bad (by rw [show sth ws.length o = false from by simpa using c3, Bool.and_false])
      rw [c3, Bool.not_true, cond_false]
      have k2 := c2
      simp only [sth, inM, Bool.and_eq_true, decide_eq_true_eq] at k2
      have k1 : 0 ≤ sp1 a ∧ sp1 a ≤ 15 := by
        have c1' := c1
        simp only [spOk, Bool.and_eq_true, decide_eq_true_eq] at c1'
        unfold sp1; rw [if_pos c1]; omega
      rw [wrap_i64 (n := d + sp1 a) (by omega) (by omega)]
      have e2 : fiE ws d a o = 0 := by unfold fiE; rw [if_pos c1, c2, c3]; rfl
      have e3 : fiA ws d a o = d + sp1 a := by unfold fiA; rw [if_pos e2]
      rw [e2, e3] at h; exact h
    · cases h
  · cases h
theorem gRfir_sound : FunSound Try.prog 52 (gFirV fiA fiE) := by
  refine (runG_sound sFi_ok mix 100 52).short fun args sub κ r h => ?_
  unfold gFirV at h
  split at h
  · rename_i d a o n x ws
    split at h
    · rename_i hc
      simp only [Bool.and_eq_true] at hc
      obtain ⟨⟨⟨⟨ho, hd⟩, ha⟩, hO⟩, hw⟩ := hc
      have ho' := ho
      obtain ⟨rfl, hn⟩ := okM_spec ho
      refine (t_rfir sp1 sp2 sp3 spE d a o ws.length x ws κ).trans ?_
      rw [ha, cond_true]
      by_cases c1 : spOk a = true
      rotate_left
      · have e1 : spE a = 1 := by unfold spE; rw [if_neg c1]
        have e2 : fiE ws d a o = 1 := by unfold fiE; rw [if_neg c1]
        have e3 : fiA ws d a o = 0 := by unfold fiA; rw [e2, if_neg (by decide)]
        rw [e1, show ((1 : Int) != 0) = true from rfl, cond_true]
        rw [e2, e3] at h; exact h
      have e1 : spE a = 0 := by unfold spE; rw [if_pos c1]
      rw [e1, show ((0 : Int) != 0) = false from rfl, cond_false, ho', hd, Bool.and_self, cond_true]
      have bad : (sth ws.length d && sth ws.length o) = false → κ ⟨.tup [.c (.int .i64 0), .c (.int .i64 9)], [none, none]⟩ = some r := fun q => by
        have e2 : fiE ws d a o = 9 := by unfold fiE; rw [if_pos c1, q, if_neg (by decide)]
        have e3 : fiA ws d a o = 0 := by unfold fiA; rw [e2, if_neg (by decide)]
        rw [e2, e3] at h; exact h
      by_cases c2 : sth ws.length d = true
      rotate_left
      · rw [show (!sth ws.length d) = true from by simpa using c2, cond_true]
        exact bad (by rw [show sth ws.length d = false from by simpa using c2]; rfl)
      rw [c2, Bool.not_true, cond_false, hO, Bool.and_self, cond_true]
      by_cases c3 : sth ws.length o = true
      rotate_left
      · rw [show (!sth ws.length o) = true from by simpa using c3, cond_true]
        exact bad (by rw [show sth ws.length o = false from by simpa using c3, Bool.and_false])
      rw [c3, Bool.not_true, cond_false]
      have k2 := c2
      simp only [sth, inM, Bool.and_eq_true, decide_eq_true_eq] at k2
      have k1 : 0 ≤ sp1 a ∧ sp1 a ≤ 15 := by
        have c1' := c1
        simp only [spOk, Bool.and_eq_true, decide_eq_true_eq] at c1'
        unfold sp1; rw [if_pos c1]; omega
      rw [wrap_i64 (n := d + sp1 a) (by omega) (by omega)]
      have e2 : fiE ws d a o = 0 := by unfold fiE; rw [if_pos c1, c2, c3]; rfl
      have e3 : fiA ws d a o = d + sp1 a := by unfold fiA; rw [if_pos e2]
      rw [e2, e3] at h; exact h
    · cases h
  · cases h
theorem sSe_ok : SummOk Try.prog (sSe fiA fiE sp1 sp2 sp3 spE eV eWr eA eE) :=
  sAdd_ok (sAdd_ok (sAdd_ok (sAdd_ok (sAdd_ok (sAdd_ok sFi_ok gFir_sound (enters Try.func25 rfl (by kernel_rfl))) gRfir_sound (enters Try.func52 rfl (by kernel_rfl))) gGet_sound (enters Try.func24 rfl (by kernel_rfl))) gEUn_sound (enters Try.func36 rfl (by kernel_rfl))) gRefEUn_sound (enters Try.func55 rfl (by kernel_rfl))) gThere_sound (enters Try.func56 rfl (by kernel_rfl))
theorem fi_in {ws : List Int} {d a o : Int} (h : fiE ws d a o = 0) : inM ws.length (fiA ws d a o) 1 = true ∧ 0 ≤ fiA ws d a o ∧ fiA ws d a o < ws.length ∧ 0 ≤ sp2 a ∧ sp2 a ≤ 15 := by
  have hA : fiA ws d a o = d + sp1 a := by unfold fiA; rw [if_pos h]
  rw [hA]
  unfold fiE at h
  split at h
  · rename_i c1
    split at h
    · rename_i c2
      simp only [sth, inM, Bool.and_eq_true, decide_eq_true_eq] at c2
      have c1' := c1
      simp only [spOk, Bool.and_eq_true, decide_eq_true_eq] at c1'
      have k1 : 0 ≤ sp1 a ∧ sp1 a ≤ 15 ∧ 0 ≤ sp2 a ∧ sp2 a ≤ 15 := by unfold sp1 sp2; rw [if_pos c1, if_pos c1]; omega
      have : 0 ≤ d + sp1 a ∧ d + sp1 a + 1 ≤ (ws.length : Int) := by omega
      exact ⟨by simp [inM, this], by omega, by omega, k1.2.2.1, k1.2.2.2⟩
    · cases h
  · cases h
theorem eA_mod (w : Int) : eA w % 16 = 0 := by unfold eA; split <;> omega
theorem sth_eA {n : Nat} {w : Int} : sth n (eA w) = inM n (eA w) 16 := by unfold sth; rw [decide_eq_true (eA_mod w), Bool.and_true]
theorem gSec_sound : FunSound Try.prog 28 (gFirV seA seE) := by
  refine (runG_sound sSe_ok mix 100 28).short fun args sub κ r h => ?_
  unfold gFirV at h
  split at h
  · rename_i d a o n x ws
    split at h
    · rename_i hc
      have hc' := hc
      simp only [Bool.and_eq_true] at hc
      obtain ⟨⟨⟨⟨ho, hd⟩, ha⟩, hO⟩, hw⟩ := hc
      have ho' := ho
      obtain ⟨rfl, hn⟩ := okM_spec ho
      refine (t_sec fiA fiE sp1 sp2 sp3 spE eV eWr eA eE d a o ws.length x ws κ).trans ?_
      rw [hc', cond_true]
      by_cases c0 : fiE ws d a o = 0
      rotate_left
      · have e2 : seE ws d a o = fiE ws d a o := by unfold seE; rw [if_neg c0]
        have e3 : seA ws d a o = 0 := by unfold seA; rw [e2, if_neg c0]
        rw [show (fiE ws d a o != 0) = true from by simpa using c0, cond_true]
        rw [e2, e3] at h; exact h
      obtain ⟨b1, b2, b3, b4, b5⟩ := fi_in c0
      rw [c0, show ((0 : Int) != 0) = false from rfl, cond_false]
      rw [ho', inI_of (n := fiA ws d a o) (by omega) (by omega), Bool.and_self, cond_true, getW_word hw, cond_true]
      have bad : (eV (getW ws (fiA ws d a o)) && !eWr (getW ws (fiA ws d a o)) && inM ws.length (eA (getW ws (fiA ws d a o))) 16) = false → κ ⟨.tup [.c (.int .i64 0), .c (.int .i64 12)], [none, none]⟩ = some r := fun q => by
        have e2 : seE ws d a o = 12 := by unfold seE; rw [if_pos c0, q, if_neg (by decide)]
        have e3 : seA ws d a o = 0 := by unfold seA; rw [e2, if_neg (by decide)]
        rw [e2, e3] at h; exact h
      have hgw : word (getW ws (fiA ws d a o)) = true := getW_word hw
      generalize hgv : getW ws (fiA ws d a o) = v at hgw bad ⊢
      by_cases v1 : eV v = true
      rotate_left
      · have q := bad (by rw [show eV v = false from by simpa using v1]; rfl)
        rw [show (!eV v) = true from by simpa using v1, cond_true]
        cases (eE v != 0)
        · exact q
        · exact q
      rw [eE_of v1, show ((0 : Int) != 0) = false from rfl, cond_false, v1, Bool.not_true, cond_false]
      by_cases v3 : eWr v = true
      · rw [v3, cond_true]
        exact bad (by rw [v3, Bool.not_true, Bool.and_false, Bool.false_and])
      have v3' : eWr v = false := by simpa using v3
      rw [v3', cond_false, Bool.true_and, inI_eA0 (u64wf hgw).1, cond_true]
      by_cases v2 : inM ws.length (eA v) 16 = true
      rotate_left
      · rw [show (!sth ws.length (eA v)) = true from by rw [sth_eA]; simpa using v2, cond_true]
        exact bad (by rw [show inM ws.length (eA v) 16 = false from by simpa using v2, Bool.and_false])
      rw [show sth ws.length (eA v) = true from (by rw [sth_eA]; exact v2), Bool.not_true, cond_false, ha, cond_true]
      have k := v2
      simp only [inM, Bool.and_eq_true, decide_eq_true_eq] at k
      rw [wrap_i64 (n := eA v + sp2 a) (by omega) (by omega)]
      have e2 : seE ws d a o = 0 := by unfold seE; rw [if_pos c0, hgv, v1, v3', v2]; rfl
      have e3 : seA ws d a o = eA v + sp2 a := by unfold seA; rw [if_pos e2, hgv]
      rw [e2, e3] at h; exact h
    · cases h
  · cases h
theorem gRsec_sound : FunSound Try.prog 54 (gFirV seA seE) := by
  refine (runG_sound sSe_ok mix 100 54).short fun args sub κ r h => ?_
  unfold gFirV at h
  split at h
  · rename_i d a o n x ws
    split at h
    · rename_i hc
      have hc' := hc
      simp only [Bool.and_eq_true] at hc
      obtain ⟨⟨⟨⟨ho, hd⟩, ha⟩, hO⟩, hw⟩ := hc
      have ho' := ho
      obtain ⟨rfl, hn⟩ := okM_spec ho
      refine (t_rsec fiA fiE sp1 sp2 sp3 spE eV eWr eA eE d a o ws.length x ws κ).trans ?_
      rw [hc', cond_true]
      by_cases c0 : fiE ws d a o = 0
      rotate_left
      · have e2 : seE ws d a o = fiE ws d a o := by unfold seE; rw [if_neg c0]
        have e3 : seA ws d a o = 0 := by unfold seA; rw [e2, if_neg c0]
        rw [show (fiE ws d a o != 0) = true from by simpa using c0, cond_true]
        rw [e2, e3] at h; exact h
      obtain ⟨b1, b2, b3, b4, b5⟩ := fi_in c0
      rw [c0, show ((0 : Int) != 0) = false from rfl, cond_false]
      have hg : List.getD ws (0 + (fiA ws d a o).toNat) 0 = getW ws (fiA ws d a o) := by unfold getW; rw [if_pos b1, Nat.zero_add]
      rw [decide_eq_true b2, decide_eq_true b3, Bool.and_self, cond_true, decide_eq_true (show 0 + (fiA ws d a o).toNat < ws.length by omega), cond_true, hg, getW_word hw, cond_true]
      have bad : (eV (getW ws (fiA ws d a o)) && !eWr (getW ws (fiA ws d a o)) && inM ws.length (eA (getW ws (fiA ws d a o))) 16) = false → κ ⟨.tup [.c (.int .i64 0), .c (.int .i64 12)], [none, none]⟩ = some r := fun q => by
        have e2 : seE ws d a o = 12 := by unfold seE; rw [if_pos c0, q, if_neg (by decide)]
        have e3 : seA ws d a o = 0 := by unfold seA; rw [e2, if_neg (by decide)]
        rw [e2, e3] at h; exact h
      have hgw : word (getW ws (fiA ws d a o)) = true := getW_word hw
      generalize hgv : getW ws (fiA ws d a o) = v at hgw bad ⊢
      by_cases v1 : eV v = true
      rotate_left
      · have q := bad (by rw [show eV v = false from by simpa using v1]; rfl)
        rw [show (!eV v) = true from by simpa using v1, cond_true]
        cases (eE v != 0)
        · exact q
        · exact q
      rw [eE_of v1, show ((0 : Int) != 0) = false from rfl, cond_false, v1, Bool.not_true, cond_false]
      by_cases v3 : eWr v = true
      · rw [v3, cond_true]
        exact bad (by rw [v3, Bool.not_true, Bool.and_false, Bool.false_and])
      have v3' : eWr v = false := by simpa using v3
      rw [v3', cond_false, ho', inI_eA0 (u64wf hgw).1, show inI 16 = true from rfl, Bool.and_self, Bool.and_self, cond_true]
      by_cases v2 : inM ws.length (eA v) 16 = true
      rotate_left
      · rw [show (!inM ws.length (eA v) 16) = true from by simpa using v2, cond_true]
        exact bad (by rw [show inM ws.length (eA v) 16 = false from by simpa using v2, Bool.and_false])
      rw [show inM ws.length (eA v) 16 = true from v2, Bool.not_true, cond_false, ha, cond_true]
      have k := v2
      simp only [inM, Bool.and_eq_true, decide_eq_true_eq] at k
      rw [wrap_i64 (n := eA v + sp2 a) (by omega) (by omega)]
      have e2 : seE ws d a o = 0 := by unfold seE; rw [if_pos c0, hgv, v1, v3', v2]; rfl
      have e3 : seA ws d a o = eA v + sp2 a := by unfold seA; rw [if_pos e2, hgv]
      rw [e2, e3] at h; exact h
    · cases h
  · cases h
end Go.Proofs.Ytmpmnjekcajlgaa.Wlk
