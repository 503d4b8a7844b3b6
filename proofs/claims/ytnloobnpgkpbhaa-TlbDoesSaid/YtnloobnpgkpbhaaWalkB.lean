/- Where addresses lie; what is loaded and stored, told in short. -/
import Derived.Test.YtnloobnpgkpbhaaWalk
set_option linter.unusedVariables false
set_option linter.unusedSimpArgs false
set_option maxRecDepth 100000
namespace Go.Proofs.Ytnloobnpgkpbhaa.Wlk
open Go Go.Eng Go.Proofs Go.RowKit
noncomputable def sToV (V W : LB) (A E : LF) (S1 S2 S3 SE : IF) : Summ := sAdd (sAdd (sAdd (sAdd sNil 41 (gPageV V W A E)) 44 (gPageV V W A E)) 40 (gSplitV S1 S2 S3 SE)) 42 (gSplitV S1 S2 S3 SE)
abbrev TF := List Int → Int → Int → Bool → Int
def toE (ws : List Int) (d a : Int) (wr : Bool) : Int := if pgE ws d a = 0 then (if wr = true ∧ pgW ws d a = false then 5 else 0) else pgE ws d a
def toA (ws : List Int) (d a : Int) (wr : Bool) : Int := if toE ws d a wr = 0 then pgA ws d a + sp3 a else 0
def gToV (A E : TF) : Fun := fun args sub κ => match args, sub with
  | [.e (.c (.ptr ⟨0, 0, 0, 0, 0, 0, 0⟩)), .e (.c (.int .i64 d)), .e (.c (.int .i64 a)), .e (.c (.bool wr))], [some ⟨false, .mix [.slice ⟨1, 0, 1, 0, 0, 0, 0⟩ 1 n x true]⟩, some ⟨false, .rows [.ints .u64 ws]⟩] => match okM n ws && inI d && inI a && allW ws with
    | true => κ ⟨.tup [.c (.int .i64 (A ws d a wr)), .c (.int .i64 (E ws d a wr))], [none, none]⟩
    | false => none
  | _, _ => none
abbrev gTo : Fun := gToV toA toE
noncomputable def sWd : Summ := sAdd (sAdd sNil 48 gRead) 49 gSize
theorem t_to (V W : LB) (A E : LF) (S1 S2 S3 SE : IF) (d a : Int) (wr : Bool) (n x : Nat) (ws : List Int) (k : Res → Option Res) : runG Try.prog (sToV V W A E S1 S2 S3 SE) 100 30 [mP, aint .i64 d, aint .i64 a, .e (.c (.bool wr))] (mB n x ws) k = (cond (Go.Proofs.Ytnloobnpgkpbhaa.Wlk.okM n ws && inI d && inI a && Go.Proofs.Ytnloobnpgkpbhaa.Wlk.allW ws) (cond (E ws d a != 0) (k (Res.mk (AV.tup [(AE.c (AC.int (IntKind.i64) (0))), (AE.c (AC.int (IntKind.i64) (E ws d a)))]) [(none), (none)])) (cond (wr) (cond (!W ws d a) (k (Res.mk (AV.tup [(AE.c (AC.int (IntKind.i64) (0))), (AE.c (AC.int (IntKind.i64) (5)))]) [(none), (none)])) (cond (inI a) (k (Res.mk (AV.tup [(AE.c (AC.int (IntKind.i64) (IntKind.wrap IntKind.i64 (A ws d a + S3 a)))), (AE.c (AC.int (IntKind.i64) (0)))]) [(none), (none)])) none)) (cond (inI a) (k (Res.mk (AV.tup [(AE.c (AC.int (IntKind.i64) (IntKind.wrap IntKind.i64 (A ws d a + S3 a)))), (AE.c (AC.int (IntKind.i64) (0)))]) [(none), (none)])) none))) none) := by kernel_rfl
theorem t_words (n x : Nat) (ws : List Int) (k : Res → Option Res) : runG Try.prog sWd 100 29 [mP] (mB n x ws) k = (cond (Go.Proofs.Ytnloobnpgkpbhaa.Wlk.okM n ws && inI 0 && inI (↑n : Int)) (cond (Go.Proofs.Ytnloobnpgkpbhaa.Wlk.inM n 0 (↑n : Int)) (k (Res.mk (AV.e (AE.c (AC.slice (Loc.mk 2 0 1 0 0 0 0) 1 (Int.toNat (↑n : Int)) 0 true))) [(none), (none), (some (some (Block.mk false (Data.rows [(Col.ints (IntKind.u64) (List.take (Int.toNat (↑n : Int)) (List.drop 0 ws)))]))))])) (k (Res.mk (AV.e (AE.c (AC.nils))) [(none), (none)]))) none) := by kernel_rfl
theorem inI_of {n : Int} (h0 : -9223372036854775808 ≤ n) (h1 : n ≤ 9223372036854775807) : inI n = true := by simp [inI, h0, h1]
theorem pg_in {ws : List Int} {d a : Int} (h : pgE ws d a = 0) : inM ws.length (pgA ws d a) 16 = true ∧ 0 ≤ pgA ws d a ∧ pgA ws d a + 16 ≤ ws.length ∧ 0 ≤ sp3 a ∧ sp3 a ≤ 15 := by
  have hA : pgA ws d a = eA (w2 ws d a) := by unfold pgA; rw [if_pos h]
  rw [hA]
  unfold pgE at h
  split at h
  · rename_i c1
    split at h
    · split at h
      · rename_i c3
        simp only [pgOk, lokW, Bool.and_eq_true] at c3
        have k := c3.2.2
        simp only [inM, Bool.and_eq_true, decide_eq_true_eq] at k
        refine ⟨c3.2.2, by omega, by omega, ?_⟩
        unfold sp3; rw [if_pos c1]; omega
      · cases h
    · cases h
  · cases h
theorem sTo_ok : SummOk Try.prog (sToV pgV pgW pgA pgE sp1 sp2 sp3 spE) :=
  sAdd_ok (sAdd_ok (sAdd_ok (sAdd_ok sNil_ok gPage_sound (enters Try.func41 rfl (by kernel_rfl))) gRefPage_sound (enters Try.func44 rfl (by kernel_rfl))) gSplit_sound (enters Try.func40 rfl (by kernel_rfl))) gRefSplit_sound (enters Try.func42 rfl (by kernel_rfl))
theorem gTo_sound : FunSound Try.prog 30 gTo := by
  refine (runG_sound sTo_ok mix 100 30).short fun args sub κ r h => ?_
  unfold gTo gToV at h
  split at h
  · rename_i d a wr n x ws
    split at h
    · rename_i hc
      have hc' := hc
      simp only [Bool.and_eq_true] at hc
      obtain ⟨⟨⟨ho, hd⟩, ha⟩, hw⟩ := hc
      obtain ⟨rfl, hn⟩ := okM_spec ho
      refine (t_to pgV pgW pgA pgE sp1 sp2 sp3 spE d a wr ws.length x ws κ).trans ?_
      rw [hc', cond_true]
      by_cases c1 : pgE ws d a = 0
      rotate_left
      · have e1 : toE ws d a wr = pgE ws d a := by unfold toE; rw [if_neg c1]
        have e2 : toA ws d a wr = 0 := by unfold toA; rw [if_neg (by rw [e1]; exact c1)]
        rw [show (pgE ws d a != 0) = true from by simpa using c1, cond_true]
        rw [e1, e2] at h; exact h
      obtain ⟨b1, b2, b3, b4, b5⟩ := pg_in c1
      rw [c1, show ((0 : Int) != 0) = false from rfl, cond_false, ha, cond_true, wrap_i64 (n := pgA ws d a + sp3 a) (by omega) (by omega)]
      by_cases c2 : wr = true ∧ pgW ws d a = false
      · have e1 : toE ws d a wr = 5 := by unfold toE; rw [if_pos c1, if_pos c2]
        have e2 : toA ws d a wr = 0 := by unfold toA; rw [if_neg (by rw [e1]; decide)]
        rw [e1, e2] at h
        rw [c2.1, c2.2, cond_true, Bool.not_false, cond_true]
        exact h
      · have e1 : toE ws d a wr = 0 := by unfold toE; rw [if_pos c1, if_neg c2]
        have e2 : toA ws d a wr = pgA ws d a + sp3 a := by unfold toA; rw [if_pos e1]
        rw [e1, e2] at h
        cases wr with
        | false => rw [cond_false]; exact h
        | true =>
          have : pgW ws d a = true := by
            cases q : pgW ws d a with
            | true => rfl
            | false => exact absurd ⟨rfl, q⟩ c2
          rw [this, cond_true, Bool.not_true, cond_false]; exact h
    · cases h
  · cases h
theorem to_in {ws : List Int} {d a : Int} {wr : Bool} (h : toE ws d a wr = 0) : inM ws.length (toA ws d a wr) 1 = true ∧ 0 ≤ toA ws d a wr ∧ toA ws d a wr < ws.length := by
  have hA : toA ws d a wr = pgA ws d a + sp3 a := by unfold toA; rw [if_pos h]
  rw [hA]
  have h1 : pgE ws d a = 0 := by
    unfold toE at h
    split at h
    · rename_i c; exact c
    · exact h
  obtain ⟨b1, b2, b3, b4, b5⟩ := pg_in h1
  have : 0 ≤ pgA ws d a + sp3 a ∧ pgA ws d a + sp3 a + 1 ≤ (ws.length : Int) := by omega
  exact ⟨by simp [inM, this], by omega, by omega⟩
def ldV (ws : List Int) (d a : Int) : Int := if toE ws d a false = 0 then getW ws (toA ws d a false) else 0
def stW (ws : List Int) (d a v : Int) : List Int := if toE ws d a true = 0 then putW ws (toA ws d a true) v else ws
theorem stW_len (ws : List Int) (d a v : Int) : (stW ws d a v).length = ws.length := by
  unfold stW; split
  · rw [putW_len]
  · rfl
theorem putW_all {ws : List Int} (h : allW ws = true) {a v : Int} (hv : word v = true) : allW (putW ws a v) = true := by
  unfold putW
  split
  · simp only [allW, List.all_eq_true] at h ⊢
    intro y hy
    rcases List.mem_or_eq_of_mem_set hy with h1 | h1
    · exact h y h1
    · rw [h1]; exact hv
  · exact h
theorem stW_all {ws : List Int} (h : allW ws = true) {d a v : Int} (hv : word v = true) : allW (stW ws d a v) = true := by
  unfold stW; split
  · exact putW_all h hv
  · exact h
def gLoad : Fun := fun args sub κ => match args, sub with
  | [.e (.c (.ptr ⟨0, 0, 0, 0, 0, 0, 0⟩)), .e (.c (.int .i64 d)), .e (.c (.int .i64 a))], [some ⟨false, .mix [.slice ⟨1, 0, 1, 0, 0, 0, 0⟩ 1 n x true]⟩, some ⟨false, .rows [.ints .u64 ws]⟩] => match okM n ws && inI d && inI a && allW ws with
    | true => κ ⟨.tup [.c (.int .u64 (ldV ws d a)), .c (.int .i64 (toE ws d a false))], [none, none]⟩
    | false => none
  | _, _ => none
def gStore : Fun := fun args sub κ => match args, sub with
  | [.e (.c (.ptr ⟨0, 0, 0, 0, 0, 0, 0⟩)), .e (.c (.int .i64 d)), .e (.c (.int .i64 a)), .e (.c (.int .u64 v))], [some ⟨false, .mix [.slice ⟨1, 0, 1, 0, 0, 0, 0⟩ 1 n x true]⟩, some ⟨false, .rows [.ints .u64 ws]⟩] => match okM n ws && inI d && inI a && allW ws with
    | true => κ ⟨.e (.c (.int .i64 (toE ws d a true))), [some (some ⟨false, .mix [.slice ⟨1, 0, 1, 0, 0, 0, 0⟩ 1 n x true]⟩), some (some ⟨false, .rows [.ints .u64 (stW ws d a v)]⟩)]⟩
    | false => none
  | _, _ => none
theorem sWd_ok : SummOk Try.prog sWd := sAdd_ok (sAdd_ok sNil_ok gRead_sound (enters Try.func48 rfl (by kernel_rfl))) gSize_sound (enters Try.func49 rfl (by kernel_rfl))
def gWords : Fun := fun args sub κ => match args, sub with
  | [.e (.c (.ptr ⟨0, 0, 0, 0, 0, 0, 0⟩))], [some ⟨false, .mix [.slice ⟨1, 0, 1, 0, 0, 0, 0⟩ 1 n x true]⟩, some ⟨false, .rows [.ints .u64 ws]⟩] => match okM n ws with
    | true => κ ⟨.e (.c (.slice ⟨2, 0, 1, 0, 0, 0, 0⟩ 1 n 0 true)), [none, none, some (some ⟨false, .rows [.ints .u64 ws]⟩)]⟩
    | false => none
  | _, _ => none
theorem gWords_sound : FunSound Try.prog 29 gWords := by
  refine (runG_sound sWd_ok mix 100 29).short fun args sub κ r h => ?_
  unfold gWords at h
  split at h
  · rename_i n x ws
    split at h
    · rename_i hc
      have hc' := hc
      obtain ⟨rfl, hn⟩ := okM_spec hc
      refine (t_words ws.length x ws κ).trans ?_
      have : inM ws.length 0 (ws.length : Int) = true := by simp [inM]
      rw [hc', inI_of (n := (ws.length : Int)) (by omega) (by omega), show inI 0 = true from rfl, Bool.and_self, Bool.and_self, cond_true, this, cond_true, Int.toNat_natCast, List.drop_zero, List.take_length]
      exact h
    · cases h
  · cases h
end Go.Proofs.Ytnloobnpgkpbhaa.Wlk
