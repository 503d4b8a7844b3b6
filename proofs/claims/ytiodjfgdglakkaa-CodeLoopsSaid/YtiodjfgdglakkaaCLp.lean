/- The law CodeLoops, walked: the four operations of its loop. -/
import Derived.Test.YtiodjfgdglakkaaCV
set_option linter.unusedVariables false
set_option linter.unusedSimpArgs false
set_option maxRecDepth 100000
namespace Go.Proofs.Ytiodjfgdglakkaa.Wlk
open Go Go.Eng Go.Proofs Go.RowKit
abbrev AF := Int → Int → Int
def VL (A : AF) : VF := fun op x y m => if op = 3 then A x y else valR op x y m
def addU (x y : Int) : Int := IntKind.u64.wrap (x + y)
theorem VL_eq : VL addU = valR := by
  funext op x y m
  unfold VL
  by_cases h : op = 3
  · subst h; simp [valR, addU]
  · rw [if_neg h]
def loopOp (op x : Int) : Bool := decide (op = 3) || decide (op = 4) || decide (op = 13) || (decide (op = 14) && word x)
def gRunL (A : AF) : Fun := fun args sub κ => match args, sub with
  | [.e (.agg [.int .i64 op, .int .i64 a, .int .i64 b, .int .i64 m]), .e (.agg [.int .u64 r0, .int .u64 r1, .int .u64 r2, .int .u64 r3, .int .u64 r4, .int .u64 r5, .int .u64 r6, .int .u64 r7]), .e (.c (.int .i64 pc))], [] =>
    match inI op && inI a && inI b && inI m && inI pc && packOk op a b m && place pc && loopOp op (List.getD [r0, r1, r2, r3, r4, r5, r6, r7] (Int.toNat a) 0) with
    | true => κ (okRV (VL A) op a b m r0 r1 r2 r3 r4 r5 r6 r7 pc)
    | false => none
  | _, _ => none
theorem runL_3 (a b m r0 r1 r2 r3 r4 r5 r6 r7 pc : Int) (k : Res → Option Res) (h1 : inI a = true) (h2 : inI b = true) (h3 : inI m = true) (ok : packOk 3 a b m = true) (pl : place pc = true) : runG Try.prog sS 100 16 [.e (.agg [.int .i64 3, .int .i64 a, .int .i64 b, .int .i64 m]), .e (.agg [.int .u64 r0, .int .u64 r1, .int .u64 r2, .int .u64 r3, .int .u64 r4, .int .u64 r5, .int .u64 r6, .int .u64 r7]), aint .i64 pc] [] k = k (okR 3 a b m r0 r1 r2 r3 r4 r5 r6 r7 pc) := by
  refine (t_runA_3 a b m r0 r1 r2 r3 r4 r5 r6 r7 pc k).trans ?_
  have hl : inI 3 = true := by decide
  rw [hl, h1, h2, h3]
  obtain ⟨a0, a1, b0, b1, m0, m1⟩ := packOk_lits ok
  have e : packE 3 a b m = 0 := by simp [packE, ok]
  have p0 : ¬ pc < 0 := by simp only [place, Bool.and_eq_true, decide_eq_true_eq] at pl; omega
  have p1 : ¬ pc ≥ 4096 := by simp only [place, Bool.and_eq_true, decide_eq_true_eq] at pl; omega
  rw [e]
  have A0 : decide (0 ≤ a) = true := decide_eq_true a0
  have A1 : decide (a < ((8 : Nat) : Int)) = true := decide_eq_true (by omega)
  have A2 : decide (a < 8) = true := decide_eq_true (by omega)
  have B2 : decide (b < 8) = true := decide_eq_true (by omega)
  have B0 : decide (0 ≤ b) = true := decide_eq_true b0
  have B1 : decide (b < ((8 : Nat) : Int)) = true := decide_eq_true (by omega)
  have LA : decide (Int.toNat a < List.length [r0, r1, r2, r3, r4, r5, r6, r7]) = true := decide_eq_true (by show Int.toNat a < 8; omega)
  have LB : decide (Int.toNat b < List.length [r0, r1, r2, r3, r4, r5, r6, r7]) = true := decide_eq_true (by show Int.toNat b < 8; omega)
  simp only [bne_self_eq_false, decide_eq_false p0, decide_eq_false p1, A0, A1, A2, B0, B1, B2, LA, LB, Bool.and_self, cond_true, cond_false]
  rfl
theorem runL_4 (a b m r0 r1 r2 r3 r4 r5 r6 r7 pc : Int) (k : Res → Option Res) (h1 : inI a = true) (h2 : inI b = true) (h3 : inI m = true) (ok : packOk 4 a b m = true) (pl : place pc = true) : runG Try.prog sS 100 16 [.e (.agg [.int .i64 4, .int .i64 a, .int .i64 b, .int .i64 m]), .e (.agg [.int .u64 r0, .int .u64 r1, .int .u64 r2, .int .u64 r3, .int .u64 r4, .int .u64 r5, .int .u64 r6, .int .u64 r7]), aint .i64 pc] [] k = k (okR 4 a b m r0 r1 r2 r3 r4 r5 r6 r7 pc) := by
  refine (t_runA_4 a b m r0 r1 r2 r3 r4 r5 r6 r7 pc k).trans ?_
  have hl : inI 4 = true := by decide
  rw [hl, h1, h2, h3]
  obtain ⟨a0, a1, b0, b1, m0, m1⟩ := packOk_lits ok
  have e : packE 4 a b m = 0 := by simp [packE, ok]
  have p0 : ¬ pc < 0 := by simp only [place, Bool.and_eq_true, decide_eq_true_eq] at pl; omega
  have p1 : ¬ pc ≥ 4096 := by simp only [place, Bool.and_eq_true, decide_eq_true_eq] at pl; omega
  rw [e]
  have A0 : decide (0 ≤ a) = true := decide_eq_true a0
  have A1 : decide (a < ((8 : Nat) : Int)) = true := decide_eq_true (by omega)
  have A2 : decide (a < 8) = true := decide_eq_true (by omega)
  have B2 : decide (b < 8) = true := decide_eq_true (by omega)
  have B0 : decide (0 ≤ b) = true := decide_eq_true b0
  have B1 : decide (b < ((8 : Nat) : Int)) = true := decide_eq_true (by omega)
  have LA : decide (Int.toNat a < List.length [r0, r1, r2, r3, r4, r5, r6, r7]) = true := decide_eq_true (by show Int.toNat a < 8; omega)
  have LB : decide (Int.toNat b < List.length [r0, r1, r2, r3, r4, r5, r6, r7]) = true := decide_eq_true (by show Int.toNat b < 8; omega)
  simp only [bne_self_eq_false, decide_eq_false p0, decide_eq_false p1, A0, A1, A2, B0, B1, B2, LA, LB, Bool.and_self, cond_true, cond_false]
  rfl
theorem runL_13 (a b m r0 r1 r2 r3 r4 r5 r6 r7 pc : Int) (k : Res → Option Res) (h1 : inI a = true) (h2 : inI b = true) (h3 : inI m = true) (ok : packOk 13 a b m = true) (pl : place pc = true) : runG Try.prog sS 100 16 [.e (.agg [.int .i64 13, .int .i64 a, .int .i64 b, .int .i64 m]), .e (.agg [.int .u64 r0, .int .u64 r1, .int .u64 r2, .int .u64 r3, .int .u64 r4, .int .u64 r5, .int .u64 r6, .int .u64 r7]), aint .i64 pc] [] k = k (okR 13 a b m r0 r1 r2 r3 r4 r5 r6 r7 pc) := by
  refine (t_runA_13 a b m r0 r1 r2 r3 r4 r5 r6 r7 pc k).trans ?_
  have hl : inI 13 = true := by decide
  rw [hl, h1, h2, h3]
  obtain ⟨a0, a1, b0, b1, m0, m1⟩ := packOk_lits ok
  have e : packE 13 a b m = 0 := by simp [packE, ok]
  have p0 : ¬ pc < 0 := by simp only [place, Bool.and_eq_true, decide_eq_true_eq] at pl; omega
  have p1 : ¬ pc ≥ 4096 := by simp only [place, Bool.and_eq_true, decide_eq_true_eq] at pl; omega
  rw [e]
  have A0 : decide (0 ≤ a) = true := decide_eq_true a0
  have A1 : decide (a < ((8 : Nat) : Int)) = true := decide_eq_true (by omega)
  have A2 : decide (a < 8) = true := decide_eq_true (by omega)
  have B2 : decide (b < 8) = true := decide_eq_true (by omega)
  have B0 : decide (0 ≤ b) = true := decide_eq_true b0
  have B1 : decide (b < ((8 : Nat) : Int)) = true := decide_eq_true (by omega)
  have LA : decide (Int.toNat a < List.length [r0, r1, r2, r3, r4, r5, r6, r7]) = true := decide_eq_true (by show Int.toNat a < 8; omega)
  have LB : decide (Int.toNat b < List.length [r0, r1, r2, r3, r4, r5, r6, r7]) = true := decide_eq_true (by show Int.toNat b < 8; omega)
  simp only [bne_self_eq_false, decide_eq_false p0, decide_eq_false p1, A0, A1, A2, B0, B1, B2, LA, LB, Bool.and_self, cond_true, cond_false]
  rfl
theorem runL_14 (a b m r0 r1 r2 r3 r4 r5 r6 r7 pc : Int) (k : Res → Option Res) (h1 : inI a = true) (h2 : inI b = true) (h3 : inI m = true) (ok : packOk 14 a b m = true) (pl : place pc = true) (hx : word (List.getD [r0, r1, r2, r3, r4, r5, r6, r7] (Int.toNat a) 0) = true) : runG Try.prog sS 100 16 [.e (.agg [.int .i64 14, .int .i64 a, .int .i64 b, .int .i64 m]), .e (.agg [.int .u64 r0, .int .u64 r1, .int .u64 r2, .int .u64 r3, .int .u64 r4, .int .u64 r5, .int .u64 r6, .int .u64 r7]), aint .i64 pc] [] k = k (okR 14 a b m r0 r1 r2 r3 r4 r5 r6 r7 pc) := by
  refine (t_runA_14 a b m r0 r1 r2 r3 r4 r5 r6 r7 pc k).trans ?_
  have hl : inI 14 = true := by decide
  rw [hl, h1, h2, h3]
  obtain ⟨a0, a1, b0, b1, m0, m1⟩ := packOk_lits ok
  have e : packE 14 a b m = 0 := by simp [packE, ok]
  have p0 : ¬ pc < 0 := by simp only [place, Bool.and_eq_true, decide_eq_true_eq] at pl; omega
  have p1 : ¬ pc ≥ 4096 := by simp only [place, Bool.and_eq_true, decide_eq_true_eq] at pl; omega
  rw [e]
  have A0 : decide (0 ≤ a) = true := decide_eq_true a0
  have A1 : decide (a < ((8 : Nat) : Int)) = true := decide_eq_true (by omega)
  have A2 : decide (a < 8) = true := decide_eq_true (by omega)
  have B2 : decide (b < 8) = true := decide_eq_true (by omega)
  have B0 : decide (0 ≤ b) = true := decide_eq_true b0
  have B1 : decide (b < ((8 : Nat) : Int)) = true := decide_eq_true (by omega)
  have LA : decide (Int.toNat a < List.length [r0, r1, r2, r3, r4, r5, r6, r7]) = true := decide_eq_true (by show Int.toNat a < 8; omega)
  have LB : decide (Int.toNat b < List.length [r0, r1, r2, r3, r4, r5, r6, r7]) = true := decide_eq_true (by show Int.toNat b < 8; omega)
  simp only [bne_self_eq_false, decide_eq_false p0, decide_eq_false p1, A0, A1, A2, B0, B1, B2, LA, LB, Bool.and_self, cond_true, cond_false]
  have X : 0 ≤ List.getD [r0, r1, r2, r3, r4, r5, r6, r7] (Int.toNat a) 0 := by simp only [word, Bool.and_eq_true, decide_eq_true_eq] at hx; exact hx.1
  by_cases c : List.getD [r0, r1, r2, r3, r4, r5, r6, r7] (Int.toNat a) 0 = 0
  · have t : (decide (List.getD [r0, r1, r2, r3, r4, r5, r6, r7] (Int.toNat a) 0 ≥ 1)) = false := decide_eq_false (by omega)
    have e : pcR 14 (List.getD [r0, r1, r2, r3, r4, r5, r6, r7] (Int.toNat a) 0) (List.getD [r0, r1, r2, r3, r4, r5, r6, r7] (Int.toNat b) 0) m pc = m := pcR14p c
    rw [t]
    simp only [okR, okXY, e, cond_true, cond_false]
    rfl
  · have t : (decide (List.getD [r0, r1, r2, r3, r4, r5, r6, r7] (Int.toNat a) 0 ≥ 1)) = true := decide_eq_true (by omega)
    have e : pcR 14 (List.getD [r0, r1, r2, r3, r4, r5, r6, r7] (Int.toNat a) 0) (List.getD [r0, r1, r2, r3, r4, r5, r6, r7] (Int.toNat b) 0) m pc = nxt pc := pcR14n c
    rw [t]
    simp only [okR, okXY, e, cond_true, cond_false]
    rfl
theorem okRV_eq (op a b m r0 r1 r2 r3 r4 r5 r6 r7 pc : Int) : okRV (VL addU) op a b m r0 r1 r2 r3 r4 r5 r6 r7 pc = okR op a b m r0 r1 r2 r3 r4 r5 r6 r7 pc := by rw [VL_eq]; rfl
theorem gRunL_sound : FunSound Try.prog 16 (gRunL addU) := by
  refine (runG_sound sS_ok mix 100 16).short fun args sub κ r h => ?_
  unfold gRunL at h
  split at h
  · rename_i op a b m r0 r1 r2 r3 r4 r5 r6 r7 pc
    split at h
    · rename_i hc
      rw [okRV_eq] at h
      simp only [Bool.and_eq_true] at hc
      obtain ⟨⟨⟨⟨⟨⟨⟨h0, h1⟩, h2⟩, h3⟩, h4⟩, ok⟩, pl⟩, hop⟩ := hc
      simp only [loopOp, Bool.or_eq_true, Bool.and_eq_true, decide_eq_true_eq] at hop
      rcases hop with ((rfl | rfl) | rfl) | ⟨rfl, hx⟩
      · exact (runL_3 a b m r0 r1 r2 r3 r4 r5 r6 r7 pc κ h1 h2 h3 ok pl).trans h
      · exact (runL_4 a b m r0 r1 r2 r3 r4 r5 r6 r7 pc κ h1 h2 h3 ok pl).trans h
      · exact (runL_13 a b m r0 r1 r2 r3 r4 r5 r6 r7 pc κ h1 h2 h3 ok pl).trans h
      · exact (runL_14 a b m r0 r1 r2 r3 r4 r5 r6 r7 pc κ h1 h2 h3 ok pl hx).trans h
    · cases h
  · cases h
noncomputable def sLp (A : AF) : Summ := sAdd sQ 16 (gRunL A)
theorem sLp_ok : SummOk Try.prog (sLp addU) := sAdd_ok sQ_ok gRunL_sound (enters Try.func16 rfl (by kernel_rfl))
end Go.Proofs.Ytiodjfgdglakkaa.Wlk
