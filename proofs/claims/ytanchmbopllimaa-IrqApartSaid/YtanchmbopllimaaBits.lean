/- Fields of words: bits.Get and bits.Put, walked. -/
import Derived.Test.YtanchmbopllimaaEngN
import Derived.Test.YtanchmbopllimaaProg
set_option linter.unusedVariables false
set_option linter.unusedSimpArgs false
set_option maxRecDepth 100000
namespace Go.Proofs.Ytanchmbopllimaa.Wlk
open Go Go.Eng Go.Proofs

theorem mix : Try.prog.follows .mixedOrders = true := by kernel_rfl
noncomputable def sBits : Summ := sAdd (sAdd sNil 31 (runF Try.prog sNil 100 31)) 32 (runF Try.prog sNil 100 32)
theorem sBits_ok : SummOk Try.prog sBits :=
  sAdd_ok (sAdd_ok sNil_ok (runF_sound sNil_ok mix _ _) (enters Try.func31 rfl (by kernel_rfl))) (runF_sound sNil_ok mix _ _) (enters Try.func32 rfl (by kernel_rfl))
theorem t_put (w a n v : Int) (k : Res → Option Res) : runF Try.prog sBits 100 30 [aint .u64 w, aint .i64 a, aint .i64 n, aint .u64 v] [] k = (cond (decide (n ≥ 1)) (cond (decide (n ≤ 64)) (cond (decide (a ≥ 0)) (cond (!decide (a ≤ IntKind.wrap IntKind.i64 (64 - n))) (k (Res.mk (AV.tup [(AE.c (AC.int (IntKind.u64) (0))), (AE.c (AC.int (IntKind.i64) (1)))]) [])) (cond (decide ¬IntKind.wrap IntKind.i64 (64 - n) < 0) (cond (IntKind.wrap IntKind.u64 ↑(BitVec.toNat (BitVec.ofInt 64 v &&& ~~~BitVec.ofInt 64 (Int.fdiv 18446744073709551615 (2 ^ Min.min (Int.toNat (IntKind.wrap IntKind.i64 (64 - n))) 64)))) != 0) (k (Res.mk (AV.tup [(AE.c (AC.int (IntKind.u64) (0))), (AE.c (AC.int (IntKind.i64) (10)))]) [])) (cond (decide ¬IntKind.wrap IntKind.i64 (64 - n) < 0) (cond (decide ¬a < 0) (cond (decide ¬a < 0) (k (Res.mk (AV.tup [(AE.c (AC.int (IntKind.u64) (IntKind.wrap IntKind.u64 ↑(BitVec.toNat (BitVec.ofInt 64 (IntKind.wrap IntKind.u64 ↑(BitVec.toNat (BitVec.ofInt 64 w &&& ~~~BitVec.ofInt 64 (IntKind.wrap IntKind.u64 (Int.fdiv 18446744073709551615 (2 ^ Min.min (Int.toNat (IntKind.wrap IntKind.i64 (64 - n))) 64) * 2 ^ Min.min (Int.toNat a) 64))))) ||| BitVec.ofInt 64 (IntKind.wrap IntKind.u64 (v * 2 ^ Min.min (Int.toNat a) 64))))))), (AE.c (AC.int (IntKind.i64) (0)))]) [])) none) none) none)) none)) (k (Res.mk (AV.tup [(AE.c (AC.int (IntKind.u64) (0))), (AE.c (AC.int (IntKind.i64) (1)))]) []))) (k (Res.mk (AV.tup [(AE.c (AC.int (IntKind.u64) (0))), (AE.c (AC.int (IntKind.i64) (1)))]) []))) (k (Res.mk (AV.tup [(AE.c (AC.int (IntKind.u64) (0))), (AE.c (AC.int (IntKind.i64) (1)))]) []))) := by kernel_rfl

theorem gPut_sound : FunSound Try.prog 30 gPut := by
  refine (runF_sound sBits_ok mix 100 30).short fun args sub κ r h => ?_
  unfold gPut at h
  split at h
  · rename_i w p m v
    split at h
    · rename_i hc
      simp only [Bool.and_eq_true] at hc
      obtain ⟨n, rfl, hn⟩ := word_spec hc.1.1
      obtain ⟨a, b, rfl, rfl, h1, h2⟩ := fld_spec hc.1.2
      obtain ⟨q, rfl, hq⟩ := word_spec hc.2
      have e0 : IntKind.i64.wrap (64 - (b : Int)) = ((64 - b : Nat) : Int) := by rw [wrap_i64 (by omega) (by omega)]; omega
      refine (t_put n a b q κ).trans ?_
      simp only [e0]
      rw [show decide ((b : Int) ≥ 1) = true from by simp; omega, show decide ((b : Int) ≤ 64) = true from by simp; omega, show decide ((a : Int) ≥ 0) = true from by simp,
        show decide ((a : Int) ≤ ((64 - b : Nat) : Int)) = true from by simp; omega, show decide (¬ (a : Int) < 0) = true from by simp, show decide (¬ ((64 - b : Nat) : Int) < 0) = true from by simp]
      simp only [cond_true, cond_false, Bool.not_true, Int.toNat_natCast]
      have hm := pow_le64 (show b ≤ 64 by omega)
      rw [show min a 64 = a from by omega, show min (64 - b) 64 = 64 - b from by omega, ones_shr b (by omega), bnot q _ hq]
      by_cases hv : q < 2 ^ b
      · rw [(noN_mask q b).2 hv]
        rw [show (((0 : Nat) : Int) != 0) = false from rfl]
        simp only [cond_false]
        rw [shl_n, shl_n, bnot n _ hn, bor _ _ (noN_lt hn) (Nat.mod_lt _ (by decide)), or_put n a b q hn hv h2]
        have hv' : (q : Int) < 2 ^ b := by rw [pow_cast]; exact Int.ofNat_lt.2 hv
        simp only [putI, putE, Int.toNat_natCast, if_pos hv'] at h
        exact h
      · have hne : noN q (2 ^ b - 1) ≠ 0 := fun e => hv ((noN_mask q b).1 e)
        rw [show (((noN q (2 ^ b - 1) : Nat) : Int) != 0) = true from by simp; exact hne]
        simp only [cond_true]
        have hv' : ¬ (q : Int) < 2 ^ b := by rw [pow_cast]; exact fun c => hv (Int.ofNat_lt.1 c)
        simp only [putI, putE, Int.toNat_natCast, if_neg hv'] at h
        exact h
    · cases h
  · cases h

end Go.Proofs.Ytanchmbopllimaa.Wlk
