/- Flushed: the law. -/
import Derived.Test.YtnloobnpgkpbhaaTlfD
set_option linter.unusedVariables false
set_option linter.unusedSimpArgs false
set_option maxRecDepth 100000
namespace Go.Proofs.Ytnloobnpgkpbhaa.Wlk
open Go Go.Eng Go.Proofs Go.RowKit
theorem chR_all {h : Int → Bool} : ∀ c i, (∀ j : Nat, i ≤ j → j < i + c → h j = true) → chR h c i = true
  | 0, _, _ => rfl
  | c + 1, i, hh => by rw [chR, hh i (by omega) (by omega), chR_all c (i + 1) fun j h1 h2 => hh j (by omega) (by omega)]; rfl
theorem flN_inv (l1 l2 : List Int) (n : Nat) : InvT (flN l1 l2 n) (flE l1 l2 n) := by
  cases n with
  | zero => exact ⟨by simp [flN, keys], by simp [flN], by simp [flN, flE]⟩
  | succ n => exact flS_inv l1 l2 n 1 _ 0 (one_inv l1 l2)
theorem flN_in (l1 l2 : List Int) (n : Nat) : InR (flN l1 l2 n) := by
  cases n with
  | zero => intro q hq; simp [flN, keys] at hq
  | succ n =>
    refine flS_in l1 l2 n 1 _ fun q hq => ?_
    simp [keys] at hq
    subst hq
    have h1 := kx_in l1 0 (m := 4) (by omega) (by omega)
    have h2 := kx_in l2 0 (m := 256) (by omega) (by omega)
    exact ⟨h1.1, h1.2, h2.1, h2.2⟩
theorem flN_mem (l1 l2 : List Int) (n : Nat) (h8 : n ≤ 8) (s p : Int) : ktI s p (flN l1 l2 n) = orF l1 l2 s p n 0 false := by
  have h := ktI_iff s p (flN l1 l2 n)
  have g : (s, p) ∈ keys (flN l1 l2 n) ↔ orF l1 l2 s p n 0 false = true := by
    cases n with
    | zero => simp [flN, keys, orF]
    | succ n =>
      refine flS_mem l1 l2 s p n 1 _ (false || (kx l1 0 4 == s && kx l2 0 256 == p)) (by simp [keys]; omega) ?_
      simp [keys]
      constructor
      · rintro ⟨h1, h2⟩; exact ⟨h1.symm, h2.symm⟩
      · rintro ⟨h1, h2⟩; exact ⟨h1.symm, h2.symm⟩
  cases e1 : ktI s p (flN l1 l2 n) <;> cases e2 : orF l1 l2 s p n 0 false <;> simp_all
theorem flN_ck (l1 l2 : List Int) (n : Nat) (h8 : n ≤ 8) (c : Int) : ckT l1 l2 n c (flushL c (flN l1 l2 n)) = true := by
  have one : ∀ s : Int, ckF l1 l2 n c s (flushL c (flN l1 l2 n)) = true := fun s => by
    unfold ckF ck4
    refine chR_all 256 0 fun j _ _ => ?_
    rw [ktI_flush, flN_mem l1 l2 n h8, Int.toNat_natCast]
    simp [bne]
  unfold ckT ckA ckA ckA ckA ckA
  rw [one, one, one, one]; rfl
theorem flush_in {L : List Ro} (h : InR L) (c : Int) : InR (flushL c L) := by
  intro q hq
  rw [keys_flush] at hq
  exact h q (List.mem_filter.1 hq).1
theorem flN_cn (l1 l2 : List Int) (n : Nat) (c : Int) : cnT (flushL c (flN l1 l2 n)) = (flushL c (flN l1 l2 n)).length := by
  unfold cnT cnA
  rw [show (fun s p => ktI s p (flushL c (flN l1 l2 n))) = memB (keys (flushL c (flN l1 l2 n))) from by funext s p; exact ktI_memB _ s p]
  rw [cntA_mem 4 rfl _ ((flN_inv l1 l2 n).flush c).nd (flush_in (flN_in l1 l2 n) c), keys_len]
theorem min_nat (a b : Nat) : ∃ n : Nat, minI (minI (a : Int) (b : Int)) 8 = (n : Int) ∧ n ≤ a ∧ n ≤ b ∧ n ≤ 8 := by
  unfold minI
  refine ⟨min (min a b) 8, ?_, by omega, by omega, by omega⟩
  split <;> split <;> omega
theorem flush_walk (x : Option Addr) (len cap : Nat) (zs : List Int) (y : Option Addr) (len1 cap1 : Nat) (zs1 : List Int) (c : Int) (W : World)
    (hr : IsRow .i64 W x len cap zs) (hr1 : IsRow .i64 W y len1 cap1 zs1) (h0 : (Lit.int .i64 c).wf = true) :
    Calls Try.prog 4 #[.slice x len cap, .slice y len1 cap1, .int .i64 c] W fun e w' => e = .returned (.bool true) ∧ Below W.heap.size W w' := by
  obtain ⟨ok, hl, hb⟩ := hr.ok
  obtain ⟨ok1, hl1, hb1⟩ := hr1.ok
  refine of_rows (sl := [intArg .i64 x len cap zs, intArg .i64 y len1 cap1 zs1]) (args := [vS0 len, vS1 len1, aint .i64 c])
    (blks := [none, none]) (runL_sound sFl_ok mix 150 4 f_dis lF_for).gc (ok2 ok ok1) ?_ ((t_fl flN flE ckT cnT flushL len len1 (zs.take len) (zs1.take len1) c some).trans ?_)
  · exact LR.cons (args_slice (i := 0) rfl ok rfl) (LR.cons (args_slice (i := 1) rfl ok1 rfl) (LR.cons rfl LR.nil))
  · obtain ⟨n, hn, n1, n2, n8⟩ := min_nat len len1
    rw [hn]
    generalize IntKind.wrap IntKind.i64 (Int.tmod (IntKind.wrap IntKind.u64 c) 4) = d
    have I := flN_inv (zs.take len) (zs1.take len1) n
    have J := I.flush d
    have K := flN_ck (zs.take len) (zs1.take len1) n n8 d
    have C := flN_cn (zs.take len) (zs1.take len1) n d
    have Z := flush_le d (flN (zs.take len) (zs1.take len1) n)
    have r1 := I.room
    have r2 := J.room
    rw [decide_eq_true hl.symm, decide_eq_true hl1.symm, Int.toNat_natCast, hl, hl1, decide_eq_true n1, decide_eq_true n2, decide_eq_true (show (0 : Int) ≤ (n : Int) by omega), decide_eq_true (show (n : Int) ≤ 8 by omega)]
    repeat rw [Bool.and_self]
    rw [cT]
    by_cases z : n = 0
    · subst z
      have K' : ckT (zs.take len) (zs1.take len1) ((0 : Nat) : Int) d [] = true := K
      have C' : cnT [] = 0 := C
      rw [decide_eq_true (show ((0 : Nat) : Int) = 0 from rfl), cT, K', C']
      rfl
    · rw [decide_eq_false (show ¬ (n : Int) = 0 by omega), cF, rowsN_cols, okK_self _ _ (by omega), cT, rowsN_cols, okK_self _ _ (by omega), K, C]
      repeat rw [Bool.and_self]
      rw [cT, beq_self_eq_true, cT, decide_eq_true (by omega)]
end Go.Proofs.Ytnloobnpgkpbhaa.Wlk
