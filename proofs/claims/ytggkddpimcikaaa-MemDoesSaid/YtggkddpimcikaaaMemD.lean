/- The law that words are kept, walked. -/
import Derived.Test.YtggkddpimcikaaaMemC
set_option linter.unusedVariables false
set_option linter.unusedSimpArgs false
set_option maxRecDepth 100000
namespace Go.Proofs.Ytggkddpimcikaaa.Wlk
open Go Go.Eng Go.Proofs Go.RowKit
def modA (x : Int) (n : Int) : Int := IntKind.i64.wrap (Int.tmod (IntKind.u64.wrap x) (IntKind.u64.wrap n))
theorem modA_lt {x n : Int} (h0 : 0 < n) (h1 : n ≤ 4611686018427387904) : 0 ≤ modA x n ∧ modA x n < n ∧ modA x n = (x % 18446744073709551616) % n := by
  unfold modA
  rw [wrap_u64 (n := n) (by omega) (by omega), wrap_u64_emod, Int.tmod_eq_emod_of_nonneg (by omega)]
  have a := Int.emod_nonneg (x % 18446744073709551616) (show n ≠ 0 by omega)
  have b := Int.emod_lt_of_pos (x % 18446744073709551616) h0
  rw [wrap_i64 (by omega) (by omega)]
  exact ⟨a, b, rfl⟩
def keepF (an vn : List Int) : Nat → Nat → List Int → List Int
  | 0, _, ws => ws
  | j + 1, i, ws => if i < an.length ∧ i < vn.length then keepF an vn j (i + 1) (ws.set (modA (an.getD i 0) ws.length).toNat (vn.getD i 0)) else ws
theorem keepF_len (an vn : List Int) : ∀ j i ws, (keepF an vn j i ws).length = ws.length
  | 0, _, _ => rfl
  | j + 1, i, ws => by
    simp only [keepF]
    split
    · rw [keepF_len an vn j]; simp
    · rfl
theorem keeps_loop (an vn : List Int) (x : Nat) (ha : an.length < 4611686018427387904) (hv : vn.length < 4611686018427387904) (K : HeadK) : ∀ (j i : Nat) (ws : List Int), i + j = 100 → 0 < ws.length → ws.length ≤ 65536 →
    iterR Try.prog sL lNil iKeeps 60 (loopOf Try.prog 3 0) (j + 1) (keepsV ws.length an.length vn.length ws.length i) (keepsH an vn ws.length x ws ws) K =
      K (.exit 0) [.e (.c (.int .i64 ws.length)), .e (.c (.ptr ⟨2, 0, 0, 0, 0, 0, 0⟩)), .e (.c (.slice ⟨3, 0, 1, 0, 0, 0, 0⟩ 1 ws.length 0 true))] (keepsH an vn ws.length x (keepF an vn j i ws) (keepF an vn j i ws))
  | 0, i, ws, hi, h0, h1 => by
    rw [iterR]
    refine (t_keepsB ws.length i an.length vn.length ws.length x an vn ws ws _).trans ?_
    rw [decide_eq_false (show ¬ (i : Int) < 100 by omega)]
    cases decide ((i : Int) < (an.length : Int)) <;> cases decide ((i : Int) < (vn.length : Int)) <;> rfl
  | j + 1, i, ws, hi, h0, h1 => by
    rw [iterR]
    refine (t_keepsB ws.length i an.length vn.length ws.length x an vn ws ws _).trans ?_
    rw [decide_eq_true (show (i : Int) < 100 by omega)]
    by_cases ha' : i < an.length
    rotate_left
    · rw [decide_eq_false (show ¬ (i : Int) < (an.length : Int) by omega)]
      simp only [keepF, ha', false_and, if_false]; rfl
    rw [decide_eq_true (show (i : Int) < (an.length : Int) by omega)]
    by_cases hv' : i < vn.length
    rotate_left
    · rw [decide_eq_false (show ¬ (i : Int) < (vn.length : Int) by omega)]
      simp only [keepF, hv', and_false, if_false]; rfl
    rw [decide_eq_true (show (i : Int) < (vn.length : Int) by omega), decide_eq_true (show (0 : Int) ≤ i by omega)]
    simp only [Int.toNat_natCast, Nat.zero_add]
    rw [decide_eq_true ha', decide_eq_true hv']
    have hm := modA_lt (x := List.getD an i 0) (n := ws.length) (by omega) (by omega)
    rw [show IntKind.i64.wrap (Int.tmod (IntKind.u64.wrap (List.getD an i 0)) (IntKind.u64.wrap (ws.length : Int))) = modA (List.getD an i 0) ws.length from rfl]
    generalize hq : modA (List.getD an i 0) ws.length = q at hm
    have f1 : okM ws.length ws = true := by simp [okM, h1]
    have f2 : inI q = true := by simp [inI]; omega
    have f3 : inM ws.length q 1 = true := by simp [inM]; omega
    have f4 : decide (¬ IntKind.u64.wrap (ws.length : Int) = 0) = true := by rw [wrap_u64 (by omega) (by omega)]; exact decide_eq_true (by omega)
    rw [f1, f2, f3, f4, decide_eq_true (show 0 ≤ q by omega), decide_eq_true (show q < (ws.length : Int) by omega), decide_eq_true (show q.toNat < ws.length by omega)]
    simp only [pE, if_true, bne_self_eq_false, Bool.and_self, cond_true, cond_false]
    rw [wrap_i64 (n := (i : Int) + 1) (by omega) (by omega), show (i : Int) + 1 = ((i + 1 : Nat) : Int) from by omega]
    have hp : putW ws q (vn.getD i 0) = ws.set q.toNat (vn.getD i 0) := by simp [putW, f3]
    rw [hp]
    have hl : (ws.set q.toNat (vn.getD i 0)).length = ws.length := by simp
    have ih := keeps_loop an vn x ha hv K j (i + 1) (ws.set q.toNat (vn.getD i 0)) (by omega) (by rw [hl]; exact h0) (by rw [hl]; exact h1)
    simp only [hl] at ih
    refine ih.trans ?_
    simp only [keepF, ha', hv', and_self, if_true, hq]
def cKeeps : HeadO := fun vs h K => match vs, h with
  | [.e (.c (.int .i64 nI)), .e (.c (.slice ⟨0, 0, 1, 0, 0, 0, 0⟩ 1 al 0 false)), .e (.c (.slice ⟨1, 0, 1, 0, 0, 0, 0⟩ 1 vl 0 false)), .e (.c (.ptr ⟨2, 0, 0, 0, 0, 0, 0⟩)), .e (.c (.slice ⟨3, 0, 1, 0, 0, 0, 0⟩ 1 m 0 true)), .e (.c (.int .i64 i))],
    [(false, some ⟨true, .rows [.ints .i64 an]⟩), (false, some ⟨true, .rows [.ints .u64 vn]⟩), (true, some ⟨false, .mix [.slice ⟨4, 0, 1, 0, 0, 0, 0⟩ 1 n x true]⟩), (true, some ⟨false, .rows [.ints .u64 wt]⟩), (true, some ⟨false, .rows [.ints .u64 ws]⟩)] =>
    match decide (i = 0) && decide (nI = n) && Nat.beq m n && Nat.beq n ws.length && decide (wt = ws) && decide (0 < ws.length) && decide (ws.length ≤ 65536) && Nat.beq al an.length && Nat.beq vl vn.length && decide (an.length < 4611686018427387904) && decide (vn.length < 4611686018427387904) with
    | true => K (.exit 0) [.e (.c (.int .i64 nI)), .e (.c (.ptr ⟨2, 0, 0, 0, 0, 0, 0⟩)), .e (.c (.slice ⟨3, 0, 1, 0, 0, 0, 0⟩ 1 m 0 true))]
        [(false, some ⟨true, .rows [.ints .i64 an]⟩), (false, some ⟨true, .rows [.ints .u64 vn]⟩), (true, some ⟨false, .mix [.slice ⟨4, 0, 1, 0, 0, 0, 0⟩ 1 n x true]⟩), (true, some ⟨false, .rows [.ints .u64 (keepF an vn 100 0 ws)]⟩), (true, some ⟨false, .rows [.ints .u64 (keepF an vn 100 0 ws)]⟩)]
    | false => none
  | _, _ => none
theorem cKeeps_sound : HeadSound Try.prog iKeeps (loopOf Try.prog 3 0) cKeeps := by
  refine HeadSound.short (iterR_sound (F := 60) sL_ok mix lNil_ok) fun vs h K r e => ?_
  unfold cKeeps at e
  split at e
  · rename_i nI al vl m i an vn n x wt ws
    split at e
    · rename_i hc
      simp only [Bool.and_eq_true, decide_eq_true_eq] at hc
      obtain ⟨⟨⟨⟨⟨⟨⟨⟨⟨⟨rfl, rfl⟩, c1⟩, c2⟩, rfl⟩, c3⟩, c4⟩, c5⟩, c6⟩, c7⟩, c8⟩ := hc
      have c1 := Nat.eq_of_beq_eq_true c1
      have c2 := Nat.eq_of_beq_eq_true c2
      have c5 := Nat.eq_of_beq_eq_true c5
      have c6 := Nat.eq_of_beq_eq_true c6
      subst c1; subst c2; subst c5; subst c6
      exact ⟨101, (keeps_loop an vn x c7 c8 K 100 0 wt (by omega) c3 c4).trans e⟩
    · cases e
  · cases e
noncomputable def lKeeps : Nat → Option Orc := lAdd lNil 0 (wrapO iKeeps 0 cKeeps)
theorem lKeeps_for : LFor 2 Try.prog 3 lKeeps := lAdd_for lNil_for (by kernel_rfl) cKeeps_sound
theorem keeps_dis : Go.Eng.distinct (blockIds (codeOf Try.prog 3)) = true := by kernel_rfl
theorem ok2 {w : World} {s t : SlArg} (h : SlOk w s) (g : SlOk w t) : ∀ (i : Nat) (s' : SlArg), [s, t][i]? = some s' → SlOk w s' := by
  intro i s' hs
  match i, hs with
  | 0, hs => simp at hs; subst hs; exact h
  | 1, hs => simp at hs; subst hs; exact g
  | i + 2, hs => simp at hs
theorem t_keeps (n : Int) (al vl : Nat) (an vn : List Int) (k : Res → Option Res) : runLG Try.prog sL lKeeps 2 150 3 [aint .i64 n, .e (.c (.slice ⟨0, 0, 1, 0, 0, 0, 0⟩ 1 al 0 false)), .e (.c (.slice ⟨1, 0, 1, 0, 0, 0, 0⟩ 1 vl 0 false))] [some ⟨true, .rows [.ints .i64 an]⟩, some ⟨true, .rows [.ints .u64 vn]⟩] k = (cond (Go.Proofs.Ytggkddpimcikaaa.Wlk.newOk (IntKind.wrap IntKind.i64 (64 + IntKind.wrap IntKind.i64 (Int.tmod (IntKind.wrap IntKind.u64 n) 1000)))) (cond (decide (0 ≤ IntKind.wrap IntKind.i64 (64 + IntKind.wrap IntKind.i64 (Int.tmod (IntKind.wrap IntKind.u64 n) 1000))) && decide (IntKind.wrap IntKind.i64 (64 + IntKind.wrap IntKind.i64 (Int.tmod (IntKind.wrap IntKind.u64 n) 1000)) = IntKind.wrap IntKind.i64 (64 + IntKind.wrap IntKind.i64 (Int.tmod (IntKind.wrap IntKind.u64 n) 1000))) && decide (IntKind.wrap IntKind.i64 (64 + IntKind.wrap IntKind.i64 (Int.tmod (IntKind.wrap IntKind.u64 n) 1000)) * 8 ≤ 140737488355328) && decide (IntKind.wrap IntKind.i64 (64 + IntKind.wrap IntKind.i64 (Int.tmod (IntKind.wrap IntKind.u64 n) 1000)) ≤ 140737488355328)) (cond (true && decide (IntKind.wrap IntKind.i64 (64 + IntKind.wrap IntKind.i64 (Int.tmod (IntKind.wrap IntKind.u64 n) 1000)) = (↑(Int.toNat (IntKind.wrap IntKind.i64 (64 + IntKind.wrap IntKind.i64 (Int.tmod (IntKind.wrap IntKind.u64 n) 1000)))) : Int)) && Nat.beq (Int.toNat (IntKind.wrap IntKind.i64 (64 + IntKind.wrap IntKind.i64 (Int.tmod (IntKind.wrap IntKind.u64 n) 1000)))) (Int.toNat (IntKind.wrap IntKind.i64 (64 + IntKind.wrap IntKind.i64 (Int.tmod (IntKind.wrap IntKind.u64 n) 1000)))) && Nat.beq (Int.toNat (IntKind.wrap IntKind.i64 (64 + IntKind.wrap IntKind.i64 (Int.tmod (IntKind.wrap IntKind.u64 n) 1000)))) (List.length (List.replicate (Int.toNat (IntKind.wrap IntKind.i64 (64 + IntKind.wrap IntKind.i64 (Int.tmod (IntKind.wrap IntKind.u64 n) 1000)))) (0 : Int))) && decide (List.replicate (Int.toNat (IntKind.wrap IntKind.i64 (64 + IntKind.wrap IntKind.i64 (Int.tmod (IntKind.wrap IntKind.u64 n) 1000)))) (0 : Int) = List.replicate (Int.toNat (IntKind.wrap IntKind.i64 (64 + IntKind.wrap IntKind.i64 (Int.tmod (IntKind.wrap IntKind.u64 n) 1000)))) (0 : Int)) && decide (0 < List.length (List.replicate (Int.toNat (IntKind.wrap IntKind.i64 (64 + IntKind.wrap IntKind.i64 (Int.tmod (IntKind.wrap IntKind.u64 n) 1000)))) (0 : Int))) && decide (List.length (List.replicate (Int.toNat (IntKind.wrap IntKind.i64 (64 + IntKind.wrap IntKind.i64 (Int.tmod (IntKind.wrap IntKind.u64 n) 1000)))) (0 : Int)) ≤ 65536) && Nat.beq al (List.length an) && Nat.beq vl (List.length vn) && decide (List.length an < 4611686018427387904) && decide (List.length vn < 4611686018427387904)) (cond (Go.Proofs.Ytggkddpimcikaaa.Wlk.okM (Int.toNat (IntKind.wrap IntKind.i64 (64 + IntKind.wrap IntKind.i64 (Int.tmod (IntKind.wrap IntKind.u64 n) 1000)))) (Go.Proofs.Ytggkddpimcikaaa.Wlk.keepF an vn 100 0 (List.replicate (Int.toNat (IntKind.wrap IntKind.i64 (64 + IntKind.wrap IntKind.i64 (Int.tmod (IntKind.wrap IntKind.u64 n) 1000)))) (0 : Int))) && inI 0 && inI (IntKind.wrap IntKind.i64 (64 + IntKind.wrap IntKind.i64 (Int.tmod (IntKind.wrap IntKind.u64 n) 1000)))) (cond (Go.Proofs.Ytggkddpimcikaaa.Wlk.inM (Int.toNat (IntKind.wrap IntKind.i64 (64 + IntKind.wrap IntKind.i64 (Int.tmod (IntKind.wrap IntKind.u64 n) 1000)))) 0 (IntKind.wrap IntKind.i64 (64 + IntKind.wrap IntKind.i64 (Int.tmod (IntKind.wrap IntKind.u64 n) 1000)))) (cond (Nat.beq (Int.toNat (IntKind.wrap IntKind.i64 (64 + IntKind.wrap IntKind.i64 (Int.tmod (IntKind.wrap IntKind.u64 n) 1000)))) (List.length (List.take (Int.toNat (IntKind.wrap IntKind.i64 (64 + IntKind.wrap IntKind.i64 (Int.tmod (IntKind.wrap IntKind.u64 n) 1000)))) (List.drop 0 (Go.Proofs.Ytggkddpimcikaaa.Wlk.keepF an vn 100 0 (List.replicate (Int.toNat (IntKind.wrap IntKind.i64 (64 + IntKind.wrap IntKind.i64 (Int.tmod (IntKind.wrap IntKind.u64 n) 1000)))) (0 : Int)))))) && Nat.beq (Int.toNat (IntKind.wrap IntKind.i64 (64 + IntKind.wrap IntKind.i64 (Int.tmod (IntKind.wrap IntKind.u64 n) 1000)))) (List.length (Go.Proofs.Ytggkddpimcikaaa.Wlk.keepF an vn 100 0 (List.replicate (Int.toNat (IntKind.wrap IntKind.i64 (64 + IntKind.wrap IntKind.i64 (Int.tmod (IntKind.wrap IntKind.u64 n) 1000)))) (0 : Int)))) && decide (List.length (List.take (Int.toNat (IntKind.wrap IntKind.i64 (64 + IntKind.wrap IntKind.i64 (Int.tmod (IntKind.wrap IntKind.u64 n) 1000)))) (List.drop 0 (Go.Proofs.Ytggkddpimcikaaa.Wlk.keepF an vn 100 0 (List.replicate (Int.toNat (IntKind.wrap IntKind.i64 (64 + IntKind.wrap IntKind.i64 (Int.tmod (IntKind.wrap IntKind.u64 n) 1000)))) (0 : Int))))) < 4611686018427387904) && decide (List.length (Go.Proofs.Ytggkddpimcikaaa.Wlk.keepF an vn 100 0 (List.replicate (Int.toNat (IntKind.wrap IntKind.i64 (64 + IntKind.wrap IntKind.i64 (Int.tmod (IntKind.wrap IntKind.u64 n) 1000)))) (0 : Int))) < 4611686018427387904)) (k (Res.mk (AV.e (AE.c (AC.bool (decide (List.take (Int.toNat (IntKind.wrap IntKind.i64 (64 + IntKind.wrap IntKind.i64 (Int.tmod (IntKind.wrap IntKind.u64 n) 1000)))) (List.drop 0 (Go.Proofs.Ytggkddpimcikaaa.Wlk.keepF an vn 100 0 (List.replicate (Int.toNat (IntKind.wrap IntKind.i64 (64 + IntKind.wrap IntKind.i64 (Int.tmod (IntKind.wrap IntKind.u64 n) 1000)))) (0 : Int)))) = Go.Proofs.Ytggkddpimcikaaa.Wlk.keepF an vn 100 0 (List.replicate (Int.toNat (IntKind.wrap IntKind.i64 (64 + IntKind.wrap IntKind.i64 (Int.tmod (IntKind.wrap IntKind.u64 n) 1000)))) (0 : Int))))))) [(none), (none)])) none) (k (Res.mk (AV.e (AE.c (AC.bool false))) [(none), (none)]))) none) none) none) (k (Res.mk (AV.e (AE.c (AC.bool false))) [(none), (none)]))) := by kernel_rfl
theorem keeps_walk (n : Int) (x : Option Addr) (len cap : Nat) (zs : List Int) (y : Option Addr) (len1 cap1 : Nat) (zs1 : List Int) (W : World)
    (h0 : (Lit.int .i64 n).wf = true) (hr : IsRow .i64 W x len cap zs) (hs : len * 8 ≤ 140737488351232) (hr1 : IsRow .u64 W y len1 cap1 zs1) (hs1 : len1 * 8 ≤ 140737488351232) :
    Calls Try.prog 3 #[.int .i64 n, .slice x len cap, .slice y len1 cap1] W fun e w' => e = .returned (.bool true) ∧ Below W.heap.size W w' := by
  obtain ⟨ok, hl, hb⟩ := hr.ok
  obtain ⟨ok1, hl1, hb1⟩ := hr1.ok
  refine of_rows (sl := [intArg .i64 x len cap zs, intArg .u64 y len1 cap1 zs1]) (args := [aint .i64 n, .e (.c (.slice ⟨0, 0, 1, 0, 0, 0, 0⟩ 1 len 0 false)), .e (.c (.slice ⟨1, 0, 1, 0, 0, 0, 0⟩ 1 len1 0 false))])
    (blks := [none, none]) (runL_sound sL_ok mix 150 3 keeps_dis lKeeps_for).gc (ok2 ok ok1) ?_ ((t_keeps n len len1 (zs.take len) (zs1.take len1) some).trans ?_)
  · exact LR.cons rfl (LR.cons (args_slice (i := 0) rfl ok rfl) (LR.cons (args_slice (i := 1) rfl ok1 rfl) LR.nil))
  · obtain ⟨N, hN, hN1, hN2⟩ : ∃ N : Nat, IntKind.wrap IntKind.i64 (64 + IntKind.wrap IntKind.i64 (Int.tmod (IntKind.wrap IntKind.u64 n) 1000)) = (N : Int) ∧ 64 ≤ N ∧ N ≤ 1063 := by
      rw [wrap_u64_emod, Int.tmod_eq_emod_of_nonneg (by omega), wrap_i64 (n := n % 18446744073709551616 % 1000) (by omega) (by omega), wrap_i64 (by omega) (by omega)]
      exact ⟨(64 + n % 18446744073709551616 % 1000).toNat, by omega, by omega, by omega⟩
    rw [hN]
    simp only [Int.toNat_natCast, List.length_replicate]
    have hql : (keepF (zs.take len) (zs1.take len1) 100 0 (List.replicate N (0 : Int))).length = N := by rw [keepF_len]; simp
    have e0 : Nat.beq len (zs.take len).length = true := by rw [hl]; exact Nat.beq_refl _
    have e1 : Nat.beq len1 (zs1.take len1).length = true := by rw [hl1]; exact Nat.beq_refl _
    have f0 : newOk N = true := by simp [newOk]; omega
    have f1 : okM N (keepF (zs.take len) (zs1.take len1) 100 0 (List.replicate N (0 : Int))) = true := by simp [okM, hql]; omega
    have f2 : inI N = true := by simp [inI]; omega
    have f3 : inM N 0 N = true := by simp [inM]
    have f4 : List.take N (List.drop 0 (keepF (zs.take len) (zs1.take len1) 100 0 (List.replicate N (0 : Int)))) = keepF (zs.take len) (zs1.take len1) 100 0 (List.replicate N (0 : Int)) := by
      rw [List.drop_zero]
      exact List.take_of_length_le (by rw [hql]; exact Nat.le_refl _)
    simp only [e0, e1, f0, f1, f2, f3, f4, hql, Nat.beq_refl, hl, hl1]
    rw [show inI 0 = true from rfl, decide_eq_true (show (0 : Int) ≤ N by omega), decide_eq_true (show (N : Int) * 8 ≤ 140737488355328 by omega), decide_eq_true (show (N : Int) ≤ 140737488355328 by omega), decide_eq_true (show 0 < N by omega), decide_eq_true (show N ≤ 65536 by omega), decide_eq_true (show N < 4611686018427387904 by omega), decide_eq_true (show len < 4611686018427387904 by omega), decide_eq_true (show len1 < 4611686018427387904 by omega)]
    simp only [decide_true, Bool.and_self, cond_true]
end Go.Proofs.Ytggkddpimcikaaa.Wlk
