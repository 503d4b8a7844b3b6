/- The law of walks over any memory: its walk. -/
import Derived.Test.YtplinjjleenomaaWalkG
set_option linter.unusedVariables false
set_option linter.unusedSimpArgs false
set_option maxRecDepth 100000
namespace Go.Proofs.Ytplinjjleenomaa.Wlk
open Go Go.Eng Go.Proofs Go.RowKit
theorem t_does (N : Int → Nat) (M : Int → List Int → List Int) (T U : TF) (PV PW : LB) (PA PE : LF) (L : LF) (S : List Int → Int → Int → Int → List Int) (n d : Int) (ll al vl : Nat) (l an vn : List Int) (k : Res → Option Res) : runLG Try.prog (sWl N M T U PV PW PA PE L S) (lDoesV S) 3 150 5 [aint .i64 n, .e (.c (.slice ⟨0, 0, 1, 0, 0, 0, 0⟩ 1 ll 0 false)), aint .i64 d, .e (.c (.slice ⟨1, 0, 1, 0, 0, 0, 0⟩ 1 al 0 false)), .e (.c (.slice ⟨2, 0, 1, 0, 0, 0, 0⟩ 1 vl 0 false))] [some ⟨true, .rows [.ints .u64 l]⟩, some ⟨true, .rows [.ints .i64 an]⟩, some ⟨true, .rows [.ints .u64 vn]⟩] k = (cond (Nat.beq ll (List.length l) && decide (List.length l < 4611686018427387904)) (cond (true && inI d && Go.Proofs.Ytplinjjleenomaa.Wlk.allI an && Go.Proofs.Ytplinjjleenomaa.Wlk.allW vn && Go.Proofs.Ytplinjjleenomaa.Wlk.allW (M n l) && Go.Proofs.Ytplinjjleenomaa.Wlk.okM (N n) (M n l) && Nat.beq (N n) (N n) && decide (M n l = M n l) && Nat.beq al (List.length an) && Nat.beq vl (List.length vn) && decide (List.length an < 4611686018427387904) && decide (List.length vn < 4611686018427387904)) (cond (Go.Proofs.Ytplinjjleenomaa.Wlk.okM (N n) (Go.Proofs.Ytplinjjleenomaa.Wlk.doesF S d an vn 30 0 (M n l))) (cond (Nat.beq (N n) (List.length (Go.Proofs.Ytplinjjleenomaa.Wlk.doesF S d an vn 30 0 (M n l))) && Nat.beq (N n) (List.length (Go.Proofs.Ytplinjjleenomaa.Wlk.doesF S d an vn 30 0 (M n l))) && decide (List.length (Go.Proofs.Ytplinjjleenomaa.Wlk.doesF S d an vn 30 0 (M n l)) < 4611686018427387904) && decide (List.length (Go.Proofs.Ytplinjjleenomaa.Wlk.doesF S d an vn 30 0 (M n l)) < 4611686018427387904)) (k (Res.mk (AV.e (AE.c (AC.bool (decide (Go.Proofs.Ytplinjjleenomaa.Wlk.doesF S d an vn 30 0 (M n l) = Go.Proofs.Ytplinjjleenomaa.Wlk.doesF S d an vn 30 0 (M n l)))))) [(none), (none), (none)])) none) none) none) none) := by kernel_rfl
theorem ok3 {w : World} {s t u : SlArg} (h : SlOk w s) (g : SlOk w t) (k : SlOk w u) : ∀ (i : Nat) (s' : SlArg), [s, t, u][i]? = some s' → SlOk w s' := by
  intro i s' hs
  match i, hs with
  | 0, hs => simp at hs; subst hs; exact h
  | 1, hs => simp at hs; subst hs; exact g
  | 2, hs => simp at hs; subst hs; exact k
  | i + 3, hs => simp at hs
theorem does_walk (n : Int) (x : Option Addr) (len cap : Nat) (zs : List Int) (d : Int) (y : Option Addr) (len1 cap1 : Nat) (zs1 : List Int) (z : Option Addr) (len2 cap2 : Nat) (zs2 : List Int) (W : World)
    (h0 : (Lit.int .i64 n).wf = true) (hr : IsRow .u64 W x len cap zs) (hs : len * 8 ≤ 140737488351232) (h1 : (Lit.int .i64 d).wf = true) (hr1 : IsRow .i64 W y len1 cap1 zs1) (hs1 : len1 * 8 ≤ 140737488351232) (hr2 : IsRow .u64 W z len2 cap2 zs2) (hs2 : len2 * 8 ≤ 140737488351232) :
    Calls Try.prog 5 #[.int .i64 n, .slice x len cap, .int .i64 d, .slice y len1 cap1, .slice z len2 cap2] W fun e w' => e = .returned (.bool true) ∧ Below W.heap.size W w' := by
  obtain ⟨ok, hl, hb⟩ := hr.ok
  obtain ⟨ok1, hl1, hb1⟩ := hr1.ok
  obtain ⟨ok2, hl2, hb2⟩ := hr2.ok
  refine of_rows (sl := [intArg .u64 x len cap zs, intArg .i64 y len1 cap1 zs1, intArg .u64 z len2 cap2 zs2]) (args := [aint .i64 n, .e (.c (.slice ⟨0, 0, 1, 0, 0, 0, 0⟩ 1 len 0 false)), aint .i64 d, .e (.c (.slice ⟨1, 0, 1, 0, 0, 0, 0⟩ 1 len1 0 false)), .e (.c (.slice ⟨2, 0, 1, 0, 0, 0, 0⟩ 1 len2 0 false))])
    (blks := [none, none, none]) (runL_sound sWl_ok mix 150 5 does_dis lDoes_for).gc (ok3 ok ok1 ok2) ?_ ((t_does mdN mdW toA toE pgV pgW pgA pgE ldV stW n d len len1 len2 (zs.take len) (zs1.take len1) (zs2.take len2) some).trans ?_)
  · exact LR.cons rfl (LR.cons (args_slice (i := 0) rfl ok rfl) (LR.cons rfl (LR.cons (args_slice (i := 1) rfl ok1 rfl) (LR.cons (args_slice (i := 2) rfl ok2 rfl) LR.nil))))
  · obtain ⟨q1, q2, q3, q4⟩ := md_facts n (allW_of hb)
    obtain ⟨d1, d2⟩ := doesF_ok d (zs1.take len1) (zs2.take len2) (allW_of hb2) 30 0 (mdW n (zs.take len)) q2
    rw [q3] at d1
    have e0 : Nat.beq len (zs.take len).length = true := by rw [hl]; exact Nat.beq_refl _
    have e1 : Nat.beq len1 (zs1.take len1).length = true := by rw [hl1]; exact Nat.beq_refl _
    have e2 : Nat.beq len2 (zs2.take len2).length = true := by rw [hl2]; exact Nat.beq_refl _
    have f1 : okM (mdN n) (doesF stW d (zs1.take len1) (zs2.take len2) 30 0 (mdW n (zs.take len))) = true := by simp [okM, d1]; omega
    simp only [e0, e1, e2, f1, hl, hl1, hl2, d1, q1, q2, wfI h1, allI_of hb1, allW_of hb2, decide_eq_true (show len < 4611686018427387904 by omega), decide_eq_true (show len1 < 4611686018427387904 by omega), decide_eq_true (show len2 < 4611686018427387904 by omega), decide_eq_true (show mdN n < 4611686018427387904 by omega), decide_true, Nat.beq_refl, Bool.and_self, cT]
end Go.Proofs.Ytplinjjleenomaa.Wlk
