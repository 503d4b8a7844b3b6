/- Lines of interrupts: those of others do not matter: the law. -/
import Derived.Test.YtanchmbopllimaaIqV
set_option linter.unusedVariables false
set_option linter.unusedSimpArgs false
set_option maxRecDepth 100000
namespace Go.Proofs.Ytanchmbopllimaa.Wlk
open Go Go.Eng Go.Proofs Go.RowKit
abbrev ksOp : List FK := [.int .i64, .int .i64, .int .i64]
theorem ops_of {W : World} {y : Option Addr} {len cap : Nat} (hg : IsGrid ksOp W y len cap) : ∃ (k n d : List Int), SlOk W ⟨y, len, cap, [.ints .i64 k, .ints .i64 n, .ints .i64 d]⟩ ∧ k.length = len ∧ n.length = len ∧ d.length = len := by
  obtain ⟨ok, hc⟩ := hg.ok (by decide)
  obtain ⟨k, ek, lk, fk⟩ := hc 0 (.int .i64) rfl
  obtain ⟨s, es, ls, fs⟩ := hc 1 (.int .i64) rfl
  obtain ⟨d, ed, ld, fd⟩ := hc 2 (.int .i64) rfl
  have q : gridCols W y 3 len 0 ksOp = [.ints .i64 k, .ints .i64 s, .ints .i64 d] := by
    show [gridCol W y 3 len 0 _, gridCol W y 3 len 1 _, gridCol W y 3 len 2 _] = _
    have ek' : gridCol W y 3 len 0 (.int .i64) = .ints .i64 k := ek
    have es' : gridCol W y 3 len 1 (.int .i64) = .ints .i64 s := es
    have ed' : gridCol W y 3 len 2 (.int .i64) = .ints .i64 d := ed
    rw [ek', es', ed']
  exact ⟨k, s, d, by rw [← q]; exact ok, lk, ls, ld⟩
theorem ok2' {w : World} {s t : SlArg} (h : SlOk w s) (g : SlOk w t) : ∀ (i : Nat) (s' : SlArg), [s, t][i]? = some s' → SlOk w s' := by
  intro i s' hs
  match i, hs with
  | 0, hs => simp at hs; subst hs; exact h
  | 1, hs => simp at hs; subst hs; exact g
  | i + 2, hs => simp at hs
theorem apart_walk (x : Option Addr) (len cap : Nat) (x2 : Option Addr) (len2 cap2 : Nat) (n : Int) (W : World) (hg : IsGrid ksOp W x len cap) (hs : len * 24 ≤ 140737488351232) (hg2 : IsGrid ksOp W x2 len2 cap2) (hs2 : len2 * 24 ≤ 140737488351232) (h0 : (Lit.int .i64 n).wf = true) :
    Calls Try.prog 4 #[.slice x len cap, .slice x2 len2 cap2, .int .i64 n] W fun e w' => e = .returned (.bool true) ∧ Below W.heap.size W w' := by
  obtain ⟨k1, n1, d1, ok, lk, ln, ld⟩ := ops_of hg
  obtain ⟨k2, n2, d2, ok2, lk2, ln2, ld2⟩ := ops_of hg2
  obtain ⟨h1, h4⟩ := md_range n 4 (by decide) (by decide)
  refine of_rows (sl := [⟨x, len, cap, [.ints .i64 k1, .ints .i64 n1, .ints .i64 d1]⟩, ⟨x2, len2, cap2, [.ints .i64 k2, .ints .i64 n2, .ints .i64 d2]⟩]) (args := [vOp len, vOq len2, aint .i64 n])
    (blks := [none, none]) (runL_sound sW_ok mix 100 4 ap_dis (lAp_for len len2 _ h1 h4 ⟨k1, n1, d1, k2, n2, d2⟩ ⟨lk.symm, ln.symm, ld.symm, lk2.symm, ln2.symm, ld2.symm⟩)).gc (ok2' ok ok2) ?_
    ((t_apart len len2 n _ k1 n1 d1 k2 n2 d2 some).trans ((ctr (isQ_of ⟨rfl, rfl⟩)).trans ((ctr (isQ_of ⟨rfl, rfl⟩)).trans rfl)))
  exact LR.cons (args_slice (i := 0) rfl ok rfl) (LR.cons (args_slice (i := 1) rfl ok2 rfl) (LR.cons rfl LR.nil))
end Go.Proofs.Ytanchmbopllimaa.Wlk
