/- Lines of interrupts: acts as rows; the law of every act. -/
import Derived.Test.YtanchmbopllimaaIqI
set_option linter.unusedVariables false
set_option linter.unusedSimpArgs false
set_option maxRecDepth 100000
namespace Go.Proofs.Ytanchmbopllimaa.Wlk
open Go Go.Eng Go.Proofs Go.RowKit
abbrev ksOp : List FK := [.int .i64, .int .i64, .int .i64]
theorem ops_of {W : World} {y : Option Addr} {len cap : Nat} (hg : IsGrid ksOp W y len cap) : ∃ (k n d : List Int), SlOk W ⟨y, len, cap, [.ints .i64 k, .ints .i64 n, .ints .i64 d]⟩ ∧ k.length = len ∧ n.length = len ∧ d.length = len := by
  obtain ⟨ok, hc⟩ := hg.ok (by decide)
  obtain ⟨k, ek, lk, fk⟩ := hc 0 (.int .i64) rfl
  obtain ⟨s, es, ls, fs⟩ := hc 1 (.int .i64) rfl
  obtain ⟨d, ed, ld, fd⟩ := hc 2 (.int .i64) rfl
  have q : gridCols W y 3 len 0 ksOp = [.ints .i64 k, .ints .i64 s, .ints .i64 d] := by
    show [gridCol W y 3 len 0 _, gridCol W y 3 len 1 _, gridCol W y 3 len 2 _] = _
    have ek' : gridCol W y 3 len 0 (.int .i64) = .ints .i64 k := ek
    have es' : gridCol W y 3 len 1 (.int .i64) = .ints .i64 s := es
    have ed' : gridCol W y 3 len 2 (.int .i64) = .ints .i64 d := ed
    rw [ek', es', ed']
  exact ⟨k, s, d, by rw [← q]; exact ok, lk, ls, ld⟩
theorem does_walk (x : Option Addr) (len cap : Nat) (W : World) (hg : IsGrid ksOp W x len cap) (hs : len * 24 ≤ 140737488351232) :
    Calls Try.prog 6 #[.slice x len cap] W fun e w' => e = .returned (.bool true) ∧ Below W.heap.size W w' := by
  obtain ⟨k, n, d, ok, lk, ln, ld⟩ := ops_of hg
  refine of_rows (sl := [⟨x, len, cap, [.ints .i64 k, .ints .i64 n, .ints .i64 d]⟩]) (args := [vOp len])
    (blks := [none]) (runL_sound sB_ok mix 100 6 do_dis (lDo_for len k n d lk.symm ln.symm ld.symm)).gc (ok1 ok) ?_
    ((t_does len k n d some).trans ((ctr (isQ_of ⟨rfl, rfl⟩)).trans rfl))
  exact LR.cons (args_slice (i := 0) rfl ok rfl) LR.nil
end Go.Proofs.Ytanchmbopllimaa.Wlk
