/- Lines of interrupts: the least comes first: the law. -/
import Derived.Test.YtanchmbopllimaaIqQ
set_option linter.unusedVariables false
set_option linter.unusedSimpArgs false
set_option maxRecDepth 100000
namespace Go.Proofs.Ytanchmbopllimaa.Wlk
open Go Go.Eng Go.Proofs Go.RowKit
theorem order_tree (ul : Nat) (d : Int) (l : List Int) (e0 e1 e2 e3 e4 e5 e6 e7 : Bool) :
    runLG Try.prog sW (lOr ul (IntKind.wrap IntKind.i64 (Int.tmod (IntKind.wrap IntKind.u64 d) 4)) l e0 e1 e2 e3 e4 e5 e6 e7) 1 100 5 [vSl ul, aint .i64 d] [some ⟨true, .rows [.ints .i64 l]⟩] some = some ⟨.e (.c (.bool true)), [none]⟩ := by
  refine (t_order ul d _ l e0 e1 e2 e3 e4 e5 e6 e7 some).trans ?_
  obtain ⟨h0, h4⟩ := md_range d 4 (by decide) (by decide)
  refine (ctr (isQ_of ⟨rfl, rfl⟩)).trans ?_
  refine (ctr (isQ_of ⟨rfl, rfl⟩)).trans ?_
  refine (ctr (isQ_of ⟨rfl, rfl⟩)).trans ?_
  generalize IntKind.wrap IntKind.i64 (Int.tmod (IntKind.wrap IntKind.u64 d) 4) = z at h0 h4 ⊢
  have x : nxI z 0 [z, z, z, z, z, z, z, z] [e0, e1, e2, e3, e4, e5, e6, e7] [0, 0, 0, 0, 0, 0, 0, 0] = 8 := by simp [nxI]
  rw [x]
  refine (cfr rfl).trans ?_
  refine (cfr rfl).trans ?_
  exact (ctr (isQ_of ⟨rfl, rfl⟩)).trans rfl
theorem order_walk (x : Option Addr) (len cap : Nat) (zs : List Int) (n : Int) (W : World)
    (hr : IsRow .i64 W x len cap zs) (hs : len * 8 ≤ 140737488351232) (h0 : (Lit.int .i64 n).wf = true) :
    Calls Try.prog 5 #[.slice x len cap, .int .i64 n] W fun e w' => e = .returned (.bool true) ∧ Below W.heap.size W w' := by
  obtain ⟨ok, hl, hb⟩ := hr.ok
  obtain ⟨h1, h4⟩ := md_range n 4 (by decide) (by decide)
  obtain ⟨e0, e1, e2, e3, e4, e5, e6, e7, he⟩ := len8 (oZ_len len (zs.take len) 40 0 [false, false, false, false, false, false, false, false])
  refine of_rows (sl := [intArg .i64 x len cap zs]) (args := [vSl len, aint .i64 n])
    (blks := [none]) (runL_sound sW_ok mix 100 5 or_dis (lOr_for len _ (zs.take len) h1 h4 hl.symm e0 e1 e2 e3 e4 e5 e6 e7 he)).gc (ok1 ok) ?_
    (order_tree len n (zs.take len) e0 e1 e2 e3 e4 e5 e6 e7)
  exact LR.cons (args_slice (i := 0) rfl ok rfl) (LR.cons rfl LR.nil)
end Go.Proofs.Ytanchmbopllimaa.Wlk
