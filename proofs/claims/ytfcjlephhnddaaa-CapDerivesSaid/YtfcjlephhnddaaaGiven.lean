/- Capabilities: what is derived of one, and one in two words and back: the walks of three functions, by hand. -/
import Derived.Test.YtfcjlephhnddaaaBase2
import Derived.Test.YtfcjlephhnddaaaBase3
import Derived.Test.YtfcjlephhnddaaaBase4
import Derived.WalkLawsBesides
import Derived.WalkSpells
import Derived.Outline
namespace Go.Proofs.Ytfcjlephhnddaaa.Given
open Go Go.RowKit Go.Proofs.Ytfcjlephhnddaaa.Base Go.Proofs.YtfcjlephhnddaaaW.PrintWords Go.Proofs.YtfcjlephhnddaaaW.PrintLast Go.Proofs.YtfcjlephhnddaaaW.PrintMore
set_option linter.unusedVariables false
set_option linter.unusedSimpArgs false

theorem two_blocks {w wa : World} {o1 o2 : Obj} (hb : Below ((w.alloc o1).alloc o2).heap.size ((w.alloc o1).alloc o2) wa) : Aside0 (wa.heap[w.heap.size]? = some o1) ∧ Aside0 (wa.heap[w.heap.size + 1]? = some o2) ∧ Aside0 (Below w.heap.size w wa) := by
  have h1 := blk_below (blk_alloc (blk_new w o1) o2) hb
  have h2 := blk_below (blk_new (w.alloc o1) o2) hb
  have h3 := below_step (below_alloc (below_alloc (Below.refl w.heap.size w) o1) o2) hb
  rw [show (w.alloc o1).heap.size = w.heap.size + 1 from by simp] at h2
  exact ⟨⟨h1⟩, ⟨h2⟩, ⟨h3⟩⟩
theorem row_facts {w : World} {g : Nat} {t : TypeId} {cs : Array Value} (h : Aside0 (w.heap[g]? = some (.cells cs t (0, 0)))) : (∀ i, w.cell? ⟨g, i, none⟩ = cs[i]?) ∧ (∀ i, w.frozen? ⟨g, i, none⟩ = false) :=
  ⟨fun i => blk_cell h.out i, fun i => blk_frozen h.out i⟩
theorem below_cell {w W : World} {g i : Nat} (h : Below w.heap.size w W) (hg : w.heap.size ≤ g) (u : Value) : Below w.heap.size w (W.setCell ⟨g, i, none⟩ u) := h.setCell hg u
theorem put6 {w : World} {g : Nat} {t : TypeId} {c0 c1 c2 c3 c4 c5 : Value} (v0 v1 v2 v3 v4 v5 : Value) (h : w.heap[g]? = some (.cells #[c0, c1, c2, c3, c4, c5] t (0, 0))) :
    ((((((w.setCell ⟨g, 0, none⟩ v0).setCell ⟨g, 1, none⟩ v1).setCell ⟨g, 2, none⟩ v2).setCell ⟨g, 3, none⟩ v3).setCell ⟨g, 4, none⟩ v4).setCell ⟨g, 5, none⟩ v5).heap[g]? = some (.cells #[v0, v1, v2, v3, v4, v5] t (0, 0)) :=
  blk_put (blk_put (blk_put (blk_put (blk_put (blk_put h 0 v0 rfl) 1 v1 rfl) 2 v2 rfl) 3 v3 rfl) 4 v4 rfl) 5 v5 rfl
set_option maxHeartbeats 4000000 in
set_option maxRecDepth 100000 in
theorem derive_wrong (k o r b g n r' b' g' n' e0 : Int) (w : World) (hc : cap_Check.f 10 k o r b g n = some e0) (h0 : (e0 == 0) = false) (h1 : (e0 != 0) = true) :
    Calls Try.prog 10 #[.agg #[.int .i64 k, .int .i64 o, .int .i64 r, .int .u64 b, .int .u64 g, .int .i64 n], .int .i64 r', .int .u64 b', .int .u64 g', .int .i64 n'] w fun e w' =>
      e = .returned (.tuple #[.agg #[.int .i64 0, .int .i64 0, .int .i64 0, .int .u64 0, .int .u64 0, .int .i64 0], .int .i64 e0]) ∧ Below w.heap.size w w' := by
  have A := Aside0.mk hc
  clear hc
  have hu := Try.underlying24
  go_enter Try.func10, Try.ntmps10
  go_wp2_with (first
    | (go_at_call 18; (with_reducible refine (cap_Check.calls 10 k o r b g n e0 _ A.out).mono ?_); rintro e wa ⟨rfl, hb⟩; obtain ⟨Ka, Kb, Na⟩ := two_blocks hb; clear hb; obtain ⟨ca, fa⟩ := row_facts Ka; obtain ⟨cb, fb⟩ := row_facts Kb))
  refine bodyPost_ret (results_ct rfl _ _ (w.heap.size + 1) 24 #[.int .i64 (0), .int .i64 (0), .int .i64 (0), .int .u64 (0), .int .u64 (0), .int .i64 (0)] (0, 0) _ ?hp1 ?hg1 Try.underlying24 rfl (by kernel_rfl)) rfl ?hz1
  case hp1 => rfl
  case hg1 => exact put6 (.int .i64 (0)) (.int .i64 (0)) (.int .i64 (0)) (.int .u64 (0)) (.int .u64 (0)) (.int .i64 (0)) Kb.out
  case hz1 =>
    refine ⟨rfl, ?_⟩
    repeat (first | with_reducible exact Na.out | with_reducible exact pw_below_drewN Na.out _ | (with_reducible refine below_cell ?_ ?_ _; rotate_left; omega))
set_option maxHeartbeats 4000000 in
set_option maxRecDepth 100000 in
theorem derive_0 (o r b g n r' b' g' n' : Int) (w : World) (hc : cap_Check.f 10 0 o r b g n = some 0)  :
    Calls Try.prog 10 #[.agg #[.int .i64 0, .int .i64 o, .int .i64 r, .int .u64 b, .int .u64 g, .int .i64 n], .int .i64 r', .int .u64 b', .int .u64 g', .int .i64 n'] w fun e w' =>
      e = .returned (.tuple #[.agg #[.int .i64 0, .int .i64 0, .int .i64 0, .int .u64 0, .int .u64 0, .int .i64 0], .int .i64 3]) ∧ Below w.heap.size w w' := by
  have A := Aside0.mk hc
  clear hc
  have hu := Try.underlying24
  go_enter Try.func10, Try.ntmps10
  go_wp2_with (first
    | (go_at_call 18; (with_reducible refine (cap_Check.calls 10 0 o r b g n 0 _ A.out).mono ?_); rintro e wa ⟨rfl, hb⟩; obtain ⟨Ka, Kb, Na⟩ := two_blocks hb; clear hb; obtain ⟨ca, fa⟩ := row_facts Ka; obtain ⟨cb, fb⟩ := row_facts Kb))
  refine bodyPost_ret (results_ct rfl _ _ (w.heap.size + 1) 24 #[.int .i64 (0), .int .i64 (0), .int .i64 (0), .int .u64 (0), .int .u64 (0), .int .i64 (0)] (0, 0) _ ?hp1 ?hg1 Try.underlying24 rfl (by kernel_rfl)) rfl ?hz1
  case hp1 => rfl
  case hg1 => exact put6 (.int .i64 (0)) (.int .i64 (0)) (.int .i64 (0)) (.int .u64 (0)) (.int .u64 (0)) (.int .i64 (0)) Kb.out
  case hz1 =>
    refine ⟨rfl, ?_⟩
    repeat (first | with_reducible exact Na.out | with_reducible exact pw_below_drewN Na.out _ | (with_reducible refine below_cell ?_ ?_ _; rotate_left; omega))
set_option maxHeartbeats 4000000 in
set_option maxRecDepth 100000 in
theorem derive_1 (o r b g n r' b' g' n' : Int) (w : World) (hc : cap_Check.f 10 1 o r b g n = some 0)  :
    Calls Try.prog 10 #[.agg #[.int .i64 1, .int .i64 o, .int .i64 r, .int .u64 b, .int .u64 g, .int .i64 n], .int .i64 r', .int .u64 b', .int .u64 g', .int .i64 n'] w fun e w' =>
      e = .returned (.tuple #[.agg #[.int .i64 0, .int .i64 0, .int .i64 0, .int .u64 0, .int .u64 0, .int .i64 0], .int .i64 2]) ∧ Below w.heap.size w w' := by
  have A := Aside0.mk hc
  clear hc
  have hu := Try.underlying24
  go_enter Try.func10, Try.ntmps10
  go_wp2_with (first
    | (go_at_call 18; (with_reducible refine (cap_Check.calls 10 1 o r b g n 0 _ A.out).mono ?_); rintro e wa ⟨rfl, hb⟩; obtain ⟨Ka, Kb, Na⟩ := two_blocks hb; clear hb; obtain ⟨ca, fa⟩ := row_facts Ka; obtain ⟨cb, fb⟩ := row_facts Kb))
  refine bodyPost_ret (results_ct rfl _ _ (w.heap.size + 1) 24 #[.int .i64 (0), .int .i64 (0), .int .i64 (0), .int .u64 (0), .int .u64 (0), .int .i64 (0)] (0, 0) _ ?hp1 ?hg1 Try.underlying24 rfl (by kernel_rfl)) rfl ?hz1
  case hp1 => rfl
  case hg1 => exact put6 (.int .i64 (0)) (.int .i64 (0)) (.int .i64 (0)) (.int .u64 (0)) (.int .u64 (0)) (.int .i64 (0)) Kb.out
  case hz1 =>
    refine ⟨rfl, ?_⟩
    repeat (first | with_reducible exact Na.out | with_reducible exact pw_below_drewN Na.out _ | (with_reducible refine below_cell ?_ ?_ _; rotate_left; omega))
set_option maxHeartbeats 4000000 in
set_option maxRecDepth 100000 in
theorem derive_10 (o r b g n r' b' g' n' : Int) (w : World) (hc : cap_Check.f 10 10 o r b g n = some 0)  :
    Calls Try.prog 10 #[.agg #[.int .i64 10, .int .i64 o, .int .i64 r, .int .u64 b, .int .u64 g, .int .i64 n], .int .i64 r', .int .u64 b', .int .u64 g', .int .i64 n'] w fun e w' =>
      e = .returned (.tuple #[.agg #[.int .i64 0, .int .i64 0, .int .i64 0, .int .u64 0, .int .u64 0, .int .i64 0], .int .i64 2]) ∧ Below w.heap.size w w' := by
  have A := Aside0.mk hc
  clear hc
  have hu := Try.underlying24
  go_enter Try.func10, Try.ntmps10
  go_wp2_with (first
    | (go_at_call 18; (with_reducible refine (cap_Check.calls 10 10 o r b g n 0 _ A.out).mono ?_); rintro e wa ⟨rfl, hb⟩; obtain ⟨Ka, Kb, Na⟩ := two_blocks hb; clear hb; obtain ⟨ca, fa⟩ := row_facts Ka; obtain ⟨cb, fb⟩ := row_facts Kb))
  refine bodyPost_ret (results_ct rfl _ _ (w.heap.size + 1) 24 #[.int .i64 (0), .int .i64 (0), .int .i64 (0), .int .u64 (0), .int .u64 (0), .int .i64 (0)] (0, 0) _ ?hp1 ?hg1 Try.underlying24 rfl (by kernel_rfl)) rfl ?hz1
  case hp1 => rfl
  case hg1 => exact put6 (.int .i64 (0)) (.int .i64 (0)) (.int .i64 (0)) (.int .u64 (0)) (.int .u64 (0)) (.int .i64 (0)) Kb.out
  case hz1 =>
    refine ⟨rfl, ?_⟩
    repeat (first | with_reducible exact Na.out | with_reducible exact pw_below_drewN Na.out _ | (with_reducible refine below_cell ?_ ?_ _; rotate_left; omega))
set_option maxHeartbeats 4000000 in
set_option maxRecDepth 100000 in
theorem derive_11 (o r b g n r' b' g' n' : Int) (w : World) (hc : cap_Check.f 10 11 o r b g n = some 0)  :
    Calls Try.prog 10 #[.agg #[.int .i64 11, .int .i64 o, .int .i64 r, .int .u64 b, .int .u64 g, .int .i64 n], .int .i64 r', .int .u64 b', .int .u64 g', .int .i64 n'] w fun e w' =>
      e = .returned (.tuple #[.agg #[.int .i64 0, .int .i64 0, .int .i64 0, .int .u64 0, .int .u64 0, .int .i64 0], .int .i64 2]) ∧ Below w.heap.size w w' := by
  have A := Aside0.mk hc
  clear hc
  have hu := Try.underlying24
  go_enter Try.func10, Try.ntmps10
  go_wp2_with (first
    | (go_at_call 18; (with_reducible refine (cap_Check.calls 10 11 o r b g n 0 _ A.out).mono ?_); rintro e wa ⟨rfl, hb⟩; obtain ⟨Ka, Kb, Na⟩ := two_blocks hb; clear hb; obtain ⟨ca, fa⟩ := row_facts Ka; obtain ⟨cb, fb⟩ := row_facts Kb))
  refine bodyPost_ret (results_ct rfl _ _ (w.heap.size + 1) 24 #[.int .i64 (0), .int .i64 (0), .int .i64 (0), .int .u64 (0), .int .u64 (0), .int .i64 (0)] (0, 0) _ ?hp1 ?hg1 Try.underlying24 rfl (by kernel_rfl)) rfl ?hz1
  case hp1 => rfl
  case hg1 => exact put6 (.int .i64 (0)) (.int .i64 (0)) (.int .i64 (0)) (.int .u64 (0)) (.int .u64 (0)) (.int .i64 (0)) Kb.out
  case hz1 =>
    refine ⟨rfl, ?_⟩
    repeat (first | with_reducible exact Na.out | with_reducible exact pw_below_drewN Na.out _ | (with_reducible refine below_cell ?_ ?_ _; rotate_left; omega))
set_option maxHeartbeats 4000000 in
set_option maxRecDepth 100000 in
theorem derive_2_no (o r b g n r' b' g' n' : Int) (w : World) (hc : cap_Check.f 10 2 o r b g n = some 0) (hr : rights_Check.f r' = some false) :
    Calls Try.prog 10 #[.agg #[.int .i64 2, .int .i64 o, .int .i64 r, .int .u64 b, .int .u64 g, .int .i64 n], .int .i64 r', .int .u64 b', .int .u64 g', .int .i64 n'] w fun e w' =>
      e = .returned (.tuple #[.agg #[.int .i64 0, .int .i64 0, .int .i64 0, .int .u64 0, .int .u64 0, .int .i64 0], .int .i64 5]) ∧ Below w.heap.size w w' := by
  have A := Aside0.mk hc
  clear hc
  have R := Aside0.mk hr
  clear hr
  have hu := Try.underlying24
  go_enter Try.func10, Try.ntmps10
  go_wp2_with (first
    | (go_at_call 18; (with_reducible refine (cap_Check.calls 10 2 o r b g n 0 _ A.out).mono ?_); rintro e wa ⟨rfl, hb⟩; obtain ⟨Ka, Kb, Na⟩ := two_blocks hb; clear hb; obtain ⟨ca, fa⟩ := row_facts Ka; obtain ⟨cb, fb⟩ := row_facts Kb)
    | (go_at_call 21; (with_reducible refine (rights_Check.calls r' false _ R.out).mono ?_); rintro e w' ⟨rfl, ⟨nd, rfl⟩⟩))
  refine bodyPost_ret (results_ct rfl _ _ (w.heap.size + 1) 24 #[.int .i64 (0), .int .i64 (0), .int .i64 (0), .int .u64 (0), .int .u64 (0), .int .i64 (0)] (0, 0) _ ?hp1 ?hg1 Try.underlying24 rfl (by kernel_rfl)) rfl ?hz1
  case hp1 => rfl
  case hg1 => exact put6 (.int .i64 (0)) (.int .i64 (0)) (.int .i64 (0)) (.int .u64 (0)) (.int .u64 (0)) (.int .i64 (0)) Kb.out
  case hz1 =>
    refine ⟨rfl, ?_⟩
    repeat (first | with_reducible exact Na.out | with_reducible exact pw_below_drewN Na.out _ | (with_reducible refine below_cell ?_ ?_ _; rotate_left; omega))
set_option maxHeartbeats 4000000 in
set_option maxRecDepth 100000 in
theorem derive_2_fits (o r b g n r' b' g' n' : Int) (w : World) (hc : cap_Check.f 10 2 o r b g n = some 0) (hr : rights_Check.f r' = some true) (hf : cap_fits.f g' n' = some true) :
    Calls Try.prog 10 #[.agg #[.int .i64 2, .int .i64 o, .int .i64 r, .int .u64 b, .int .u64 g, .int .i64 n], .int .i64 r', .int .u64 b', .int .u64 g', .int .i64 n'] w fun e w' =>
      e = .returned (.tuple #[.agg #[.int .i64 2, .int .i64 o, .int .i64 r, .int .u64 b, .int .u64 g', .int .i64 n'], .int .i64 0]) ∧ Below w.heap.size w w' := by
  have A := Aside0.mk hc
  clear hc
  have R := Aside0.mk hr
  clear hr
  have F := Aside0.mk hf
  clear hf
  have hu := Try.underlying24
  go_enter Try.func10, Try.ntmps10
  go_wp2_with (first
    | (go_at_call 18; (with_reducible refine (cap_Check.calls 10 2 o r b g n 0 _ A.out).mono ?_); rintro e wa ⟨rfl, hb⟩; obtain ⟨Ka, Kb, Na⟩ := two_blocks hb; clear hb; obtain ⟨ca, fa⟩ := row_facts Ka; obtain ⟨cb, fb⟩ := row_facts Kb)
    | (go_at_call 21; (with_reducible refine (rights_Check.calls r' true _ R.out).mono ?_); rintro e w' ⟨rfl, ⟨nd, rfl⟩⟩)
    | (go_at_call 23; (with_reducible refine (cap_fits.calls g' n' true _ F.out).mono ?_); rintro e w' ⟨rfl, ⟨nd, rfl⟩⟩))
  refine bodyPost_ret (results_ct rfl _ _ (w.heap.size + 1) 24 #[.int .i64 (2), .int .i64 (o), .int .i64 (r), .int .u64 (b), .int .u64 (g'), .int .i64 (n')] (0, 0) _ ?hp1 ?hg1 Try.underlying24 rfl (by kernel_rfl)) rfl ?hz1
  case hp1 => rfl
  case hg1 => exact put6 (.int .i64 (2)) (.int .i64 (o)) (.int .i64 (r)) (.int .u64 (b)) (.int .u64 (g')) (.int .i64 (n')) (blk_far (blk_far Kb.out (by simp) _) (by simp) _)
  case hz1 =>
    refine ⟨rfl, ?_⟩
    repeat (first | with_reducible exact Na.out | with_reducible exact pw_below_drewN Na.out _ | (with_reducible refine below_cell ?_ ?_ _; rotate_left; omega))
set_option maxHeartbeats 4000000 in
set_option maxRecDepth 100000 in
theorem derive_2_not (o r b g n r' b' g' n' : Int) (w : World) (hc : cap_Check.f 10 2 o r b g n = some 0) (hr : rights_Check.f r' = some true) (hf : cap_fits.f g' n' = some false) :
    Calls Try.prog 10 #[.agg #[.int .i64 2, .int .i64 o, .int .i64 r, .int .u64 b, .int .u64 g, .int .i64 n], .int .i64 r', .int .u64 b', .int .u64 g', .int .i64 n'] w fun e w' =>
      e = .returned (.tuple #[.agg #[.int .i64 0, .int .i64 0, .int .i64 0, .int .u64 0, .int .u64 0, .int .i64 0], .int .i64 10]) ∧ Below w.heap.size w w' := by
  have A := Aside0.mk hc
  clear hc
  have R := Aside0.mk hr
  clear hr
  have F := Aside0.mk hf
  clear hf
  have hu := Try.underlying24
  go_enter Try.func10, Try.ntmps10
  go_wp2_with (first
    | (go_at_call 18; (with_reducible refine (cap_Check.calls 10 2 o r b g n 0 _ A.out).mono ?_); rintro e wa ⟨rfl, hb⟩; obtain ⟨Ka, Kb, Na⟩ := two_blocks hb; clear hb; obtain ⟨ca, fa⟩ := row_facts Ka; obtain ⟨cb, fb⟩ := row_facts Kb)
    | (go_at_call 21; (with_reducible refine (rights_Check.calls r' true _ R.out).mono ?_); rintro e w' ⟨rfl, ⟨nd, rfl⟩⟩)
    | (go_at_call 23; (with_reducible refine (cap_fits.calls g' n' false _ F.out).mono ?_); rintro e w' ⟨rfl, ⟨nd, rfl⟩⟩))
  refine bodyPost_ret (results_ct rfl _ _ (w.heap.size + 1) 24 #[.int .i64 (0), .int .i64 (0), .int .i64 (0), .int .u64 (0), .int .u64 (0), .int .i64 (0)] (0, 0) _ ?hp1 ?hg1 Try.underlying24 rfl (by kernel_rfl)) rfl ?hz1
  case hp1 => rfl
  case hg1 => exact put6 (.int .i64 (0)) (.int .i64 (0)) (.int .i64 (0)) (.int .u64 (0)) (.int .u64 (0)) (.int .i64 (0)) Kb.out
  case hz1 =>
    refine ⟨rfl, ?_⟩
    repeat (first | with_reducible exact Na.out | with_reducible exact pw_below_drewN Na.out _ | (with_reducible refine below_cell ?_ ?_ _; rotate_left; omega))
set_option maxHeartbeats 4000000 in
set_option maxRecDepth 100000 in
theorem derive_3_no (o r b g n r' b' g' n' : Int) (w : World) (hc : cap_Check.f 10 3 o r b g n = some 0) (hr : rights_Check.f r' = some false) :
    Calls Try.prog 10 #[.agg #[.int .i64 3, .int .i64 o, .int .i64 r, .int .u64 b, .int .u64 g, .int .i64 n], .int .i64 r', .int .u64 b', .int .u64 g', .int .i64 n'] w fun e w' =>
      e = .returned (.tuple #[.agg #[.int .i64 0, .int .i64 0, .int .i64 0, .int .u64 0, .int .u64 0, .int .i64 0], .int .i64 5]) ∧ Below w.heap.size w w' := by
  have A := Aside0.mk hc
  clear hc
  have R := Aside0.mk hr
  clear hr
  have hu := Try.underlying24
  go_enter Try.func10, Try.ntmps10
  go_wp2_with (first
    | (go_at_call 18; (with_reducible refine (cap_Check.calls 10 3 o r b g n 0 _ A.out).mono ?_); rintro e wa ⟨rfl, hb⟩; obtain ⟨Ka, Kb, Na⟩ := two_blocks hb; clear hb; obtain ⟨ca, fa⟩ := row_facts Ka; obtain ⟨cb, fb⟩ := row_facts Kb)
    | (go_at_call 21; (with_reducible refine (rights_Check.calls r' false _ R.out).mono ?_); rintro e w' ⟨rfl, ⟨nd, rfl⟩⟩))
  refine bodyPost_ret (results_ct rfl _ _ (w.heap.size + 1) 24 #[.int .i64 (0), .int .i64 (0), .int .i64 (0), .int .u64 (0), .int .u64 (0), .int .i64 (0)] (0, 0) _ ?hp1 ?hg1 Try.underlying24 rfl (by kernel_rfl)) rfl ?hz1
  case hp1 => rfl
  case hg1 => exact put6 (.int .i64 (0)) (.int .i64 (0)) (.int .i64 (0)) (.int .u64 (0)) (.int .u64 (0)) (.int .i64 (0)) Kb.out
  case hz1 =>
    refine ⟨rfl, ?_⟩
    repeat (first | with_reducible exact Na.out | with_reducible exact pw_below_drewN Na.out _ | (with_reducible refine below_cell ?_ ?_ _; rotate_left; omega))
set_option maxHeartbeats 4000000 in
set_option maxRecDepth 100000 in
theorem derive_3 (o r b g n r' b' g' n' : Int) (w : World) (hc : cap_Check.f 10 3 o r b g n = some 0) (hr : rights_Check.f r' = some true) :
    Calls Try.prog 10 #[.agg #[.int .i64 3, .int .i64 o, .int .i64 r, .int .u64 b, .int .u64 g, .int .i64 n], .int .i64 r', .int .u64 b', .int .u64 g', .int .i64 n'] w fun e w' =>
      e = .returned (.tuple #[.agg #[.int .i64 3, .int .i64 o, .int .i64 r, .int .u64 b, .int .u64 g, .int .i64 n], .int .i64 0]) ∧ Below w.heap.size w w' := by
  have A := Aside0.mk hc
  clear hc
  have R := Aside0.mk hr
  clear hr
  have hu := Try.underlying24
  go_enter Try.func10, Try.ntmps10
  go_wp2_with (first
    | (go_at_call 18; (with_reducible refine (cap_Check.calls 10 3 o r b g n 0 _ A.out).mono ?_); rintro e wa ⟨rfl, hb⟩; obtain ⟨Ka, Kb, Na⟩ := two_blocks hb; clear hb; obtain ⟨ca, fa⟩ := row_facts Ka; obtain ⟨cb, fb⟩ := row_facts Kb)
    | (go_at_call 21; (with_reducible refine (rights_Check.calls r' true _ R.out).mono ?_); rintro e w' ⟨rfl, ⟨nd, rfl⟩⟩))
  refine bodyPost_ret (results_ct rfl _ _ (w.heap.size + 1) 24 #[.int .i64 (3), .int .i64 (o), .int .i64 (r), .int .u64 (b), .int .u64 (g), .int .i64 (n)] (0, 0) _ ?hp1 ?hg1 Try.underlying24 rfl (by kernel_rfl)) rfl ?hz1
  case hp1 => rfl
  case hg1 => exact put6 (.int .i64 (3)) (.int .i64 (o)) (.int .i64 (r)) (.int .u64 (b)) (.int .u64 (g)) (.int .i64 (n)) Kb.out
  case hz1 =>
    refine ⟨rfl, ?_⟩
    repeat (first | with_reducible exact Na.out | with_reducible exact pw_below_drewN Na.out _ | (with_reducible refine below_cell ?_ ?_ _; rotate_left; omega))
set_option maxHeartbeats 4000000 in
set_option maxRecDepth 100000 in
theorem derive_4_no (o r b g n r' b' g' n' : Int) (w : World) (hc : cap_Check.f 10 4 o r b g n = some 0) (hr : rights_Check.f r' = some false) :
    Calls Try.prog 10 #[.agg #[.int .i64 4, .int .i64 o, .int .i64 r, .int .u64 b, .int .u64 g, .int .i64 n], .int .i64 r', .int .u64 b', .int .u64 g', .int .i64 n'] w fun e w' =>
      e = .returned (.tuple #[.agg #[.int .i64 0, .int .i64 0, .int .i64 0, .int .u64 0, .int .u64 0, .int .i64 0], .int .i64 5]) ∧ Below w.heap.size w w' := by
  have A := Aside0.mk hc
  clear hc
  have R := Aside0.mk hr
  clear hr
  have hu := Try.underlying24
  go_enter Try.func10, Try.ntmps10
  go_wp2_with (first
    | (go_at_call 18; (with_reducible refine (cap_Check.calls 10 4 o r b g n 0 _ A.out).mono ?_); rintro e wa ⟨rfl, hb⟩; obtain ⟨Ka, Kb, Na⟩ := two_blocks hb; clear hb; obtain ⟨ca, fa⟩ := row_facts Ka; obtain ⟨cb, fb⟩ := row_facts Kb)
    | (go_at_call 21; (with_reducible refine (rights_Check.calls r' false _ R.out).mono ?_); rintro e w' ⟨rfl, ⟨nd, rfl⟩⟩))
  refine bodyPost_ret (results_ct rfl _ _ (w.heap.size + 1) 24 #[.int .i64 (0), .int .i64 (0), .int .i64 (0), .int .u64 (0), .int .u64 (0), .int .i64 (0)] (0, 0) _ ?hp1 ?hg1 Try.underlying24 rfl (by kernel_rfl)) rfl ?hz1
  case hp1 => rfl
  case hg1 => exact put6 (.int .i64 (0)) (.int .i64 (0)) (.int .i64 (0)) (.int .u64 (0)) (.int .u64 (0)) (.int .i64 (0)) Kb.out
  case hz1 =>
    refine ⟨rfl, ?_⟩
    repeat (first | with_reducible exact Na.out | with_reducible exact pw_below_drewN Na.out _ | (with_reducible refine below_cell ?_ ?_ _; rotate_left; omega))
set_option maxHeartbeats 4000000 in
set_option maxRecDepth 100000 in
theorem derive_4_b (o r b g n r' b' g' n' m : Int) (w : World) (hc : cap_Check.f 10 4 o r b g n = some 0) (hr : rights_Check.f r' = some true) (hm : rights_Mask.f r r' = some m) (hb1 : (b' != 0) = false) (hb2 : (b / 268435456 != 0) = false) :
    Calls Try.prog 10 #[.agg #[.int .i64 4, .int .i64 o, .int .i64 r, .int .u64 b, .int .u64 g, .int .i64 n], .int .i64 r', .int .u64 b', .int .u64 g', .int .i64 n'] w fun e w' =>
      e = .returned (.tuple #[.agg #[.int .i64 4, .int .i64 o, .int .i64 m, .int .u64 b, .int .u64 g, .int .i64 n], .int .i64 0]) ∧ Below w.heap.size w w' := by
  have A := Aside0.mk hc
  clear hc
  have R := Aside0.mk hr
  clear hr
  have M := Aside0.mk hm
  clear hm
  have hu := Try.underlying24
  go_enter Try.func10, Try.ntmps10
  go_wp2_with (first
    | (go_at_call 18; (with_reducible refine (cap_Check.calls 10 4 o r b g n 0 _ A.out).mono ?_); rintro e wa ⟨rfl, hb⟩; obtain ⟨Ka, Kb, Na⟩ := two_blocks hb; clear hb; obtain ⟨ca, fa⟩ := row_facts Ka; obtain ⟨cb, fb⟩ := row_facts Kb)
    | (go_at_call 21; (with_reducible refine (rights_Check.calls r' true _ R.out).mono ?_); rintro e w' ⟨rfl, ⟨nd, rfl⟩⟩)
    | (go_at_call 22; (with_reducible refine (rights_Mask.calls r r' m _ M.out).mono ?_); rintro e w' ⟨rfl, ⟨nd, rfl⟩⟩))
  refine bodyPost_ret (results_ct rfl _ _ (w.heap.size + 1) 24 #[.int .i64 (4), .int .i64 (o), .int .i64 (m), .int .u64 (b), .int .u64 (g), .int .i64 (n)] (0, 0) _ ?hp1 ?hg1 Try.underlying24 rfl (by kernel_rfl)) rfl ?hz1
  case hp1 => rfl
  case hg1 => exact put6 (.int .i64 (4)) (.int .i64 (o)) (.int .i64 (m)) (.int .u64 (b)) (.int .u64 (g)) (.int .i64 (n)) (blk_far Kb.out (by simp) _)
  case hz1 =>
    refine ⟨rfl, ?_⟩
    repeat (first | with_reducible exact Na.out | with_reducible exact pw_below_drewN Na.out _ | (with_reducible refine below_cell ?_ ?_ _; rotate_left; omega))
set_option maxHeartbeats 4000000 in
set_option maxRecDepth 100000 in
theorem derive_4_bx (o r b g n r' b' g' n' m : Int) (w : World) (hc : cap_Check.f 10 4 o r b g n = some 0) (hr : rights_Check.f r' = some true) (hm : rights_Mask.f r r' = some m) (hb1 : (b' != 0) = false) (hb2 : (b / 268435456 != 0) = true) :
    Calls Try.prog 10 #[.agg #[.int .i64 4, .int .i64 o, .int .i64 r, .int .u64 b, .int .u64 g, .int .i64 n], .int .i64 r', .int .u64 b', .int .u64 g', .int .i64 n'] w fun e w' =>
      e = .returned (.tuple #[.agg #[.int .i64 0, .int .i64 0, .int .i64 0, .int .u64 0, .int .u64 0, .int .i64 0], .int .i64 10]) ∧ Below w.heap.size w w' := by
  have A := Aside0.mk hc
  clear hc
  have R := Aside0.mk hr
  clear hr
  have M := Aside0.mk hm
  clear hm
  have hu := Try.underlying24
  go_enter Try.func10, Try.ntmps10
  go_wp2_with (first
    | (go_at_call 18; (with_reducible refine (cap_Check.calls 10 4 o r b g n 0 _ A.out).mono ?_); rintro e wa ⟨rfl, hb⟩; obtain ⟨Ka, Kb, Na⟩ := two_blocks hb; clear hb; obtain ⟨ca, fa⟩ := row_facts Ka; obtain ⟨cb, fb⟩ := row_facts Kb)
    | (go_at_call 21; (with_reducible refine (rights_Check.calls r' true _ R.out).mono ?_); rintro e w' ⟨rfl, ⟨nd, rfl⟩⟩)
    | (go_at_call 22; (with_reducible refine (rights_Mask.calls r r' m _ M.out).mono ?_); rintro e w' ⟨rfl, ⟨nd, rfl⟩⟩))
  refine bodyPost_ret (results_ct rfl _ _ (w.heap.size + 1) 24 #[.int .i64 (0), .int .i64 (0), .int .i64 (0), .int .u64 (0), .int .u64 (0), .int .i64 (0)] (0, 0) _ ?hp1 ?hg1 Try.underlying24 rfl (by kernel_rfl)) rfl ?hz1
  case hp1 => rfl
  case hg1 => exact put6 (.int .i64 (0)) (.int .i64 (0)) (.int .i64 (0)) (.int .u64 (0)) (.int .u64 (0)) (.int .i64 (0)) (blk_far Kb.out (by simp) _)
  case hz1 =>
    refine ⟨rfl, ?_⟩
    repeat (first | with_reducible exact Na.out | with_reducible exact pw_below_drewN Na.out _ | (with_reducible refine below_cell ?_ ?_ _; rotate_left; omega))
set_option maxHeartbeats 4000000 in
set_option maxRecDepth 100000 in
theorem derive_4_s (o r b g n r' b' g' n' m : Int) (w : World) (hc : cap_Check.f 10 4 o r b g n = some 0) (hr : rights_Check.f r' = some true) (hm : rights_Mask.f r r' = some m) (hb1 : (b' != 0) = true) (hb2 : (b != 0) = true) :
    Calls Try.prog 10 #[.agg #[.int .i64 4, .int .i64 o, .int .i64 r, .int .u64 b, .int .u64 g, .int .i64 n], .int .i64 r', .int .u64 b', .int .u64 g', .int .i64 n'] w fun e w' =>
      e = .returned (.tuple #[.agg #[.int .i64 0, .int .i64 0, .int .i64 0, .int .u64 0, .int .u64 0, .int .i64 0], .int .i64 8]) ∧ Below w.heap.size w w' := by
  have A := Aside0.mk hc
  clear hc
  have R := Aside0.mk hr
  clear hr
  have M := Aside0.mk hm
  clear hm
  have hu := Try.underlying24
  go_enter Try.func10, Try.ntmps10
  go_wp2_with (first
    | (go_at_call 18; (with_reducible refine (cap_Check.calls 10 4 o r b g n 0 _ A.out).mono ?_); rintro e wa ⟨rfl, hb⟩; obtain ⟨Ka, Kb, Na⟩ := two_blocks hb; clear hb; obtain ⟨ca, fa⟩ := row_facts Ka; obtain ⟨cb, fb⟩ := row_facts Kb)
    | (go_at_call 21; (with_reducible refine (rights_Check.calls r' true _ R.out).mono ?_); rintro e w' ⟨rfl, ⟨nd, rfl⟩⟩)
    | (go_at_call 22; (with_reducible refine (rights_Mask.calls r r' m _ M.out).mono ?_); rintro e w' ⟨rfl, ⟨nd, rfl⟩⟩))
  refine bodyPost_ret (results_ct rfl _ _ (w.heap.size + 1) 24 #[.int .i64 (0), .int .i64 (0), .int .i64 (0), .int .u64 (0), .int .u64 (0), .int .i64 (0)] (0, 0) _ ?hp1 ?hg1 Try.underlying24 rfl (by kernel_rfl)) rfl ?hz1
  case hp1 => rfl
  case hg1 => exact put6 (.int .i64 (0)) (.int .i64 (0)) (.int .i64 (0)) (.int .u64 (0)) (.int .u64 (0)) (.int .i64 (0)) (blk_far Kb.out (by simp) _)
  case hz1 =>
    refine ⟨rfl, ?_⟩
    repeat (first | with_reducible exact Na.out | with_reducible exact pw_below_drewN Na.out _ | (with_reducible refine below_cell ?_ ?_ _; rotate_left; omega))
set_option maxHeartbeats 4000000 in
set_option maxRecDepth 100000 in
theorem derive_4_n (o r b g n r' b' g' n' m : Int) (w : World) (hc : cap_Check.f 10 4 o r b g n = some 0) (hr : rights_Check.f r' = some true) (hm : rights_Mask.f r r' = some m) (hb1 : (b' != 0) = true) (hb2 : (b != 0) = false) (hb3 : (b' / 268435456 != 0) = false) :
    Calls Try.prog 10 #[.agg #[.int .i64 4, .int .i64 o, .int .i64 r, .int .u64 b, .int .u64 g, .int .i64 n], .int .i64 r', .int .u64 b', .int .u64 g', .int .i64 n'] w fun e w' =>
      e = .returned (.tuple #[.agg #[.int .i64 4, .int .i64 o, .int .i64 m, .int .u64 b', .int .u64 g, .int .i64 n], .int .i64 0]) ∧ Below w.heap.size w w' := by
  have A := Aside0.mk hc
  clear hc
  have R := Aside0.mk hr
  clear hr
  have M := Aside0.mk hm
  clear hm
  have hu := Try.underlying24
  go_enter Try.func10, Try.ntmps10
  go_wp2_with (first
    | (go_at_call 18; (with_reducible refine (cap_Check.calls 10 4 o r b g n 0 _ A.out).mono ?_); rintro e wa ⟨rfl, hb⟩; obtain ⟨Ka, Kb, Na⟩ := two_blocks hb; clear hb; obtain ⟨ca, fa⟩ := row_facts Ka; obtain ⟨cb, fb⟩ := row_facts Kb)
    | (go_at_call 21; (with_reducible refine (rights_Check.calls r' true _ R.out).mono ?_); rintro e w' ⟨rfl, ⟨nd, rfl⟩⟩)
    | (go_at_call 22; (with_reducible refine (rights_Mask.calls r r' m _ M.out).mono ?_); rintro e w' ⟨rfl, ⟨nd, rfl⟩⟩))
  refine bodyPost_ret (results_ct rfl _ _ (w.heap.size + 1) 24 #[.int .i64 (4), .int .i64 (o), .int .i64 (m), .int .u64 (b'), .int .u64 (g), .int .i64 (n)] (0, 0) _ ?hp1 ?hg1 Try.underlying24 rfl (by kernel_rfl)) rfl ?hz1
  case hp1 => rfl
  case hg1 => exact put6 (.int .i64 (4)) (.int .i64 (o)) (.int .i64 (m)) (.int .u64 (b')) (.int .u64 (g)) (.int .i64 (n)) (blk_far (blk_far Kb.out (by simp) _) (by simp) _)
  case hz1 =>
    refine ⟨rfl, ?_⟩
    repeat (first | with_reducible exact Na.out | with_reducible exact pw_below_drewN Na.out _ | (with_reducible refine below_cell ?_ ?_ _; rotate_left; omega))
set_option maxHeartbeats 4000000 in
set_option maxRecDepth 100000 in
theorem derive_4_nx (o r b g n r' b' g' n' m : Int) (w : World) (hc : cap_Check.f 10 4 o r b g n = some 0) (hr : rights_Check.f r' = some true) (hm : rights_Mask.f r r' = some m) (hb1 : (b' != 0) = true) (hb2 : (b != 0) = false) (hb3 : (b' / 268435456 != 0) = true) :
    Calls Try.prog 10 #[.agg #[.int .i64 4, .int .i64 o, .int .i64 r, .int .u64 b, .int .u64 g, .int .i64 n], .int .i64 r', .int .u64 b', .int .u64 g', .int .i64 n'] w fun e w' =>
      e = .returned (.tuple #[.agg #[.int .i64 0, .int .i64 0, .int .i64 0, .int .u64 0, .int .u64 0, .int .i64 0], .int .i64 10]) ∧ Below w.heap.size w w' := by
  have A := Aside0.mk hc
  clear hc
  have R := Aside0.mk hr
  clear hr
  have M := Aside0.mk hm
  clear hm
  have hu := Try.underlying24
  go_enter Try.func10, Try.ntmps10
  go_wp2_with (first
    | (go_at_call 18; (with_reducible refine (cap_Check.calls 10 4 o r b g n 0 _ A.out).mono ?_); rintro e wa ⟨rfl, hb⟩; obtain ⟨Ka, Kb, Na⟩ := two_blocks hb; clear hb; obtain ⟨ca, fa⟩ := row_facts Ka; obtain ⟨cb, fb⟩ := row_facts Kb)
    | (go_at_call 21; (with_reducible refine (rights_Check.calls r' true _ R.out).mono ?_); rintro e w' ⟨rfl, ⟨nd, rfl⟩⟩)
    | (go_at_call 22; (with_reducible refine (rights_Mask.calls r r' m _ M.out).mono ?_); rintro e w' ⟨rfl, ⟨nd, rfl⟩⟩))
  refine bodyPost_ret (results_ct rfl _ _ (w.heap.size + 1) 24 #[.int .i64 (0), .int .i64 (0), .int .i64 (0), .int .u64 (0), .int .u64 (0), .int .i64 (0)] (0, 0) _ ?hp1 ?hg1 Try.underlying24 rfl (by kernel_rfl)) rfl ?hz1
  case hp1 => rfl
  case hg1 => exact put6 (.int .i64 (0)) (.int .i64 (0)) (.int .i64 (0)) (.int .u64 (0)) (.int .u64 (0)) (.int .i64 (0)) (blk_far (blk_far Kb.out (by simp) _) (by simp) _)
  case hz1 =>
    refine ⟨rfl, ?_⟩
    repeat (first | with_reducible exact Na.out | with_reducible exact pw_below_drewN Na.out _ | (with_reducible refine below_cell ?_ ?_ _; rotate_left; omega))
set_option maxHeartbeats 4000000 in
set_option maxRecDepth 100000 in
theorem derive_5_no (o r b g n r' b' g' n' : Int) (w : World) (hc : cap_Check.f 10 5 o r b g n = some 0) (hr : rights_Check.f r' = some false) :
    Calls Try.prog 10 #[.agg #[.int .i64 5, .int .i64 o, .int .i64 r, .int .u64 b, .int .u64 g, .int .i64 n], .int .i64 r', .int .u64 b', .int .u64 g', .int .i64 n'] w fun e w' =>
      e = .returned (.tuple #[.agg #[.int .i64 0, .int .i64 0, .int .i64 0, .int .u64 0, .int .u64 0, .int .i64 0], .int .i64 5]) ∧ Below w.heap.size w w' := by
  have A := Aside0.mk hc
  clear hc
  have R := Aside0.mk hr
  clear hr
  have hu := Try.underlying24
  go_enter Try.func10, Try.ntmps10
  go_wp2_with (first
    | (go_at_call 18; (with_reducible refine (cap_Check.calls 10 5 o r b g n 0 _ A.out).mono ?_); rintro e wa ⟨rfl, hb⟩; obtain ⟨Ka, Kb, Na⟩ := two_blocks hb; clear hb; obtain ⟨ca, fa⟩ := row_facts Ka; obtain ⟨cb, fb⟩ := row_facts Kb)
    | (go_at_call 21; (with_reducible refine (rights_Check.calls r' false _ R.out).mono ?_); rintro e w' ⟨rfl, ⟨nd, rfl⟩⟩))
  refine bodyPost_ret (results_ct rfl _ _ (w.heap.size + 1) 24 #[.int .i64 (0), .int .i64 (0), .int .i64 (0), .int .u64 (0), .int .u64 (0), .int .i64 (0)] (0, 0) _ ?hp1 ?hg1 Try.underlying24 rfl (by kernel_rfl)) rfl ?hz1
  case hp1 => rfl
  case hg1 => exact put6 (.int .i64 (0)) (.int .i64 (0)) (.int .i64 (0)) (.int .u64 (0)) (.int .u64 (0)) (.int .i64 (0)) Kb.out
  case hz1 =>
    refine ⟨rfl, ?_⟩
    repeat (first | with_reducible exact Na.out | with_reducible exact pw_below_drewN Na.out _ | (with_reducible refine below_cell ?_ ?_ _; rotate_left; omega))
set_option maxHeartbeats 4000000 in
set_option maxRecDepth 100000 in
theorem derive_5_b (o r b g n r' b' g' n' m : Int) (w : World) (hc : cap_Check.f 10 5 o r b g n = some 0) (hr : rights_Check.f r' = some true) (hm : rights_Mask.f r r' = some m) (hb1 : (b' != 0) = false) (hb2 : (b / 268435456 != 0) = false) :
    Calls Try.prog 10 #[.agg #[.int .i64 5, .int .i64 o, .int .i64 r, .int .u64 b, .int .u64 g, .int .i64 n], .int .i64 r', .int .u64 b', .int .u64 g', .int .i64 n'] w fun e w' =>
      e = .returned (.tuple #[.agg #[.int .i64 5, .int .i64 o, .int .i64 m, .int .u64 b, .int .u64 g, .int .i64 n], .int .i64 0]) ∧ Below w.heap.size w w' := by
  have A := Aside0.mk hc
  clear hc
  have R := Aside0.mk hr
  clear hr
  have M := Aside0.mk hm
  clear hm
  have hu := Try.underlying24
  go_enter Try.func10, Try.ntmps10
  go_wp2_with (first
    | (go_at_call 18; (with_reducible refine (cap_Check.calls 10 5 o r b g n 0 _ A.out).mono ?_); rintro e wa ⟨rfl, hb⟩; obtain ⟨Ka, Kb, Na⟩ := two_blocks hb; clear hb; obtain ⟨ca, fa⟩ := row_facts Ka; obtain ⟨cb, fb⟩ := row_facts Kb)
    | (go_at_call 21; (with_reducible refine (rights_Check.calls r' true _ R.out).mono ?_); rintro e w' ⟨rfl, ⟨nd, rfl⟩⟩)
    | (go_at_call 22; (with_reducible refine (rights_Mask.calls r r' m _ M.out).mono ?_); rintro e w' ⟨rfl, ⟨nd, rfl⟩⟩))
  refine bodyPost_ret (results_ct rfl _ _ (w.heap.size + 1) 24 #[.int .i64 (5), .int .i64 (o), .int .i64 (m), .int .u64 (b), .int .u64 (g), .int .i64 (n)] (0, 0) _ ?hp1 ?hg1 Try.underlying24 rfl (by kernel_rfl)) rfl ?hz1
  case hp1 => rfl
  case hg1 => exact put6 (.int .i64 (5)) (.int .i64 (o)) (.int .i64 (m)) (.int .u64 (b)) (.int .u64 (g)) (.int .i64 (n)) (blk_far Kb.out (by simp) _)
  case hz1 =>
    refine ⟨rfl, ?_⟩
    repeat (first | with_reducible exact Na.out | with_reducible exact pw_below_drewN Na.out _ | (with_reducible refine below_cell ?_ ?_ _; rotate_left; omega))
set_option maxHeartbeats 4000000 in
set_option maxRecDepth 100000 in
theorem derive_5_bx (o r b g n r' b' g' n' m : Int) (w : World) (hc : cap_Check.f 10 5 o r b g n = some 0) (hr : rights_Check.f r' = some true) (hm : rights_Mask.f r r' = some m) (hb1 : (b' != 0) = false) (hb2 : (b / 268435456 != 0) = true) :
    Calls Try.prog 10 #[.agg #[.int .i64 5, .int .i64 o, .int .i64 r, .int .u64 b, .int .u64 g, .int .i64 n], .int .i64 r', .int .u64 b', .int .u64 g', .int .i64 n'] w fun e w' =>
      e = .returned (.tuple #[.agg #[.int .i64 0, .int .i64 0, .int .i64 0, .int .u64 0, .int .u64 0, .int .i64 0], .int .i64 10]) ∧ Below w.heap.size w w' := by
  have A := Aside0.mk hc
  clear hc
  have R := Aside0.mk hr
  clear hr
  have M := Aside0.mk hm
  clear hm
  have hu := Try.underlying24
  go_enter Try.func10, Try.ntmps10
  go_wp2_with (first
    | (go_at_call 18; (with_reducible refine (cap_Check.calls 10 5 o r b g n 0 _ A.out).mono ?_); rintro e wa ⟨rfl, hb⟩; obtain ⟨Ka, Kb, Na⟩ := two_blocks hb; clear hb; obtain ⟨ca, fa⟩ := row_facts Ka; obtain ⟨cb, fb⟩ := row_facts Kb)
    | (go_at_call 21; (with_reducible refine (rights_Check.calls r' true _ R.out).mono ?_); rintro e w' ⟨rfl, ⟨nd, rfl⟩⟩)
    | (go_at_call 22; (with_reducible refine (rights_Mask.calls r r' m _ M.out).mono ?_); rintro e w' ⟨rfl, ⟨nd, rfl⟩⟩))
  refine bodyPost_ret (results_ct rfl _ _ (w.heap.size + 1) 24 #[.int .i64 (0), .int .i64 (0), .int .i64 (0), .int .u64 (0), .int .u64 (0), .int .i64 (0)] (0, 0) _ ?hp1 ?hg1 Try.underlying24 rfl (by kernel_rfl)) rfl ?hz1
  case hp1 => rfl
  case hg1 => exact put6 (.int .i64 (0)) (.int .i64 (0)) (.int .i64 (0)) (.int .u64 (0)) (.int .u64 (0)) (.int .i64 (0)) (blk_far Kb.out (by simp) _)
  case hz1 =>
    refine ⟨rfl, ?_⟩
    repeat (first | with_reducible exact Na.out | with_reducible exact pw_below_drewN Na.out _ | (with_reducible refine below_cell ?_ ?_ _; rotate_left; omega))
set_option maxHeartbeats 4000000 in
set_option maxRecDepth 100000 in
theorem derive_5_s (o r b g n r' b' g' n' m : Int) (w : World) (hc : cap_Check.f 10 5 o r b g n = some 0) (hr : rights_Check.f r' = some true) (hm : rights_Mask.f r r' = some m) (hb1 : (b' != 0) = true) (hb2 : (b != 0) = true) :
    Calls Try.prog 10 #[.agg #[.int .i64 5, .int .i64 o, .int .i64 r, .int .u64 b, .int .u64 g, .int .i64 n], .int .i64 r', .int .u64 b', .int .u64 g', .int .i64 n'] w fun e w' =>
      e = .returned (.tuple #[.agg #[.int .i64 0, .int .i64 0, .int .i64 0, .int .u64 0, .int .u64 0, .int .i64 0], .int .i64 8]) ∧ Below w.heap.size w w' := by
  have A := Aside0.mk hc
  clear hc
  have R := Aside0.mk hr
  clear hr
  have M := Aside0.mk hm
  clear hm
  have hu := Try.underlying24
  go_enter Try.func10, Try.ntmps10
  go_wp2_with (first
    | (go_at_call 18; (with_reducible refine (cap_Check.calls 10 5 o r b g n 0 _ A.out).mono ?_); rintro e wa ⟨rfl, hb⟩; obtain ⟨Ka, Kb, Na⟩ := two_blocks hb; clear hb; obtain ⟨ca, fa⟩ := row_facts Ka; obtain ⟨cb, fb⟩ := row_facts Kb)
    | (go_at_call 21; (with_reducible refine (rights_Check.calls r' true _ R.out).mono ?_); rintro e w' ⟨rfl, ⟨nd, rfl⟩⟩)
    | (go_at_call 22; (with_reducible refine (rights_Mask.calls r r' m _ M.out).mono ?_); rintro e w' ⟨rfl, ⟨nd, rfl⟩⟩))
  refine bodyPost_ret (results_ct rfl _ _ (w.heap.size + 1) 24 #[.int .i64 (0), .int .i64 (0), .int .i64 (0), .int .u64 (0), .int .u64 (0), .int .i64 (0)] (0, 0) _ ?hp1 ?hg1 Try.underlying24 rfl (by kernel_rfl)) rfl ?hz1
  case hp1 => rfl
  case hg1 => exact put6 (.int .i64 (0)) (.int .i64 (0)) (.int .i64 (0)) (.int .u64 (0)) (.int .u64 (0)) (.int .i64 (0)) (blk_far Kb.out (by simp) _)
  case hz1 =>
    refine ⟨rfl, ?_⟩
    repeat (first | with_reducible exact Na.out | with_reducible exact pw_below_drewN Na.out _ | (with_reducible refine below_cell ?_ ?_ _; rotate_left; omega))
set_option maxHeartbeats 4000000 in
set_option maxRecDepth 100000 in
theorem derive_5_n (o r b g n r' b' g' n' m : Int) (w : World) (hc : cap_Check.f 10 5 o r b g n = some 0) (hr : rights_Check.f r' = some true) (hm : rights_Mask.f r r' = some m) (hb1 : (b' != 0) = true) (hb2 : (b != 0) = false) (hb3 : (b' / 268435456 != 0) = false) :
    Calls Try.prog 10 #[.agg #[.int .i64 5, .int .i64 o, .int .i64 r, .int .u64 b, .int .u64 g, .int .i64 n], .int .i64 r', .int .u64 b', .int .u64 g', .int .i64 n'] w fun e w' =>
      e = .returned (.tuple #[.agg #[.int .i64 5, .int .i64 o, .int .i64 m, .int .u64 b', .int .u64 g, .int .i64 n], .int .i64 0]) ∧ Below w.heap.size w w' := by
  have A := Aside0.mk hc
  clear hc
  have R := Aside0.mk hr
  clear hr
  have M := Aside0.mk hm
  clear hm
  have hu := Try.underlying24
  go_enter Try.func10, Try.ntmps10
  go_wp2_with (first
    | (go_at_call 18; (with_reducible refine (cap_Check.calls 10 5 o r b g n 0 _ A.out).mono ?_); rintro e wa ⟨rfl, hb⟩; obtain ⟨Ka, Kb, Na⟩ := two_blocks hb; clear hb; obtain ⟨ca, fa⟩ := row_facts Ka; obtain ⟨cb, fb⟩ := row_facts Kb)
    | (go_at_call 21; (with_reducible refine (rights_Check.calls r' true _ R.out).mono ?_); rintro e w' ⟨rfl, ⟨nd, rfl⟩⟩)
    | (go_at_call 22; (with_reducible refine (rights_Mask.calls r r' m _ M.out).mono ?_); rintro e w' ⟨rfl, ⟨nd, rfl⟩⟩))
  refine bodyPost_ret (results_ct rfl _ _ (w.heap.size + 1) 24 #[.int .i64 (5), .int .i64 (o), .int .i64 (m), .int .u64 (b'), .int .u64 (g), .int .i64 (n)] (0, 0) _ ?hp1 ?hg1 Try.underlying24 rfl (by kernel_rfl)) rfl ?hz1
  case hp1 => rfl
  case hg1 => exact put6 (.int .i64 (5)) (.int .i64 (o)) (.int .i64 (m)) (.int .u64 (b')) (.int .u64 (g)) (.int .i64 (n)) (blk_far (blk_far Kb.out (by simp) _) (by simp) _)
  case hz1 =>
    refine ⟨rfl, ?_⟩
    repeat (first | with_reducible exact Na.out | with_reducible exact pw_below_drewN Na.out _ | (with_reducible refine below_cell ?_ ?_ _; rotate_left; omega))
set_option maxHeartbeats 4000000 in
set_option maxRecDepth 100000 in
theorem derive_5_nx (o r b g n r' b' g' n' m : Int) (w : World) (hc : cap_Check.f 10 5 o r b g n = some 0) (hr : rights_Check.f r' = some true) (hm : rights_Mask.f r r' = some m) (hb1 : (b' != 0) = true) (hb2 : (b != 0) = false) (hb3 : (b' / 268435456 != 0) = true) :
    Calls Try.prog 10 #[.agg #[.int .i64 5, .int .i64 o, .int .i64 r, .int .u64 b, .int .u64 g, .int .i64 n], .int .i64 r', .int .u64 b', .int .u64 g', .int .i64 n'] w fun e w' =>
      e = .returned (.tuple #[.agg #[.int .i64 0, .int .i64 0, .int .i64 0, .int .u64 0, .int .u64 0, .int .i64 0], .int .i64 10]) ∧ Below w.heap.size w w' := by
  have A := Aside0.mk hc
  clear hc
  have R := Aside0.mk hr
  clear hr
  have M := Aside0.mk hm
  clear hm
  have hu := Try.underlying24
  go_enter Try.func10, Try.ntmps10
  go_wp2_with (first
    | (go_at_call 18; (with_reducible refine (cap_Check.calls 10 5 o r b g n 0 _ A.out).mono ?_); rintro e wa ⟨rfl, hb⟩; obtain ⟨Ka, Kb, Na⟩ := two_blocks hb; clear hb; obtain ⟨ca, fa⟩ := row_facts Ka; obtain ⟨cb, fb⟩ := row_facts Kb)
    | (go_at_call 21; (with_reducible refine (rights_Check.calls r' true _ R.out).mono ?_); rintro e w' ⟨rfl, ⟨nd, rfl⟩⟩)
    | (go_at_call 22; (with_reducible refine (rights_Mask.calls r r' m _ M.out).mono ?_); rintro e w' ⟨rfl, ⟨nd, rfl⟩⟩))
  refine bodyPost_ret (results_ct rfl _ _ (w.heap.size + 1) 24 #[.int .i64 (0), .int .i64 (0), .int .i64 (0), .int .u64 (0), .int .u64 (0), .int .i64 (0)] (0, 0) _ ?hp1 ?hg1 Try.underlying24 rfl (by kernel_rfl)) rfl ?hz1
  case hp1 => rfl
  case hg1 => exact put6 (.int .i64 (0)) (.int .i64 (0)) (.int .i64 (0)) (.int .u64 (0)) (.int .u64 (0)) (.int .i64 (0)) (blk_far (blk_far Kb.out (by simp) _) (by simp) _)
  case hz1 =>
    refine ⟨rfl, ?_⟩
    repeat (first | with_reducible exact Na.out | with_reducible exact pw_below_drewN Na.out _ | (with_reducible refine below_cell ?_ ?_ _; rotate_left; omega))
set_option maxHeartbeats 4000000 in
set_option maxRecDepth 100000 in
theorem derive_6_no (o r b g n r' b' g' n' : Int) (w : World) (hc : cap_Check.f 10 6 o r b g n = some 0) (hr : rights_Check.f r' = some false) :
    Calls Try.prog 10 #[.agg #[.int .i64 6, .int .i64 o, .int .i64 r, .int .u64 b, .int .u64 g, .int .i64 n], .int .i64 r', .int .u64 b', .int .u64 g', .int .i64 n'] w fun e w' =>
      e = .returned (.tuple #[.agg #[.int .i64 0, .int .i64 0, .int .i64 0, .int .u64 0, .int .u64 0, .int .i64 0], .int .i64 5]) ∧ Below w.heap.size w w' := by
  have A := Aside0.mk hc
  clear hc
  have R := Aside0.mk hr
  clear hr
  have hu := Try.underlying24
  go_enter Try.func10, Try.ntmps10
  go_wp2_with (first
    | (go_at_call 18; (with_reducible refine (cap_Check.calls 10 6 o r b g n 0 _ A.out).mono ?_); rintro e wa ⟨rfl, hb⟩; obtain ⟨Ka, Kb, Na⟩ := two_blocks hb; clear hb; obtain ⟨ca, fa⟩ := row_facts Ka; obtain ⟨cb, fb⟩ := row_facts Kb)
    | (go_at_call 21; (with_reducible refine (rights_Check.calls r' false _ R.out).mono ?_); rintro e w' ⟨rfl, ⟨nd, rfl⟩⟩))
  refine bodyPost_ret (results_ct rfl _ _ (w.heap.size + 1) 24 #[.int .i64 (0), .int .i64 (0), .int .i64 (0), .int .u64 (0), .int .u64 (0), .int .i64 (0)] (0, 0) _ ?hp1 ?hg1 Try.underlying24 rfl (by kernel_rfl)) rfl ?hz1
  case hp1 => rfl
  case hg1 => exact put6 (.int .i64 (0)) (.int .i64 (0)) (.int .i64 (0)) (.int .u64 (0)) (.int .u64 (0)) (.int .i64 (0)) Kb.out
  case hz1 =>
    refine ⟨rfl, ?_⟩
    repeat (first | with_reducible exact Na.out | with_reducible exact pw_below_drewN Na.out _ | (with_reducible refine below_cell ?_ ?_ _; rotate_left; omega))
set_option maxHeartbeats 4000000 in
set_option maxRecDepth 100000 in
theorem derive_6 (o r b g n r' b' g' n' m : Int) (w : World) (hc : cap_Check.f 10 6 o r b g n = some 0) (hr : rights_Check.f r' = some true) (hm : rights_Mask.f r r' = some m) :
    Calls Try.prog 10 #[.agg #[.int .i64 6, .int .i64 o, .int .i64 r, .int .u64 b, .int .u64 g, .int .i64 n], .int .i64 r', .int .u64 b', .int .u64 g', .int .i64 n'] w fun e w' =>
      e = .returned (.tuple #[.agg #[.int .i64 6, .int .i64 o, .int .i64 m, .int .u64 b, .int .u64 g, .int .i64 n], .int .i64 0]) ∧ Below w.heap.size w w' := by
  have A := Aside0.mk hc
  clear hc
  have R := Aside0.mk hr
  clear hr
  have M := Aside0.mk hm
  clear hm
  have hu := Try.underlying24
  go_enter Try.func10, Try.ntmps10
  go_wp2_with (first
    | (go_at_call 18; (with_reducible refine (cap_Check.calls 10 6 o r b g n 0 _ A.out).mono ?_); rintro e wa ⟨rfl, hb⟩; obtain ⟨Ka, Kb, Na⟩ := two_blocks hb; clear hb; obtain ⟨ca, fa⟩ := row_facts Ka; obtain ⟨cb, fb⟩ := row_facts Kb)
    | (go_at_call 21; (with_reducible refine (rights_Check.calls r' true _ R.out).mono ?_); rintro e w' ⟨rfl, ⟨nd, rfl⟩⟩)
    | (go_at_call 22; (with_reducible refine (rights_Mask.calls r r' m _ M.out).mono ?_); rintro e w' ⟨rfl, ⟨nd, rfl⟩⟩))
  refine bodyPost_ret (results_ct rfl _ _ (w.heap.size + 1) 24 #[.int .i64 (6), .int .i64 (o), .int .i64 (m), .int .u64 (b), .int .u64 (g), .int .i64 (n)] (0, 0) _ ?hp1 ?hg1 Try.underlying24 rfl (by kernel_rfl)) rfl ?hz1
  case hp1 => rfl
  case hg1 => exact put6 (.int .i64 (6)) (.int .i64 (o)) (.int .i64 (m)) (.int .u64 (b)) (.int .u64 (g)) (.int .i64 (n)) (blk_far Kb.out (by simp) _)
  case hz1 =>
    refine ⟨rfl, ?_⟩
    repeat (first | with_reducible exact Na.out | with_reducible exact pw_below_drewN Na.out _ | (with_reducible refine below_cell ?_ ?_ _; rotate_left; omega))
set_option maxHeartbeats 4000000 in
set_option maxRecDepth 100000 in
theorem derive_7_no (o r b g n r' b' g' n' : Int) (w : World) (hc : cap_Check.f 10 7 o r b g n = some 0) (hr : rights_Check.f r' = some false) :
    Calls Try.prog 10 #[.agg #[.int .i64 7, .int .i64 o, .int .i64 r, .int .u64 b, .int .u64 g, .int .i64 n], .int .i64 r', .int .u64 b', .int .u64 g', .int .i64 n'] w fun e w' =>
      e = .returned (.tuple #[.agg #[.int .i64 0, .int .i64 0, .int .i64 0, .int .u64 0, .int .u64 0, .int .i64 0], .int .i64 5]) ∧ Below w.heap.size w w' := by
  have A := Aside0.mk hc
  clear hc
  have R := Aside0.mk hr
  clear hr
  have hu := Try.underlying24
  go_enter Try.func10, Try.ntmps10
  go_wp2_with (first
    | (go_at_call 18; (with_reducible refine (cap_Check.calls 10 7 o r b g n 0 _ A.out).mono ?_); rintro e wa ⟨rfl, hb⟩; obtain ⟨Ka, Kb, Na⟩ := two_blocks hb; clear hb; obtain ⟨ca, fa⟩ := row_facts Ka; obtain ⟨cb, fb⟩ := row_facts Kb)
    | (go_at_call 21; (with_reducible refine (rights_Check.calls r' false _ R.out).mono ?_); rintro e w' ⟨rfl, ⟨nd, rfl⟩⟩))
  refine bodyPost_ret (results_ct rfl _ _ (w.heap.size + 1) 24 #[.int .i64 (0), .int .i64 (0), .int .i64 (0), .int .u64 (0), .int .u64 (0), .int .i64 (0)] (0, 0) _ ?hp1 ?hg1 Try.underlying24 rfl (by kernel_rfl)) rfl ?hz1
  case hp1 => rfl
  case hg1 => exact put6 (.int .i64 (0)) (.int .i64 (0)) (.int .i64 (0)) (.int .u64 (0)) (.int .u64 (0)) (.int .i64 (0)) Kb.out
  case hz1 =>
    refine ⟨rfl, ?_⟩
    repeat (first | with_reducible exact Na.out | with_reducible exact pw_below_drewN Na.out _ | (with_reducible refine below_cell ?_ ?_ _; rotate_left; omega))
set_option maxHeartbeats 4000000 in
set_option maxRecDepth 100000 in
theorem derive_7 (o r b g n r' b' g' n' : Int) (w : World) (hc : cap_Check.f 10 7 o r b g n = some 0) (hr : rights_Check.f r' = some true) :
    Calls Try.prog 10 #[.agg #[.int .i64 7, .int .i64 o, .int .i64 r, .int .u64 b, .int .u64 g, .int .i64 n], .int .i64 r', .int .u64 b', .int .u64 g', .int .i64 n'] w fun e w' =>
      e = .returned (.tuple #[.agg #[.int .i64 7, .int .i64 o, .int .i64 r, .int .u64 b, .int .u64 g, .int .i64 n], .int .i64 0]) ∧ Below w.heap.size w w' := by
  have A := Aside0.mk hc
  clear hc
  have R := Aside0.mk hr
  clear hr
  have hu := Try.underlying24
  go_enter Try.func10, Try.ntmps10
  go_wp2_with (first
    | (go_at_call 18; (with_reducible refine (cap_Check.calls 10 7 o r b g n 0 _ A.out).mono ?_); rintro e wa ⟨rfl, hb⟩; obtain ⟨Ka, Kb, Na⟩ := two_blocks hb; clear hb; obtain ⟨ca, fa⟩ := row_facts Ka; obtain ⟨cb, fb⟩ := row_facts Kb)
    | (go_at_call 21; (with_reducible refine (rights_Check.calls r' true _ R.out).mono ?_); rintro e w' ⟨rfl, ⟨nd, rfl⟩⟩))
  refine bodyPost_ret (results_ct rfl _ _ (w.heap.size + 1) 24 #[.int .i64 (7), .int .i64 (o), .int .i64 (r), .int .u64 (b), .int .u64 (g), .int .i64 (n)] (0, 0) _ ?hp1 ?hg1 Try.underlying24 rfl (by kernel_rfl)) rfl ?hz1
  case hp1 => rfl
  case hg1 => exact put6 (.int .i64 (7)) (.int .i64 (o)) (.int .i64 (r)) (.int .u64 (b)) (.int .u64 (g)) (.int .i64 (n)) Kb.out
  case hz1 =>
    refine ⟨rfl, ?_⟩
    repeat (first | with_reducible exact Na.out | with_reducible exact pw_below_drewN Na.out _ | (with_reducible refine below_cell ?_ ?_ _; rotate_left; omega))
set_option maxHeartbeats 4000000 in
set_option maxRecDepth 100000 in
theorem derive_8_no (o r b g n r' b' g' n' : Int) (w : World) (hc : cap_Check.f 10 8 o r b g n = some 0) (hr : rights_Check.f r' = some false) :
    Calls Try.prog 10 #[.agg #[.int .i64 8, .int .i64 o, .int .i64 r, .int .u64 b, .int .u64 g, .int .i64 n], .int .i64 r', .int .u64 b', .int .u64 g', .int .i64 n'] w fun e w' =>
      e = .returned (.tuple #[.agg #[.int .i64 0, .int .i64 0, .int .i64 0, .int .u64 0, .int .u64 0, .int .i64 0], .int .i64 5]) ∧ Below w.heap.size w w' := by
  have A := Aside0.mk hc
  clear hc
  have R := Aside0.mk hr
  clear hr
  have hu := Try.underlying24
  go_enter Try.func10, Try.ntmps10
  go_wp2_with (first
    | (go_at_call 18; (with_reducible refine (cap_Check.calls 10 8 o r b g n 0 _ A.out).mono ?_); rintro e wa ⟨rfl, hb⟩; obtain ⟨Ka, Kb, Na⟩ := two_blocks hb; clear hb; obtain ⟨ca, fa⟩ := row_facts Ka; obtain ⟨cb, fb⟩ := row_facts Kb)
    | (go_at_call 21; (with_reducible refine (rights_Check.calls r' false _ R.out).mono ?_); rintro e w' ⟨rfl, ⟨nd, rfl⟩⟩))
  refine bodyPost_ret (results_ct rfl _ _ (w.heap.size + 1) 24 #[.int .i64 (0), .int .i64 (0), .int .i64 (0), .int .u64 (0), .int .u64 (0), .int .i64 (0)] (0, 0) _ ?hp1 ?hg1 Try.underlying24 rfl (by kernel_rfl)) rfl ?hz1
  case hp1 => rfl
  case hg1 => exact put6 (.int .i64 (0)) (.int .i64 (0)) (.int .i64 (0)) (.int .u64 (0)) (.int .u64 (0)) (.int .i64 (0)) Kb.out
  case hz1 =>
    refine ⟨rfl, ?_⟩
    repeat (first | with_reducible exact Na.out | with_reducible exact pw_below_drewN Na.out _ | (with_reducible refine below_cell ?_ ?_ _; rotate_left; omega))
set_option maxHeartbeats 4000000 in
set_option maxRecDepth 100000 in
theorem derive_8 (o r b g n r' b' g' n' : Int) (w : World) (hc : cap_Check.f 10 8 o r b g n = some 0) (hr : rights_Check.f r' = some true) :
    Calls Try.prog 10 #[.agg #[.int .i64 8, .int .i64 o, .int .i64 r, .int .u64 b, .int .u64 g, .int .i64 n], .int .i64 r', .int .u64 b', .int .u64 g', .int .i64 n'] w fun e w' =>
      e = .returned (.tuple #[.agg #[.int .i64 8, .int .i64 o, .int .i64 r, .int .u64 b, .int .u64 g, .int .i64 n], .int .i64 0]) ∧ Below w.heap.size w w' := by
  have A := Aside0.mk hc
  clear hc
  have R := Aside0.mk hr
  clear hr
  have hu := Try.underlying24
  go_enter Try.func10, Try.ntmps10
  go_wp2_with (first
    | (go_at_call 18; (with_reducible refine (cap_Check.calls 10 8 o r b g n 0 _ A.out).mono ?_); rintro e wa ⟨rfl, hb⟩; obtain ⟨Ka, Kb, Na⟩ := two_blocks hb; clear hb; obtain ⟨ca, fa⟩ := row_facts Ka; obtain ⟨cb, fb⟩ := row_facts Kb)
    | (go_at_call 21; (with_reducible refine (rights_Check.calls r' true _ R.out).mono ?_); rintro e w' ⟨rfl, ⟨nd, rfl⟩⟩))
  refine bodyPost_ret (results_ct rfl _ _ (w.heap.size + 1) 24 #[.int .i64 (8), .int .i64 (o), .int .i64 (r), .int .u64 (b), .int .u64 (g), .int .i64 (n)] (0, 0) _ ?hp1 ?hg1 Try.underlying24 rfl (by kernel_rfl)) rfl ?hz1
  case hp1 => rfl
  case hg1 => exact put6 (.int .i64 (8)) (.int .i64 (o)) (.int .i64 (r)) (.int .u64 (b)) (.int .u64 (g)) (.int .i64 (n)) Kb.out
  case hz1 =>
    refine ⟨rfl, ?_⟩
    repeat (first | with_reducible exact Na.out | with_reducible exact pw_below_drewN Na.out _ | (with_reducible refine below_cell ?_ ?_ _; rotate_left; omega))
set_option maxHeartbeats 4000000 in
set_option maxRecDepth 100000 in
theorem derive_9_no (o r b g n r' b' g' n' : Int) (w : World) (hc : cap_Check.f 10 9 o r b g n = some 0) (hr : rights_Check.f r' = some false) :
    Calls Try.prog 10 #[.agg #[.int .i64 9, .int .i64 o, .int .i64 r, .int .u64 b, .int .u64 g, .int .i64 n], .int .i64 r', .int .u64 b', .int .u64 g', .int .i64 n'] w fun e w' =>
      e = .returned (.tuple #[.agg #[.int .i64 0, .int .i64 0, .int .i64 0, .int .u64 0, .int .u64 0, .int .i64 0], .int .i64 5]) ∧ Below w.heap.size w w' := by
  have A := Aside0.mk hc
  clear hc
  have R := Aside0.mk hr
  clear hr
  have hu := Try.underlying24
  go_enter Try.func10, Try.ntmps10
  go_wp2_with (first
    | (go_at_call 18; (with_reducible refine (cap_Check.calls 10 9 o r b g n 0 _ A.out).mono ?_); rintro e wa ⟨rfl, hb⟩; obtain ⟨Ka, Kb, Na⟩ := two_blocks hb; clear hb; obtain ⟨ca, fa⟩ := row_facts Ka; obtain ⟨cb, fb⟩ := row_facts Kb)
    | (go_at_call 21; (with_reducible refine (rights_Check.calls r' false _ R.out).mono ?_); rintro e w' ⟨rfl, ⟨nd, rfl⟩⟩))
  refine bodyPost_ret (results_ct rfl _ _ (w.heap.size + 1) 24 #[.int .i64 (0), .int .i64 (0), .int .i64 (0), .int .u64 (0), .int .u64 (0), .int .i64 (0)] (0, 0) _ ?hp1 ?hg1 Try.underlying24 rfl (by kernel_rfl)) rfl ?hz1
  case hp1 => rfl
  case hg1 => exact put6 (.int .i64 (0)) (.int .i64 (0)) (.int .i64 (0)) (.int .u64 (0)) (.int .u64 (0)) (.int .i64 (0)) Kb.out
  case hz1 =>
    refine ⟨rfl, ?_⟩
    repeat (first | with_reducible exact Na.out | with_reducible exact pw_below_drewN Na.out _ | (with_reducible refine below_cell ?_ ?_ _; rotate_left; omega))
set_option maxHeartbeats 4000000 in
set_option maxRecDepth 100000 in
theorem derive_9 (o r b g n r' b' g' n' : Int) (w : World) (hc : cap_Check.f 10 9 o r b g n = some 0) (hr : rights_Check.f r' = some true) :
    Calls Try.prog 10 #[.agg #[.int .i64 9, .int .i64 o, .int .i64 r, .int .u64 b, .int .u64 g, .int .i64 n], .int .i64 r', .int .u64 b', .int .u64 g', .int .i64 n'] w fun e w' =>
      e = .returned (.tuple #[.agg #[.int .i64 9, .int .i64 o, .int .i64 r, .int .u64 b, .int .u64 g, .int .i64 n], .int .i64 0]) ∧ Below w.heap.size w w' := by
  have A := Aside0.mk hc
  clear hc
  have R := Aside0.mk hr
  clear hr
  have hu := Try.underlying24
  go_enter Try.func10, Try.ntmps10
  go_wp2_with (first
    | (go_at_call 18; (with_reducible refine (cap_Check.calls 10 9 o r b g n 0 _ A.out).mono ?_); rintro e wa ⟨rfl, hb⟩; obtain ⟨Ka, Kb, Na⟩ := two_blocks hb; clear hb; obtain ⟨ca, fa⟩ := row_facts Ka; obtain ⟨cb, fb⟩ := row_facts Kb)
    | (go_at_call 21; (with_reducible refine (rights_Check.calls r' true _ R.out).mono ?_); rintro e w' ⟨rfl, ⟨nd, rfl⟩⟩))
  refine bodyPost_ret (results_ct rfl _ _ (w.heap.size + 1) 24 #[.int .i64 (9), .int .i64 (o), .int .i64 (r), .int .u64 (b), .int .u64 (g), .int .i64 (n)] (0, 0) _ ?hp1 ?hg1 Try.underlying24 rfl (by kernel_rfl)) rfl ?hz1
  case hp1 => rfl
  case hg1 => exact put6 (.int .i64 (9)) (.int .i64 (o)) (.int .i64 (r)) (.int .u64 (b)) (.int .u64 (g)) (.int .i64 (n)) Kb.out
  case hz1 =>
    refine ⟨rfl, ?_⟩
    repeat (first | with_reducible exact Na.out | with_reducible exact pw_below_drewN Na.out _ | (with_reducible refine below_cell ?_ ?_ _; rotate_left; omega))
theorem check_kind {k o r b g n : Int} (h : cap_Check.f 10 k o r b g n = some 0) : 0 ≤ k ∧ k ≤ 11 := by
  unfold cap_Check.f at h
  by_cases c : k < 0
  · rw [if_pos c] at h; simp [cap_Check.j0] at h
  · rw [if_neg c] at h
    by_cases c2 : k > 11
    · rw [decide_eq_true c2] at h; simp [cap_Check.j0] at h
    · omega
/-- what is derived of a capability; what is wrong -/
def cap_Derive.f (k o r b g n r' b' g' n' : Int) : Option (Int × Int × Int × Int × Int × Int × Int) :=
  (cap_Check.f 10 k o r b g n).bind fun e => if e = 0 then (if k = 0 then some (0, 0, 0, 0, 0, 0, 3) else if k = 1 ∨ k = 10 ∨ k = 11 then some (0, 0, 0, 0, 0, 0, 2) else
    (rights_Check.f r').bind fun t => if t = true then
      (if k = 6 then (rights_Mask.f r r').bind fun m => some (k, o, m, b, g, n, 0)
      else if k = 2 then (cap_fits.f g' n').bind fun t => if t = true then some (k, o, r, b, g', n', 0) else some (0, 0, 0, 0, 0, 0, 10)
      else if k = 4 ∨ k = 5 then (rights_Mask.f r r').bind fun m => if b' = 0 then (if b / 268435456 = 0 then some (k, o, m, b, g, n, 0) else some (0, 0, 0, 0, 0, 0, 10))
        else if b = 0 then (if b' / 268435456 = 0 then some (k, o, m, b', g, n, 0) else some (0, 0, 0, 0, 0, 0, 10)) else some (0, 0, 0, 0, 0, 0, 8)
      else some (k, o, r, b, g, n, 0)) else some (0, 0, 0, 0, 0, 0, 5)) else some (0, 0, 0, 0, 0, 0, e)
theorem ne_0 {x : Int} (h : x = 0) : (x != 0) = false := bne_eq_false_iff_eq.mpr h
theorem ne_1 {x : Int} (h : ¬ x = 0) : (x != 0) = true := bne_iff_ne.mpr h
theorem cap_Derive.calls (k o r b g n r' b' g' n' r1 r2 r3 r4 r5 r6 r7 : Int) (w : World) (h : cap_Derive.f k o r b g n r' b' g' n' = some (r1, r2, r3, r4, r5, r6, r7)) :
    Calls Try.prog 10 #[.agg #[.int .i64 k, .int .i64 o, .int .i64 r, .int .u64 b, .int .u64 g, .int .i64 n], .int .i64 r', .int .u64 b', .int .u64 g', .int .i64 n'] w fun e w' =>
      e = .returned (.tuple #[.agg #[.int .i64 r1, .int .i64 r2, .int .i64 r3, .int .u64 r4, .int .u64 r5, .int .i64 r6], .int .i64 r7]) ∧ Below w.heap.size w w' := by
  unfold cap_Derive.f at h
  obtain ⟨e, hc, h⟩ := Option.bind_eq_some_iff.mp h
  by_cases c : e = 0
  · subst c
    rw [if_pos rfl] at h
    have hk := check_kind hc
    have hk' : k = 0 ∨ k = 1 ∨ k = 2 ∨ k = 3 ∨ k = 4 ∨ k = 5 ∨ k = 6 ∨ k = 7 ∨ k = 8 ∨ k = 9 ∨ k = 10 ∨ k = 11 := by omega
    clear hk
    rcases hk' with rfl | rfl | rfl | rfl | rfl | rfl | rfl | rfl | rfl | rfl | rfl | rfl
    · rw [if_pos rfl] at h
      simp only [Option.some.injEq, Prod.mk.injEq] at h
      obtain ⟨rfl, rfl, rfl, rfl, rfl, rfl, rfl⟩ := h
      exact derive_0 o r b g n r' b' g' n' w hc
    · rw [if_neg (by decide), if_pos (by decide)] at h
      simp only [Option.some.injEq, Prod.mk.injEq] at h
      obtain ⟨rfl, rfl, rfl, rfl, rfl, rfl, rfl⟩ := h
      exact derive_1 o r b g n r' b' g' n' w hc
    · rw [if_neg (by decide), if_neg (by decide)] at h
      obtain ⟨t, ht, h⟩ := Option.bind_eq_some_iff.mp h
      cases t
      · rw [if_neg (by decide)] at h
        simp only [Option.some.injEq, Prod.mk.injEq] at h
        obtain ⟨rfl, rfl, rfl, rfl, rfl, rfl, rfl⟩ := h
        exact derive_2_no o r b g n r' b' g' n' w hc ht
      · rw [if_pos rfl, if_neg (by decide), if_pos rfl] at h
        obtain ⟨t, hf, h⟩ := Option.bind_eq_some_iff.mp h
        cases t
        · rw [if_neg (by decide)] at h
          simp only [Option.some.injEq, Prod.mk.injEq] at h
          obtain ⟨rfl, rfl, rfl, rfl, rfl, rfl, rfl⟩ := h
          exact derive_2_not o r b g n r' b' g' n' w hc ht hf
        · rw [if_pos rfl] at h
          simp only [Option.some.injEq, Prod.mk.injEq] at h
          obtain ⟨rfl, rfl, rfl, rfl, rfl, rfl, rfl⟩ := h
          exact derive_2_fits o r b g n r' b' g' n' w hc ht hf
    · rw [if_neg (by decide), if_neg (by decide)] at h
      obtain ⟨t, ht, h⟩ := Option.bind_eq_some_iff.mp h
      cases t
      · rw [if_neg (by decide)] at h
        simp only [Option.some.injEq, Prod.mk.injEq] at h
        obtain ⟨rfl, rfl, rfl, rfl, rfl, rfl, rfl⟩ := h
        exact derive_3_no o r b g n r' b' g' n' w hc ht
      · rw [if_pos rfl, if_neg (by decide), if_neg (by decide), if_neg (by decide)] at h
        simp only [Option.some.injEq, Prod.mk.injEq] at h
        obtain ⟨rfl, rfl, rfl, rfl, rfl, rfl, rfl⟩ := h
        exact derive_3 o r b g n r' b' g' n' w hc ht
    · rw [if_neg (by decide), if_neg (by decide)] at h
      obtain ⟨t, ht, h⟩ := Option.bind_eq_some_iff.mp h
      cases t
      · rw [if_neg (by decide)] at h
        simp only [Option.some.injEq, Prod.mk.injEq] at h
        obtain ⟨rfl, rfl, rfl, rfl, rfl, rfl, rfl⟩ := h
        exact derive_4_no o r b g n r' b' g' n' w hc ht
      · rw [if_pos rfl, if_neg (by decide), if_neg (by decide), if_pos (by decide)] at h
        obtain ⟨m, hm, h⟩ := Option.bind_eq_some_iff.mp h
        by_cases c1 : b' = 0
        · rw [if_pos c1] at h
          by_cases c2 : b / 268435456 = 0
          · rw [if_pos c2] at h
            simp only [Option.some.injEq, Prod.mk.injEq] at h
            obtain ⟨rfl, rfl, rfl, rfl, rfl, rfl, rfl⟩ := h
            exact derive_4_b o r b g n r' b' g' n' m w hc ht hm (ne_0 c1) (ne_0 c2)
          · rw [if_neg c2] at h
            simp only [Option.some.injEq, Prod.mk.injEq] at h
            obtain ⟨rfl, rfl, rfl, rfl, rfl, rfl, rfl⟩ := h
            exact derive_4_bx o r b g n r' b' g' n' m w hc ht hm (ne_0 c1) (ne_1 c2)
        · rw [if_neg c1] at h
          by_cases c2 : b = 0
          · rw [if_pos c2] at h
            by_cases c3 : b' / 268435456 = 0
            · rw [if_pos c3] at h
              simp only [Option.some.injEq, Prod.mk.injEq] at h
              obtain ⟨rfl, rfl, rfl, rfl, rfl, rfl, rfl⟩ := h
              exact derive_4_n o r b g n r' b' g' n' m w hc ht hm (ne_1 c1) (ne_0 c2) (ne_0 c3)
            · rw [if_neg c3] at h
              simp only [Option.some.injEq, Prod.mk.injEq] at h
              obtain ⟨rfl, rfl, rfl, rfl, rfl, rfl, rfl⟩ := h
              exact derive_4_nx o r b g n r' b' g' n' m w hc ht hm (ne_1 c1) (ne_0 c2) (ne_1 c3)
          · rw [if_neg c2] at h
            simp only [Option.some.injEq, Prod.mk.injEq] at h
            obtain ⟨rfl, rfl, rfl, rfl, rfl, rfl, rfl⟩ := h
            exact derive_4_s o r b g n r' b' g' n' m w hc ht hm (ne_1 c1) (ne_1 c2)
    · rw [if_neg (by decide), if_neg (by decide)] at h
      obtain ⟨t, ht, h⟩ := Option.bind_eq_some_iff.mp h
      cases t
      · rw [if_neg (by decide)] at h
        simp only [Option.some.injEq, Prod.mk.injEq] at h
        obtain ⟨rfl, rfl, rfl, rfl, rfl, rfl, rfl⟩ := h
        exact derive_5_no o r b g n r' b' g' n' w hc ht
      · rw [if_pos rfl, if_neg (by decide), if_neg (by decide), if_pos (by decide)] at h
        obtain ⟨m, hm, h⟩ := Option.bind_eq_some_iff.mp h
        by_cases c1 : b' = 0
        · rw [if_pos c1] at h
          by_cases c2 : b / 268435456 = 0
          · rw [if_pos c2] at h
            simp only [Option.some.injEq, Prod.mk.injEq] at h
            obtain ⟨rfl, rfl, rfl, rfl, rfl, rfl, rfl⟩ := h
            exact derive_5_b o r b g n r' b' g' n' m w hc ht hm (ne_0 c1) (ne_0 c2)
          · rw [if_neg c2] at h
            simp only [Option.some.injEq, Prod.mk.injEq] at h
            obtain ⟨rfl, rfl, rfl, rfl, rfl, rfl, rfl⟩ := h
            exact derive_5_bx o r b g n r' b' g' n' m w hc ht hm (ne_0 c1) (ne_1 c2)
        · rw [if_neg c1] at h
          by_cases c2 : b = 0
          · rw [if_pos c2] at h
            by_cases c3 : b' / 268435456 = 0
            · rw [if_pos c3] at h
              simp only [Option.some.injEq, Prod.mk.injEq] at h
              obtain ⟨rfl, rfl, rfl, rfl, rfl, rfl, rfl⟩ := h
              exact derive_5_n o r b g n r' b' g' n' m w hc ht hm (ne_1 c1) (ne_0 c2) (ne_0 c3)
            · rw [if_neg c3] at h
              simp only [Option.some.injEq, Prod.mk.injEq] at h
              obtain ⟨rfl, rfl, rfl, rfl, rfl, rfl, rfl⟩ := h
              exact derive_5_nx o r b g n r' b' g' n' m w hc ht hm (ne_1 c1) (ne_0 c2) (ne_1 c3)
          · rw [if_neg c2] at h
            simp only [Option.some.injEq, Prod.mk.injEq] at h
            obtain ⟨rfl, rfl, rfl, rfl, rfl, rfl, rfl⟩ := h
            exact derive_5_s o r b g n r' b' g' n' m w hc ht hm (ne_1 c1) (ne_1 c2)
    · rw [if_neg (by decide), if_neg (by decide)] at h
      obtain ⟨t, ht, h⟩ := Option.bind_eq_some_iff.mp h
      cases t
      · rw [if_neg (by decide)] at h
        simp only [Option.some.injEq, Prod.mk.injEq] at h
        obtain ⟨rfl, rfl, rfl, rfl, rfl, rfl, rfl⟩ := h
        exact derive_6_no o r b g n r' b' g' n' w hc ht
      · rw [if_pos rfl, if_pos rfl] at h
        obtain ⟨m, hm, h⟩ := Option.bind_eq_some_iff.mp h
        simp only [Option.some.injEq, Prod.mk.injEq] at h
        obtain ⟨rfl, rfl, rfl, rfl, rfl, rfl, rfl⟩ := h
        exact derive_6 o r b g n r' b' g' n' m w hc ht hm
    · rw [if_neg (by decide), if_neg (by decide)] at h
      obtain ⟨t, ht, h⟩ := Option.bind_eq_some_iff.mp h
      cases t
      · rw [if_neg (by decide)] at h
        simp only [Option.some.injEq, Prod.mk.injEq] at h
        obtain ⟨rfl, rfl, rfl, rfl, rfl, rfl, rfl⟩ := h
        exact derive_7_no o r b g n r' b' g' n' w hc ht
      · rw [if_pos rfl, if_neg (by decide), if_neg (by decide), if_neg (by decide)] at h
        simp only [Option.some.injEq, Prod.mk.injEq] at h
        obtain ⟨rfl, rfl, rfl, rfl, rfl, rfl, rfl⟩ := h
        exact derive_7 o r b g n r' b' g' n' w hc ht
    · rw [if_neg (by decide), if_neg (by decide)] at h
      obtain ⟨t, ht, h⟩ := Option.bind_eq_some_iff.mp h
      cases t
      · rw [if_neg (by decide)] at h
        simp only [Option.some.injEq, Prod.mk.injEq] at h
        obtain ⟨rfl, rfl, rfl, rfl, rfl, rfl, rfl⟩ := h
        exact derive_8_no o r b g n r' b' g' n' w hc ht
      · rw [if_pos rfl, if_neg (by decide), if_neg (by decide), if_neg (by decide)] at h
        simp only [Option.some.injEq, Prod.mk.injEq] at h
        obtain ⟨rfl, rfl, rfl, rfl, rfl, rfl, rfl⟩ := h
        exact derive_8 o r b g n r' b' g' n' w hc ht
    · rw [if_neg (by decide), if_neg (by decide)] at h
      obtain ⟨t, ht, h⟩ := Option.bind_eq_some_iff.mp h
      cases t
      · rw [if_neg (by decide)] at h
        simp only [Option.some.injEq, Prod.mk.injEq] at h
        obtain ⟨rfl, rfl, rfl, rfl, rfl, rfl, rfl⟩ := h
        exact derive_9_no o r b g n r' b' g' n' w hc ht
      · rw [if_pos rfl, if_neg (by decide), if_neg (by decide), if_neg (by decide)] at h
        simp only [Option.some.injEq, Prod.mk.injEq] at h
        obtain ⟨rfl, rfl, rfl, rfl, rfl, rfl, rfl⟩ := h
        exact derive_9 o r b g n r' b' g' n' w hc ht
    · rw [if_neg (by decide), if_pos (by decide)] at h
      simp only [Option.some.injEq, Prod.mk.injEq] at h
      obtain ⟨rfl, rfl, rfl, rfl, rfl, rfl, rfl⟩ := h
      exact derive_10 o r b g n r' b' g' n' w hc
    · rw [if_neg (by decide), if_pos (by decide)] at h
      simp only [Option.some.injEq, Prod.mk.injEq] at h
      obtain ⟨rfl, rfl, rfl, rfl, rfl, rfl, rfl⟩ := h
      exact derive_11 o r b g n r' b' g' n' w hc
  · rw [if_neg c] at h
    simp only [Option.some.injEq, Prod.mk.injEq] at h
    obtain ⟨rfl, rfl, rfl, rfl, rfl, rfl, rfl⟩ := h
    exact derive_wrong k o r b g n r' b' g' n' e w hc (beq_eq_false_iff_ne.mpr c) (ne_1 c)
end Go.Proofs.Ytfcjlephhnddaaa.Given

