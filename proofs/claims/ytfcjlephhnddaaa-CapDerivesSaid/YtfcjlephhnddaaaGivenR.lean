/- The reference's own derive, walked by hand, kind by kind. -/
import Derived.Test.YtfcjlephhnddaaaGiven
import Derived.Test.YtfcjlephhnddaaaRef2
import Derived.Test.YtfcjlephhnddaaaRef3
import Derived.WalkLawsBesides
import Derived.WalkSpells
import Derived.Outline
namespace Go.Proofs.Ytfcjlephhnddaaa.Given
open Go Go.RowKit Go.Proofs.Ytfcjlephhnddaaa.Ref Go.Proofs.YtfcjlephhnddaaaW.PrintWords Go.Proofs.YtfcjlephhnddaaaW.PrintLast Go.Proofs.YtfcjlephhnddaaaW.PrintMore
set_option linter.unusedVariables false
set_option linter.unusedSimpArgs false
set_option maxHeartbeats 4000000 in
set_option maxRecDepth 100000 in
theorem rderive_wrong {K : Nat} (k o r b g n r' b' g' n' e0 : Int) (w : World) (hc : donjonref05_Check.f K k o r b g n = some e0) (h0 : (e0 == 0) = false) (h1 : (e0 != 0) = true) :
    Calls Try.prog 11 #[.agg #[.int .i64 k, .int .i64 o, .int .i64 r, .int .u64 b, .int .u64 g, .int .i64 n], .int .i64 r', .int .u64 b', .int .u64 g', .int .i64 n'] w fun e w' =>
      e = .returned (.tuple #[.agg #[.int .i64 0, .int .i64 0, .int .i64 0, .int .u64 0, .int .u64 0, .int .i64 0], .int .i64 e0]) ∧ Below w.heap.size w w' := by
  have A := Aside0.mk hc
  clear hc
  have hu := Try.underlying24
  go_enter Try.func11, Try.ntmps11
  go_wp2_with (first
    | (go_at_call 19; (with_reducible refine (donjonref05_Check.calls K k o r b g n e0 _ A.out).mono ?_); rintro e wa ⟨rfl, hb⟩; obtain ⟨Ka, Kb, Na⟩ := two_blocks hb; clear hb; obtain ⟨ca, fa⟩ := row_facts Ka; obtain ⟨cb, fb⟩ := row_facts Kb))
  refine bodyPost_ret (results_ct rfl _ _ (w.heap.size + 1) 24 #[.int .i64 (0), .int .i64 (0), .int .i64 (0), .int .u64 (0), .int .u64 (0), .int .i64 (0)] (0, 0) _ ?hp1 ?hg1 Try.underlying24 rfl (by kernel_rfl)) rfl ?hz1
  case hp1 => rfl
  case hg1 => exact put6 (.int .i64 (0)) (.int .i64 (0)) (.int .i64 (0)) (.int .u64 (0)) (.int .u64 (0)) (.int .i64 (0)) Kb.out
  case hz1 =>
    refine ⟨rfl, ?_⟩
    repeat (first | with_reducible exact Na.out | with_reducible refine pw_below_drewN ?_ _ | (with_reducible refine below_cell ?_ ?_ _; rotate_left; omega))
set_option maxHeartbeats 4000000 in
set_option maxRecDepth 100000 in
theorem rderive_0 {K : Nat} (o r b g n r' b' g' n' : Int) (w : World) (hc : donjonref05_Check.f K 0 o r b g n = some 0)  :
    Calls Try.prog 11 #[.agg #[.int .i64 0, .int .i64 o, .int .i64 r, .int .u64 b, .int .u64 g, .int .i64 n], .int .i64 r', .int .u64 b', .int .u64 g', .int .i64 n'] w fun e w' =>
      e = .returned (.tuple #[.agg #[.int .i64 0, .int .i64 0, .int .i64 0, .int .u64 0, .int .u64 0, .int .i64 0], .int .i64 3]) ∧ Below w.heap.size w w' := by
  have A := Aside0.mk hc
  clear hc
  have hu := Try.underlying24
  go_enter Try.func11, Try.ntmps11
  go_wp2_with (first
    | (go_at_call 19; (with_reducible refine (donjonref05_Check.calls K 0 o r b g n 0 _ A.out).mono ?_); rintro e wa ⟨rfl, hb⟩; obtain ⟨Ka, Kb, Na⟩ := two_blocks hb; clear hb; obtain ⟨ca, fa⟩ := row_facts Ka; obtain ⟨cb, fb⟩ := row_facts Kb))
  refine bodyPost_ret (results_ct rfl _ _ (w.heap.size + 1) 24 #[.int .i64 (0), .int .i64 (0), .int .i64 (0), .int .u64 (0), .int .u64 (0), .int .i64 (0)] (0, 0) _ ?hp1 ?hg1 Try.underlying24 rfl (by kernel_rfl)) rfl ?hz1
  case hp1 => rfl
  case hg1 => exact put6 (.int .i64 (0)) (.int .i64 (0)) (.int .i64 (0)) (.int .u64 (0)) (.int .u64 (0)) (.int .i64 (0)) Kb.out
  case hz1 =>
    refine ⟨rfl, ?_⟩
    repeat (first | with_reducible exact Na.out | with_reducible refine pw_below_drewN ?_ _ | (with_reducible refine below_cell ?_ ?_ _; rotate_left; omega))
set_option maxHeartbeats 4000000 in
set_option maxRecDepth 100000 in
theorem rderive_1 {K : Nat} (o r b g n r' b' g' n' : Int) (w : World) (hc : donjonref05_Check.f K 1 o r b g n = some 0)  :
    Calls Try.prog 11 #[.agg #[.int .i64 1, .int .i64 o, .int .i64 r, .int .u64 b, .int .u64 g, .int .i64 n], .int .i64 r', .int .u64 b', .int .u64 g', .int .i64 n'] w fun e w' =>
      e = .returned (.tuple #[.agg #[.int .i64 0, .int .i64 0, .int .i64 0, .int .u64 0, .int .u64 0, .int .i64 0], .int .i64 2]) ∧ Below w.heap.size w w' := by
  have A := Aside0.mk hc
  clear hc
  have hu := Try.underlying24
  go_enter Try.func11, Try.ntmps11
  go_wp2_with (first
    | (go_at_call 19; (with_reducible refine (donjonref05_Check.calls K 1 o r b g n 0 _ A.out).mono ?_); rintro e wa ⟨rfl, hb⟩; obtain ⟨Ka, Kb, Na⟩ := two_blocks hb; clear hb; obtain ⟨ca, fa⟩ := row_facts Ka; obtain ⟨cb, fb⟩ := row_facts Kb))
  refine bodyPost_ret (results_ct rfl _ _ (w.heap.size + 1) 24 #[.int .i64 (0), .int .i64 (0), .int .i64 (0), .int .u64 (0), .int .u64 (0), .int .i64 (0)] (0, 0) _ ?hp1 ?hg1 Try.underlying24 rfl (by kernel_rfl)) rfl ?hz1
  case hp1 => rfl
  case hg1 => exact put6 (.int .i64 (0)) (.int .i64 (0)) (.int .i64 (0)) (.int .u64 (0)) (.int .u64 (0)) (.int .i64 (0)) Kb.out
  case hz1 =>
    refine ⟨rfl, ?_⟩
    repeat (first | with_reducible exact Na.out | with_reducible refine pw_below_drewN ?_ _ | (with_reducible refine below_cell ?_ ?_ _; rotate_left; omega))
set_option maxHeartbeats 4000000 in
set_option maxRecDepth 100000 in
theorem rderive_10 {K : Nat} (o r b g n r' b' g' n' : Int) (w : World) (hc : donjonref05_Check.f K 10 o r b g n = some 0)  :
    Calls Try.prog 11 #[.agg #[.int .i64 10, .int .i64 o, .int .i64 r, .int .u64 b, .int .u64 g, .int .i64 n], .int .i64 r', .int .u64 b', .int .u64 g', .int .i64 n'] w fun e w' =>
      e = .returned (.tuple #[.agg #[.int .i64 0, .int .i64 0, .int .i64 0, .int .u64 0, .int .u64 0, .int .i64 0], .int .i64 2]) ∧ Below w.heap.size w w' := by
  have A := Aside0.mk hc
  clear hc
  have hu := Try.underlying24
  go_enter Try.func11, Try.ntmps11
  go_wp2_with (first
    | (go_at_call 19; (with_reducible refine (donjonref05_Check.calls K 10 o r b g n 0 _ A.out).mono ?_); rintro e wa ⟨rfl, hb⟩; obtain ⟨Ka, Kb, Na⟩ := two_blocks hb; clear hb; obtain ⟨ca, fa⟩ := row_facts Ka; obtain ⟨cb, fb⟩ := row_facts Kb))
  refine bodyPost_ret (results_ct rfl _ _ (w.heap.size + 1) 24 #[.int .i64 (0), .int .i64 (0), .int .i64 (0), .int .u64 (0), .int .u64 (0), .int .i64 (0)] (0, 0) _ ?hp1 ?hg1 Try.underlying24 rfl (by kernel_rfl)) rfl ?hz1
  case hp1 => rfl
  case hg1 => exact put6 (.int .i64 (0)) (.int .i64 (0)) (.int .i64 (0)) (.int .u64 (0)) (.int .u64 (0)) (.int .i64 (0)) Kb.out
  case hz1 =>
    refine ⟨rfl, ?_⟩
    repeat (first | with_reducible exact Na.out | with_reducible refine pw_below_drewN ?_ _ | (with_reducible refine below_cell ?_ ?_ _; rotate_left; omega))
set_option maxHeartbeats 4000000 in
set_option maxRecDepth 100000 in
theorem rderive_11 {K : Nat} (o r b g n r' b' g' n' : Int) (w : World) (hc : donjonref05_Check.f K 11 o r b g n = some 0)  :
    Calls Try.prog 11 #[.agg #[.int .i64 11, .int .i64 o, .int .i64 r, .int .u64 b, .int .u64 g, .int .i64 n], .int .i64 r', .int .u64 b', .int .u64 g', .int .i64 n'] w fun e w' =>
      e = .returned (.tuple #[.agg #[.int .i64 0, .int .i64 0, .int .i64 0, .int .u64 0, .int .u64 0, .int .i64 0], .int .i64 2]) ∧ Below w.heap.size w w' := by
  have A := Aside0.mk hc
  clear hc
  have hu := Try.underlying24
  go_enter Try.func11, Try.ntmps11
  go_wp2_with (first
    | (go_at_call 19; (with_reducible refine (donjonref05_Check.calls K 11 o r b g n 0 _ A.out).mono ?_); rintro e wa ⟨rfl, hb⟩; obtain ⟨Ka, Kb, Na⟩ := two_blocks hb; clear hb; obtain ⟨ca, fa⟩ := row_facts Ka; obtain ⟨cb, fb⟩ := row_facts Kb))
  refine bodyPost_ret (results_ct rfl _ _ (w.heap.size + 1) 24 #[.int .i64 (0), .int .i64 (0), .int .i64 (0), .int .u64 (0), .int .u64 (0), .int .i64 (0)] (0, 0) _ ?hp1 ?hg1 Try.underlying24 rfl (by kernel_rfl)) rfl ?hz1
  case hp1 => rfl
  case hg1 => exact put6 (.int .i64 (0)) (.int .i64 (0)) (.int .i64 (0)) (.int .u64 (0)) (.int .u64 (0)) (.int .i64 (0)) Kb.out
  case hz1 =>
    refine ⟨rfl, ?_⟩
    repeat (first | with_reducible exact Na.out | with_reducible refine pw_below_drewN ?_ _ | (with_reducible refine below_cell ?_ ?_ _; rotate_left; omega))
set_option maxHeartbeats 4000000 in
set_option maxRecDepth 100000 in
theorem rderive_2_no {K : Nat} (o r b g n r' b' g' n' : Int) (w : World) (hc : donjonref05_Check.f K 2 o r b g n = some 0) (hr : donjonref04_Check.f r' = some false) :
    Calls Try.prog 11 #[.agg #[.int .i64 2, .int .i64 o, .int .i64 r, .int .u64 b, .int .u64 g, .int .i64 n], .int .i64 r', .int .u64 b', .int .u64 g', .int .i64 n'] w fun e w' =>
      e = .returned (.tuple #[.agg #[.int .i64 0, .int .i64 0, .int .i64 0, .int .u64 0, .int .u64 0, .int .i64 0], .int .i64 5]) ∧ Below w.heap.size w w' := by
  have A := Aside0.mk hc
  clear hc
  have R := Aside0.mk hr
  clear hr
  have hu := Try.underlying24
  go_enter Try.func11, Try.ntmps11
  go_wp2_with (first
    | (go_at_call 19; (with_reducible refine (donjonref05_Check.calls K 2 o r b g n 0 _ A.out).mono ?_); rintro e wa ⟨rfl, hb⟩; obtain ⟨Ka, Kb, Na⟩ := two_blocks hb; clear hb; obtain ⟨ca, fa⟩ := row_facts Ka; obtain ⟨cb, fb⟩ := row_facts Kb)
    | (go_at_call 24; (with_reducible refine (donjonref04_Check.calls r' false _ R.out).mono ?_); rintro e w' ⟨rfl, ⟨nd, rfl⟩⟩))
  refine bodyPost_ret (results_ct rfl _ _ (w.heap.size + 1) 24 #[.int .i64 (0), .int .i64 (0), .int .i64 (0), .int .u64 (0), .int .u64 (0), .int .i64 (0)] (0, 0) _ ?hp1 ?hg1 Try.underlying24 rfl (by kernel_rfl)) rfl ?hz1
  case hp1 => rfl
  case hg1 => exact put6 (.int .i64 (0)) (.int .i64 (0)) (.int .i64 (0)) (.int .u64 (0)) (.int .u64 (0)) (.int .i64 (0)) Kb.out
  case hz1 =>
    refine ⟨rfl, ?_⟩
    repeat (first | with_reducible exact Na.out | with_reducible refine pw_below_drewN ?_ _ | (with_reducible refine below_cell ?_ ?_ _; rotate_left; omega))
set_option maxHeartbeats 4000000 in
set_option maxRecDepth 100000 in
theorem rderive_2_fits {K : Nat} (o r b g n r' b' g' n' : Int) (w : World) (hc : donjonref05_Check.f K 2 o r b g n = some 0) (hr : donjonref04_Check.f r' = some true) (hf : donjonref05_guarded.f g' n' = some true) :
    Calls Try.prog 11 #[.agg #[.int .i64 2, .int .i64 o, .int .i64 r, .int .u64 b, .int .u64 g, .int .i64 n], .int .i64 r', .int .u64 b', .int .u64 g', .int .i64 n'] w fun e w' =>
      e = .returned (.tuple #[.agg #[.int .i64 2, .int .i64 o, .int .i64 r, .int .u64 b, .int .u64 g', .int .i64 n'], .int .i64 0]) ∧ Below w.heap.size w w' := by
  have A := Aside0.mk hc
  clear hc
  have R := Aside0.mk hr
  clear hr
  have F := Aside0.mk hf
  clear hf
  have hu := Try.underlying24
  go_enter Try.func11, Try.ntmps11
  go_wp2_with (first
    | (go_at_call 19; (with_reducible refine (donjonref05_Check.calls K 2 o r b g n 0 _ A.out).mono ?_); rintro e wa ⟨rfl, hb⟩; obtain ⟨Ka, Kb, Na⟩ := two_blocks hb; clear hb; obtain ⟨ca, fa⟩ := row_facts Ka; obtain ⟨cb, fb⟩ := row_facts Kb)
    | (go_at_call 24; (with_reducible refine (donjonref04_Check.calls r' true _ R.out).mono ?_); rintro e w' ⟨rfl, ⟨nd, rfl⟩⟩)
    | (go_at_call 25; (with_reducible refine (donjonref05_Righted.calls 2 false _ rfl).mono ?_); rintro e w' ⟨rfl, ⟨nd, rfl⟩⟩)
    | (go_at_call 27; (with_reducible refine (donjonref05_Badged.calls 2 false _ rfl).mono ?_); rintro e w' ⟨rfl, ⟨nd, rfl⟩⟩)
    | (go_at_call 28; (with_reducible refine (donjonref05_guarded.calls g' n' true _ F.out).mono ?_); rintro e w' ⟨rfl, ⟨nd, rfl⟩⟩))
  refine bodyPost_ret (results_ct rfl _ _ (w.heap.size + 1) 24 #[.int .i64 (2), .int .i64 (o), .int .i64 (r), .int .u64 (b), .int .u64 (g'), .int .i64 (n')] (0, 0) _ ?hp1 ?hg1 Try.underlying24 rfl (by kernel_rfl)) rfl ?hz1
  case hp1 => rfl
  case hg1 => exact put6 (.int .i64 (2)) (.int .i64 (o)) (.int .i64 (r)) (.int .u64 (b)) (.int .u64 (g')) (.int .i64 (n')) (blk_far (blk_far Kb.out (by simp) _) (by simp) _)
  case hz1 =>
    refine ⟨rfl, ?_⟩
    repeat (first | with_reducible exact Na.out | with_reducible refine pw_below_drewN ?_ _ | (with_reducible refine below_cell ?_ ?_ _; rotate_left; omega))
set_option maxHeartbeats 4000000 in
set_option maxRecDepth 100000 in
theorem rderive_2_not {K : Nat} (o r b g n r' b' g' n' : Int) (w : World) (hc : donjonref05_Check.f K 2 o r b g n = some 0) (hr : donjonref04_Check.f r' = some true) (hf : donjonref05_guarded.f g' n' = some false) :
    Calls Try.prog 11 #[.agg #[.int .i64 2, .int .i64 o, .int .i64 r, .int .u64 b, .int .u64 g, .int .i64 n], .int .i64 r', .int .u64 b', .int .u64 g', .int .i64 n'] w fun e w' =>
      e = .returned (.tuple #[.agg #[.int .i64 0, .int .i64 0, .int .i64 0, .int .u64 0, .int .u64 0, .int .i64 0], .int .i64 10]) ∧ Below w.heap.size w w' := by
  have A := Aside0.mk hc
  clear hc
  have R := Aside0.mk hr
  clear hr
  have F := Aside0.mk hf
  clear hf
  have hu := Try.underlying24
  go_enter Try.func11, Try.ntmps11
  go_wp2_with (first
    | (go_at_call 19; (with_reducible refine (donjonref05_Check.calls K 2 o r b g n 0 _ A.out).mono ?_); rintro e wa ⟨rfl, hb⟩; obtain ⟨Ka, Kb, Na⟩ := two_blocks hb; clear hb; obtain ⟨ca, fa⟩ := row_facts Ka; obtain ⟨cb, fb⟩ := row_facts Kb)
    | (go_at_call 24; (with_reducible refine (donjonref04_Check.calls r' true _ R.out).mono ?_); rintro e w' ⟨rfl, ⟨nd, rfl⟩⟩)
    | (go_at_call 25; (with_reducible refine (donjonref05_Righted.calls 2 false _ rfl).mono ?_); rintro e w' ⟨rfl, ⟨nd, rfl⟩⟩)
    | (go_at_call 27; (with_reducible refine (donjonref05_Badged.calls 2 false _ rfl).mono ?_); rintro e w' ⟨rfl, ⟨nd, rfl⟩⟩)
    | (go_at_call 28; (with_reducible refine (donjonref05_guarded.calls g' n' false _ F.out).mono ?_); rintro e w' ⟨rfl, ⟨nd, rfl⟩⟩))
  refine bodyPost_ret (results_ct rfl _ _ (w.heap.size + 1) 24 #[.int .i64 (0), .int .i64 (0), .int .i64 (0), .int .u64 (0), .int .u64 (0), .int .i64 (0)] (0, 0) _ ?hp1 ?hg1 Try.underlying24 rfl (by kernel_rfl)) rfl ?hz1
  case hp1 => rfl
  case hg1 => exact put6 (.int .i64 (0)) (.int .i64 (0)) (.int .i64 (0)) (.int .u64 (0)) (.int .u64 (0)) (.int .i64 (0)) Kb.out
  case hz1 =>
    refine ⟨rfl, ?_⟩
    repeat (first | with_reducible exact Na.out | with_reducible refine pw_below_drewN ?_ _ | (with_reducible refine below_cell ?_ ?_ _; rotate_left; omega))
set_option maxHeartbeats 4000000 in
set_option maxRecDepth 100000 in
theorem rderive_3_no {K : Nat} (o r b g n r' b' g' n' : Int) (w : World) (hc : donjonref05_Check.f K 3 o r b g n = some 0) (hr : donjonref04_Check.f r' = some false) :
    Calls Try.prog 11 #[.agg #[.int .i64 3, .int .i64 o, .int .i64 r, .int .u64 b, .int .u64 g, .int .i64 n], .int .i64 r', .int .u64 b', .int .u64 g', .int .i64 n'] w fun e w' =>
      e = .returned (.tuple #[.agg #[.int .i64 0, .int .i64 0, .int .i64 0, .int .u64 0, .int .u64 0, .int .i64 0], .int .i64 5]) ∧ Below w.heap.size w w' := by
  have A := Aside0.mk hc
  clear hc
  have R := Aside0.mk hr
  clear hr
  have hu := Try.underlying24
  go_enter Try.func11, Try.ntmps11
  go_wp2_with (first
    | (go_at_call 19; (with_reducible refine (donjonref05_Check.calls K 3 o r b g n 0 _ A.out).mono ?_); rintro e wa ⟨rfl, hb⟩; obtain ⟨Ka, Kb, Na⟩ := two_blocks hb; clear hb; obtain ⟨ca, fa⟩ := row_facts Ka; obtain ⟨cb, fb⟩ := row_facts Kb)
    | (go_at_call 24; (with_reducible refine (donjonref04_Check.calls r' false _ R.out).mono ?_); rintro e w' ⟨rfl, ⟨nd, rfl⟩⟩))
  refine bodyPost_ret (results_ct rfl _ _ (w.heap.size + 1) 24 #[.int .i64 (0), .int .i64 (0), .int .i64 (0), .int .u64 (0), .int .u64 (0), .int .i64 (0)] (0, 0) _ ?hp1 ?hg1 Try.underlying24 rfl (by kernel_rfl)) rfl ?hz1
  case hp1 => rfl
  case hg1 => exact put6 (.int .i64 (0)) (.int .i64 (0)) (.int .i64 (0)) (.int .u64 (0)) (.int .u64 (0)) (.int .i64 (0)) Kb.out
  case hz1 =>
    refine ⟨rfl, ?_⟩
    repeat (first | with_reducible exact Na.out | with_reducible refine pw_below_drewN ?_ _ | (with_reducible refine below_cell ?_ ?_ _; rotate_left; omega))
set_option maxHeartbeats 4000000 in
set_option maxRecDepth 100000 in
theorem rderive_3 {K : Nat} (o r b g n r' b' g' n' : Int) (w : World) (hc : donjonref05_Check.f K 3 o r b g n = some 0) (hr : donjonref04_Check.f r' = some true) :
    Calls Try.prog 11 #[.agg #[.int .i64 3, .int .i64 o, .int .i64 r, .int .u64 b, .int .u64 g, .int .i64 n], .int .i64 r', .int .u64 b', .int .u64 g', .int .i64 n'] w fun e w' =>
      e = .returned (.tuple #[.agg #[.int .i64 3, .int .i64 o, .int .i64 r, .int .u64 b, .int .u64 g, .int .i64 n], .int .i64 0]) ∧ Below w.heap.size w w' := by
  have A := Aside0.mk hc
  clear hc
  have R := Aside0.mk hr
  clear hr
  have hu := Try.underlying24
  go_enter Try.func11, Try.ntmps11
  go_wp2_with (first
    | (go_at_call 19; (with_reducible refine (donjonref05_Check.calls K 3 o r b g n 0 _ A.out).mono ?_); rintro e wa ⟨rfl, hb⟩; obtain ⟨Ka, Kb, Na⟩ := two_blocks hb; clear hb; obtain ⟨ca, fa⟩ := row_facts Ka; obtain ⟨cb, fb⟩ := row_facts Kb)
    | (go_at_call 24; (with_reducible refine (donjonref04_Check.calls r' true _ R.out).mono ?_); rintro e w' ⟨rfl, ⟨nd, rfl⟩⟩)
    | (go_at_call 25; (with_reducible refine (donjonref05_Righted.calls 3 false _ rfl).mono ?_); rintro e w' ⟨rfl, ⟨nd, rfl⟩⟩)
    | (go_at_call 27; (with_reducible refine (donjonref05_Badged.calls 3 false _ rfl).mono ?_); rintro e w' ⟨rfl, ⟨nd, rfl⟩⟩))
  refine bodyPost_ret (results_ct rfl _ _ (w.heap.size + 1) 24 #[.int .i64 (3), .int .i64 (o), .int .i64 (r), .int .u64 (b), .int .u64 (g), .int .i64 (n)] (0, 0) _ ?hp1 ?hg1 Try.underlying24 rfl (by kernel_rfl)) rfl ?hz1
  case hp1 => rfl
  case hg1 => exact put6 (.int .i64 (3)) (.int .i64 (o)) (.int .i64 (r)) (.int .u64 (b)) (.int .u64 (g)) (.int .i64 (n)) Kb.out
  case hz1 =>
    refine ⟨rfl, ?_⟩
    repeat (first | with_reducible exact Na.out | with_reducible refine pw_below_drewN ?_ _ | (with_reducible refine below_cell ?_ ?_ _; rotate_left; omega))
set_option maxHeartbeats 4000000 in
set_option maxRecDepth 100000 in
theorem rderive_4_no {K : Nat} (o r b g n r' b' g' n' : Int) (w : World) (hc : donjonref05_Check.f K 4 o r b g n = some 0) (hr : donjonref04_Check.f r' = some false) :
    Calls Try.prog 11 #[.agg #[.int .i64 4, .int .i64 o, .int .i64 r, .int .u64 b, .int .u64 g, .int .i64 n], .int .i64 r', .int .u64 b', .int .u64 g', .int .i64 n'] w fun e w' =>
      e = .returned (.tuple #[.agg #[.int .i64 0, .int .i64 0, .int .i64 0, .int .u64 0, .int .u64 0, .int .i64 0], .int .i64 5]) ∧ Below w.heap.size w w' := by
  have A := Aside0.mk hc
  clear hc
  have R := Aside0.mk hr
  clear hr
  have hu := Try.underlying24
  go_enter Try.func11, Try.ntmps11
  go_wp2_with (first
    | (go_at_call 19; (with_reducible refine (donjonref05_Check.calls K 4 o r b g n 0 _ A.out).mono ?_); rintro e wa ⟨rfl, hb⟩; obtain ⟨Ka, Kb, Na⟩ := two_blocks hb; clear hb; obtain ⟨ca, fa⟩ := row_facts Ka; obtain ⟨cb, fb⟩ := row_facts Kb)
    | (go_at_call 24; (with_reducible refine (donjonref04_Check.calls r' false _ R.out).mono ?_); rintro e w' ⟨rfl, ⟨nd, rfl⟩⟩))
  refine bodyPost_ret (results_ct rfl _ _ (w.heap.size + 1) 24 #[.int .i64 (0), .int .i64 (0), .int .i64 (0), .int .u64 (0), .int .u64 (0), .int .i64 (0)] (0, 0) _ ?hp1 ?hg1 Try.underlying24 rfl (by kernel_rfl)) rfl ?hz1
  case hp1 => rfl
  case hg1 => exact put6 (.int .i64 (0)) (.int .i64 (0)) (.int .i64 (0)) (.int .u64 (0)) (.int .u64 (0)) (.int .i64 (0)) Kb.out
  case hz1 =>
    refine ⟨rfl, ?_⟩
    repeat (first | with_reducible exact Na.out | with_reducible refine pw_below_drewN ?_ _ | (with_reducible refine below_cell ?_ ?_ _; rotate_left; omega))
set_option maxHeartbeats 4000000 in
set_option maxRecDepth 100000 in
theorem rderive_4_b {K : Nat} (o r b g n r' b' g' n' m : Int) (w : World) (hc : donjonref05_Check.f K 4 o r b g n = some 0) (hr : donjonref04_Check.f r' = some true) (hm : donjonref04_Mask.f K r r' = some m) (hb1 : (b' != 0) = false) :
    Calls Try.prog 11 #[.agg #[.int .i64 4, .int .i64 o, .int .i64 r, .int .u64 b, .int .u64 g, .int .i64 n], .int .i64 r', .int .u64 b', .int .u64 g', .int .i64 n'] w fun e w' =>
      e = .returned (.tuple #[.agg #[.int .i64 4, .int .i64 o, .int .i64 m, .int .u64 b, .int .u64 g, .int .i64 n], .int .i64 0]) ∧ Below w.heap.size w w' := by
  have A := Aside0.mk hc
  clear hc
  have R := Aside0.mk hr
  clear hr
  have M := Aside0.mk hm
  clear hm
  have hu := Try.underlying24
  go_enter Try.func11, Try.ntmps11
  go_wp2_with (first
    | (go_at_call 19; (with_reducible refine (donjonref05_Check.calls K 4 o r b g n 0 _ A.out).mono ?_); rintro e wa ⟨rfl, hb⟩; obtain ⟨Ka, Kb, Na⟩ := two_blocks hb; clear hb; obtain ⟨ca, fa⟩ := row_facts Ka; obtain ⟨cb, fb⟩ := row_facts Kb)
    | (go_at_call 24; (with_reducible refine (donjonref04_Check.calls r' true _ R.out).mono ?_); rintro e w' ⟨rfl, ⟨nd, rfl⟩⟩)
    | (go_at_call 25; (with_reducible refine (donjonref05_Righted.calls 4 true _ rfl).mono ?_); rintro e w' ⟨rfl, ⟨nd, rfl⟩⟩)
    | (go_at_call 26; (with_reducible refine (donjonref04_Mask.calls K r r' m _ M.out).mono ?_); rintro e w' ⟨rfl, ⟨nd, rfl⟩⟩)
    | (go_at_call 27; (with_reducible refine (donjonref05_Badged.calls 4 true _ rfl).mono ?_); rintro e w' ⟨rfl, ⟨nd, rfl⟩⟩))
  refine bodyPost_ret (results_ct rfl _ _ (w.heap.size + 1) 24 #[.int .i64 (4), .int .i64 (o), .int .i64 (m), .int .u64 (b), .int .u64 (g), .int .i64 (n)] (0, 0) _ ?hp1 ?hg1 Try.underlying24 rfl (by kernel_rfl)) rfl ?hz1
  case hp1 => rfl
  case hg1 => exact put6 (.int .i64 (4)) (.int .i64 (o)) (.int .i64 (m)) (.int .u64 (b)) (.int .u64 (g)) (.int .i64 (n)) (blk_far Kb.out (by simp) _)
  case hz1 =>
    refine ⟨rfl, ?_⟩
    repeat (first | with_reducible exact Na.out | with_reducible refine pw_below_drewN ?_ _ | (with_reducible refine below_cell ?_ ?_ _; rotate_left; omega))
set_option maxHeartbeats 4000000 in
set_option maxRecDepth 100000 in
theorem rderive_4_s {K : Nat} (o r b g n r' b' g' n' m : Int) (w : World) (hc : donjonref05_Check.f K 4 o r b g n = some 0) (hr : donjonref04_Check.f r' = some true) (hm : donjonref04_Mask.f K r r' = some m) (hb1 : (b' != 0) = true) (hb2 : (b != 0) = true) :
    Calls Try.prog 11 #[.agg #[.int .i64 4, .int .i64 o, .int .i64 r, .int .u64 b, .int .u64 g, .int .i64 n], .int .i64 r', .int .u64 b', .int .u64 g', .int .i64 n'] w fun e w' =>
      e = .returned (.tuple #[.agg #[.int .i64 0, .int .i64 0, .int .i64 0, .int .u64 0, .int .u64 0, .int .i64 0], .int .i64 8]) ∧ Below w.heap.size w w' := by
  have A := Aside0.mk hc
  clear hc
  have R := Aside0.mk hr
  clear hr
  have M := Aside0.mk hm
  clear hm
  have hu := Try.underlying24
  go_enter Try.func11, Try.ntmps11
  go_wp2_with (first
    | (go_at_call 19; (with_reducible refine (donjonref05_Check.calls K 4 o r b g n 0 _ A.out).mono ?_); rintro e wa ⟨rfl, hb⟩; obtain ⟨Ka, Kb, Na⟩ := two_blocks hb; clear hb; obtain ⟨ca, fa⟩ := row_facts Ka; obtain ⟨cb, fb⟩ := row_facts Kb)
    | (go_at_call 24; (with_reducible refine (donjonref04_Check.calls r' true _ R.out).mono ?_); rintro e w' ⟨rfl, ⟨nd, rfl⟩⟩)
    | (go_at_call 25; (with_reducible refine (donjonref05_Righted.calls 4 true _ rfl).mono ?_); rintro e w' ⟨rfl, ⟨nd, rfl⟩⟩)
    | (go_at_call 26; (with_reducible refine (donjonref04_Mask.calls K r r' m _ M.out).mono ?_); rintro e w' ⟨rfl, ⟨nd, rfl⟩⟩)
    | (go_at_call 27; (with_reducible refine (donjonref05_Badged.calls 4 true _ rfl).mono ?_); rintro e w' ⟨rfl, ⟨nd, rfl⟩⟩))
  refine bodyPost_ret (results_ct rfl _ _ (w.heap.size + 1) 24 #[.int .i64 (0), .int .i64 (0), .int .i64 (0), .int .u64 (0), .int .u64 (0), .int .i64 (0)] (0, 0) _ ?hp1 ?hg1 Try.underlying24 rfl (by kernel_rfl)) rfl ?hz1
  case hp1 => rfl
  case hg1 => exact put6 (.int .i64 (0)) (.int .i64 (0)) (.int .i64 (0)) (.int .u64 (0)) (.int .u64 (0)) (.int .i64 (0)) (blk_far Kb.out (by simp) _)
  case hz1 =>
    refine ⟨rfl, ?_⟩
    repeat (first | with_reducible exact Na.out | with_reducible refine pw_below_drewN ?_ _ | (with_reducible refine below_cell ?_ ?_ _; rotate_left; omega))
set_option maxHeartbeats 4000000 in
set_option maxRecDepth 100000 in
theorem rderive_4_n {K : Nat} (o r b g n r' b' g' n' m : Int) (w : World) (hc : donjonref05_Check.f K 4 o r b g n = some 0) (hr : donjonref04_Check.f r' = some true) (hm : donjonref04_Mask.f K r r' = some m) (hb1 : (b' != 0) = true) (hb2 : (b != 0) = false) (hb3 : ¬ b' ≥ 268435456) (hb3d : decide (b' ≥ 268435456) = false) :
    Calls Try.prog 11 #[.agg #[.int .i64 4, .int .i64 o, .int .i64 r, .int .u64 b, .int .u64 g, .int .i64 n], .int .i64 r', .int .u64 b', .int .u64 g', .int .i64 n'] w fun e w' =>
      e = .returned (.tuple #[.agg #[.int .i64 4, .int .i64 o, .int .i64 m, .int .u64 b', .int .u64 g, .int .i64 n], .int .i64 0]) ∧ Below w.heap.size w w' := by
  have A := Aside0.mk hc
  clear hc
  have R := Aside0.mk hr
  clear hr
  have M := Aside0.mk hm
  clear hm
  have hu := Try.underlying24
  go_enter Try.func11, Try.ntmps11
  go_wp2_with (first
    | (go_at_call 19; (with_reducible refine (donjonref05_Check.calls K 4 o r b g n 0 _ A.out).mono ?_); rintro e wa ⟨rfl, hb⟩; obtain ⟨Ka, Kb, Na⟩ := two_blocks hb; clear hb; obtain ⟨ca, fa⟩ := row_facts Ka; obtain ⟨cb, fb⟩ := row_facts Kb)
    | (go_at_call 24; (with_reducible refine (donjonref04_Check.calls r' true _ R.out).mono ?_); rintro e w' ⟨rfl, ⟨nd, rfl⟩⟩)
    | (go_at_call 25; (with_reducible refine (donjonref05_Righted.calls 4 true _ rfl).mono ?_); rintro e w' ⟨rfl, ⟨nd, rfl⟩⟩)
    | (go_at_call 26; (with_reducible refine (donjonref04_Mask.calls K r r' m _ M.out).mono ?_); rintro e w' ⟨rfl, ⟨nd, rfl⟩⟩)
    | (go_at_call 27; (with_reducible refine (donjonref05_Badged.calls 4 true _ rfl).mono ?_); rintro e w' ⟨rfl, ⟨nd, rfl⟩⟩))
  refine bodyPost_ret (results_ct rfl _ _ (w.heap.size + 1) 24 #[.int .i64 (4), .int .i64 (o), .int .i64 (m), .int .u64 (b'), .int .u64 (g), .int .i64 (n)] (0, 0) _ ?hp1 ?hg1 Try.underlying24 rfl (by kernel_rfl)) rfl ?hz1
  case hp1 => rfl
  case hg1 => exact put6 (.int .i64 (4)) (.int .i64 (o)) (.int .i64 (m)) (.int .u64 (b')) (.int .u64 (g)) (.int .i64 (n)) (blk_far (blk_far Kb.out (by simp) _) (by simp) _)
  case hz1 =>
    refine ⟨rfl, ?_⟩
    repeat (first | with_reducible exact Na.out | with_reducible refine pw_below_drewN ?_ _ | (with_reducible refine below_cell ?_ ?_ _; rotate_left; omega))
set_option maxHeartbeats 4000000 in
set_option maxRecDepth 100000 in
theorem rderive_4_nx {K : Nat} (o r b g n r' b' g' n' m : Int) (w : World) (hc : donjonref05_Check.f K 4 o r b g n = some 0) (hr : donjonref04_Check.f r' = some true) (hm : donjonref04_Mask.f K r r' = some m) (hb1 : (b' != 0) = true) (hb2 : (b != 0) = false) (hb3 : b' ≥ 268435456) (hb3d : decide (b' ≥ 268435456) = true) :
    Calls Try.prog 11 #[.agg #[.int .i64 4, .int .i64 o, .int .i64 r, .int .u64 b, .int .u64 g, .int .i64 n], .int .i64 r', .int .u64 b', .int .u64 g', .int .i64 n'] w fun e w' =>
      e = .returned (.tuple #[.agg #[.int .i64 0, .int .i64 0, .int .i64 0, .int .u64 0, .int .u64 0, .int .i64 0], .int .i64 10]) ∧ Below w.heap.size w w' := by
  have A := Aside0.mk hc
  clear hc
  have R := Aside0.mk hr
  clear hr
  have M := Aside0.mk hm
  clear hm
  have hu := Try.underlying24
  go_enter Try.func11, Try.ntmps11
  go_wp2_with (first
    | (go_at_call 19; (with_reducible refine (donjonref05_Check.calls K 4 o r b g n 0 _ A.out).mono ?_); rintro e wa ⟨rfl, hb⟩; obtain ⟨Ka, Kb, Na⟩ := two_blocks hb; clear hb; obtain ⟨ca, fa⟩ := row_facts Ka; obtain ⟨cb, fb⟩ := row_facts Kb)
    | (go_at_call 24; (with_reducible refine (donjonref04_Check.calls r' true _ R.out).mono ?_); rintro e w' ⟨rfl, ⟨nd, rfl⟩⟩)
    | (go_at_call 25; (with_reducible refine (donjonref05_Righted.calls 4 true _ rfl).mono ?_); rintro e w' ⟨rfl, ⟨nd, rfl⟩⟩)
    | (go_at_call 26; (with_reducible refine (donjonref04_Mask.calls K r r' m _ M.out).mono ?_); rintro e w' ⟨rfl, ⟨nd, rfl⟩⟩)
    | (go_at_call 27; (with_reducible refine (donjonref05_Badged.calls 4 true _ rfl).mono ?_); rintro e w' ⟨rfl, ⟨nd, rfl⟩⟩))
  refine bodyPost_ret (results_ct rfl _ _ (w.heap.size + 1) 24 #[.int .i64 (0), .int .i64 (0), .int .i64 (0), .int .u64 (0), .int .u64 (0), .int .i64 (0)] (0, 0) _ ?hp1 ?hg1 Try.underlying24 rfl (by kernel_rfl)) rfl ?hz1
  case hp1 => rfl
  case hg1 => exact put6 (.int .i64 (0)) (.int .i64 (0)) (.int .i64 (0)) (.int .u64 (0)) (.int .u64 (0)) (.int .i64 (0)) (blk_far Kb.out (by simp) _)
  case hz1 =>
    refine ⟨rfl, ?_⟩
    repeat (first | with_reducible exact Na.out | with_reducible refine pw_below_drewN ?_ _ | (with_reducible refine below_cell ?_ ?_ _; rotate_left; omega))
set_option maxHeartbeats 4000000 in
set_option maxRecDepth 100000 in
theorem rderive_5_no {K : Nat} (o r b g n r' b' g' n' : Int) (w : World) (hc : donjonref05_Check.f K 5 o r b g n = some 0) (hr : donjonref04_Check.f r' = some false) :
    Calls Try.prog 11 #[.agg #[.int .i64 5, .int .i64 o, .int .i64 r, .int .u64 b, .int .u64 g, .int .i64 n], .int .i64 r', .int .u64 b', .int .u64 g', .int .i64 n'] w fun e w' =>
      e = .returned (.tuple #[.agg #[.int .i64 0, .int .i64 0, .int .i64 0, .int .u64 0, .int .u64 0, .int .i64 0], .int .i64 5]) ∧ Below w.heap.size w w' := by
  have A := Aside0.mk hc
  clear hc
  have R := Aside0.mk hr
  clear hr
  have hu := Try.underlying24
  go_enter Try.func11, Try.ntmps11
  go_wp2_with (first
    | (go_at_call 19; (with_reducible refine (donjonref05_Check.calls K 5 o r b g n 0 _ A.out).mono ?_); rintro e wa ⟨rfl, hb⟩; obtain ⟨Ka, Kb, Na⟩ := two_blocks hb; clear hb; obtain ⟨ca, fa⟩ := row_facts Ka; obtain ⟨cb, fb⟩ := row_facts Kb)
    | (go_at_call 24; (with_reducible refine (donjonref04_Check.calls r' false _ R.out).mono ?_); rintro e w' ⟨rfl, ⟨nd, rfl⟩⟩))
  refine bodyPost_ret (results_ct rfl _ _ (w.heap.size + 1) 24 #[.int .i64 (0), .int .i64 (0), .int .i64 (0), .int .u64 (0), .int .u64 (0), .int .i64 (0)] (0, 0) _ ?hp1 ?hg1 Try.underlying24 rfl (by kernel_rfl)) rfl ?hz1
  case hp1 => rfl
  case hg1 => exact put6 (.int .i64 (0)) (.int .i64 (0)) (.int .i64 (0)) (.int .u64 (0)) (.int .u64 (0)) (.int .i64 (0)) Kb.out
  case hz1 =>
    refine ⟨rfl, ?_⟩
    repeat (first | with_reducible exact Na.out | with_reducible refine pw_below_drewN ?_ _ | (with_reducible refine below_cell ?_ ?_ _; rotate_left; omega))
set_option maxHeartbeats 4000000 in
set_option maxRecDepth 100000 in
theorem rderive_5_b {K : Nat} (o r b g n r' b' g' n' m : Int) (w : World) (hc : donjonref05_Check.f K 5 o r b g n = some 0) (hr : donjonref04_Check.f r' = some true) (hm : donjonref04_Mask.f K r r' = some m) (hb1 : (b' != 0) = false) :
    Calls Try.prog 11 #[.agg #[.int .i64 5, .int .i64 o, .int .i64 r, .int .u64 b, .int .u64 g, .int .i64 n], .int .i64 r', .int .u64 b', .int .u64 g', .int .i64 n'] w fun e w' =>
      e = .returned (.tuple #[.agg #[.int .i64 5, .int .i64 o, .int .i64 m, .int .u64 b, .int .u64 g, .int .i64 n], .int .i64 0]) ∧ Below w.heap.size w w' := by
  have A := Aside0.mk hc
  clear hc
  have R := Aside0.mk hr
  clear hr
  have M := Aside0.mk hm
  clear hm
  have hu := Try.underlying24
  go_enter Try.func11, Try.ntmps11
  go_wp2_with (first
    | (go_at_call 19; (with_reducible refine (donjonref05_Check.calls K 5 o r b g n 0 _ A.out).mono ?_); rintro e wa ⟨rfl, hb⟩; obtain ⟨Ka, Kb, Na⟩ := two_blocks hb; clear hb; obtain ⟨ca, fa⟩ := row_facts Ka; obtain ⟨cb, fb⟩ := row_facts Kb)
    | (go_at_call 24; (with_reducible refine (donjonref04_Check.calls r' true _ R.out).mono ?_); rintro e w' ⟨rfl, ⟨nd, rfl⟩⟩)
    | (go_at_call 25; (with_reducible refine (donjonref05_Righted.calls 5 true _ rfl).mono ?_); rintro e w' ⟨rfl, ⟨nd, rfl⟩⟩)
    | (go_at_call 26; (with_reducible refine (donjonref04_Mask.calls K r r' m _ M.out).mono ?_); rintro e w' ⟨rfl, ⟨nd, rfl⟩⟩)
    | (go_at_call 27; (with_reducible refine (donjonref05_Badged.calls 5 true _ rfl).mono ?_); rintro e w' ⟨rfl, ⟨nd, rfl⟩⟩))
  refine bodyPost_ret (results_ct rfl _ _ (w.heap.size + 1) 24 #[.int .i64 (5), .int .i64 (o), .int .i64 (m), .int .u64 (b), .int .u64 (g), .int .i64 (n)] (0, 0) _ ?hp1 ?hg1 Try.underlying24 rfl (by kernel_rfl)) rfl ?hz1
  case hp1 => rfl
  case hg1 => exact put6 (.int .i64 (5)) (.int .i64 (o)) (.int .i64 (m)) (.int .u64 (b)) (.int .u64 (g)) (.int .i64 (n)) (blk_far Kb.out (by simp) _)
  case hz1 =>
    refine ⟨rfl, ?_⟩
    repeat (first | with_reducible exact Na.out | with_reducible refine pw_below_drewN ?_ _ | (with_reducible refine below_cell ?_ ?_ _; rotate_left; omega))
set_option maxHeartbeats 4000000 in
set_option maxRecDepth 100000 in
theorem rderive_5_s {K : Nat} (o r b g n r' b' g' n' m : Int) (w : World) (hc : donjonref05_Check.f K 5 o r b g n = some 0) (hr : donjonref04_Check.f r' = some true) (hm : donjonref04_Mask.f K r r' = some m) (hb1 : (b' != 0) = true) (hb2 : (b != 0) = true) :
    Calls Try.prog 11 #[.agg #[.int .i64 5, .int .i64 o, .int .i64 r, .int .u64 b, .int .u64 g, .int .i64 n], .int .i64 r', .int .u64 b', .int .u64 g', .int .i64 n'] w fun e w' =>
      e = .returned (.tuple #[.agg #[.int .i64 0, .int .i64 0, .int .i64 0, .int .u64 0, .int .u64 0, .int .i64 0], .int .i64 8]) ∧ Below w.heap.size w w' := by
  have A := Aside0.mk hc
  clear hc
  have R := Aside0.mk hr
  clear hr
  have M := Aside0.mk hm
  clear hm
  have hu := Try.underlying24
  go_enter Try.func11, Try.ntmps11
  go_wp2_with (first
    | (go_at_call 19; (with_reducible refine (donjonref05_Check.calls K 5 o r b g n 0 _ A.out).mono ?_); rintro e wa ⟨rfl, hb⟩; obtain ⟨Ka, Kb, Na⟩ := two_blocks hb; clear hb; obtain ⟨ca, fa⟩ := row_facts Ka; obtain ⟨cb, fb⟩ := row_facts Kb)
    | (go_at_call 24; (with_reducible refine (donjonref04_Check.calls r' true _ R.out).mono ?_); rintro e w' ⟨rfl, ⟨nd, rfl⟩⟩)
    | (go_at_call 25; (with_reducible refine (donjonref05_Righted.calls 5 true _ rfl).mono ?_); rintro e w' ⟨rfl, ⟨nd, rfl⟩⟩)
    | (go_at_call 26; (with_reducible refine (donjonref04_Mask.calls K r r' m _ M.out).mono ?_); rintro e w' ⟨rfl, ⟨nd, rfl⟩⟩)
    | (go_at_call 27; (with_reducible refine (donjonref05_Badged.calls 5 true _ rfl).mono ?_); rintro e w' ⟨rfl, ⟨nd, rfl⟩⟩))
  refine bodyPost_ret (results_ct rfl _ _ (w.heap.size + 1) 24 #[.int .i64 (0), .int .i64 (0), .int .i64 (0), .int .u64 (0), .int .u64 (0), .int .i64 (0)] (0, 0) _ ?hp1 ?hg1 Try.underlying24 rfl (by kernel_rfl)) rfl ?hz1
  case hp1 => rfl
  case hg1 => exact put6 (.int .i64 (0)) (.int .i64 (0)) (.int .i64 (0)) (.int .u64 (0)) (.int .u64 (0)) (.int .i64 (0)) (blk_far Kb.out (by simp) _)
  case hz1 =>
    refine ⟨rfl, ?_⟩
    repeat (first | with_reducible exact Na.out | with_reducible refine pw_below_drewN ?_ _ | (with_reducible refine below_cell ?_ ?_ _; rotate_left; omega))
set_option maxHeartbeats 4000000 in
set_option maxRecDepth 100000 in
theorem rderive_5_n {K : Nat} (o r b g n r' b' g' n' m : Int) (w : World) (hc : donjonref05_Check.f K 5 o r b g n = some 0) (hr : donjonref04_Check.f r' = some true) (hm : donjonref04_Mask.f K r r' = some m) (hb1 : (b' != 0) = true) (hb2 : (b != 0) = false) (hb3 : ¬ b' ≥ 268435456) (hb3d : decide (b' ≥ 268435456) = false) :
    Calls Try.prog 11 #[.agg #[.int .i64 5, .int .i64 o, .int .i64 r, .int .u64 b, .int .u64 g, .int .i64 n], .int .i64 r', .int .u64 b', .int .u64 g', .int .i64 n'] w fun e w' =>
      e = .returned (.tuple #[.agg #[.int .i64 5, .int .i64 o, .int .i64 m, .int .u64 b', .int .u64 g, .int .i64 n], .int .i64 0]) ∧ Below w.heap.size w w' := by
  have A := Aside0.mk hc
  clear hc
  have R := Aside0.mk hr
  clear hr
  have M := Aside0.mk hm
  clear hm
  have hu := Try.underlying24
  go_enter Try.func11, Try.ntmps11
  go_wp2_with (first
    | (go_at_call 19; (with_reducible refine (donjonref05_Check.calls K 5 o r b g n 0 _ A.out).mono ?_); rintro e wa ⟨rfl, hb⟩; obtain ⟨Ka, Kb, Na⟩ := two_blocks hb; clear hb; obtain ⟨ca, fa⟩ := row_facts Ka; obtain ⟨cb, fb⟩ := row_facts Kb)
    | (go_at_call 24; (with_reducible refine (donjonref04_Check.calls r' true _ R.out).mono ?_); rintro e w' ⟨rfl, ⟨nd, rfl⟩⟩)
    | (go_at_call 25; (with_reducible refine (donjonref05_Righted.calls 5 true _ rfl).mono ?_); rintro e w' ⟨rfl, ⟨nd, rfl⟩⟩)
    | (go_at_call 26; (with_reducible refine (donjonref04_Mask.calls K r r' m _ M.out).mono ?_); rintro e w' ⟨rfl, ⟨nd, rfl⟩⟩)
    | (go_at_call 27; (with_reducible refine (donjonref05_Badged.calls 5 true _ rfl).mono ?_); rintro e w' ⟨rfl, ⟨nd, rfl⟩⟩))
  refine bodyPost_ret (results_ct rfl _ _ (w.heap.size + 1) 24 #[.int .i64 (5), .int .i64 (o), .int .i64 (m), .int .u64 (b'), .int .u64 (g), .int .i64 (n)] (0, 0) _ ?hp1 ?hg1 Try.underlying24 rfl (by kernel_rfl)) rfl ?hz1
  case hp1 => rfl
  case hg1 => exact put6 (.int .i64 (5)) (.int .i64 (o)) (.int .i64 (m)) (.int .u64 (b')) (.int .u64 (g)) (.int .i64 (n)) (blk_far (blk_far Kb.out (by simp) _) (by simp) _)
  case hz1 =>
    refine ⟨rfl, ?_⟩
    repeat (first | with_reducible exact Na.out | with_reducible refine pw_below_drewN ?_ _ | (with_reducible refine below_cell ?_ ?_ _; rotate_left; omega))
set_option maxHeartbeats 4000000 in
set_option maxRecDepth 100000 in
theorem rderive_5_nx {K : Nat} (o r b g n r' b' g' n' m : Int) (w : World) (hc : donjonref05_Check.f K 5 o r b g n = some 0) (hr : donjonref04_Check.f r' = some true) (hm : donjonref04_Mask.f K r r' = some m) (hb1 : (b' != 0) = true) (hb2 : (b != 0) = false) (hb3 : b' ≥ 268435456) (hb3d : decide (b' ≥ 268435456) = true) :
    Calls Try.prog 11 #[.agg #[.int .i64 5, .int .i64 o, .int .i64 r, .int .u64 b, .int .u64 g, .int .i64 n], .int .i64 r', .int .u64 b', .int .u64 g', .int .i64 n'] w fun e w' =>
      e = .returned (.tuple #[.agg #[.int .i64 0, .int .i64 0, .int .i64 0, .int .u64 0, .int .u64 0, .int .i64 0], .int .i64 10]) ∧ Below w.heap.size w w' := by
  have A := Aside0.mk hc
  clear hc
  have R := Aside0.mk hr
  clear hr
  have M := Aside0.mk hm
  clear hm
  have hu := Try.underlying24
  go_enter Try.func11, Try.ntmps11
  go_wp2_with (first
    | (go_at_call 19; (with_reducible refine (donjonref05_Check.calls K 5 o r b g n 0 _ A.out).mono ?_); rintro e wa ⟨rfl, hb⟩; obtain ⟨Ka, Kb, Na⟩ := two_blocks hb; clear hb; obtain ⟨ca, fa⟩ := row_facts Ka; obtain ⟨cb, fb⟩ := row_facts Kb)
    | (go_at_call 24; (with_reducible refine (donjonref04_Check.calls r' true _ R.out).mono ?_); rintro e w' ⟨rfl, ⟨nd, rfl⟩⟩)
    | (go_at_call 25; (with_reducible refine (donjonref05_Righted.calls 5 true _ rfl).mono ?_); rintro e w' ⟨rfl, ⟨nd, rfl⟩⟩)
    | (go_at_call 26; (with_reducible refine (donjonref04_Mask.calls K r r' m _ M.out).mono ?_); rintro e w' ⟨rfl, ⟨nd, rfl⟩⟩)
    | (go_at_call 27; (with_reducible refine (donjonref05_Badged.calls 5 true _ rfl).mono ?_); rintro e w' ⟨rfl, ⟨nd, rfl⟩⟩))
  refine bodyPost_ret (results_ct rfl _ _ (w.heap.size + 1) 24 #[.int .i64 (0), .int .i64 (0), .int .i64 (0), .int .u64 (0), .int .u64 (0), .int .i64 (0)] (0, 0) _ ?hp1 ?hg1 Try.underlying24 rfl (by kernel_rfl)) rfl ?hz1
  case hp1 => rfl
  case hg1 => exact put6 (.int .i64 (0)) (.int .i64 (0)) (.int .i64 (0)) (.int .u64 (0)) (.int .u64 (0)) (.int .i64 (0)) (blk_far Kb.out (by simp) _)
  case hz1 =>
    refine ⟨rfl, ?_⟩
    repeat (first | with_reducible exact Na.out | with_reducible refine pw_below_drewN ?_ _ | (with_reducible refine below_cell ?_ ?_ _; rotate_left; omega))
set_option maxHeartbeats 4000000 in
set_option maxRecDepth 100000 in
theorem rderive_6_no {K : Nat} (o r b g n r' b' g' n' : Int) (w : World) (hc : donjonref05_Check.f K 6 o r b g n = some 0) (hr : donjonref04_Check.f r' = some false) :
    Calls Try.prog 11 #[.agg #[.int .i64 6, .int .i64 o, .int .i64 r, .int .u64 b, .int .u64 g, .int .i64 n], .int .i64 r', .int .u64 b', .int .u64 g', .int .i64 n'] w fun e w' =>
      e = .returned (.tuple #[.agg #[.int .i64 0, .int .i64 0, .int .i64 0, .int .u64 0, .int .u64 0, .int .i64 0], .int .i64 5]) ∧ Below w.heap.size w w' := by
  have A := Aside0.mk hc
  clear hc
  have R := Aside0.mk hr
  clear hr
  have hu := Try.underlying24
  go_enter Try.func11, Try.ntmps11
  go_wp2_with (first
    | (go_at_call 19; (with_reducible refine (donjonref05_Check.calls K 6 o r b g n 0 _ A.out).mono ?_); rintro e wa ⟨rfl, hb⟩; obtain ⟨Ka, Kb, Na⟩ := two_blocks hb; clear hb; obtain ⟨ca, fa⟩ := row_facts Ka; obtain ⟨cb, fb⟩ := row_facts Kb)
    | (go_at_call 24; (with_reducible refine (donjonref04_Check.calls r' false _ R.out).mono ?_); rintro e w' ⟨rfl, ⟨nd, rfl⟩⟩))
  refine bodyPost_ret (results_ct rfl _ _ (w.heap.size + 1) 24 #[.int .i64 (0), .int .i64 (0), .int .i64 (0), .int .u64 (0), .int .u64 (0), .int .i64 (0)] (0, 0) _ ?hp1 ?hg1 Try.underlying24 rfl (by kernel_rfl)) rfl ?hz1
  case hp1 => rfl
  case hg1 => exact put6 (.int .i64 (0)) (.int .i64 (0)) (.int .i64 (0)) (.int .u64 (0)) (.int .u64 (0)) (.int .i64 (0)) Kb.out
  case hz1 =>
    refine ⟨rfl, ?_⟩
    repeat (first | with_reducible exact Na.out | with_reducible refine pw_below_drewN ?_ _ | (with_reducible refine below_cell ?_ ?_ _; rotate_left; omega))
set_option maxHeartbeats 4000000 in
set_option maxRecDepth 100000 in
theorem rderive_6 {K : Nat} (o r b g n r' b' g' n' m : Int) (w : World) (hc : donjonref05_Check.f K 6 o r b g n = some 0) (hr : donjonref04_Check.f r' = some true) (hm : donjonref04_Mask.f K r r' = some m) :
    Calls Try.prog 11 #[.agg #[.int .i64 6, .int .i64 o, .int .i64 r, .int .u64 b, .int .u64 g, .int .i64 n], .int .i64 r', .int .u64 b', .int .u64 g', .int .i64 n'] w fun e w' =>
      e = .returned (.tuple #[.agg #[.int .i64 6, .int .i64 o, .int .i64 m, .int .u64 b, .int .u64 g, .int .i64 n], .int .i64 0]) ∧ Below w.heap.size w w' := by
  have A := Aside0.mk hc
  clear hc
  have R := Aside0.mk hr
  clear hr
  have M := Aside0.mk hm
  clear hm
  have hu := Try.underlying24
  go_enter Try.func11, Try.ntmps11
  go_wp2_with (first
    | (go_at_call 19; (with_reducible refine (donjonref05_Check.calls K 6 o r b g n 0 _ A.out).mono ?_); rintro e wa ⟨rfl, hb⟩; obtain ⟨Ka, Kb, Na⟩ := two_blocks hb; clear hb; obtain ⟨ca, fa⟩ := row_facts Ka; obtain ⟨cb, fb⟩ := row_facts Kb)
    | (go_at_call 24; (with_reducible refine (donjonref04_Check.calls r' true _ R.out).mono ?_); rintro e w' ⟨rfl, ⟨nd, rfl⟩⟩)
    | (go_at_call 25; (with_reducible refine (donjonref05_Righted.calls 6 true _ rfl).mono ?_); rintro e w' ⟨rfl, ⟨nd, rfl⟩⟩)
    | (go_at_call 26; (with_reducible refine (donjonref04_Mask.calls K r r' m _ M.out).mono ?_); rintro e w' ⟨rfl, ⟨nd, rfl⟩⟩)
    | (go_at_call 27; (with_reducible refine (donjonref05_Badged.calls 6 false _ rfl).mono ?_); rintro e w' ⟨rfl, ⟨nd, rfl⟩⟩))
  refine bodyPost_ret (results_ct rfl _ _ (w.heap.size + 1) 24 #[.int .i64 (6), .int .i64 (o), .int .i64 (m), .int .u64 (b), .int .u64 (g), .int .i64 (n)] (0, 0) _ ?hp1 ?hg1 Try.underlying24 rfl (by kernel_rfl)) rfl ?hz1
  case hp1 => rfl
  case hg1 => exact put6 (.int .i64 (6)) (.int .i64 (o)) (.int .i64 (m)) (.int .u64 (b)) (.int .u64 (g)) (.int .i64 (n)) (blk_far Kb.out (by simp) _)
  case hz1 =>
    refine ⟨rfl, ?_⟩
    repeat (first | with_reducible exact Na.out | with_reducible refine pw_below_drewN ?_ _ | (with_reducible refine below_cell ?_ ?_ _; rotate_left; omega))
set_option maxHeartbeats 4000000 in
set_option maxRecDepth 100000 in
theorem rderive_7_no {K : Nat} (o r b g n r' b' g' n' : Int) (w : World) (hc : donjonref05_Check.f K 7 o r b g n = some 0) (hr : donjonref04_Check.f r' = some false) :
    Calls Try.prog 11 #[.agg #[.int .i64 7, .int .i64 o, .int .i64 r, .int .u64 b, .int .u64 g, .int .i64 n], .int .i64 r', .int .u64 b', .int .u64 g', .int .i64 n'] w fun e w' =>
      e = .returned (.tuple #[.agg #[.int .i64 0, .int .i64 0, .int .i64 0, .int .u64 0, .int .u64 0, .int .i64 0], .int .i64 5]) ∧ Below w.heap.size w w' := by
  have A := Aside0.mk hc
  clear hc
  have R := Aside0.mk hr
  clear hr
  have hu := Try.underlying24
  go_enter Try.func11, Try.ntmps11
  go_wp2_with (first
    | (go_at_call 19; (with_reducible refine (donjonref05_Check.calls K 7 o r b g n 0 _ A.out).mono ?_); rintro e wa ⟨rfl, hb⟩; obtain ⟨Ka, Kb, Na⟩ := two_blocks hb; clear hb; obtain ⟨ca, fa⟩ := row_facts Ka; obtain ⟨cb, fb⟩ := row_facts Kb)
    | (go_at_call 24; (with_reducible refine (donjonref04_Check.calls r' false _ R.out).mono ?_); rintro e w' ⟨rfl, ⟨nd, rfl⟩⟩))
  refine bodyPost_ret (results_ct rfl _ _ (w.heap.size + 1) 24 #[.int .i64 (0), .int .i64 (0), .int .i64 (0), .int .u64 (0), .int .u64 (0), .int .i64 (0)] (0, 0) _ ?hp1 ?hg1 Try.underlying24 rfl (by kernel_rfl)) rfl ?hz1
  case hp1 => rfl
  case hg1 => exact put6 (.int .i64 (0)) (.int .i64 (0)) (.int .i64 (0)) (.int .u64 (0)) (.int .u64 (0)) (.int .i64 (0)) Kb.out
  case hz1 =>
    refine ⟨rfl, ?_⟩
    repeat (first | with_reducible exact Na.out | with_reducible refine pw_below_drewN ?_ _ | (with_reducible refine below_cell ?_ ?_ _; rotate_left; omega))
set_option maxHeartbeats 4000000 in
set_option maxRecDepth 100000 in
theorem rderive_7 {K : Nat} (o r b g n r' b' g' n' : Int) (w : World) (hc : donjonref05_Check.f K 7 o r b g n = some 0) (hr : donjonref04_Check.f r' = some true) :
    Calls Try.prog 11 #[.agg #[.int .i64 7, .int .i64 o, .int .i64 r, .int .u64 b, .int .u64 g, .int .i64 n], .int .i64 r', .int .u64 b', .int .u64 g', .int .i64 n'] w fun e w' =>
      e = .returned (.tuple #[.agg #[.int .i64 7, .int .i64 o, .int .i64 r, .int .u64 b, .int .u64 g, .int .i64 n], .int .i64 0]) ∧ Below w.heap.size w w' := by
  have A := Aside0.mk hc
  clear hc
  have R := Aside0.mk hr
  clear hr
  have hu := Try.underlying24
  go_enter Try.func11, Try.ntmps11
  go_wp2_with (first
    | (go_at_call 19; (with_reducible refine (donjonref05_Check.calls K 7 o r b g n 0 _ A.out).mono ?_); rintro e wa ⟨rfl, hb⟩; obtain ⟨Ka, Kb, Na⟩ := two_blocks hb; clear hb; obtain ⟨ca, fa⟩ := row_facts Ka; obtain ⟨cb, fb⟩ := row_facts Kb)
    | (go_at_call 24; (with_reducible refine (donjonref04_Check.calls r' true _ R.out).mono ?_); rintro e w' ⟨rfl, ⟨nd, rfl⟩⟩)
    | (go_at_call 25; (with_reducible refine (donjonref05_Righted.calls 7 false _ rfl).mono ?_); rintro e w' ⟨rfl, ⟨nd, rfl⟩⟩)
    | (go_at_call 27; (with_reducible refine (donjonref05_Badged.calls 7 false _ rfl).mono ?_); rintro e w' ⟨rfl, ⟨nd, rfl⟩⟩))
  refine bodyPost_ret (results_ct rfl _ _ (w.heap.size + 1) 24 #[.int .i64 (7), .int .i64 (o), .int .i64 (r), .int .u64 (b), .int .u64 (g), .int .i64 (n)] (0, 0) _ ?hp1 ?hg1 Try.underlying24 rfl (by kernel_rfl)) rfl ?hz1
  case hp1 => rfl
  case hg1 => exact put6 (.int .i64 (7)) (.int .i64 (o)) (.int .i64 (r)) (.int .u64 (b)) (.int .u64 (g)) (.int .i64 (n)) Kb.out
  case hz1 =>
    refine ⟨rfl, ?_⟩
    repeat (first | with_reducible exact Na.out | with_reducible refine pw_below_drewN ?_ _ | (with_reducible refine below_cell ?_ ?_ _; rotate_left; omega))
set_option maxHeartbeats 4000000 in
set_option maxRecDepth 100000 in
theorem rderive_8_no {K : Nat} (o r b g n r' b' g' n' : Int) (w : World) (hc : donjonref05_Check.f K 8 o r b g n = some 0) (hr : donjonref04_Check.f r' = some false) :
    Calls Try.prog 11 #[.agg #[.int .i64 8, .int .i64 o, .int .i64 r, .int .u64 b, .int .u64 g, .int .i64 n], .int .i64 r', .int .u64 b', .int .u64 g', .int .i64 n'] w fun e w' =>
      e = .returned (.tuple #[.agg #[.int .i64 0, .int .i64 0, .int .i64 0, .int .u64 0, .int .u64 0, .int .i64 0], .int .i64 5]) ∧ Below w.heap.size w w' := by
  have A := Aside0.mk hc
  clear hc
  have R := Aside0.mk hr
  clear hr
  have hu := Try.underlying24
  go_enter Try.func11, Try.ntmps11
  go_wp2_with (first
    | (go_at_call 19; (with_reducible refine (donjonref05_Check.calls K 8 o r b g n 0 _ A.out).mono ?_); rintro e wa ⟨rfl, hb⟩; obtain ⟨Ka, Kb, Na⟩ := two_blocks hb; clear hb; obtain ⟨ca, fa⟩ := row_facts Ka; obtain ⟨cb, fb⟩ := row_facts Kb)
    | (go_at_call 24; (with_reducible refine (donjonref04_Check.calls r' false _ R.out).mono ?_); rintro e w' ⟨rfl, ⟨nd, rfl⟩⟩))
  refine bodyPost_ret (results_ct rfl _ _ (w.heap.size + 1) 24 #[.int .i64 (0), .int .i64 (0), .int .i64 (0), .int .u64 (0), .int .u64 (0), .int .i64 (0)] (0, 0) _ ?hp1 ?hg1 Try.underlying24 rfl (by kernel_rfl)) rfl ?hz1
  case hp1 => rfl
  case hg1 => exact put6 (.int .i64 (0)) (.int .i64 (0)) (.int .i64 (0)) (.int .u64 (0)) (.int .u64 (0)) (.int .i64 (0)) Kb.out
  case hz1 =>
    refine ⟨rfl, ?_⟩
    repeat (first | with_reducible exact Na.out | with_reducible refine pw_below_drewN ?_ _ | (with_reducible refine below_cell ?_ ?_ _; rotate_left; omega))
set_option maxHeartbeats 4000000 in
set_option maxRecDepth 100000 in
theorem rderive_8 {K : Nat} (o r b g n r' b' g' n' : Int) (w : World) (hc : donjonref05_Check.f K 8 o r b g n = some 0) (hr : donjonref04_Check.f r' = some true) :
    Calls Try.prog 11 #[.agg #[.int .i64 8, .int .i64 o, .int .i64 r, .int .u64 b, .int .u64 g, .int .i64 n], .int .i64 r', .int .u64 b', .int .u64 g', .int .i64 n'] w fun e w' =>
      e = .returned (.tuple #[.agg #[.int .i64 8, .int .i64 o, .int .i64 r, .int .u64 b, .int .u64 g, .int .i64 n], .int .i64 0]) ∧ Below w.heap.size w w' := by
  have A := Aside0.mk hc
  clear hc
  have R := Aside0.mk hr
  clear hr
  have hu := Try.underlying24
  go_enter Try.func11, Try.ntmps11
  go_wp2_with (first
    | (go_at_call 19; (with_reducible refine (donjonref05_Check.calls K 8 o r b g n 0 _ A.out).mono ?_); rintro e wa ⟨rfl, hb⟩; obtain ⟨Ka, Kb, Na⟩ := two_blocks hb; clear hb; obtain ⟨ca, fa⟩ := row_facts Ka; obtain ⟨cb, fb⟩ := row_facts Kb)
    | (go_at_call 24; (with_reducible refine (donjonref04_Check.calls r' true _ R.out).mono ?_); rintro e w' ⟨rfl, ⟨nd, rfl⟩⟩)
    | (go_at_call 25; (with_reducible refine (donjonref05_Righted.calls 8 false _ rfl).mono ?_); rintro e w' ⟨rfl, ⟨nd, rfl⟩⟩)
    | (go_at_call 27; (with_reducible refine (donjonref05_Badged.calls 8 false _ rfl).mono ?_); rintro e w' ⟨rfl, ⟨nd, rfl⟩⟩))
  refine bodyPost_ret (results_ct rfl _ _ (w.heap.size + 1) 24 #[.int .i64 (8), .int .i64 (o), .int .i64 (r), .int .u64 (b), .int .u64 (g), .int .i64 (n)] (0, 0) _ ?hp1 ?hg1 Try.underlying24 rfl (by kernel_rfl)) rfl ?hz1
  case hp1 => rfl
  case hg1 => exact put6 (.int .i64 (8)) (.int .i64 (o)) (.int .i64 (r)) (.int .u64 (b)) (.int .u64 (g)) (.int .i64 (n)) Kb.out
  case hz1 =>
    refine ⟨rfl, ?_⟩
    repeat (first | with_reducible exact Na.out | with_reducible refine pw_below_drewN ?_ _ | (with_reducible refine below_cell ?_ ?_ _; rotate_left; omega))
set_option maxHeartbeats 4000000 in
set_option maxRecDepth 100000 in
theorem rderive_9_no {K : Nat} (o r b g n r' b' g' n' : Int) (w : World) (hc : donjonref05_Check.f K 9 o r b g n = some 0) (hr : donjonref04_Check.f r' = some false) :
    Calls Try.prog 11 #[.agg #[.int .i64 9, .int .i64 o, .int .i64 r, .int .u64 b, .int .u64 g, .int .i64 n], .int .i64 r', .int .u64 b', .int .u64 g', .int .i64 n'] w fun e w' =>
      e = .returned (.tuple #[.agg #[.int .i64 0, .int .i64 0, .int .i64 0, .int .u64 0, .int .u64 0, .int .i64 0], .int .i64 5]) ∧ Below w.heap.size w w' := by
  have A := Aside0.mk hc
  clear hc
  have R := Aside0.mk hr
  clear hr
  have hu := Try.underlying24
  go_enter Try.func11, Try.ntmps11
  go_wp2_with (first
    | (go_at_call 19; (with_reducible refine (donjonref05_Check.calls K 9 o r b g n 0 _ A.out).mono ?_); rintro e wa ⟨rfl, hb⟩; obtain ⟨Ka, Kb, Na⟩ := two_blocks hb; clear hb; obtain ⟨ca, fa⟩ := row_facts Ka; obtain ⟨cb, fb⟩ := row_facts Kb)
    | (go_at_call 24; (with_reducible refine (donjonref04_Check.calls r' false _ R.out).mono ?_); rintro e w' ⟨rfl, ⟨nd, rfl⟩⟩))
  refine bodyPost_ret (results_ct rfl _ _ (w.heap.size + 1) 24 #[.int .i64 (0), .int .i64 (0), .int .i64 (0), .int .u64 (0), .int .u64 (0), .int .i64 (0)] (0, 0) _ ?hp1 ?hg1 Try.underlying24 rfl (by kernel_rfl)) rfl ?hz1
  case hp1 => rfl
  case hg1 => exact put6 (.int .i64 (0)) (.int .i64 (0)) (.int .i64 (0)) (.int .u64 (0)) (.int .u64 (0)) (.int .i64 (0)) Kb.out
  case hz1 =>
    refine ⟨rfl, ?_⟩
    repeat (first | with_reducible exact Na.out | with_reducible refine pw_below_drewN ?_ _ | (with_reducible refine below_cell ?_ ?_ _; rotate_left; omega))
set_option maxHeartbeats 4000000 in
set_option maxRecDepth 100000 in
theorem rderive_9 {K : Nat} (o r b g n r' b' g' n' : Int) (w : World) (hc : donjonref05_Check.f K 9 o r b g n = some 0) (hr : donjonref04_Check.f r' = some true) :
    Calls Try.prog 11 #[.agg #[.int .i64 9, .int .i64 o, .int .i64 r, .int .u64 b, .int .u64 g, .int .i64 n], .int .i64 r', .int .u64 b', .int .u64 g', .int .i64 n'] w fun e w' =>
      e = .returned (.tuple #[.agg #[.int .i64 9, .int .i64 o, .int .i64 r, .int .u64 b, .int .u64 g, .int .i64 n], .int .i64 0]) ∧ Below w.heap.size w w' := by
  have A := Aside0.mk hc
  clear hc
  have R := Aside0.mk hr
  clear hr
  have hu := Try.underlying24
  go_enter Try.func11, Try.ntmps11
  go_wp2_with (first
    | (go_at_call 19; (with_reducible refine (donjonref05_Check.calls K 9 o r b g n 0 _ A.out).mono ?_); rintro e wa ⟨rfl, hb⟩; obtain ⟨Ka, Kb, Na⟩ := two_blocks hb; clear hb; obtain ⟨ca, fa⟩ := row_facts Ka; obtain ⟨cb, fb⟩ := row_facts Kb)
    | (go_at_call 24; (with_reducible refine (donjonref04_Check.calls r' true _ R.out).mono ?_); rintro e w' ⟨rfl, ⟨nd, rfl⟩⟩)
    | (go_at_call 25; (with_reducible refine (donjonref05_Righted.calls 9 false _ rfl).mono ?_); rintro e w' ⟨rfl, ⟨nd, rfl⟩⟩)
    | (go_at_call 27; (with_reducible refine (donjonref05_Badged.calls 9 false _ rfl).mono ?_); rintro e w' ⟨rfl, ⟨nd, rfl⟩⟩))
  refine bodyPost_ret (results_ct rfl _ _ (w.heap.size + 1) 24 #[.int .i64 (9), .int .i64 (o), .int .i64 (r), .int .u64 (b), .int .u64 (g), .int .i64 (n)] (0, 0) _ ?hp1 ?hg1 Try.underlying24 rfl (by kernel_rfl)) rfl ?hz1
  case hp1 => rfl
  case hg1 => exact put6 (.int .i64 (9)) (.int .i64 (o)) (.int .i64 (r)) (.int .u64 (b)) (.int .u64 (g)) (.int .i64 (n)) Kb.out
  case hz1 =>
    refine ⟨rfl, ?_⟩
    repeat (first | with_reducible exact Na.out | with_reducible refine pw_below_drewN ?_ _ | (with_reducible refine below_cell ?_ ?_ _; rotate_left; omega))
theorem rcheck_kind {k o r b g n : Int} (h : donjonref05_Check.f 20 k o r b g n = some 0) : 0 ≤ k ∧ k ≤ 11 := by
  unfold donjonref05_Check.f at h
  by_cases c : k < 0
  · rw [if_pos c] at h; simp [donjonref05_Check.j0] at h
  · rw [if_neg c] at h
    by_cases c2 : k > 11
    · rw [decide_eq_true c2] at h; simp [donjonref05_Check.j0] at h
    · omega
/-- what the reference derives of a capability; what is wrong -/
def donjonref05_Derive.f (k o r b g n r' b' g' n' : Int) : Option (Int × Int × Int × Int × Int × Int × Int) :=
  (donjonref05_Check.f 20 k o r b g n).bind fun e => if e = 0 then (if k = 0 then some (0, 0, 0, 0, 0, 0, 3) else if k = 1 ∨ k = 10 ∨ k = 11 then some (0, 0, 0, 0, 0, 0, 2) else
    (donjonref04_Check.f r').bind fun t => if t = true then
      (if k = 6 then (donjonref04_Mask.f 20 r r').bind fun m => some (k, o, m, b, g, n, 0)
      else if k = 2 then (donjonref05_guarded.f g' n').bind fun t => if t = true then some (k, o, r, b, g', n', 0) else some (0, 0, 0, 0, 0, 0, 10)
      else if k = 4 ∨ k = 5 then (donjonref04_Mask.f 20 r r').bind fun m => if b' = 0 then some (k, o, m, b, g, n, 0)
        else if b = 0 then (if b' ≥ 268435456 then some (0, 0, 0, 0, 0, 0, 10) else some (k, o, m, b', g, n, 0)) else some (0, 0, 0, 0, 0, 0, 8)
      else some (k, o, r, b, g, n, 0)) else some (0, 0, 0, 0, 0, 0, 5)) else some (0, 0, 0, 0, 0, 0, e)
theorem donjonref05_Derive.calls (k o r b g n r' b' g' n' r1 r2 r3 r4 r5 r6 r7 : Int) (w : World) (h : donjonref05_Derive.f k o r b g n r' b' g' n' = some (r1, r2, r3, r4, r5, r6, r7)) :
    Calls Try.prog 11 #[.agg #[.int .i64 k, .int .i64 o, .int .i64 r, .int .u64 b, .int .u64 g, .int .i64 n], .int .i64 r', .int .u64 b', .int .u64 g', .int .i64 n'] w fun e w' =>
      e = .returned (.tuple #[.agg #[.int .i64 r1, .int .i64 r2, .int .i64 r3, .int .u64 r4, .int .u64 r5, .int .i64 r6], .int .i64 r7]) ∧ Below w.heap.size w w' := by
  unfold donjonref05_Derive.f at h
  obtain ⟨e, hc, h⟩ := Option.bind_eq_some_iff.mp h
  by_cases c : e = 0
  · subst c
    rw [if_pos rfl] at h
    have hk := rcheck_kind hc
    have hk' : k = 0 ∨ k = 1 ∨ k = 2 ∨ k = 3 ∨ k = 4 ∨ k = 5 ∨ k = 6 ∨ k = 7 ∨ k = 8 ∨ k = 9 ∨ k = 10 ∨ k = 11 := by omega
    clear hk
    rcases hk' with rfl | rfl | rfl | rfl | rfl | rfl | rfl | rfl | rfl | rfl | rfl | rfl
    · rw [if_pos rfl] at h
      simp only [Option.some.injEq, Prod.mk.injEq] at h
      obtain ⟨rfl, rfl, rfl, rfl, rfl, rfl, rfl⟩ := h
      exact rderive_0 o r b g n r' b' g' n' w hc
    · rw [if_neg (by decide), if_pos (by decide)] at h
      simp only [Option.some.injEq, Prod.mk.injEq] at h
      obtain ⟨rfl, rfl, rfl, rfl, rfl, rfl, rfl⟩ := h
      exact rderive_1 o r b g n r' b' g' n' w hc
    · rw [if_neg (by decide), if_neg (by decide)] at h
      obtain ⟨t, ht, h⟩ := Option.bind_eq_some_iff.mp h
      cases t
      · rw [if_neg (by decide)] at h
        simp only [Option.some.injEq, Prod.mk.injEq] at h
        obtain ⟨rfl, rfl, rfl, rfl, rfl, rfl, rfl⟩ := h
        exact rderive_2_no o r b g n r' b' g' n' w hc ht
      · rw [if_pos rfl, if_neg (by decide), if_pos rfl] at h
        obtain ⟨t, hf, h⟩ := Option.bind_eq_some_iff.mp h
        cases t
        · rw [if_neg (by decide)] at h
          simp only [Option.some.injEq, Prod.mk.injEq] at h
          obtain ⟨rfl, rfl, rfl, rfl, rfl, rfl, rfl⟩ := h
          exact rderive_2_not o r b g n r' b' g' n' w hc ht hf
        · rw [if_pos rfl] at h
          simp only [Option.some.injEq, Prod.mk.injEq] at h
          obtain ⟨rfl, rfl, rfl, rfl, rfl, rfl, rfl⟩ := h
          exact rderive_2_fits o r b g n r' b' g' n' w hc ht hf
    · rw [if_neg (by decide), if_neg (by decide)] at h
      obtain ⟨t, ht, h⟩ := Option.bind_eq_some_iff.mp h
      cases t
      · rw [if_neg (by decide)] at h
        simp only [Option.some.injEq, Prod.mk.injEq] at h
        obtain ⟨rfl, rfl, rfl, rfl, rfl, rfl, rfl⟩ := h
        exact rderive_3_no o r b g n r' b' g' n' w hc ht
      · rw [if_pos rfl, if_neg (by decide), if_neg (by decide), if_neg (by decide)] at h
        simp only [Option.some.injEq, Prod.mk.injEq] at h
        obtain ⟨rfl, rfl, rfl, rfl, rfl, rfl, rfl⟩ := h
        exact rderive_3 o r b g n r' b' g' n' w hc ht
    · rw [if_neg (by decide), if_neg (by decide)] at h
      obtain ⟨t, ht, h⟩ := Option.bind_eq_some_iff.mp h
      cases t
      · rw [if_neg (by decide)] at h
        simp only [Option.some.injEq, Prod.mk.injEq] at h
        obtain ⟨rfl, rfl, rfl, rfl, rfl, rfl, rfl⟩ := h
        exact rderive_4_no o r b g n r' b' g' n' w hc ht
      · rw [if_pos rfl, if_neg (by decide), if_neg (by decide), if_pos (by decide)] at h
        obtain ⟨m, hm, h⟩ := Option.bind_eq_some_iff.mp h
        by_cases c1 : b' = 0
        · rw [if_pos c1] at h
          simp only [Option.some.injEq, Prod.mk.injEq] at h
          obtain ⟨rfl, rfl, rfl, rfl, rfl, rfl, rfl⟩ := h
          exact rderive_4_b o r b g n r' b' g' n' m w hc ht hm (ne_0 c1)
        · rw [if_neg c1] at h
          by_cases c2 : b = 0
          · rw [if_pos c2] at h
            by_cases c3 : b' ≥ 268435456
            · rw [if_pos c3] at h
              simp only [Option.some.injEq, Prod.mk.injEq] at h
              obtain ⟨rfl, rfl, rfl, rfl, rfl, rfl, rfl⟩ := h
              exact rderive_4_nx o r b g n r' b' g' n' m w hc ht hm (ne_1 c1) (ne_0 c2) c3 (decide_eq_true c3)
            · rw [if_neg c3] at h
              simp only [Option.some.injEq, Prod.mk.injEq] at h
              obtain ⟨rfl, rfl, rfl, rfl, rfl, rfl, rfl⟩ := h
              exact rderive_4_n o r b g n r' b' g' n' m w hc ht hm (ne_1 c1) (ne_0 c2) c3 (decide_eq_false c3)
          · rw [if_neg c2] at h
            simp only [Option.some.injEq, Prod.mk.injEq] at h
            obtain ⟨rfl, rfl, rfl, rfl, rfl, rfl, rfl⟩ := h
            exact rderive_4_s o r b g n r' b' g' n' m w hc ht hm (ne_1 c1) (ne_1 c2)
    · rw [if_neg (by decide), if_neg (by decide)] at h
      obtain ⟨t, ht, h⟩ := Option.bind_eq_some_iff.mp h
      cases t
      · rw [if_neg (by decide)] at h
        simp only [Option.some.injEq, Prod.mk.injEq] at h
        obtain ⟨rfl, rfl, rfl, rfl, rfl, rfl, rfl⟩ := h
        exact rderive_5_no o r b g n r' b' g' n' w hc ht
      · rw [if_pos rfl, if_neg (by decide), if_neg (by decide), if_pos (by decide)] at h
        obtain ⟨m, hm, h⟩ := Option.bind_eq_some_iff.mp h
        by_cases c1 : b' = 0
        · rw [if_pos c1] at h
          simp only [Option.some.injEq, Prod.mk.injEq] at h
          obtain ⟨rfl, rfl, rfl, rfl, rfl, rfl, rfl⟩ := h
          exact rderive_5_b o r b g n r' b' g' n' m w hc ht hm (ne_0 c1)
        · rw [if_neg c1] at h
          by_cases c2 : b = 0
          · rw [if_pos c2] at h
            by_cases c3 : b' ≥ 268435456
            · rw [if_pos c3] at h
              simp only [Option.some.injEq, Prod.mk.injEq] at h
              obtain ⟨rfl, rfl, rfl, rfl, rfl, rfl, rfl⟩ := h
              exact rderive_5_nx o r b g n r' b' g' n' m w hc ht hm (ne_1 c1) (ne_0 c2) c3 (decide_eq_true c3)
            · rw [if_neg c3] at h
              simp only [Option.some.injEq, Prod.mk.injEq] at h
              obtain ⟨rfl, rfl, rfl, rfl, rfl, rfl, rfl⟩ := h
              exact rderive_5_n o r b g n r' b' g' n' m w hc ht hm (ne_1 c1) (ne_0 c2) c3 (decide_eq_false c3)
          · rw [if_neg c2] at h
            simp only [Option.some.injEq, Prod.mk.injEq] at h
            obtain ⟨rfl, rfl, rfl, rfl, rfl, rfl, rfl⟩ := h
            exact rderive_5_s o r b g n r' b' g' n' m w hc ht hm (ne_1 c1) (ne_1 c2)
    · rw [if_neg (by decide), if_neg (by decide)] at h
      obtain ⟨t, ht, h⟩ := Option.bind_eq_some_iff.mp h
      cases t
      · rw [if_neg (by decide)] at h
        simp only [Option.some.injEq, Prod.mk.injEq] at h
        obtain ⟨rfl, rfl, rfl, rfl, rfl, rfl, rfl⟩ := h
        exact rderive_6_no o r b g n r' b' g' n' w hc ht
      · rw [if_pos rfl, if_pos rfl] at h
        obtain ⟨m, hm, h⟩ := Option.bind_eq_some_iff.mp h
        simp only [Option.some.injEq, Prod.mk.injEq] at h
        obtain ⟨rfl, rfl, rfl, rfl, rfl, rfl, rfl⟩ := h
        exact rderive_6 o r b g n r' b' g' n' m w hc ht hm
    · rw [if_neg (by decide), if_neg (by decide)] at h
      obtain ⟨t, ht, h⟩ := Option.bind_eq_some_iff.mp h
      cases t
      · rw [if_neg (by decide)] at h
        simp only [Option.some.injEq, Prod.mk.injEq] at h
        obtain ⟨rfl, rfl, rfl, rfl, rfl, rfl, rfl⟩ := h
        exact rderive_7_no o r b g n r' b' g' n' w hc ht
      · rw [if_pos rfl, if_neg (by decide), if_neg (by decide), if_neg (by decide)] at h
        simp only [Option.some.injEq, Prod.mk.injEq] at h
        obtain ⟨rfl, rfl, rfl, rfl, rfl, rfl, rfl⟩ := h
        exact rderive_7 o r b g n r' b' g' n' w hc ht
    · rw [if_neg (by decide), if_neg (by decide)] at h
      obtain ⟨t, ht, h⟩ := Option.bind_eq_some_iff.mp h
      cases t
      · rw [if_neg (by decide)] at h
        simp only [Option.some.injEq, Prod.mk.injEq] at h
        obtain ⟨rfl, rfl, rfl, rfl, rfl, rfl, rfl⟩ := h
        exact rderive_8_no o r b g n r' b' g' n' w hc ht
      · rw [if_pos rfl, if_neg (by decide), if_neg (by decide), if_neg (by decide)] at h
        simp only [Option.some.injEq, Prod.mk.injEq] at h
        obtain ⟨rfl, rfl, rfl, rfl, rfl, rfl, rfl⟩ := h
        exact rderive_8 o r b g n r' b' g' n' w hc ht
    · rw [if_neg (by decide), if_neg (by decide)] at h
      obtain ⟨t, ht, h⟩ := Option.bind_eq_some_iff.mp h
      cases t
      · rw [if_neg (by decide)] at h
        simp only [Option.some.injEq, Prod.mk.injEq] at h
        obtain ⟨rfl, rfl, rfl, rfl, rfl, rfl, rfl⟩ := h
        exact rderive_9_no o r b g n r' b' g' n' w hc ht
      · rw [if_pos rfl, if_neg (by decide), if_neg (by decide), if_neg (by decide)] at h
        simp only [Option.some.injEq, Prod.mk.injEq] at h
        obtain ⟨rfl, rfl, rfl, rfl, rfl, rfl, rfl⟩ := h
        exact rderive_9 o r b g n r' b' g' n' w hc ht
    · rw [if_neg (by decide), if_pos (by decide)] at h
      simp only [Option.some.injEq, Prod.mk.injEq] at h
      obtain ⟨rfl, rfl, rfl, rfl, rfl, rfl, rfl⟩ := h
      exact rderive_10 o r b g n r' b' g' n' w hc
    · rw [if_neg (by decide), if_pos (by decide)] at h
      simp only [Option.some.injEq, Prod.mk.injEq] at h
      obtain ⟨rfl, rfl, rfl, rfl, rfl, rfl, rfl⟩ := h
      exact rderive_11 o r b g n r' b' g' n' w hc
  · rw [if_neg c] at h
    simp only [Option.some.injEq, Prod.mk.injEq] at h
    obtain ⟨rfl, rfl, rfl, rfl, rfl, rfl, rfl⟩ := h
    exact rderive_wrong k o r b g n r' b' g' n' e w hc (beq_eq_false_iff_ne.mpr c) (ne_1 c)
end Go.Proofs.Ytfcjlephhnddaaa.Given

