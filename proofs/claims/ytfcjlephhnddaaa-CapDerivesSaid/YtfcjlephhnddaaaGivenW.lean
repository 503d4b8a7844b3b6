/- A capability in two words, and back: the walks of two functions, by hand. -/
import Derived.Test.YtfcjlephhnddaaaGiven
namespace Go.Proofs.Ytfcjlephhnddaaa.Given
open Go Go.RowKit Go.Proofs.Ytfcjlephhnddaaa.Base Go.Proofs.YtfcjlephhnddaaaW.PrintWords Go.Proofs.YtfcjlephhnddaaaW.PrintLast Go.Proofs.YtfcjlephhnddaaaW.PrintMore
set_option linter.unusedVariables false
set_option linter.unusedSimpArgs false
abbrev uw (x : Int) : Int := IntKind.u64.wrap x
abbrev firstV : Value := .agg #[.int .i64 0, .int .i64 4, .int .i64 4, .int .i64 6, .int .i64 10, .int .i64 3, .int .i64 13, .int .i64 5]
abbrev secondV : Value := .agg #[.int .i64 0, .int .i64 28, .int .i64 32, .int .i64 16]
set_option maxHeartbeats 2000000 in
set_option maxRecDepth 100000 in
theorem first_calls (w : World) : Calls Try.prog 31 #[] w fun e w' => e = .returned firstV ∧ Below w.heap.size w w' := by
  have hu := Try.underlying49
  have hu0 := Try.underlying50
  go_enter Try.func31, Try.ntmps31
  go_wp2
  refine bodyPost_ret (results_cell_row rfl _ _ w.heap.size 50 #[.int .i64 0, .int .i64 4, .int .i64 4, .int .i64 6, .int .i64 10, .int .i64 3, .int .i64 13, .int .i64 5] (0, 0) _ ?hp1 ?hg1 Try.underlying50 rfl (by kernel_rfl)) rfl ?hz1
  case hp1 => rfl
  case hg1 => exact blk_new _ _
  case hz1 => exact ⟨rfl, below_alloc (Below.refl _ _) _⟩
set_option maxHeartbeats 2000000 in
set_option maxRecDepth 100000 in
theorem second_calls (w : World) : Calls Try.prog 33 #[] w fun e w' => e = .returned secondV ∧ Below w.heap.size w w' := by
  have hu := Try.underlying49
  have hu0 := Try.underlying55
  go_enter Try.func33, Try.ntmps33
  go_wp2
  refine bodyPost_ret (results_cell_row rfl _ _ w.heap.size 55 #[.int .i64 0, .int .i64 28, .int .i64 32, .int .i64 16] (0, 0) _ ?hp1 ?hg1 Try.underlying55 rfl (by kernel_rfl)) rfl ?hz1
  case hp1 => rfl
  case hg1 => exact blk_new _ _
  case hz1 => exact ⟨rfl, below_alloc (Below.refl _ _) _⟩
theorem f0 (w : World) : (Instr.index 50 firstV (.int .i64 0)).run Try.prog w = .ok (.agg #[.int .i64 0, .int .i64 4]) w := by kernel_rfl
theorem f1 (w : World) : (Instr.index 50 firstV (.int .i64 1)).run Try.prog w = .ok (.agg #[.int .i64 4, .int .i64 6]) w := by kernel_rfl
theorem f2 (w : World) : (Instr.index 50 firstV (.int .i64 2)).run Try.prog w = .ok (.agg #[.int .i64 10, .int .i64 3]) w := by kernel_rfl
theorem f3 (w : World) : (Instr.index 50 firstV (.int .i64 3)).run Try.prog w = .ok (.agg #[.int .i64 13, .int .i64 5]) w := by kernel_rfl
theorem s0 (w : World) : (Instr.index 55 secondV (.int .i64 0)).run Try.prog w = .ok (.agg #[.int .i64 0, .int .i64 28]) w := by kernel_rfl
theorem s1 (w : World) : (Instr.index 55 secondV (.int .i64 1)).run Try.prog w = .ok (.agg #[.int .i64 32, .int .i64 16]) w := by kernel_rfl
set_option maxHeartbeats 8000000 in
set_option maxRecDepth 100000 in
theorem words_go (k o r b g n a1 a2 a3 a4 b1 b2 e1 e2 e3 e4 e5 e6 : Int) (w : World) (hc : cap_Check.f 10 k o r b g n = some 0)
    (h1 : bits_Put.f 0 0 4 (IntKind.u64.wrap k) = some (a1, e1)) (h2 : bits_Put.f a1 4 6 (IntKind.u64.wrap o) = some (a2, e2)) (h3 : bits_Put.f a2 10 3 (IntKind.u64.wrap r) = some (a3, e3)) (h4 : bits_Put.f a3 13 5 (IntKind.u64.wrap n) = some (a4, e4))
    (h5 : bits_Put.f 0 0 28 b = some (b1, e5)) (h6 : bits_Put.f b1 32 16 g = some (b2, e6)) :
    Calls Try.prog 14 #[.agg #[.int .i64 k, .int .i64 o, .int .i64 r, .int .u64 b, .int .u64 g, .int .i64 n]] w fun e w' => e = .returned (.tuple #[.int .u64 a4, .int .u64 b2, .int .i64 0]) ∧ Below w.heap.size w w' := by
  have A := Aside0.mk hc
  have P1 := Aside0.mk h1
  have P2 := Aside0.mk h2
  have P3 := Aside0.mk h3
  have P4 := Aside0.mk h4
  have P5 := Aside0.mk h5
  have P6 := Aside0.mk h6
  clear hc h1 h2 h3 h4 h5 h6
  have hu := Try.underlying24
  have hu9 := Try.underlying49
  have F0 := f0
  have F1 := f1
  have F2 := f2
  have F3 := f3
  have S0 := s0
  have S1 := s1
  have j0 : ∀ w, (Instr.index 47 (.agg #[.int .i64 k, .int .i64 o, .int .i64 r, .int .i64 n]) (.int .i64 0)).run Try.prog w = .ok (.int .i64 k) w := fun _ => by kernel_rfl
  have j1 : ∀ w, (Instr.index 47 (.agg #[.int .i64 k, .int .i64 o, .int .i64 r, .int .i64 n]) (.int .i64 1)).run Try.prog w = .ok (.int .i64 o) w := fun _ => by kernel_rfl
  have j2 : ∀ w, (Instr.index 47 (.agg #[.int .i64 k, .int .i64 o, .int .i64 r, .int .i64 n]) (.int .i64 2)).run Try.prog w = .ok (.int .i64 r) w := fun _ => by kernel_rfl
  have j3 : ∀ w, (Instr.index 47 (.agg #[.int .i64 k, .int .i64 o, .int .i64 r, .int .i64 n]) (.int .i64 3)).run Try.prog w = .ok (.int .i64 n) w := fun _ => by kernel_rfl
  have l0 : ∀ w, (Instr.index 54 (.agg #[.int .u64 b, .int .u64 g]) (.int .i64 0)).run Try.prog w = .ok (.int .u64 b) w := fun _ => by kernel_rfl
  have l1 : ∀ w, (Instr.index 54 (.agg #[.int .u64 b, .int .u64 g]) (.int .i64 1)).run Try.prog w = .ok (.int .u64 g) w := fun _ => by kernel_rfl
  go_enter Try.func14, Try.ntmps14
  go_wp2_with (first
    | (go_at_call 18; (with_reducible refine (cap_Check.calls 10 k o r b g n 0 _ A.out).mono ?_); rintro e wa ⟨rfl, hb⟩; have N := Aside0.mk (below_step (below_alloc (Below.refl _ _) _) hb); have K := Aside0.mk (blk_below (blk_new _ _) hb); clear hb; obtain ⟨ca, fa⟩ := row_facts K; have hz := blk_lt K.out))
  refine wp_loop_rounds 5 ?_
  rw [rounds_succ]
  go_wp2_with (first
    | (go_at_call 31; (with_reducible refine (first_calls _).mono ?_); rintro e wz ⟨rfl, hb⟩; have n_ := Aside0.mk (below_step (by repeat (first | with_reducible exact N.out | with_reducible apply below_alloc | with_reducible apply pw_below_drewN)) hb); have k_ : Aside0 (wz.heap[w.heap.size]? = some (.cells #[.int .i64 k, .int .i64 o, .int .i64 r, .int .u64 b, .int .u64 g, .int .i64 n] 24 (0, 0))) := Aside0.mk (blk_below (by repeat (first | with_reducible exact K.out | with_reducible refine blk_alloc ?_ _ | with_reducible refine blk_drewN ?_ _)) hb); clear hb N K ca fa hz; have N := n_; have K := k_; clear n_ k_; obtain ⟨ca, fa⟩ := row_facts K; have hz := blk_lt K.out)
    | (go_at_call 32; (with_reducible refine (bits_Put.calls 0 0 4 (IntKind.u64.wrap k) a1 e1 _ P1.out).mono ?_); rintro e w' ⟨rfl, ⟨nd, rfl⟩⟩))
  rw [rounds_succ]
  go_wp2_with (first
    | (go_at_call 31; (with_reducible refine (first_calls _).mono ?_); rintro e wz ⟨rfl, hb⟩; have n_ := Aside0.mk (below_step (by repeat (first | with_reducible exact N.out | with_reducible apply below_alloc | with_reducible apply pw_below_drewN)) hb); have k_ : Aside0 (wz.heap[w.heap.size]? = some (.cells #[.int .i64 k, .int .i64 o, .int .i64 r, .int .u64 b, .int .u64 g, .int .i64 n] 24 (0, 0))) := Aside0.mk (blk_below (by repeat (first | with_reducible exact K.out | with_reducible refine blk_alloc ?_ _ | with_reducible refine blk_drewN ?_ _)) hb); clear hb N K ca fa hz; have N := n_; have K := k_; clear n_ k_; obtain ⟨ca, fa⟩ := row_facts K; have hz := blk_lt K.out)
    | (go_at_call 32; (with_reducible refine (bits_Put.calls a1 4 6 (IntKind.u64.wrap o) a2 e2 _ P2.out).mono ?_); rintro e w' ⟨rfl, ⟨nd, rfl⟩⟩))
  rw [rounds_succ]
  go_wp2_with (first
    | (go_at_call 31; (with_reducible refine (first_calls _).mono ?_); rintro e wz ⟨rfl, hb⟩; have n_ := Aside0.mk (below_step (by repeat (first | with_reducible exact N.out | with_reducible apply below_alloc | with_reducible apply pw_below_drewN)) hb); have k_ : Aside0 (wz.heap[w.heap.size]? = some (.cells #[.int .i64 k, .int .i64 o, .int .i64 r, .int .u64 b, .int .u64 g, .int .i64 n] 24 (0, 0))) := Aside0.mk (blk_below (by repeat (first | with_reducible exact K.out | with_reducible refine blk_alloc ?_ _ | with_reducible refine blk_drewN ?_ _)) hb); clear hb N K ca fa hz; have N := n_; have K := k_; clear n_ k_; obtain ⟨ca, fa⟩ := row_facts K; have hz := blk_lt K.out)
    | (go_at_call 32; (with_reducible refine (bits_Put.calls a2 10 3 (IntKind.u64.wrap r) a3 e3 _ P3.out).mono ?_); rintro e w' ⟨rfl, ⟨nd, rfl⟩⟩))
  rw [rounds_succ]
  go_wp2_with (first
    | (go_at_call 31; (with_reducible refine (first_calls _).mono ?_); rintro e wz ⟨rfl, hb⟩; have n_ := Aside0.mk (below_step (by repeat (first | with_reducible exact N.out | with_reducible apply below_alloc | with_reducible apply pw_below_drewN)) hb); have k_ : Aside0 (wz.heap[w.heap.size]? = some (.cells #[.int .i64 k, .int .i64 o, .int .i64 r, .int .u64 b, .int .u64 g, .int .i64 n] 24 (0, 0))) := Aside0.mk (blk_below (by repeat (first | with_reducible exact K.out | with_reducible refine blk_alloc ?_ _ | with_reducible refine blk_drewN ?_ _)) hb); clear hb N K ca fa hz; have N := n_; have K := k_; clear n_ k_; obtain ⟨ca, fa⟩ := row_facts K; have hz := blk_lt K.out)
    | (go_at_call 32; (with_reducible refine (bits_Put.calls a3 13 5 (IntKind.u64.wrap n) a4 e4 _ P4.out).mono ?_); rintro e w' ⟨rfl, ⟨nd, rfl⟩⟩))
  rw [rounds_succ]
  go_wp2_with fail
  refine wp_loop_rounds 3 ?_
  rw [rounds_succ]
  go_wp2_with (first
    | (go_at_call 33; (with_reducible refine (second_calls _).mono ?_); rintro e wz ⟨rfl, hb⟩; have n_ := Aside0.mk (below_step (by repeat (first | with_reducible exact N.out | with_reducible apply below_alloc | with_reducible apply pw_below_drewN)) hb); have k_ : Aside0 (wz.heap[w.heap.size]? = some (.cells #[.int .i64 k, .int .i64 o, .int .i64 r, .int .u64 b, .int .u64 g, .int .i64 n] 24 (0, 0))) := Aside0.mk (blk_below (by repeat (first | with_reducible exact K.out | with_reducible refine blk_alloc ?_ _ | with_reducible refine blk_drewN ?_ _)) hb); clear hb N K ca fa hz; have N := n_; have K := k_; clear n_ k_; obtain ⟨ca, fa⟩ := row_facts K; have hz := blk_lt K.out)
    | (go_at_call 32; (with_reducible refine (bits_Put.calls 0 0 28 b b1 e5 _ P5.out).mono ?_); rintro e w' ⟨rfl, ⟨nd, rfl⟩⟩))
  rw [rounds_succ]
  go_wp2_with (first
    | (go_at_call 33; (with_reducible refine (second_calls _).mono ?_); rintro e wz ⟨rfl, hb⟩; have n_ := Aside0.mk (below_step (by repeat (first | with_reducible exact N.out | with_reducible apply below_alloc | with_reducible apply pw_below_drewN)) hb); have k_ : Aside0 (wz.heap[w.heap.size]? = some (.cells #[.int .i64 k, .int .i64 o, .int .i64 r, .int .u64 b, .int .u64 g, .int .i64 n] 24 (0, 0))) := Aside0.mk (blk_below (by repeat (first | with_reducible exact K.out | with_reducible refine blk_alloc ?_ _ | with_reducible refine blk_drewN ?_ _)) hb); clear hb N K ca fa hz; have N := n_; have K := k_; clear n_ k_; obtain ⟨ca, fa⟩ := row_facts K; have hz := blk_lt K.out)
    | (go_at_call 32; (with_reducible refine (bits_Put.calls b1 32 16 g b2 e6 _ P6.out).mono ?_); rintro e w' ⟨rfl, ⟨nd, rfl⟩⟩))
  rw [rounds_succ]
  go_wp2_with fail
  go_ret3
  exact ⟨rfl, pw_below_drewN (below_alloc N.out _) _⟩
set_option maxHeartbeats 2000000 in
set_option maxRecDepth 100000 in
theorem words_wrong (k o r b g n e0 : Int) (w : World) (hc : cap_Check.f 10 k o r b g n = some e0) (h0 : (e0 == 0) = false) (h1 : (e0 != 0) = true) :
    Calls Try.prog 14 #[.agg #[.int .i64 k, .int .i64 o, .int .i64 r, .int .u64 b, .int .u64 g, .int .i64 n]] w fun e w' => e = .returned (.tuple #[.int .u64 0, .int .u64 0, .int .i64 e0]) ∧ Below w.heap.size w w' := by
  have A := Aside0.mk hc
  clear hc
  have hu := Try.underlying24
  go_enter Try.func14, Try.ntmps14
  go_wp2_with (first
    | (go_at_call 18; (with_reducible refine (cap_Check.calls 10 k o r b g n e0 _ A.out).mono ?_); rintro e wa ⟨rfl, hb⟩; have N := Aside0.mk (below_step (below_alloc (Below.refl _ _) _) hb); clear hb))
  go_ret3
  exact ⟨rfl, N.out⟩
/-- a capability's two words -/
def cap_Words.f (k o r b g n : Int) : Option (Int × Int × Int) :=
  (cap_Check.f 10 k o r b g n).bind fun e => if e = 0 then
    (bits_Put.f 0 0 4 (IntKind.u64.wrap k)).bind fun p1 => (bits_Put.f p1.1 4 6 (IntKind.u64.wrap o)).bind fun p2 => (bits_Put.f p2.1 10 3 (IntKind.u64.wrap r)).bind fun p3 => (bits_Put.f p3.1 13 5 (IntKind.u64.wrap n)).bind fun p4 =>
    (bits_Put.f 0 0 28 b).bind fun p5 => (bits_Put.f p5.1 32 16 g).bind fun p6 => some (p4.1, p6.1, 0)
  else some (0, 0, e)
theorem cap_Words.calls (k o r b g n r1 r2 r3 : Int) (w : World) (h : cap_Words.f k o r b g n = some (r1, r2, r3)) :
    Calls Try.prog 14 #[.agg #[.int .i64 k, .int .i64 o, .int .i64 r, .int .u64 b, .int .u64 g, .int .i64 n]] w fun e w' => e = .returned (.tuple #[.int .u64 r1, .int .u64 r2, .int .i64 r3]) ∧ Below w.heap.size w w' := by
  unfold cap_Words.f at h
  obtain ⟨e, hc, h⟩ := Option.bind_eq_some_iff.mp h
  by_cases c : e = 0
  · subst c
    rw [if_pos rfl] at h
    obtain ⟨⟨a1, e1⟩, h1, h⟩ := Option.bind_eq_some_iff.mp h
    obtain ⟨⟨a2, e2⟩, h2, h⟩ := Option.bind_eq_some_iff.mp h
    obtain ⟨⟨a3, e3⟩, h3, h⟩ := Option.bind_eq_some_iff.mp h
    obtain ⟨⟨a4, e4⟩, h4, h⟩ := Option.bind_eq_some_iff.mp h
    obtain ⟨⟨b1, e5⟩, h5, h⟩ := Option.bind_eq_some_iff.mp h
    obtain ⟨⟨b2, e6⟩, h6, h⟩ := Option.bind_eq_some_iff.mp h
    simp only [Option.some.injEq, Prod.mk.injEq] at h
    obtain ⟨rfl, rfl, rfl⟩ := h
    exact words_go k o r b g n a1 a2 a3 a4 b1 b2 e1 e2 e3 e4 e5 e6 w hc h1 h2 h3 h4 h5 h6
  · rw [if_neg c] at h
    simp only [Option.some.injEq, Prod.mk.injEq] at h
    obtain ⟨rfl, rfl, rfl⟩ := h
    exact words_wrong k o r b g n e w hc (beq_eq_false_iff_ne.mpr c) (ne_1 c)
end Go.Proofs.Ytfcjlephhnddaaa.Given
