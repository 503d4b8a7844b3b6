/- What the functions compute, over numbers and lists alone, and the law's walk over it. -/
import Derived.Test.YtdfooddmkglfgaaTop1
import Derived.Test.YtdfooddmkglfgaaTop2
import Derived.Test.YtdfooddmkglfgaaGiven
import Derived.Test.YtdfooddmkglfgaaPlain
import Derived.Test.YtdfooddmkglfgaaPlainB
import Derived.Test.YtdfooddmkglfgaaPlainR
namespace Go.Proofs.Ytdfooddmkglfgaa.Pure
open Go Go.RowKit Go.Proofs.YtdfooddmkglfgaaW.PrintWords Go.Proofs.YtdfooddmkglfgaaW.PrintLast Go.Proofs.YtdfooddmkglfgaaW.PrintMore Go.Proofs.Ytdfooddmkglfgaa.Plain Go.Proofs.Ytdfooddmkglfgaa.Top Go.Proofs.Ytdfooddmkglfgaa.Given
set_option linter.unusedVariables false
set_option linter.unusedSimpArgs false
theorem check_is {a : Int} (h0 : -9223372036854775808 ≤ a) (h1 : a ≤ 9223372036854775807) : rights_Check.f a = some (decide (0 ≤ a ∧ a ≤ 7)) := by
  unfold rights_Check.f
  by_cases h : 0 ≤ a ∧ a ≤ 7
  · rw [(three_bits h0 h1).2 h, decide_eq_true h]; rfl
  · rw [decide_eq_false h]
    have := mt (three_bits h0 h1).1 h
    simp [this]
theorem works_yes : donjonlaw04_works.f = some true := by kernel_rfl
theorem all_9 : ∀ a b c : Fin 9, donjonlaw04_RightsOrder.f (a.val : Int) (b.val : Int) (c.val : Int) = some true := by decide +kernel
theorem order_mod (a b c : Int) : donjonlaw04_RightsOrder.f a b c = some true := by
  obtain ⟨x, hx, ex⟩ := tmw a 9 (by omega) (by omega)
  obtain ⟨y, hy, ey⟩ := tmw b 9 (by omega) (by omega)
  obtain ⟨z, hz, ez⟩ := tmw c 9 (by omega) (by omega)
  have t := all_9 ⟨x, by omega⟩ ⟨y, by omega⟩ ⟨z, by omega⟩
  simp only at t
  unfold donjonlaw04_RightsOrder.f at t ⊢
  have s : ∀ n : Nat, n < 9 → wrap64 (Int.tmod (IntKind.u64.wrap (n : Int)) 9) = n := by
    intro n hn
    have := tmod_n n 9
    simp only [Int.cast_ofNat_Int] at this
    rw [u64n (by omega), this, Nat.mod_eq_of_lt hn, w64 (by omega) (by omega)]
  rw [s x (by omega), s y (by omega), s z (by omega)] at t
  rw [ex, ey, ez]
  exact t
theorem RightsOrder.walk (a b c : Int) (w : World) (_ : (Lit.int .i64 a).wf = true) (_ : (Lit.int .i64 b).wf = true) (_ : (Lit.int .i64 c).wf = true) :
    Calls Try.prog 7 #[.int .i64 a, .int .i64 b, .int .i64 c] w fun e w' => e = .returned (.bool true) ∧ Below w.heap.size w w' :=
  (donjonlaw04_RightsOrder.calls a b c true w (order_mod a b c)).mono fun _ _ h => h
end Go.Proofs.Ytdfooddmkglfgaa.Pure
