/- The plain law: over numbers and lists alone, what the functions of RightsTells compute answers true at every input. -/
import Derived.Test.YtdfooddmkglfgaaPRightsTellsx1
import Derived.Test.YtdfooddmkglfgaaPlain
import Derived.Test.YtdfooddmkglfgaaPlainB
import Derived.Test.YtdfooddmkglfgaaPlainR
namespace Go.Proofs.Ytdfooddmkglfgaa.Pure
open Go Go.RowKit Go.Proofs.Ytdfooddmkglfgaa.PRightsTells Go.Proofs.YtdfooddmkglfgaaW.PrintWords Go.Proofs.YtdfooddmkglfgaaW.PrintLast Go.Proofs.YtdfooddmkglfgaaW.PrintMore Go.Proofs.Ytdfooddmkglfgaa.Plain
set_option linter.unusedVariables false
set_option linter.unusedSimpArgs false
theorem both_in : ∀ a b : Fin 8, donjonlaw04_RightsTells.f 10 (a.val : Int) (b.val : Int) = some true := by decide +kernel
theorem check_in {a : Int} (h : 0 ≤ a ∧ a ≤ 7) (h0 : -9223372036854775808 ≤ a) (h1 : a ≤ 9223372036854775807) : rights_Check.f a = some true ∧ donjonref04_Check.f a = some true := by
  unfold rights_Check.f donjonref04_Check.f
  have e := (three_bits h0 h1).2 h
  rw [e, if_pos h.1]
  simp; exact h.2
theorem check_out {a : Int} (h : ¬ (0 ≤ a ∧ a ≤ 7)) (h0 : -9223372036854775808 ≤ a) (h1 : a ≤ 9223372036854775807) : rights_Check.f a = some false ∧ donjonref04_Check.f a = some false := by
  unfold rights_Check.f donjonref04_Check.f
  have e := mt (three_bits h0 h1).1 h
  refine ⟨by simp [e], ?_⟩
  by_cases c : a ≥ 0
  · rw [if_pos c]; simp; omega
  · rw [if_neg c]
theorem RightsTells : donjonlaw04_RightsTells.Pure := by
  intro a b ha hb
  obtain ⟨a0, a1⟩ := wi ha
  obtain ⟨b0, b1⟩ := wi hb
  refine ⟨10, ?_⟩
  by_cases ca : 0 ≤ a ∧ a ≤ 7
  · by_cases cb : 0 ≤ b ∧ b ≤ 7
    · have := both_in ⟨a.toNat, by omega⟩ ⟨b.toNat, by omega⟩
      simp only at this
      rw [show ((a.toNat : Nat) : Int) = a by omega, show ((b.toNat : Nat) : Int) = b by omega] at this
      exact this
    · obtain ⟨p, q⟩ := check_in ca a0 a1
      obtain ⟨r, s⟩ := check_out cb b0 b1
      unfold donjonlaw04_RightsTells.f rights_Mask.f donjonref04_Mask.f rights_Within.f donjonref04_Within.f
      rw [p, q, r, s]
      rfl
  · obtain ⟨p, q⟩ := check_out ca a0 a1
    unfold donjonlaw04_RightsTells.f rights_Mask.f donjonref04_Mask.f rights_Within.f donjonref04_Within.f
    rw [p, q]
    rfl
end Go.Proofs.Ytdfooddmkglfgaa.Pure
