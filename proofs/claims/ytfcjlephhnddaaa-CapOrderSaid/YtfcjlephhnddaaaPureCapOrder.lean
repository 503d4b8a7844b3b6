/- What the functions compute, over numbers and lists alone, and the law's walk over it. -/
import Derived.Test.YtfcjlephhnddaaaTCapOrder1
import Derived.Test.YtfcjlephhnddaaaPureCap
import Derived.Test.YtfcjlephhnddaaaPlain
import Derived.Test.YtfcjlephhnddaaaPlainB
import Derived.Test.YtfcjlephhnddaaaPlainR
namespace Go.Proofs.Ytfcjlephhnddaaa.Pure
open Go Go.RowKit Go.Proofs.YtfcjlephhnddaaaW.PrintWords Go.Proofs.YtfcjlephhnddaaaW.PrintLast Go.Proofs.YtfcjlephhnddaaaW.PrintMore Go.Proofs.Ytfcjlephhnddaaa.Plain Go.Proofs.Ytfcjlephhnddaaa.TCapOrder Go.Proofs.Ytfcjlephhnddaaa.Base Go.Proofs.Ytfcjlephhnddaaa.Given Go.Proofs.Ytfcjlephhnddaaa.Weak Go.Proofs.Ytfcjlephhnddaaa.Wrk
set_option linter.unusedVariables false
set_option linter.unusedSimpArgs false
theorem order_all {k o r b g n k' o' r' b' g' n' k2 o2 r2 b2 g2 n2 : Int} (hr0 : -9223372036854775808 ≤ r) (hr1 : r ≤ 9223372036854775807) (hb : 0 ≤ b) (hg : 0 ≤ g)
    (hr0' : -9223372036854775808 ≤ r') (hr1' : r' ≤ 9223372036854775807) (hb' : 0 ≤ b') (hg' : 0 ≤ g') (hr02 : -9223372036854775808 ≤ r2) (hr12 : r2 ≤ 9223372036854775807) (hb2 : 0 ≤ b2) (hg2 : 0 ≤ g2) :
    donjonlaw05_CapOrder.f 10 k o r b g n k' o' r' b' g' n' k2 o2 r2 b2 g2 n2 = some true := by
  unfold donjonlaw05_CapOrder.f
  rw [works_yes, Option.bind_some, if_pos rfl, weak_is hr0 hr1 hb hg hr0 hr1 hb hg, Option.bind_some, check_is hr0 hr1 hb hg, Option.bind_some]
  have e : (decide (weakC k o r b g n k o r b g n) == (checkS k o r b g n == 0)) = true := by
    by_cases c : checkS k o r b g n = 0
    · rw [decide_eq_true (show weakC k o r b g n k o r b g n from ⟨c, c, rfl, rfl, Nat.and_self _, .inr rfl⟩), c]; rfl
    · rw [decide_eq_false (show ¬ weakC k o r b g n k o r b g n from fun h => c h.1)]; simpa using c
  rw [if_pos e, weak_is hr0 hr1 hb hg hr0' hr1' hb' hg', Option.bind_some]
  by_cases c1 : weakC k o r b g n k' o' r' b' g' n'
  · rw [decide_eq_true c1, if_pos rfl, weak_is hr0' hr1' hb' hg' hr02 hr12 hb2 hg2, Option.bind_some]
    by_cases c2 : weakC k' o' r' b' g' n' k2 o2 r2 b2 g2 n2
    · rw [decide_eq_true c2, if_pos rfl, weak_is hr0 hr1 hb hg hr02 hr12 hb2 hg2, Option.bind_some, decide_eq_true (weak_trans c1 c2)]
    · rw [decide_eq_false c2, if_neg (by decide)]
  · rw [decide_eq_false c1, if_neg (by decide)]
theorem wu0 {a : Int} (h : (Lit.int .u64 a).wf = true) : 0 ≤ a := by obtain ⟨n, rfl, _⟩ := wu h; omega
theorem CapOrder.walk (k o r b g n k' o' r' b' g' n' k2 o2 r2 b2 g2 n2 : Int) (w : World)
    (_ : (Lit.int .i64 k).wf = true) (_ : (Lit.int .i64 o).wf = true) (hr : (Lit.int .i64 r).wf = true) (hb : (Lit.int .u64 b).wf = true) (hg : (Lit.int .u64 g).wf = true) (_ : (Lit.int .i64 n).wf = true)
    (_ : (Lit.int .i64 k').wf = true) (_ : (Lit.int .i64 o').wf = true) (hr' : (Lit.int .i64 r').wf = true) (hb' : (Lit.int .u64 b').wf = true) (hg' : (Lit.int .u64 g').wf = true) (_ : (Lit.int .i64 n').wf = true)
    (_ : (Lit.int .i64 k2).wf = true) (_ : (Lit.int .i64 o2).wf = true) (hr2 : (Lit.int .i64 r2).wf = true) (hb2 : (Lit.int .u64 b2).wf = true) (hg2 : (Lit.int .u64 g2).wf = true) (_ : (Lit.int .i64 n2).wf = true) :
    Calls Try.prog 7 #[.agg #[.int .i64 k, .int .i64 o, .int .i64 r, .int .u64 b, .int .u64 g, .int .i64 n], .agg #[.int .i64 k', .int .i64 o', .int .i64 r', .int .u64 b', .int .u64 g', .int .i64 n'], .agg #[.int .i64 k2, .int .i64 o2, .int .i64 r2, .int .u64 b2, .int .u64 g2, .int .i64 n2]] w
      fun e w' => e = .returned (.bool true) ∧ Below w.heap.size w w' :=
  (donjonlaw05_CapOrder.calls 10 k o r b g n k' o' r' b' g' n' k2 o2 r2 b2 g2 n2 true w (order_all (wi hr).1 (wi hr).2 (wu0 hb) (wu0 hg) (wi hr').1 (wi hr').2 (wu0 hb') (wu0 hg') (wi hr2).1 (wi hr2).2 (wu0 hb2) (wu0 hg2))).mono fun _ _ h => h
end Go.Proofs.Ytfcjlephhnddaaa.Pure
