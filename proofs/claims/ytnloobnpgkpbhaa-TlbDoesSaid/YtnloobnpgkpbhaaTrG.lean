/- Acts that came in, by columns. -/
import Derived.Test.YtnloobnpgkpbhaaTlBs
import Derived.Test.YtnloobnpgkpbhaaEngH
set_option linter.unusedVariables false
set_option linter.unusedSimpArgs false
set_option maxRecDepth 100000
namespace Go.Proofs.Ytnloobnpgkpbhaa.Wlk
open Go Go.Eng Go.Proofs Go.RowKit
theorem wfI {x : Int} (h : (Lit.int .i64 x).wf = true) : inI x = true := by
  simp [Lit.wf, IntKind.min, IntKind.max, IntKind.signed, IntKind.bits] at h
  exact inI_of (by omega) (by omega)
theorem wfU {x : Int} (h : (Lit.int .u64 x).wf = true) : word x = true := by
  simp [Lit.wf, IntKind.min, IntKind.max, IntKind.signed, IntKind.bits] at h
  simp only [word, Bool.and_eq_true, decide_eq_true_eq]
  omega
theorem allI_wf {l : List Int} (h : ∀ n ∈ l, (Lit.int .i64 n).wf = true) : allI l = true := by
  simp only [allI, List.all_eq_true]
  exact fun x hx => wfI (h x hx)
theorem allW_wf {l : List Int} (h : ∀ n ∈ l, (Lit.int .u64 n).wf = true) : allW l = true := by
  simp only [allW, List.all_eq_true]
  exact fun x hx => wfU (h x hx)
theorem allW_of {l : List Int} (h : ∀ n ∈ l, IntKind.u64.min ≤ n ∧ n ≤ IntKind.u64.max) : allW l = true := by
  simp only [allW, List.all_eq_true]
  intro x hx
  obtain ⟨h1, h2⟩ := h x hx
  have e1 : IntKind.min .u64 = 0 := by decide
  have e2 : IntKind.max .u64 = 18446744073709551615 := by decide
  rw [e1] at h1; rw [e2] at h2
  simp only [word, Bool.and_eq_true, decide_eq_true_eq]; omega
theorem allI_of {l : List Int} (h : ∀ n ∈ l, IntKind.i64.min ≤ n ∧ n ≤ IntKind.i64.max) : allI l = true := by
  simp only [allI, List.all_eq_true]
  intro x hx
  obtain ⟨h1, h2⟩ := h x hx
  have e1 : IntKind.min .i64 = -9223372036854775808 := by decide
  have e2 : IntKind.max .i64 = 9223372036854775807 := by decide
  rw [e1] at h1; rw [e2] at h2
  exact inI_of h1 h2
theorem md_facts (n : Int) {l : List Int} (h : allW l = true) : okM (mdN n) (mdW n l) = true ∧ allW (mdW n l) = true := by
  have h1 := mdW_len n l
  have h2 := mdN_in n
  exact ⟨by simp [okM, h1]; omega, mdW_all n h⟩
theorem ok3 {w : World} {s t u : SlArg} (h : SlOk w s) (g : SlOk w t) (f : SlOk w u) : ∀ (i : Nat) (s' : SlArg), [s, t, u][i]? = some s' → SlOk w s' := by
  intro i s' hs
  match i, hs with
  | 0, hs => simp at hs; subst hs; exact h
  | 1, hs => simp at hs; subst hs; exact g
  | 2, hs => simp at hs; subst hs; exact f
  | i + 3, hs => simp at hs
abbrev ksOp : List FK := [.int .i64, .int .i64, .int .i64, .int .i64, .bool, .bool, .bool, .int .i64, .int .u64]
theorem ops_of {W : World} {y : Option Addr} {len cap : Nat} (hg : IsGrid ksOp W y len cap) : ∃ (k s d a : List Int) (w v e : List Bool) (z p : List Int), SlOk W ⟨y, len, cap, [.ints .i64 k, .ints .i64 s, .ints .i64 d, .ints .i64 a, .bools w, .bools v, .bools e, .ints .i64 z, .ints .u64 p]⟩ ∧
    k.length = len ∧ s.length = len ∧ d.length = len ∧ a.length = len ∧ w.length = len ∧ v.length = len ∧ e.length = len ∧ z.length = len ∧ p.length = len ∧ allI k = true ∧ allI s = true ∧ allI d = true ∧ allI a = true ∧ allI z = true ∧ allW p = true := by
  obtain ⟨ok, hc⟩ := hg.ok (by decide)
  obtain ⟨k, ek, lk, fk⟩ := hc 0 (.int .i64) rfl
  obtain ⟨s, es, ls, fs⟩ := hc 1 (.int .i64) rfl
  obtain ⟨d, ed, ld, fd⟩ := hc 2 (.int .i64) rfl
  obtain ⟨a, ea, la, fa⟩ := hc 3 (.int .i64) rfl
  obtain ⟨w, ew, lw⟩ := hc 4 .bool rfl
  obtain ⟨v, ev, lv⟩ := hc 5 .bool rfl
  obtain ⟨e, ee, le⟩ := hc 6 .bool rfl
  obtain ⟨z, ez, lz, fz⟩ := hc 7 (.int .i64) rfl
  obtain ⟨p, ep, lp, fp⟩ := hc 8 (.int .u64) rfl
  have q : gridCols W y 9 len 0 ksOp = [.ints .i64 k, .ints .i64 s, .ints .i64 d, .ints .i64 a, .bools w, .bools v, .bools e, .ints .i64 z, .ints .u64 p] := by
    show [gridCol W y 9 len 0 _, gridCol W y 9 len 1 _, gridCol W y 9 len 2 _, gridCol W y 9 len 3 _, gridCol W y 9 len 4 _, gridCol W y 9 len 5 _, gridCol W y 9 len 6 _, gridCol W y 9 len 7 _, gridCol W y 9 len 8 _] = _
    have ek' : gridCol W y 9 len 0 (.int .i64) = .ints .i64 k := ek
    have es' : gridCol W y 9 len 1 (.int .i64) = .ints .i64 s := es
    have ed' : gridCol W y 9 len 2 (.int .i64) = .ints .i64 d := ed
    have ea' : gridCol W y 9 len 3 (.int .i64) = .ints .i64 a := ea
    have ew' : gridCol W y 9 len 4 .bool = .bools w := ew
    have ev' : gridCol W y 9 len 5 .bool = .bools v := ev
    have ee' : gridCol W y 9 len 6 .bool = .bools e := ee
    have ez' : gridCol W y 9 len 7 (.int .i64) = .ints .i64 z := ez
    have ep' : gridCol W y 9 len 8 (.int .u64) = .ints .u64 p := ep
    rw [ek', es', ed', ea', ew', ev', ee', ez', ep']
  exact ⟨k, s, d, a, w, v, e, z, p, by rw [← q]; exact ok, lk, ls, ld, la, lw, lv, le, lz, lp, allI_wf fk, allI_wf fs, allI_wf fd, allI_wf fa, allI_wf fz, allW_wf fp⟩
end Go.Proofs.Ytnloobnpgkpbhaa.Wlk
