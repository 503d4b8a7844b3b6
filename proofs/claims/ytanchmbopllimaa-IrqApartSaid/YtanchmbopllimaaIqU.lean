/- Lines of interrupts: those of others do not matter: both agree on the even lines. -/
import Derived.Test.YtanchmbopllimaaIqT
set_option linter.unusedVariables false
set_option linter.unusedSimpArgs false
set_option maxRecDepth 100000
namespace Go.Proofs.Ytanchmbopllimaa.Wlk
open Go Go.Eng Go.Proofs Go.RowKit
theorem md_range (x : Int) (m : Int) (h0 : 0 < m) (h1 : m ≤ 8) : 0 ≤ IntKind.wrap IntKind.i64 (Int.tmod (IntKind.wrap IntKind.u64 x) m) ∧ IntKind.wrap IntKind.i64 (Int.tmod (IntKind.wrap IntKind.u64 x) m) < m := by
  have a : 0 ≤ IntKind.wrap IntKind.u64 x := by rw [wrap_u64_emod]; exact Int.emod_nonneg _ (by omega)
  rw [Int.tmod_eq_emod_of_nonneg a]
  have b := Int.emod_nonneg (IntKind.wrap IntKind.u64 x) (show m ≠ 0 by omega)
  have c := Int.emod_lt_of_pos (IntKind.wrap IntKind.u64 x) h0
  rw [wrap_i64 (by omega) (by omega)]
  exact ⟨b, c⟩
theorem xE_of (l : List Int) (i : Int) : ∃ q : Nat, q < 4 ∧ xE l i = 2 * (q : Int) := by
  obtain ⟨h0, h1⟩ := md_range (List.getD l (0 + Int.toNat i) 0) 4 (by decide) (by decide)
  refine ⟨(IntKind.wrap IntKind.i64 (Int.tmod (IntKind.wrap IntKind.u64 (List.getD l (0 + Int.toNat i) 0)) 4)).toNat, by omega, ?_⟩
  unfold xE
  rw [wrap_i64 (n := 2 * _) (by omega) (by omega)]
  omega
theorem xO_of (l : List Int) (i : Int) : ∃ q : Nat, q < 4 ∧ xO l i = 2 * (q : Int) + 1 := by
  obtain ⟨h0, h1⟩ := md_range (List.getD l (0 + Int.toNat i) 0) 4 (by decide) (by decide)
  refine ⟨(IntKind.wrap IntKind.i64 (Int.tmod (IntKind.wrap IntKind.u64 (List.getD l (0 + Int.toNat i) 0)) 4)).toNat, by omega, ?_⟩
  unfold xO
  rw [wrap_i64 (n := 2 * _) (by omega) (by omega), wrap_i64 (by omega) (by omega)]
  omega
theorem dO_of {d : Int} (h0 : 0 ≤ d) (h4 : d < 4) : 0 ≤ dO d ∧ dO d < 4 ∧ dO d ≠ d := by
  unfold dO
  rw [wrap_i64 (by omega) (by omega), Int.tmod_eq_emod_of_nonneg (by omega)]
  omega
theorem get_setN {α : Type} (ix : Nat) (x z : α) : ∀ (j k : Nat) (l : List α), (setN ix x j l).getD k z = if ix = j + k ∧ k < l.length then x else l.getD k z
  | j, k, [] => by rw [if_neg (fun h => absurd h.2 (Nat.not_lt_zero _))]; rfl
  | j, 0, y :: r => by
    by_cases c : ix = j
    · rw [if_pos ⟨c, Nat.zero_lt_succ _⟩, setN, if_pos c]; rfl
    · rw [if_neg (fun h => c h.1), setN, if_neg c]; rfl
  | j, k + 1, y :: r => by
    have e := get_setN ix x z (j + 1) k r
    show (setN ix x (j + 1) r).getD k z = _
    rw [e, show j + 1 + k = j + (k + 1) by omega]
    by_cases c : ix = j + (k + 1) ∧ k < r.length
    · rw [if_pos c, if_pos ⟨c.1, Nat.succ_lt_succ c.2⟩]
    · rw [if_neg c, if_neg (fun h => c ⟨h.1, Nat.lt_of_succ_lt_succ h.2⟩)]; rfl
theorem get_upT (ix : Nat) : ∀ (j k : Nat) (l : List Nat), (upT ix j l).getD k 0 = if ix = j + k ∧ k < l.length then (if l.getD k 0 = 0 then 1 else l.getD k 0) else l.getD k 0
  | j, k, [] => by rw [if_neg (fun h => absurd h.2 (Nat.not_lt_zero _))]; rfl
  | j, 0, y :: r => by
    by_cases c : ix = j
    · rw [if_pos ⟨c, Nat.zero_lt_succ _⟩, upT, if_pos c]; rfl
    · rw [if_neg (fun h => c h.1), upT, if_neg c]; rfl
  | j, k + 1, y :: r => by
    have e := get_upT ix (j + 1) k r
    show (upT ix (j + 1) r).getD k 0 = _
    rw [e, show j + 1 + k = j + (k + 1) by omega]
    by_cases c : ix = j + (k + 1) ∧ k < r.length
    · rw [if_pos c, if_pos (show ix = j + (k + 1) ∧ k + 1 < (y :: r).length from ⟨c.1, Nat.succ_lt_succ c.2⟩)]; rfl
    · rw [if_neg c, if_neg (fun h => c ⟨h.1, Nat.lt_of_succ_lt_succ h.2⟩)]; rfl
theorem get_dnT (ix : Nat) : ∀ (j k : Nat) (l : List Nat), (dnT ix j l).getD k 0 = if ix = j + k ∧ k < l.length then l.getD k 0 - 1 else l.getD k 0
  | j, k, [] => by rw [if_neg (fun h => absurd h.2 (Nat.not_lt_zero _))]; rfl
  | j, 0, y :: r => by
    by_cases c : ix = j
    · rw [if_pos ⟨c, Nat.zero_lt_succ _⟩, dnT, if_pos c]; rfl
    · rw [if_neg (fun h => c h.1), dnT, if_neg c]; rfl
  | j, k + 1, y :: r => by
    have e := get_dnT ix (j + 1) k r
    show (dnT ix (j + 1) r).getD k 0 = _
    rw [e, show j + 1 + k = j + (k + 1) by omega]
    by_cases c : ix = j + (k + 1) ∧ k < r.length
    · rw [if_pos c, if_pos (show ix = j + (k + 1) ∧ k + 1 < (y :: r).length from ⟨c.1, Nat.succ_lt_succ c.2⟩)]; rfl
    · rw [if_neg c, if_neg (fun h => c ⟨h.1, Nat.lt_of_succ_lt_succ h.2⟩)]; rfl
theorem upT_length (ix : Nat) : ∀ (j : Nat) (l : List Nat), (upT ix j l).length = l.length
  | _, [] => rfl
  | j, _ :: r => congrArg (· + 1) (upT_length ix (j + 1) r)
theorem dnT_length (ix : Nat) : ∀ (j : Nat) (l : List Nat), (dnT ix j l).length = l.length
  | _, [] => rfl
  | j, _ :: r => congrArg (· + 1) (dnT_length ix (j + 1) r)
def opM (os : List Int) (k n d : Int) (ms : List Bool) (ts : List Nat) : List Bool := if k = 1 then ms else if k = 2 then setN (nxI d 0 os ms ts) true 0 ms else setN (ackIx n os ms) false 0 ms
def opT (os : List Int) (k n d : Int) (ms : List Bool) (ts : List Nat) : List Nat := if k = 1 then upT (upIx n) 0 ts else if k = 2 then dnT (nxI d 0 os ms ts) 0 ts else ts
theorem opM_len (os : List Int) (k n d : Int) (ms : List Bool) (ts : List Nat) : (opM os k n d ms ts).length = ms.length := by
  unfold opM; split
  · rfl
  · split <;> rw [setN_length]
theorem opT_len (os : List Int) (k n d : Int) (ms : List Bool) (ts : List Nat) : (opT os k n d ms ts).length = ts.length := by
  unfold opT; split
  · rw [upT_length]
  · split
    · rw [dnT_length]
    · rfl
abbrev oP (d : Int) : List Int := [d, dO d, d, dO d, d, dO d, d, dO d]
theorem oP_even {d : Int} (h0 : 0 ≤ d) (h4 : d < 4) {t : Nat} (ht : t < 8) (e : (oP d).getD t 0 = d) : t % 2 = 0 := by
  have hn := (dO_of h0 h4).2.2
  have : t = 0 ∨ t = 1 ∨ t = 2 ∨ t = 3 ∨ t = 4 ∨ t = 5 ∨ t = 6 ∨ t = 7 := by omega
  rcases this with rfl | rfl | rfl | rfl | rfl | rfl | rfl | rfl
  all_goals first | rfl | exact absurd e hn
theorem oP_odd {d : Int} (h0 : 0 ≤ d) (h4 : d < 4) {t : Nat} (ht : t < 8) (e : (oP d).getD t 0 = dO d) : t % 2 = 1 := by
  have hn := (dO_of h0 h4).2.2
  have : t = 0 ∨ t = 1 ∨ t = 2 ∨ t = 3 ∨ t = 4 ∨ t = 5 ∨ t = 6 ∨ t = 7 := by omega
  rcases this with rfl | rfl | rfl | rfl | rfl | rfl | rfl | rfl
  all_goals first | rfl | exact absurd e.symm hn
theorem nxI_some (d : Int) : ∀ (j : Nat) (os : List Int) (ms : List Bool) (ts : List Nat), nxI d j os ms ts = 8 ∨ ∃ t, nxI d j os ms ts = j + t ∧ t < os.length ∧ os.getD t 0 = d
  | j, [], _, _ => by simp [nxI]
  | j, _ :: _, [], _ => by simp [nxI]
  | j, _ :: _, _ :: _, [] => by simp [nxI]
  | j, o :: os, m :: ms, t :: ts => by
    rw [nxI]
    by_cases c : o = d ∧ o ≠ -1 ∧ m = false ∧ 1 ≤ t
    · rw [if_pos c]; exact .inr ⟨0, rfl, Nat.zero_lt_succ _, c.1⟩
    · rw [if_neg c]
      rcases nxI_some d (j + 1) os ms ts with h | ⟨q, h1, h2, h3⟩
      · exact .inl h
      · exact .inr ⟨q + 1, by omega, Nat.succ_lt_succ h2, h3⟩
theorem nxI_ag (d : Int) : ∀ (j : Nat) (os : List Int) (ms : List Bool) (ts : List Nat) (ms' : List Bool) (ts' : List Nat), ms.length = os.length → ts.length = os.length → ms'.length = os.length → ts'.length = os.length →
    (∀ t, t < os.length → os.getD t 0 = d → ms.getD t false = ms'.getD t false ∧ ts.getD t 0 = ts'.getD t 0) → nxI d j os ms ts = nxI d j os ms' ts'
  | j, [], [], [], [], [], _, _, _, _, _ => rfl
  | j, o :: os, m :: ms, t :: ts, m' :: ms', t' :: ts', h1, h2, h3, h4, h => by
    rw [nxI, nxI, nxI_ag d (j + 1) os ms ts ms' ts' (Nat.succ.inj h1) (Nat.succ.inj h2) (Nat.succ.inj h3) (Nat.succ.inj h4) (fun q hq e => h (q + 1) (Nat.succ_lt_succ hq) e)]
    by_cases c : o = d
    · obtain ⟨a, b⟩ := h 0 (Nat.zero_lt_succ _) c
      have a : m = m' := a
      have b : t = t' := b
      rw [a, b]
    · rw [if_neg (fun q => c q.1), if_neg (fun q => c q.1)]
/-- Both agree on the even lines. -/
structure Ag (ma : List Bool) (ta : List Nat) (mb : List Bool) (tb : List Nat) : Prop where
  l1 : ma.length = 8
  l2 : ta.length = 8
  l3 : mb.length = 8
  l4 : tb.length = 8
  e : ∀ k, k % 2 = 0 → ma.getD k false = mb.getD k false ∧ ta.getD k 0 = tb.getD k 0
theorem Ag.nx {d : Int} (h0 : 0 ≤ d) (h4 : d < 4) {ma mb : List Bool} {ta tb : List Nat} (h : Ag ma ta mb tb) : nxI d 0 (oP d) ma ta = nxI d 0 (oP d) mb tb :=
  nxI_ag d 0 (oP d) ma ta mb tb h.l1 h.l2 h.l3 h.l4 fun t ht e => h.e t (oP_even h0 h4 ht e)
theorem ack_at {n : Int} {os : List Int} {ma mb : List Bool} (h : ma.getD n.toNat false = mb.getD n.toNat false) : ackE n os ma = ackE n os mb := by
  unfold ackE; rw [h]
theorem Ag.ack {n : Int} {q : Nat} (hn : n = 2 * (q : Int)) {os : List Int} {ma mb : List Bool} {ta tb : List Nat} (h : Ag ma ta mb tb) : ackE n os ma = ackE n os mb :=
  ack_at (h.e _ (by omega)).1
theorem odd_set {α : Type} {ix k : Nat} {x z : α} {l : List α} (hl : l.length = 8) (hi : ix % 2 = 1 ∨ 8 ≤ ix) (hk : k % 2 = 0) : (setN ix x 0 l).getD k z = l.getD k z := by
  rw [get_setN, if_neg (fun h => by omega)]
theorem odd_up {ix k : Nat} {l : List Nat} (hl : l.length = 8) (hi : ix % 2 = 1 ∨ 8 ≤ ix) (hk : k % 2 = 0) : (upT ix 0 l).getD k 0 = l.getD k 0 := by
  rw [get_upT, if_neg (fun h => by omega)]
theorem odd_dn {ix k : Nat} {l : List Nat} (hl : l.length = 8) (hi : ix % 2 = 1 ∨ 8 ≤ ix) (hk : k % 2 = 0) : (dnT ix 0 l).getD k 0 = l.getD k 0 := by
  rw [get_dnT, if_neg (fun h => by omega)]
theorem Ag.odd {d : Int} (h0 : 0 ≤ d) (h4 : d < 4) {n k : Int} {q : Nat} (hn : n = 2 * (q : Int) + 1) {ma mb : List Bool} {ta tb : List Nat} (h : Ag ma ta mb tb) : Ag ma ta (opM (oP d) k n (dO d) mb tb) (opT (oP d) k n (dO d) mb tb) := by
  have hu : upIx n % 2 = 1 ∨ 8 ≤ upIx n := by unfold upIx; split; (left; omega); (right; omega)
  have ha : ackIx n (oP d) mb % 2 = 1 ∨ 8 ≤ ackIx n (oP d) mb := by unfold ackIx; split; (left; omega); (right; omega)
  have hx : nxI (dO d) 0 (oP d) mb tb % 2 = 1 ∨ 8 ≤ nxI (dO d) 0 (oP d) mb tb := by
    rcases nxI_some (dO d) 0 (oP d) mb tb with e | ⟨t, e1, e2, e3⟩
    · right; omega
    · left; rw [e1, Nat.zero_add]; exact oP_odd h0 h4 e2 e3
  refine ⟨h.l1, h.l2, (opM_len _ _ _ _ _ _).trans h.l3, (opT_len _ _ _ _ _ _).trans h.l4, fun k' hk => ?_⟩
  obtain ⟨e1, e2⟩ := h.e k' hk
  rw [e1, e2]
  unfold opM opT
  by_cases c1 : k = 1
  · rw [if_pos c1, if_pos c1, odd_up h.l4 hu hk]; exact ⟨rfl, rfl⟩
  · rw [if_neg c1, if_neg c1]
    by_cases c2 : k = 2
    · rw [if_pos c2, if_pos c2, odd_set h.l3 hx hk, odd_dn h.l4 hx hk]; exact ⟨rfl, rfl⟩
    · rw [if_neg c2, if_neg c2, odd_set h.l3 ha hk]; exact ⟨rfl, rfl⟩
theorem Ag.even {d : Int} (h0 : 0 ≤ d) (h4 : d < 4) {n k : Int} {q : Nat} (hn : n = 2 * (q : Int)) {ma mb : List Bool} {ta tb : List Nat} (h : Ag ma ta mb tb) : Ag (opM (oP d) k n d ma ta) (opT (oP d) k n d ma ta) (opM (oP d) k n d mb tb) (opT (oP d) k n d mb tb) := by
  refine ⟨(opM_len _ _ _ _ _ _).trans h.l1, (opT_len _ _ _ _ _ _).trans h.l2, (opM_len _ _ _ _ _ _).trans h.l3, (opT_len _ _ _ _ _ _).trans h.l4, fun k' hk => ?_⟩
  obtain ⟨e1, e2⟩ := h.e k' hk
  have l13 : ma.length = mb.length := h.l1.trans h.l3.symm
  have l24 : ta.length = tb.length := h.l2.trans h.l4.symm
  unfold opM opT
  by_cases c1 : k = 1
  · rw [if_pos c1, if_pos c1, if_pos c1, if_pos c1, get_upT, get_upT, e1, e2, l24]; exact ⟨rfl, rfl⟩
  · rw [if_neg c1, if_neg c1, if_neg c1, if_neg c1]
    by_cases c2 : k = 2
    · rw [if_pos c2, if_pos c2, if_pos c2, if_pos c2, get_setN, get_setN, get_dnT, get_dnT, h.nx h0 h4, e1, e2, l13, l24]; exact ⟨rfl, rfl⟩
    · rw [if_neg c2, if_neg c2, if_neg c2, if_neg c2, get_setN, get_setN, show ackIx n (oP d) ma = ackIx n (oP d) mb by unfold ackIx; rw [h.ack hn], e1, e2, l13]; exact ⟨rfl, rfl⟩
end Go.Proofs.Ytanchmbopllimaa.Wlk
