/- Lines of interrupts: both agree, act by act: the law. -/
import Derived.Test.YtanchmbopllimaaIqH
set_option linter.unusedVariables false
set_option linter.unusedSimpArgs false
set_option maxRecDepth 100000
namespace Go.Proofs.Ytanchmbopllimaa.Wlk
open Go Go.Eng Go.Proofs Go.RowKit
def oR : List Bool → List Int → List Int
  | h :: hs, w :: ow => (if h = true then w else -1) :: oR hs ow
  | _, _ => []
def tR : List Bool → List Nat
  | [] => []
  | b :: r => (if b = true then 1 else 0) :: tR r
def gd : List Bool → List Int → Prop
  | h :: hs, w :: ow => (h = true → w ≠ -1) ∧ gd hs ow
  | _, _ => True
theorem oR_get : ∀ {hs : List Bool} {ow : List Int} {n : Nat}, gd hs ow → n < hs.length → n < ow.length → ((oR hs ow).getD n 0 = -1 ↔ hs.getD n false = false) ∧ (hs.getD n false = true → (oR hs ow).getD n 0 = ow.getD n 0)
  | [], _, n, _, h, _ => absurd h (Nat.not_lt_zero _)
  | _ :: _, [], n, _, _, h => absurd h (Nat.not_lt_zero _)
  | h :: hs, w :: ow, 0, g, _, _ => by
    cases h with
    | true => exact ⟨⟨fun e => absurd e (g.1 rfl), fun e => Bool.noConfusion e⟩, fun _ => rfl⟩
    | false => exact ⟨⟨fun _ => rfl, fun _ => rfl⟩, fun e => Bool.noConfusion e⟩
  | h :: hs, w :: ow, n + 1, g, h1, h2 => @oR_get hs ow n g.2 (Nat.lt_of_succ_lt_succ h1) (Nat.lt_of_succ_lt_succ h2)
theorem inL_lt {n : Int} (h : inL n = true) : n.toNat < 8 := by
  unfold inL at h
  simp only [Bool.and_eq_true, decide_eq_true_eq] at h
  omega
theorem own_eq {hs : List Bool} {ow : List Int} (g : gd hs ow) (h1 : hs.length = 8) (h2 : ow.length = 8) (n d : Int) : ownE n d (oR hs ow) = rOwnE n d hs := by
  unfold ownE rOwnE
  by_cases c : inL n = true ∧ 0 ≤ d ∧ d < 4
  · rw [if_pos c, if_pos c]
    obtain ⟨p, _⟩ := oR_get (n := n.toNat) g (by have := inL_lt c.1; omega) (by have := inL_lt c.1; omega)
    by_cases e : hs.getD n.toNat false = true
    · rw [if_pos e, if_neg (fun q => by rw [p.1 q] at e; exact Bool.noConfusion e)]
    · rw [if_neg e, if_pos (p.2 (by simpa using e))]
  · rw [if_neg c, if_neg c]
theorem ownIx_eq {hs : List Bool} {ow : List Int} (g : gd hs ow) (h1 : hs.length = 8) (h2 : ow.length = 8) (n d : Int) : ownIx n d (oR hs ow) = rOwnIx n d hs := by
  unfold ownIx rOwnIx; rw [own_eq g h1 h2]
theorem ack_eq {hs : List Bool} {ow : List Int} (g : gd hs ow) (h1 : hs.length = 8) (h2 : ow.length = 8) (n : Int) (mk : List Bool) : ackE n (oR hs ow) mk = rAckE n hs mk := by
  unfold ackE rAckE
  by_cases c : inL n = true
  · rw [if_pos c, if_pos c]
    obtain ⟨p, _⟩ := oR_get (n := n.toNat) g (by have := inL_lt c; omega) (by have := inL_lt c; omega)
    by_cases e : hs.getD n.toNat false = false ∨ mk.getD n.toNat false = false
    · rw [if_pos e, if_pos (e.imp p.2 id)]
    · rw [if_neg e, if_neg (fun q => e (q.imp p.1 id))]
  · rw [if_neg c, if_neg c]
theorem ackIx_eq {hs : List Bool} {ow : List Int} (g : gd hs ow) (h1 : hs.length = 8) (h2 : ow.length = 8) (n : Int) (mk : List Bool) : ackIx n (oR hs ow) mk = rAckIx n hs mk := by
  unfold ackIx rAckIx; rw [ack_eq g h1 h2]
theorem owV_eq {hs : List Bool} {ow : List Int} (g : gd hs ow) (h1 : hs.length = 8) (h2 : ow.length = 8) (n : Int) : owV n (oR hs ow) = rowV n hs ow := by
  unfold owV rowV
  by_cases c : inL n = true
  · obtain ⟨p, q⟩ := oR_get (n := n.toNat) g (by have := inL_lt c; omega) (by have := inL_lt c; omega)
    by_cases e : hs.getD n.toNat false = true
    · rw [if_pos ⟨c, fun x => by rw [p.1 x] at e; exact Bool.noConfusion e⟩, if_pos ⟨c, e⟩, q e]
    · rw [if_neg (fun x => x.2 (p.2 (by simpa using e))), if_neg (fun x => e x.2)]
  · rw [if_neg (fun x => c x.1), if_neg (fun x => c x.1)]
theorem owB_eq {hs : List Bool} {ow : List Int} (g : gd hs ow) (h1 : hs.length = 8) (h2 : ow.length = 8) (n : Int) : owB n (oR hs ow) = rowB n hs := by
  unfold owB rowB
  apply decide_eq_decide.2
  constructor
  · rintro ⟨c, e⟩
    obtain ⟨p, q⟩ := oR_get (n := n.toNat) g (by have := inL_lt c; omega) (by have := inL_lt c; omega)
    exact ⟨c, by cases h : hs.getD n.toNat false with | true => rfl | false => exact absurd (p.2 h) e⟩
  · rintro ⟨c, e⟩
    obtain ⟨p, q⟩ := oR_get (n := n.toNat) g (by have := inL_lt c; omega) (by have := inL_lt c; omega)
    exact ⟨c, fun x => by rw [p.1 x] at e; exact Bool.noConfusion e⟩
theorem bits_tR : ∀ (is : List Bool), bitsT (tR is) = is
  | [] => rfl
  | b :: r => by rw [tR, bitsT, bits_tR r]; cases b <;> rfl
theorem nx_eq (d : Int) : ∀ (j : Nat) (hs : List Bool) (ow : List Int) (is mk : List Bool), gd hs ow → nxI d j (oR hs ow) mk (tR is) = rnI d j hs ow is mk
  | j, [], ow, is, mk, _ => by simp [rnI, nxI, oR]
  | j, _ :: _, [], is, mk, _ => by simp [rnI, nxI, oR]
  | j, _ :: _, _ :: _, [], [], _ => by simp [rnI, nxI, oR, tR]
  | j, _ :: _, _ :: _, [], _ :: _, _ => by simp [rnI, nxI, oR, tR]
  | j, _ :: _, _ :: _, _ :: _, [], _ => by simp [rnI, nxI, oR, tR]
  | j, h :: hs, w :: ow, i :: is, k :: mk, g => by
    rw [oR, tR, nxI, rnI, nx_eq d (j + 1) hs ow is mk g.2]
    have e : ((if h = true then w else -1) = d ∧ (if h = true then w else -1) ≠ -1 ∧ k = false ∧ 1 ≤ (if i = true then 1 else 0)) ↔ (h = true ∧ w = d ∧ i = true ∧ k = false) := by
      have g1 := g.1
      cases h <;> cases i <;> cases k <;> simp_all
    by_cases c : h = true ∧ w = d ∧ i = true ∧ k = false
    · rw [if_pos c, if_pos (e.2 c)]
    · rw [if_neg c, if_neg (fun x => c (e.1 x))]
theorem oR_set (ix : Nat) (d : Int) : ∀ (j : Nat) (hs : List Bool) (ow : List Int), setN ix d j (oR hs ow) = oR (setN ix true j hs) (setN ix d j ow)
  | j, [], ow => rfl
  | j, _ :: _, [] => rfl
  | j, h :: hs, w :: ow => by
    rw [oR, setN, setN, setN, oR, oR_set ix d (j + 1) hs ow]
    by_cases c : ix = j
    · rw [if_pos c, if_pos c, if_pos c, if_pos rfl]
    · rw [if_neg c, if_neg c, if_neg c]
theorem tR_up (ix : Nat) : ∀ (j : Nat) (is : List Bool), upT ix j (tR is) = tR (setN ix true j is)
  | j, [] => rfl
  | j, b :: r => by
    rw [tR, upT, setN, tR, tR_up ix (j + 1) r]
    by_cases c : ix = j
    · rw [if_pos c, if_pos c]; cases b <;> rfl
    · rw [if_neg c, if_neg c]
theorem tR_dn (ix : Nat) : ∀ (j : Nat) (is : List Bool), dnT ix j (tR is) = tR (setN ix false j is)
  | j, [] => rfl
  | j, b :: r => by
    rw [tR, dnT, setN, tR, tR_dn ix (j + 1) r]
    by_cases c : ix = j
    · rw [if_pos c, if_pos c]; cases b <;> rfl
    · rw [if_neg c, if_neg c]
theorem setN_length {α : Type} (ix : Nat) (x : α) : ∀ (j : Nat) (l : List α), (setN ix x j l).length = l.length
  | _, [] => rfl
  | j, _ :: r => congrArg (· + 1) (setN_length ix x (j + 1) r)
theorem gd_set (ix : Nat) (d : Int) (h : d ≠ -1) : ∀ (j : Nat) (hs : List Bool) (ow : List Int), gd hs ow → gd (setN ix true j hs) (setN ix d j ow)
  | j, [], ow, _ => trivial
  | j, _ :: _, [], _ => trivial
  | j, a :: hs, w :: ow, g => by
    rw [setN, setN]
    refine ⟨?_, gd_set ix d h (j + 1) hs ow g.2⟩
    by_cases c : ix = j
    · rw [if_pos c, if_pos c]; exact fun _ => h
    · rw [if_neg c, if_neg c]; exact g.1
theorem setN_out {α : Type} (ix : Nat) (x : α) : ∀ (j : Nat) (l : List α), j + l.length ≤ ix → setN ix x j l = l
  | _, [], _ => rfl
  | j, y :: r, h => by
    simp only [List.length_cons] at h
    rw [setN, if_neg (by omega), setN_out ix x (j + 1) r (by omega)]
theorem gd_own {hs : List Bool} {ow : List Int} (g : gd hs ow) (h1 : hs.length = 8) (h2 : ow.length = 8) (n d : Int) : gd (setN (rOwnIx n d hs) true 0 hs) (setN (rOwnIx n d hs) d 0 ow) := by
  by_cases c : rOwnE n d hs = 0
  · refine gd_set _ d ?_ 0 hs ow g
    unfold rOwnE at c
    split at c
    · rename_i q; omega
    · omega
  · have : rOwnIx n d hs = 8 := by unfold rOwnIx; rw [if_neg c]
    rw [this, setN_out 8 true 0 hs (by omega), setN_out 8 d 0 ow (by omega)]
    exact g
/-- What the reference knows. -/
structure Li where
  is : List Bool
  ms : List Bool
  hs : List Bool
  ow : List Int
structure LiOk (s : Li) : Prop where
  l1 : s.is.length = 8
  l2 : s.ms.length = 8
  l3 : s.hs.length = 8
  l4 : s.ow.length = 8
  g : gd s.hs s.ow
/-- An act of kind k. -/
def act (k n d : Int) (s : Li) : Li :=
  if k = 0 then ⟨s.is, setN (rOwnIx n d s.hs) false 0 s.ms, setN (rOwnIx n d s.hs) true 0 s.hs, setN (rOwnIx n d s.hs) d 0 s.ow⟩
  else if k = 1 then ⟨setN (upIx n) true 0 s.is, s.ms, s.hs, s.ow⟩
  else if k = 2 then ⟨setN (rnI d 0 s.hs s.ow s.is s.ms) false 0 s.is, setN (rnI d 0 s.hs s.ow s.is s.ms) true 0 s.ms, s.hs, s.ow⟩
  else ⟨s.is, setN (rAckIx n s.hs s.ms) false 0 s.ms, s.hs, s.ow⟩
theorem LiOk.act {s : Li} (h : LiOk s) (k n d : Int) : LiOk (act k n d s) := by
  obtain ⟨l1, l2, l3, l4, g⟩ := h
  unfold Wlk.act
  split
  · exact ⟨l1, by rw [setN_length, l2], by rw [setN_length, l3], by rw [setN_length, l4], gd_own g l3 l4 n d⟩
  · split
    · exact ⟨by rw [setN_length, l1], l2, l3, l4, g⟩
    · split
      · exact ⟨by rw [setN_length, l1], by rw [setN_length, l2], l3, l4, g⟩
      · exact ⟨l1, by rw [setN_length, l2], l3, l4, g⟩
abbrev hSt (ok on od : List Int) (s : Li) : Heap := hDo ok on od (oR s.hs s.ow) s.ms (tR s.is) s.is s.ms s.hs s.ow
abbrev vDo (ul : Nat) (i : Int) : List AV := [vOp ul, vP 1, vP 2, aint .i64 i]
theorem same_ff {a b : Int} (h : a = b) : (a != b) = false := by simp [h]
theorem bsame_ff {a b : Bool} (h : a = b) : (!(a == b)) = false := by subst h; cases a <;> rfl
theorem ctr {α : Type} {c : Bool} {a b : α} (h : c = true) : cond c a b = a := by subst h; exact cT a b
theorem cfr {α : Type} {c : Bool} {a b : α} (h : c = false) : cond c a b = b := by subst h; exact cF a b
theorem do_round (ul i : Nat) (ok on od : List Int) (s : Li) (hs : LiOk s) (l1 : ul = ok.length) (l2 : ul = on.length) (l3 : ul = od.length) (h1 : i < ul) (h2 : i < 100) (K : HeadK) :
    bodyR Try.prog sB lNil iDo 60 (loopOf Try.prog 6 0) (vDo ul i) (hSt ok on od s) K = K .normal (vDo ul (i + 1 : Nat)) (hSt ok on od (act (List.getD ok (0 + Int.toNat i) 0) (List.getD on (0 + Int.toNat i) 0) (List.getD od (0 + Int.toNat i) 0) s)) := by
  obtain ⟨q1, q2, q3, q4, g⟩ := hs
  obtain ⟨is, mk, hs, ow⟩ := s
  obtain ⟨i0, i1, i2, i3, i4, i5, i6, i7, rfl⟩ := len8 q1
  obtain ⟨k0, k1, k2, k3, k4, k5, k6, k7, rfl⟩ := len8 q2
  obtain ⟨h0, h1, h2, h3, h4, h5, h6, h7, rfl⟩ := len8 q3
  obtain ⟨w0, w1, w2, w3, w4, w5, w6, w7, rfl⟩ := len8 q4
  have wi : IntKind.wrap IntKind.i64 ((i : Int) + 1) = ((i + 1 : Nat) : Int) := by rw [wrap_i64 (by omega) (by omega)]; omega
  refine (t_do ul i ok on od (if h0 = true then w0 else -1) (if h1 = true then w1 else -1) (if h2 = true then w2 else -1) (if h3 = true then w3 else -1) (if h4 = true then w4 else -1) (if h5 = true then w5 else -1) (if h6 = true then w6 else -1) (if h7 = true then w7 else -1) k0 k1 k2 k3 k4 k5 k6 k7 (if i0 = true then 1 else 0) (if i1 = true then 1 else 0) (if i2 = true then 1 else 0) (if i3 = true then 1 else 0) (if i4 = true then 1 else 0) (if i5 = true then 1 else 0) (if i6 = true then 1 else 0) (if i7 = true then 1 else 0) i0 i1 i2 i3 i4 i5 i6 i7 k0 k1 k2 k3 k4 k5 k6 k7 h0 h1 h2 h3 h4 h5 h6 h7 w0 w1 w2 w3 w4 w5 w6 w7 K).trans ?_
  refine (ctr (decide_eq_true (by omega))).trans ?_
  refine (ctr (decide_eq_true (by omega))).trans ?_
  refine (ctr (by rw [decide_eq_true (show 0 ≤ (i : Int) by omega), decide_eq_true (show (i : Int) < (ul : Int) by omega)]; rfl)).trans ?_
  refine (ctr (by rw [decide_eq_true (show 0 + Int.toNat (i : Int) < ok.length by omega), decide_eq_true (show 0 + Int.toNat (i : Int) < on.length by omega), decide_eq_true (show 0 + Int.toNat (i : Int) < od.length by omega)]; rfl)).trans ?_
  generalize List.getD ok (0 + Int.toNat (i : Int)) 0 = k
  generalize List.getD on (0 + Int.toNat (i : Int)) 0 = n
  generalize List.getD od (0 + Int.toNat (i : Int)) 0 = d
  by_cases c0 : k = 0
  · refine (ctr (beq_iff_eq.2 c0)).trans ?_
    have g1 := gd_own g rfl rfl n d
    have e1 := oR_set (rOwnIx n d [h0, h1, h2, h3, h4, h5, h6, h7]) d 0 [h0, h1, h2, h3, h4, h5, h6, h7] [w0, w1, w2, w3, w4, w5, w6, w7]
    have e2 := ownIx_eq (ow := [w0, w1, w2, w3, w4, w5, w6, w7]) g rfl rfl n d
    refine (cfr (same_ff (own_eq (hs := [h0, h1, h2, h3, h4, h5, h6, h7]) (ow := [w0, w1, w2, w3, w4, w5, w6, w7]) g rfl rfl n d))).trans ?_
    have e3 : owV n (setN (ownIx n d (oR [h0, h1, h2, h3, h4, h5, h6, h7] [w0, w1, w2, w3, w4, w5, w6, w7])) d 0 (oR [h0, h1, h2, h3, h4, h5, h6, h7] [w0, w1, w2, w3, w4, w5, w6, w7])) = rowV n (setN (rOwnIx n d [h0, h1, h2, h3, h4, h5, h6, h7]) true 0 [h0, h1, h2, h3, h4, h5, h6, h7]) (setN (rOwnIx n d [h0, h1, h2, h3, h4, h5, h6, h7]) d 0 [w0, w1, w2, w3, w4, w5, w6, w7]) := by rw [e2, e1]; exact owV_eq g1 rfl rfl n
    have e4 : owB n (setN (ownIx n d (oR [h0, h1, h2, h3, h4, h5, h6, h7] [w0, w1, w2, w3, w4, w5, w6, w7])) d 0 (oR [h0, h1, h2, h3, h4, h5, h6, h7] [w0, w1, w2, w3, w4, w5, w6, w7])) = rowB n (setN (rOwnIx n d [h0, h1, h2, h3, h4, h5, h6, h7]) true 0 [h0, h1, h2, h3, h4, h5, h6, h7]) := by rw [e2, e1]; exact owB_eq g1 rfl rfl n
    refine (cfr (same_ff e3)).trans ?_
    refine (cfr (bsame_ff e4)).trans ?_
    refine (cfr (same_ff (congrArg (wd 0 0) (bits_tR [i0, i1, i2, i3, i4, i5, i6, i7])))).trans ?_
    have e5 : setN (ownIx n d (oR [h0, h1, h2, h3, h4, h5, h6, h7] [w0, w1, w2, w3, w4, w5, w6, w7])) false 0 [k0, k1, k2, k3, k4, k5, k6, k7] = setN (rOwnIx n d [h0, h1, h2, h3, h4, h5, h6, h7]) false 0 [k0, k1, k2, k3, k4, k5, k6, k7] := by rw [e2]
    refine (cfr (same_ff (congrArg (wd 0 0) e5))).trans ?_
    have e6 : hDo ok on od (setN (ownIx n d (oR [h0, h1, h2, h3, h4, h5, h6, h7] [w0, w1, w2, w3, w4, w5, w6, w7])) d 0 (oR [h0, h1, h2, h3, h4, h5, h6, h7] [w0, w1, w2, w3, w4, w5, w6, w7])) (setN (ownIx n d (oR [h0, h1, h2, h3, h4, h5, h6, h7] [w0, w1, w2, w3, w4, w5, w6, w7])) false 0 [k0, k1, k2, k3, k4, k5, k6, k7]) (tR [i0, i1, i2, i3, i4, i5, i6, i7]) [i0, i1, i2, i3, i4, i5, i6, i7] (setN (rOwnIx n d [h0, h1, h2, h3, h4, h5, h6, h7]) false 0 [k0, k1, k2, k3, k4, k5, k6, k7]) (setN (rOwnIx n d [h0, h1, h2, h3, h4, h5, h6, h7]) true 0 [h0, h1, h2, h3, h4, h5, h6, h7]) (setN (rOwnIx n d [h0, h1, h2, h3, h4, h5, h6, h7]) d 0 [w0, w1, w2, w3, w4, w5, w6, w7]) = hSt ok on od (act k n d ⟨[i0, i1, i2, i3, i4, i5, i6, i7], [k0, k1, k2, k3, k4, k5, k6, k7], [h0, h1, h2, h3, h4, h5, h6, h7], [w0, w1, w2, w3, w4, w5, w6, w7]⟩) := by
      unfold act; rw [if_pos c0, e2, e1]
    rw [← e6, wi]; rfl
  refine (cfr (by simpa using c0)).trans ?_
  have o3 := owV_eq (hs := [h0, h1, h2, h3, h4, h5, h6, h7]) (ow := [w0, w1, w2, w3, w4, w5, w6, w7]) g rfl rfl n
  have o4 := owB_eq (hs := [h0, h1, h2, h3, h4, h5, h6, h7]) (ow := [w0, w1, w2, w3, w4, w5, w6, w7]) g rfl rfl n
  by_cases c1 : k = 1
  · refine (ctr (beq_iff_eq.2 c1)).trans ?_
    refine (cfr (same_ff rfl)).trans ?_
    refine (cfr (same_ff o3)).trans ?_
    refine (cfr (bsame_ff o4)).trans ?_
    have e1 := tR_up (upIx n) 0 [i0, i1, i2, i3, i4, i5, i6, i7]
    have e2 : bitsT (upT (upIx n) 0 (tR [i0, i1, i2, i3, i4, i5, i6, i7])) = setN (upIx n) true 0 [i0, i1, i2, i3, i4, i5, i6, i7] := by rw [e1, bits_tR]
    refine (cfr (same_ff (congrArg (wd 0 0) e2))).trans ?_
    refine (cfr (same_ff rfl)).trans ?_
    have e6 : hDo ok on od (oR [h0, h1, h2, h3, h4, h5, h6, h7] [w0, w1, w2, w3, w4, w5, w6, w7]) [k0, k1, k2, k3, k4, k5, k6, k7] (upT (upIx n) 0 (tR [i0, i1, i2, i3, i4, i5, i6, i7])) (setN (upIx n) true 0 [i0, i1, i2, i3, i4, i5, i6, i7]) [k0, k1, k2, k3, k4, k5, k6, k7] [h0, h1, h2, h3, h4, h5, h6, h7] [w0, w1, w2, w3, w4, w5, w6, w7] = hSt ok on od (act k n d ⟨[i0, i1, i2, i3, i4, i5, i6, i7], [k0, k1, k2, k3, k4, k5, k6, k7], [h0, h1, h2, h3, h4, h5, h6, h7], [w0, w1, w2, w3, w4, w5, w6, w7]⟩) := by
      unfold act; rw [if_neg c0, if_pos c1, e1]
    rw [← e6, wi]; rfl
  refine (cfr (by simpa using c1)).trans ?_
  by_cases c2 : k = 2
  · refine (ctr (beq_iff_eq.2 c2)).trans ?_
    have e0 := nx_eq d 0 [h0, h1, h2, h3, h4, h5, h6, h7] [w0, w1, w2, w3, w4, w5, w6, w7] [i0, i1, i2, i3, i4, i5, i6, i7] [k0, k1, k2, k3, k4, k5, k6, k7] g
    refine (cfr (same_ff (congrArg nxV e0))).trans ?_
    refine (cfr (bsame_ff (congrArg (fun x => Nat.ble (x + 1) 8) e0))).trans ?_
    refine (cfr (same_ff o3)).trans ?_
    refine (cfr (bsame_ff o4)).trans ?_
    have e1 := tR_dn (rnI d 0 [h0, h1, h2, h3, h4, h5, h6, h7] [w0, w1, w2, w3, w4, w5, w6, w7] [i0, i1, i2, i3, i4, i5, i6, i7] [k0, k1, k2, k3, k4, k5, k6, k7]) 0 [i0, i1, i2, i3, i4, i5, i6, i7]
    have e2 : bitsT (dnT (nxI d 0 (oR [h0, h1, h2, h3, h4, h5, h6, h7] [w0, w1, w2, w3, w4, w5, w6, w7]) [k0, k1, k2, k3, k4, k5, k6, k7] (tR [i0, i1, i2, i3, i4, i5, i6, i7])) 0 (tR [i0, i1, i2, i3, i4, i5, i6, i7])) = setN (rnI d 0 [h0, h1, h2, h3, h4, h5, h6, h7] [w0, w1, w2, w3, w4, w5, w6, w7] [i0, i1, i2, i3, i4, i5, i6, i7] [k0, k1, k2, k3, k4, k5, k6, k7]) false 0 [i0, i1, i2, i3, i4, i5, i6, i7] := by rw [e0, e1, bits_tR]
    refine (cfr (same_ff (congrArg (wd 0 0) e2))).trans ?_
    have e5 : setN (nxI d 0 (oR [h0, h1, h2, h3, h4, h5, h6, h7] [w0, w1, w2, w3, w4, w5, w6, w7]) [k0, k1, k2, k3, k4, k5, k6, k7] (tR [i0, i1, i2, i3, i4, i5, i6, i7])) true 0 [k0, k1, k2, k3, k4, k5, k6, k7] = setN (rnI d 0 [h0, h1, h2, h3, h4, h5, h6, h7] [w0, w1, w2, w3, w4, w5, w6, w7] [i0, i1, i2, i3, i4, i5, i6, i7] [k0, k1, k2, k3, k4, k5, k6, k7]) true 0 [k0, k1, k2, k3, k4, k5, k6, k7] := by rw [e0]
    refine (cfr (same_ff (congrArg (wd 0 0) e5))).trans ?_
    have e6 : hDo ok on od (oR [h0, h1, h2, h3, h4, h5, h6, h7] [w0, w1, w2, w3, w4, w5, w6, w7]) (setN (nxI d 0 (oR [h0, h1, h2, h3, h4, h5, h6, h7] [w0, w1, w2, w3, w4, w5, w6, w7]) [k0, k1, k2, k3, k4, k5, k6, k7] (tR [i0, i1, i2, i3, i4, i5, i6, i7])) true 0 [k0, k1, k2, k3, k4, k5, k6, k7]) (dnT (nxI d 0 (oR [h0, h1, h2, h3, h4, h5, h6, h7] [w0, w1, w2, w3, w4, w5, w6, w7]) [k0, k1, k2, k3, k4, k5, k6, k7] (tR [i0, i1, i2, i3, i4, i5, i6, i7])) 0 (tR [i0, i1, i2, i3, i4, i5, i6, i7])) (setN (rnI d 0 [h0, h1, h2, h3, h4, h5, h6, h7] [w0, w1, w2, w3, w4, w5, w6, w7] [i0, i1, i2, i3, i4, i5, i6, i7] [k0, k1, k2, k3, k4, k5, k6, k7]) false 0 [i0, i1, i2, i3, i4, i5, i6, i7]) (setN (rnI d 0 [h0, h1, h2, h3, h4, h5, h6, h7] [w0, w1, w2, w3, w4, w5, w6, w7] [i0, i1, i2, i3, i4, i5, i6, i7] [k0, k1, k2, k3, k4, k5, k6, k7]) true 0 [k0, k1, k2, k3, k4, k5, k6, k7]) [h0, h1, h2, h3, h4, h5, h6, h7] [w0, w1, w2, w3, w4, w5, w6, w7] = hSt ok on od (act k n d ⟨[i0, i1, i2, i3, i4, i5, i6, i7], [k0, k1, k2, k3, k4, k5, k6, k7], [h0, h1, h2, h3, h4, h5, h6, h7], [w0, w1, w2, w3, w4, w5, w6, w7]⟩) := by
      unfold act; rw [if_neg c0, if_neg c1, if_pos c2, e0, e1]
    rw [← e6, wi]; rfl
  refine (cfr (by simpa using c2)).trans ?_
  have e2 := ackIx_eq (ow := [w0, w1, w2, w3, w4, w5, w6, w7]) g rfl rfl n [k0, k1, k2, k3, k4, k5, k6, k7]
  refine (cfr (same_ff (ack_eq (hs := [h0, h1, h2, h3, h4, h5, h6, h7]) (ow := [w0, w1, w2, w3, w4, w5, w6, w7]) g rfl rfl n [k0, k1, k2, k3, k4, k5, k6, k7]))).trans ?_
  refine (cfr (same_ff o3)).trans ?_
  refine (cfr (bsame_ff o4)).trans ?_
  refine (cfr (same_ff (congrArg (wd 0 0) (bits_tR [i0, i1, i2, i3, i4, i5, i6, i7])))).trans ?_
  have e5 : setN (ackIx n (oR [h0, h1, h2, h3, h4, h5, h6, h7] [w0, w1, w2, w3, w4, w5, w6, w7]) [k0, k1, k2, k3, k4, k5, k6, k7]) false 0 [k0, k1, k2, k3, k4, k5, k6, k7] = setN (rAckIx n [h0, h1, h2, h3, h4, h5, h6, h7] [k0, k1, k2, k3, k4, k5, k6, k7]) false 0 [k0, k1, k2, k3, k4, k5, k6, k7] := by rw [e2]
  refine (cfr (same_ff (congrArg (wd 0 0) e5))).trans ?_
  have e6 : hDo ok on od (oR [h0, h1, h2, h3, h4, h5, h6, h7] [w0, w1, w2, w3, w4, w5, w6, w7]) (setN (ackIx n (oR [h0, h1, h2, h3, h4, h5, h6, h7] [w0, w1, w2, w3, w4, w5, w6, w7]) [k0, k1, k2, k3, k4, k5, k6, k7]) false 0 [k0, k1, k2, k3, k4, k5, k6, k7]) (tR [i0, i1, i2, i3, i4, i5, i6, i7]) [i0, i1, i2, i3, i4, i5, i6, i7] (setN (rAckIx n [h0, h1, h2, h3, h4, h5, h6, h7] [k0, k1, k2, k3, k4, k5, k6, k7]) false 0 [k0, k1, k2, k3, k4, k5, k6, k7]) [h0, h1, h2, h3, h4, h5, h6, h7] [w0, w1, w2, w3, w4, w5, w6, w7] = hSt ok on od (act k n d ⟨[i0, i1, i2, i3, i4, i5, i6, i7], [k0, k1, k2, k3, k4, k5, k6, k7], [h0, h1, h2, h3, h4, h5, h6, h7], [w0, w1, w2, w3, w4, w5, w6, w7]⟩) := by
    unfold act; rw [if_neg c0, if_neg c1, if_neg c2, e2]
  rw [← e6, wi]; rfl
theorem do_stop (ul i : Nat) (ok on od : List Int) (s : Li) (hs : LiOk s) (h : ¬ (i < ul ∧ i < 100)) (K : HeadK) :
    bodyR Try.prog sB lNil iDo 60 (loopOf Try.prog 6 0) (vDo ul i) (hSt ok on od s) K = K (.exit 0) [] [bOp ok on od] := by
  obtain ⟨q1, q2, q3, q4, g⟩ := hs
  obtain ⟨is, mk, hs, ow⟩ := s
  obtain ⟨i0, i1, i2, i3, i4, i5, i6, i7, rfl⟩ := len8 q1
  obtain ⟨k0, k1, k2, k3, k4, k5, k6, k7, rfl⟩ := len8 q2
  obtain ⟨h0, h1, h2, h3, h4, h5, h6, h7, rfl⟩ := len8 q3
  obtain ⟨w0, w1, w2, w3, w4, w5, w6, w7, rfl⟩ := len8 q4
  refine (t_do ul i ok on od (if h0 = true then w0 else -1) (if h1 = true then w1 else -1) (if h2 = true then w2 else -1) (if h3 = true then w3 else -1) (if h4 = true then w4 else -1) (if h5 = true then w5 else -1) (if h6 = true then w6 else -1) (if h7 = true then w7 else -1) k0 k1 k2 k3 k4 k5 k6 k7 (if i0 = true then 1 else 0) (if i1 = true then 1 else 0) (if i2 = true then 1 else 0) (if i3 = true then 1 else 0) (if i4 = true then 1 else 0) (if i5 = true then 1 else 0) (if i6 = true then 1 else 0) (if i7 = true then 1 else 0) i0 i1 i2 i3 i4 i5 i6 i7 k0 k1 k2 k3 k4 k5 k6 k7 h0 h1 h2 h3 h4 h5 h6 h7 w0 w1 w2 w3 w4 w5 w6 w7 K).trans ?_
  by_cases a1 : i < ul
  · refine (ctr (decide_eq_true (by omega))).trans ?_
    exact cfr (decide_eq_false (by omega))
  · exact cfr (decide_eq_false (by omega))
theorem do_loop (ul : Nat) (ok on od : List Int) (l1 : ul = ok.length) (l2 : ul = on.length) (l3 : ul = od.length) (K : HeadK) : ∀ (j i : Nat) (s : Li), LiOk s → 100 ≤ i + j →
    iterR Try.prog sB lNil iDo 60 (loopOf Try.prog 6 0) (j + 1) (vDo ul i) (hSt ok on od s) K = K (.exit 0) [] [bOp ok on od]
  | 0, i, s, hs, h => by
    rw [iterR]
    exact do_stop ul i ok on od s hs (by omega) _
  | j + 1, i, s, hs, h => by
    rw [iterR]
    by_cases c : i < ul ∧ i < 100
    · refine (do_round ul i ok on od s hs l1 l2 l3 c.1 c.2 _).trans ?_
      exact do_loop ul ok on od l1 l2 l3 K j (i + 1) _ (hs.act _ _ _) (by omega)
    · exact do_stop ul i ok on od s hs c _
def st0 : Li := ⟨[false, false, false, false, false, false, false, false], [true, true, true, true, true, true, true, true], [false, false, false, false, false, false, false, false], [0, 0, 0, 0, 0, 0, 0, 0]⟩
theorem st0_ok : LiOk st0 := ⟨rfl, rfl, rfl, rfl, by simp [st0, gd]⟩
noncomputable def isQ (p : Prop) : Bool := @decide p (Classical.propDecidable p)
theorem isQ_spec {p : Prop} (h : isQ p = true) : p := @of_decide_eq_true _ (Classical.propDecidable _) h
theorem isQ_of {p : Prop} (h : p) : isQ p = true := @decide_eq_true _ (Classical.propDecidable _) h
noncomputable def cDo (ul : Nat) (ok on od : List Int) : HeadO := fun vs h K => match isQ (vs = vDo ul 0 ∧ h = hSt ok on od st0) with
  | true => K (.exit 0) [] [bOp ok on od]
  | false => none
theorem cDo_sound (ul : Nat) (ok on od : List Int) (l1 : ul = ok.length) (l2 : ul = on.length) (l3 : ul = od.length) : HeadSound Try.prog iDo (loopOf Try.prog 6 0) (cDo ul ok on od) := by
  refine HeadSound.short (iterR_sound (F := 60) sB_ok mix lNil_ok) fun vs h K r e => ?_
  unfold cDo at e
  split at e
  · rename_i hc
    obtain ⟨rfl, rfl⟩ := isQ_spec hc
    exact ⟨101, (do_loop ul ok on od l1 l2 l3 K 100 0 st0 st0_ok (by omega)).trans e⟩
  · cases e
noncomputable def lDo (ul : Nat) (ok on od : List Int) : Nat → Option Orc := lAdd lNil 0 (wrapO iDo 0 (cDo ul ok on od))
theorem lDo_for (ul : Nat) (ok on od : List Int) (l1 : ul = ok.length) (l2 : ul = on.length) (l3 : ul = od.length) : LFor 1 Try.prog 6 (lDo ul ok on od) := lAdd_for lNil_for (by kernel_rfl) (cDo_sound ul ok on od l1 l2 l3)
theorem do_dis : Go.Eng.distinct (blockIds (codeOf Try.prog 6)) = true := by kernel_rfl
theorem t_does (ul : Nat) (ok on od : List Int) (k : Res → Option Res) : runLG Try.prog sB (lDo ul ok on od) 1 100 6 [vOp ul] [some ⟨true, .rows [.ints .i64 ok, .ints .i64 on, .ints .i64 od]⟩] k = (cond (Go.Proofs.Ytanchmbopllimaa.Wlk.isQ ([AV.e (AE.c (AC.slice { id := 0, row := 0, sz := 3, col := 0, ix := 0, es := 0, n := 0 } 3 ul 0 false)), AV.e (AE.c (AC.ptr { id := 1, row := 0, sz := 0, col := 0, ix := 0, es := 0, n := 0 })), AV.e (AE.c (AC.ptr { id := 2, row := 0, sz := 0, col := 0, ix := 0, es := 0, n := 0 })), AV.e (AE.c (AC.int IntKind.i64 0))] = Go.Proofs.Ytanchmbopllimaa.Wlk.vDo ul 0 ∧ [(false, some { ro := true, d := Data.rows [Col.ints IntKind.i64 ok, Col.ints IntKind.i64 on, Col.ints IntKind.i64 od] }), (true, some { ro := false, d := Data.mix [AC.chan { id := 3, row := 0, sz := 0, col := 0, ix := 0, es := 0, n := 0 }, AC.int IntKind.i64 (-1), AC.bool true, AC.chan { id := 4, row := 0, sz := 0, col := 0, ix := 0, es := 0, n := 0 }, AC.int IntKind.i64 (-1), AC.bool true, AC.chan { id := 5, row := 0, sz := 0, col := 0, ix := 0, es := 0, n := 0 }, AC.int IntKind.i64 (-1), AC.bool true, AC.chan { id := 6, row := 0, sz := 0, col := 0, ix := 0, es := 0, n := 0 }, AC.int IntKind.i64 (-1), AC.bool true, AC.chan { id := 7, row := 0, sz := 0, col := 0, ix := 0, es := 0, n := 0 }, AC.int IntKind.i64 (-1), AC.bool true, AC.chan { id := 8, row := 0, sz := 0, col := 0, ix := 0, es := 0, n := 0 }, AC.int IntKind.i64 (-1), AC.bool true, AC.chan { id := 9, row := 0, sz := 0, col := 0, ix := 0, es := 0, n := 0 }, AC.int IntKind.i64 (-1), AC.bool true, AC.chan { id := 10, row := 0, sz := 0, col := 0, ix := 0, es := 0, n := 0 }, AC.int IntKind.i64 (-1), AC.bool true] }), (true, some { ro := false, d := Data.mix [AC.bool false, AC.bool false, AC.bool false, AC.bool false, AC.bool false, AC.bool false, AC.bool false, AC.bool false, AC.bool true, AC.bool true, AC.bool true, AC.bool true, AC.bool true, AC.bool true, AC.bool true, AC.bool true, AC.bool false, AC.bool false, AC.bool false, AC.bool false, AC.bool false, AC.bool false, AC.bool false, AC.bool false, AC.int IntKind.i64 0, AC.int IntKind.i64 0, AC.int IntKind.i64 0, AC.int IntKind.i64 0, AC.int IntKind.i64 0, AC.int IntKind.i64 0, AC.int IntKind.i64 0, AC.int IntKind.i64 0] }), (true, some { ro := false, d := Data.chan 1 0 }), (true, some { ro := false, d := Data.chan 1 0 }), (true, some { ro := false, d := Data.chan 1 0 }), (true, some { ro := false, d := Data.chan 1 0 }), (true, some { ro := false, d := Data.chan 1 0 }), (true, some { ro := false, d := Data.chan 1 0 }), (true, some { ro := false, d := Data.chan 1 0 }), (true, some { ro := false, d := Data.chan 1 0 })] = Go.Proofs.Ytanchmbopllimaa.Wlk.hSt ok on od Go.Proofs.Ytanchmbopllimaa.Wlk.st0)) (k (Res.mk (AV.e (AE.c (AC.bool true))) [(none)])) none) := by kernel_rfl
end Go.Proofs.Ytanchmbopllimaa.Wlk
