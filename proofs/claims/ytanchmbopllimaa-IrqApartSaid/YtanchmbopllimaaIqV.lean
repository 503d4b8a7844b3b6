/- Lines of interrupts: those of others do not matter: the round, the law. -/
import Derived.Test.YtanchmbopllimaaIqU
set_option linter.unusedVariables false
set_option linter.unusedSimpArgs false
set_option maxRecDepth 100000
namespace Go.Proofs.Ytanchmbopllimaa.Wlk
open Go Go.Eng Go.Proofs Go.RowKit
def bMm (lb i : Nat) (d : Int) (B : Ac) (mb : List Bool) (tb : List Nat) : List Bool := if i < lb then opM (oP d) (List.getD B.k2 (0 + Int.toNat i) 0) (xO B.n2 i) (dO d) mb tb else mb
def bTt (lb i : Nat) (d : Int) (B : Ac) (mb : List Bool) (tb : List Nat) : List Nat := if i < lb then opT (oP d) (List.getD B.k2 (0 + Int.toNat i) 0) (xO B.n2 i) (dO d) mb tb else tb
abbrev vA (la lb : Nat) (d i : Int) : List AV := [vOp la, vOq lb, aint .i64 d, vP 2, vP 3, aint .i64 i]
structure AcOk (la lb : Nat) (B : Ac) : Prop where
  a1 : la = B.k1.length
  a2 : la = B.n1.length
  a3 : la = B.d1.length
  b1 : lb = B.k2.length
  b2 : lb = B.n2.length
  b3 : lb = B.d2.length
abbrev eM (la lb i : Nat) (d : Int) (B : Ac) (m : List Bool) (t : List Nat) : List Bool := opM (oP d) (List.getD B.k1 (0 + Int.toNat i) 0) (xE B.n1 i) d m t
abbrev eT (la lb i : Nat) (d : Int) (B : Ac) (m : List Bool) (t : List Nat) : List Nat := opT (oP d) (List.getD B.k1 (0 + Int.toNat i) 0) (xE B.n1 i) d m t
theorem ap_round (la lb i : Nat) (d : Int) (h0 : 0 ≤ d) (h4 : d < 4) (B : Ac) (ma mb : List Bool) (ta tb : List Nat) (ag : Ag ma ta mb tb) (hB : AcOk la lb B) (y1 : i < la) (y2 : i < 60) (K : HeadK) :
    bodyR Try.prog sW lNil iA2 60 (loopOf Try.prog 4 2) (vA la lb d i) (hA B (oP d) ma ta (oP d) mb tb) K = K .normal (vA la lb d (i + 1 : Nat)) (hA B (oP d) (eM la lb i d B ma ta) (eT la lb i d B ma ta) (oP d) (eM la lb i d B (bMm lb i d B mb tb) (bTt lb i d B mb tb)) (eT la lb i d B (bMm lb i d B mb tb) (bTt lb i d B mb tb))) := by
  have wi : IntKind.wrap IntKind.i64 ((i : Int) + 1) = ((i + 1 : Nat) : Int) := by rw [wrap_i64 (by omega) (by omega)]; omega
  have ag0 := ag
  obtain ⟨a1, a2, a3, b1, b2, b3⟩ := hB
  obtain ⟨q1, q2, q3, q4, qe⟩ := ag
  obtain ⟨m0, m1, m2, m3, m4, m5, m6, m7, rfl⟩ := len8 q1
  obtain ⟨t0, t1, t2, t3, t4, t5, t6, t7, rfl⟩ := len8 q2
  obtain ⟨e0, e1, e2, e3, e4, e5, e6, e7, rfl⟩ := len8 q3
  obtain ⟨f0, f1, f2, f3, f4, f5, f6, f7, rfl⟩ := len8 q4
  obtain ⟨k1, n1, d1, k2, n2, d2⟩ := B
  refine (t_a2 la lb d i k1 n1 d1 k2 n2 d2 d (dO d) d (dO d) d (dO d) d (dO d) m0 m1 m2 m3 m4 m5 m6 m7 t0 t1 t2 t3 t4 t5 t6 t7 e0 e1 e2 e3 e4 e5 e6 e7 f0 f1 f2 f3 f4 f5 f6 f7 K).trans ?_
  have a1 : la = k1.length := a1
  have a2 : la = n1.length := a2
  have a3 : la = d1.length := a3
  have b1 : lb = k2.length := b1
  have b2 : lb = n2.length := b2
  have b3 : lb = d2.length := b3
  refine (ctr (decide_eq_true (by omega))).trans ?_
  refine (ctr (decide_eq_true (by omega))).trans ?_
  refine (ctr (by rw [decide_eq_true (show 0 ≤ (i : Int) by omega), decide_eq_true (show (i : Int) < (la : Int) by omega)]; rfl)).trans ?_
  refine (ctr (by rw [decide_eq_true (show 0 + Int.toNat (i : Int) < k1.length by omega), decide_eq_true (show 0 + Int.toNat (i : Int) < n1.length by omega), decide_eq_true (show 0 + Int.toNat (i : Int) < d1.length by omega)]; rfl)).trans ?_
  obtain ⟨qx, _, hx⟩ := xE_of n1 i
  obtain ⟨qo, _, ho⟩ := xO_of n2 i
  have agO := fun k => Ag.odd h0 h4 (k := k) ho ag0
  by_cases c : i < lb
  · refine (ctr (decide_eq_true (by omega))).trans ?_
    refine (ctr (by rw [decide_eq_true (show 0 ≤ (i : Int) by omega), decide_eq_true (show (i : Int) < (lb : Int) by omega)]; rfl)).trans ?_
    refine (ctr (by rw [decide_eq_true (show 0 + Int.toNat (i : Int) < k2.length by omega), decide_eq_true (show 0 + Int.toNat (i : Int) < n2.length by omega), decide_eq_true (show 0 + Int.toNat (i : Int) < d2.length by omega)]; rfl)).trans ?_
    by_cases w1 : (List.getD k2 (0 + Int.toNat (i : Int)) 0) = 1
    · refine (ctr (beq_iff_eq.2 w1)).trans ?_
      have eb1 : bMm lb i d (⟨k1, n1, d1, k2, n2, d2⟩ : Ac) [e0, e1, e2, e3, e4, e5, e6, e7] [f0, f1, f2, f3, f4, f5, f6, f7] = [e0, e1, e2, e3, e4, e5, e6, e7] := by
        show (if i < lb then opM (oP d) (List.getD k2 (0 + Int.toNat (i : Int)) 0) (xO n2 i) (dO d) [e0, e1, e2, e3, e4, e5, e6, e7] [f0, f1, f2, f3, f4, f5, f6, f7] else [e0, e1, e2, e3, e4, e5, e6, e7]) = _
        unfold opM; rw [if_pos c, if_pos w1]
      have eb2 : bTt lb i d (⟨k1, n1, d1, k2, n2, d2⟩ : Ac) [e0, e1, e2, e3, e4, e5, e6, e7] [f0, f1, f2, f3, f4, f5, f6, f7] = (upT (upIx (xO n2 i)) 0 [f0, f1, f2, f3, f4, f5, f6, f7]) := by
        show (if i < lb then opT (oP d) (List.getD k2 (0 + Int.toNat (i : Int)) 0) (xO n2 i) (dO d) [e0, e1, e2, e3, e4, e5, e6, e7] [f0, f1, f2, f3, f4, f5, f6, f7] else [f0, f1, f2, f3, f4, f5, f6, f7]) = _
        unfold opT; rw [if_pos c, if_pos w1]
      have agx : Ag [m0, m1, m2, m3, m4, m5, m6, m7] [t0, t1, t2, t3, t4, t5, t6, t7] (bMm lb i d (⟨k1, n1, d1, k2, n2, d2⟩ : Ac) [e0, e1, e2, e3, e4, e5, e6, e7] [f0, f1, f2, f3, f4, f5, f6, f7]) (bTt lb i d (⟨k1, n1, d1, k2, n2, d2⟩ : Ac) [e0, e1, e2, e3, e4, e5, e6, e7] [f0, f1, f2, f3, f4, f5, f6, f7]) := by unfold bMm bTt; rw [if_pos c, if_pos c]; exact agO _
      rw [eb1, eb2] at agx
      have ex := Ag.nx h0 h4 agx
      have ey := Ag.ack hx (os := oP d) agx
      by_cases z1 : (List.getD k1 (0 + Int.toNat (i : Int)) 0) = 1
      · refine (ctr (beq_iff_eq.2 z1)).trans ?_
        rw [eb1, eb2, wi]
        have g1 : eM la lb i d (⟨k1, n1, d1, k2, n2, d2⟩ : Ac) [m0, m1, m2, m3, m4, m5, m6, m7] [t0, t1, t2, t3, t4, t5, t6, t7] = [m0, m1, m2, m3, m4, m5, m6, m7] := by
          show opM (oP d) (List.getD k1 (0 + Int.toNat (i : Int)) 0) (xE n1 i) d [m0, m1, m2, m3, m4, m5, m6, m7] [t0, t1, t2, t3, t4, t5, t6, t7] = _
          unfold opM; rw [if_pos z1]
        have g2 : eT la lb i d (⟨k1, n1, d1, k2, n2, d2⟩ : Ac) [m0, m1, m2, m3, m4, m5, m6, m7] [t0, t1, t2, t3, t4, t5, t6, t7] = (upT (upIx (xE n1 i)) 0 [t0, t1, t2, t3, t4, t5, t6, t7]) := by
          show opT (oP d) (List.getD k1 (0 + Int.toNat (i : Int)) 0) (xE n1 i) d [m0, m1, m2, m3, m4, m5, m6, m7] [t0, t1, t2, t3, t4, t5, t6, t7] = _
          unfold opT; rw [if_pos z1]
        have g3 : eM la lb i d (⟨k1, n1, d1, k2, n2, d2⟩ : Ac) [e0, e1, e2, e3, e4, e5, e6, e7] (upT (upIx (xO n2 i)) 0 [f0, f1, f2, f3, f4, f5, f6, f7]) = [e0, e1, e2, e3, e4, e5, e6, e7] := by
          show opM (oP d) (List.getD k1 (0 + Int.toNat (i : Int)) 0) (xE n1 i) d [e0, e1, e2, e3, e4, e5, e6, e7] (upT (upIx (xO n2 i)) 0 [f0, f1, f2, f3, f4, f5, f6, f7]) = _
          unfold opM; rw [if_pos z1]
        have g4 : eT la lb i d (⟨k1, n1, d1, k2, n2, d2⟩ : Ac) [e0, e1, e2, e3, e4, e5, e6, e7] (upT (upIx (xO n2 i)) 0 [f0, f1, f2, f3, f4, f5, f6, f7]) = (upT (upIx (xE n1 i)) 0 (upT (upIx (xO n2 i)) 0 [f0, f1, f2, f3, f4, f5, f6, f7])) := by
          show opT (oP d) (List.getD k1 (0 + Int.toNat (i : Int)) 0) (xE n1 i) d [e0, e1, e2, e3, e4, e5, e6, e7] (upT (upIx (xO n2 i)) 0 [f0, f1, f2, f3, f4, f5, f6, f7]) = _
          unfold opT; rw [if_pos z1]
        rw [g1, g2, g3, g4]
        rfl
      refine (cfr (by simpa using z1)).trans ?_
      by_cases z2 : (List.getD k1 (0 + Int.toNat (i : Int)) 0) = 2
      · refine (ctr (beq_iff_eq.2 z2)).trans ?_
        refine (cfr (same_ff (congrArg nxV ex))).trans ?_
        refine (cfr (bsame_ff (congrArg (fun x => Nat.ble (x + 1) 8) ex))).trans ?_
        rw [eb1, eb2, wi]
        have g1 : eM la lb i d (⟨k1, n1, d1, k2, n2, d2⟩ : Ac) [m0, m1, m2, m3, m4, m5, m6, m7] [t0, t1, t2, t3, t4, t5, t6, t7] = (setN (nxI d 0 (oP d) [m0, m1, m2, m3, m4, m5, m6, m7] [t0, t1, t2, t3, t4, t5, t6, t7]) true 0 [m0, m1, m2, m3, m4, m5, m6, m7]) := by
          show opM (oP d) (List.getD k1 (0 + Int.toNat (i : Int)) 0) (xE n1 i) d [m0, m1, m2, m3, m4, m5, m6, m7] [t0, t1, t2, t3, t4, t5, t6, t7] = _
          unfold opM; rw [if_neg z1, if_pos z2]
        have g2 : eT la lb i d (⟨k1, n1, d1, k2, n2, d2⟩ : Ac) [m0, m1, m2, m3, m4, m5, m6, m7] [t0, t1, t2, t3, t4, t5, t6, t7] = (dnT (nxI d 0 (oP d) [m0, m1, m2, m3, m4, m5, m6, m7] [t0, t1, t2, t3, t4, t5, t6, t7]) 0 [t0, t1, t2, t3, t4, t5, t6, t7]) := by
          show opT (oP d) (List.getD k1 (0 + Int.toNat (i : Int)) 0) (xE n1 i) d [m0, m1, m2, m3, m4, m5, m6, m7] [t0, t1, t2, t3, t4, t5, t6, t7] = _
          unfold opT; rw [if_neg z1, if_pos z2]
        have g3 : eM la lb i d (⟨k1, n1, d1, k2, n2, d2⟩ : Ac) [e0, e1, e2, e3, e4, e5, e6, e7] (upT (upIx (xO n2 i)) 0 [f0, f1, f2, f3, f4, f5, f6, f7]) = (setN (nxI d 0 (oP d) [e0, e1, e2, e3, e4, e5, e6, e7] (upT (upIx (xO n2 i)) 0 [f0, f1, f2, f3, f4, f5, f6, f7])) true 0 [e0, e1, e2, e3, e4, e5, e6, e7]) := by
          show opM (oP d) (List.getD k1 (0 + Int.toNat (i : Int)) 0) (xE n1 i) d [e0, e1, e2, e3, e4, e5, e6, e7] (upT (upIx (xO n2 i)) 0 [f0, f1, f2, f3, f4, f5, f6, f7]) = _
          unfold opM; rw [if_neg z1, if_pos z2]
        have g4 : eT la lb i d (⟨k1, n1, d1, k2, n2, d2⟩ : Ac) [e0, e1, e2, e3, e4, e5, e6, e7] (upT (upIx (xO n2 i)) 0 [f0, f1, f2, f3, f4, f5, f6, f7]) = (dnT (nxI d 0 (oP d) [e0, e1, e2, e3, e4, e5, e6, e7] (upT (upIx (xO n2 i)) 0 [f0, f1, f2, f3, f4, f5, f6, f7])) 0 (upT (upIx (xO n2 i)) 0 [f0, f1, f2, f3, f4, f5, f6, f7])) := by
          show opT (oP d) (List.getD k1 (0 + Int.toNat (i : Int)) 0) (xE n1 i) d [e0, e1, e2, e3, e4, e5, e6, e7] (upT (upIx (xO n2 i)) 0 [f0, f1, f2, f3, f4, f5, f6, f7]) = _
          unfold opT; rw [if_neg z1, if_pos z2]
        rw [g1, g2, g3, g4]
        rfl
      refine (cfr (by simpa using z2)).trans ?_
      refine (cfr (same_ff ey)).trans ?_
      rw [eb1, eb2, wi]
      have g1 : eM la lb i d (⟨k1, n1, d1, k2, n2, d2⟩ : Ac) [m0, m1, m2, m3, m4, m5, m6, m7] [t0, t1, t2, t3, t4, t5, t6, t7] = (setN (ackIx (xE n1 i) (oP d) [m0, m1, m2, m3, m4, m5, m6, m7]) false 0 [m0, m1, m2, m3, m4, m5, m6, m7]) := by
        show opM (oP d) (List.getD k1 (0 + Int.toNat (i : Int)) 0) (xE n1 i) d [m0, m1, m2, m3, m4, m5, m6, m7] [t0, t1, t2, t3, t4, t5, t6, t7] = _
        unfold opM; rw [if_neg z1, if_neg z2]
      have g2 : eT la lb i d (⟨k1, n1, d1, k2, n2, d2⟩ : Ac) [m0, m1, m2, m3, m4, m5, m6, m7] [t0, t1, t2, t3, t4, t5, t6, t7] = [t0, t1, t2, t3, t4, t5, t6, t7] := by
        show opT (oP d) (List.getD k1 (0 + Int.toNat (i : Int)) 0) (xE n1 i) d [m0, m1, m2, m3, m4, m5, m6, m7] [t0, t1, t2, t3, t4, t5, t6, t7] = _
        unfold opT; rw [if_neg z1, if_neg z2]
      have g3 : eM la lb i d (⟨k1, n1, d1, k2, n2, d2⟩ : Ac) [e0, e1, e2, e3, e4, e5, e6, e7] (upT (upIx (xO n2 i)) 0 [f0, f1, f2, f3, f4, f5, f6, f7]) = (setN (ackIx (xE n1 i) (oP d) [e0, e1, e2, e3, e4, e5, e6, e7]) false 0 [e0, e1, e2, e3, e4, e5, e6, e7]) := by
        show opM (oP d) (List.getD k1 (0 + Int.toNat (i : Int)) 0) (xE n1 i) d [e0, e1, e2, e3, e4, e5, e6, e7] (upT (upIx (xO n2 i)) 0 [f0, f1, f2, f3, f4, f5, f6, f7]) = _
        unfold opM; rw [if_neg z1, if_neg z2]
      have g4 : eT la lb i d (⟨k1, n1, d1, k2, n2, d2⟩ : Ac) [e0, e1, e2, e3, e4, e5, e6, e7] (upT (upIx (xO n2 i)) 0 [f0, f1, f2, f3, f4, f5, f6, f7]) = (upT (upIx (xO n2 i)) 0 [f0, f1, f2, f3, f4, f5, f6, f7]) := by
        show opT (oP d) (List.getD k1 (0 + Int.toNat (i : Int)) 0) (xE n1 i) d [e0, e1, e2, e3, e4, e5, e6, e7] (upT (upIx (xO n2 i)) 0 [f0, f1, f2, f3, f4, f5, f6, f7]) = _
        unfold opT; rw [if_neg z1, if_neg z2]
      rw [g1, g2, g3, g4]
      rfl
    refine (cfr (by simpa using w1)).trans ?_
    by_cases w2 : (List.getD k2 (0 + Int.toNat (i : Int)) 0) = 2
    · refine (ctr (beq_iff_eq.2 w2)).trans ?_
      have eb1 : bMm lb i d (⟨k1, n1, d1, k2, n2, d2⟩ : Ac) [e0, e1, e2, e3, e4, e5, e6, e7] [f0, f1, f2, f3, f4, f5, f6, f7] = (setN (nxI (dO d) 0 (oP d) [e0, e1, e2, e3, e4, e5, e6, e7] [f0, f1, f2, f3, f4, f5, f6, f7]) true 0 [e0, e1, e2, e3, e4, e5, e6, e7]) := by
        show (if i < lb then opM (oP d) (List.getD k2 (0 + Int.toNat (i : Int)) 0) (xO n2 i) (dO d) [e0, e1, e2, e3, e4, e5, e6, e7] [f0, f1, f2, f3, f4, f5, f6, f7] else [e0, e1, e2, e3, e4, e5, e6, e7]) = _
        unfold opM; rw [if_pos c, if_neg w1, if_pos w2]
      have eb2 : bTt lb i d (⟨k1, n1, d1, k2, n2, d2⟩ : Ac) [e0, e1, e2, e3, e4, e5, e6, e7] [f0, f1, f2, f3, f4, f5, f6, f7] = (dnT (nxI (dO d) 0 (oP d) [e0, e1, e2, e3, e4, e5, e6, e7] [f0, f1, f2, f3, f4, f5, f6, f7]) 0 [f0, f1, f2, f3, f4, f5, f6, f7]) := by
        show (if i < lb then opT (oP d) (List.getD k2 (0 + Int.toNat (i : Int)) 0) (xO n2 i) (dO d) [e0, e1, e2, e3, e4, e5, e6, e7] [f0, f1, f2, f3, f4, f5, f6, f7] else [f0, f1, f2, f3, f4, f5, f6, f7]) = _
        unfold opT; rw [if_pos c, if_neg w1, if_pos w2]
      have agx : Ag [m0, m1, m2, m3, m4, m5, m6, m7] [t0, t1, t2, t3, t4, t5, t6, t7] (bMm lb i d (⟨k1, n1, d1, k2, n2, d2⟩ : Ac) [e0, e1, e2, e3, e4, e5, e6, e7] [f0, f1, f2, f3, f4, f5, f6, f7]) (bTt lb i d (⟨k1, n1, d1, k2, n2, d2⟩ : Ac) [e0, e1, e2, e3, e4, e5, e6, e7] [f0, f1, f2, f3, f4, f5, f6, f7]) := by unfold bMm bTt; rw [if_pos c, if_pos c]; exact agO _
      rw [eb1, eb2] at agx
      have ex := Ag.nx h0 h4 agx
      have ey := Ag.ack hx (os := oP d) agx
      by_cases z1 : (List.getD k1 (0 + Int.toNat (i : Int)) 0) = 1
      · refine (ctr (beq_iff_eq.2 z1)).trans ?_
        rw [eb1, eb2, wi]
        have g1 : eM la lb i d (⟨k1, n1, d1, k2, n2, d2⟩ : Ac) [m0, m1, m2, m3, m4, m5, m6, m7] [t0, t1, t2, t3, t4, t5, t6, t7] = [m0, m1, m2, m3, m4, m5, m6, m7] := by
          show opM (oP d) (List.getD k1 (0 + Int.toNat (i : Int)) 0) (xE n1 i) d [m0, m1, m2, m3, m4, m5, m6, m7] [t0, t1, t2, t3, t4, t5, t6, t7] = _
          unfold opM; rw [if_pos z1]
        have g2 : eT la lb i d (⟨k1, n1, d1, k2, n2, d2⟩ : Ac) [m0, m1, m2, m3, m4, m5, m6, m7] [t0, t1, t2, t3, t4, t5, t6, t7] = (upT (upIx (xE n1 i)) 0 [t0, t1, t2, t3, t4, t5, t6, t7]) := by
          show opT (oP d) (List.getD k1 (0 + Int.toNat (i : Int)) 0) (xE n1 i) d [m0, m1, m2, m3, m4, m5, m6, m7] [t0, t1, t2, t3, t4, t5, t6, t7] = _
          unfold opT; rw [if_pos z1]
        have g3 : eM la lb i d (⟨k1, n1, d1, k2, n2, d2⟩ : Ac) (setN (nxI (dO d) 0 (oP d) [e0, e1, e2, e3, e4, e5, e6, e7] [f0, f1, f2, f3, f4, f5, f6, f7]) true 0 [e0, e1, e2, e3, e4, e5, e6, e7]) (dnT (nxI (dO d) 0 (oP d) [e0, e1, e2, e3, e4, e5, e6, e7] [f0, f1, f2, f3, f4, f5, f6, f7]) 0 [f0, f1, f2, f3, f4, f5, f6, f7]) = (setN (nxI (dO d) 0 (oP d) [e0, e1, e2, e3, e4, e5, e6, e7] [f0, f1, f2, f3, f4, f5, f6, f7]) true 0 [e0, e1, e2, e3, e4, e5, e6, e7]) := by
          show opM (oP d) (List.getD k1 (0 + Int.toNat (i : Int)) 0) (xE n1 i) d (setN (nxI (dO d) 0 (oP d) [e0, e1, e2, e3, e4, e5, e6, e7] [f0, f1, f2, f3, f4, f5, f6, f7]) true 0 [e0, e1, e2, e3, e4, e5, e6, e7]) (dnT (nxI (dO d) 0 (oP d) [e0, e1, e2, e3, e4, e5, e6, e7] [f0, f1, f2, f3, f4, f5, f6, f7]) 0 [f0, f1, f2, f3, f4, f5, f6, f7]) = _
          unfold opM; rw [if_pos z1]
        have g4 : eT la lb i d (⟨k1, n1, d1, k2, n2, d2⟩ : Ac) (setN (nxI (dO d) 0 (oP d) [e0, e1, e2, e3, e4, e5, e6, e7] [f0, f1, f2, f3, f4, f5, f6, f7]) true 0 [e0, e1, e2, e3, e4, e5, e6, e7]) (dnT (nxI (dO d) 0 (oP d) [e0, e1, e2, e3, e4, e5, e6, e7] [f0, f1, f2, f3, f4, f5, f6, f7]) 0 [f0, f1, f2, f3, f4, f5, f6, f7]) = (upT (upIx (xE n1 i)) 0 (dnT (nxI (dO d) 0 (oP d) [e0, e1, e2, e3, e4, e5, e6, e7] [f0, f1, f2, f3, f4, f5, f6, f7]) 0 [f0, f1, f2, f3, f4, f5, f6, f7])) := by
          show opT (oP d) (List.getD k1 (0 + Int.toNat (i : Int)) 0) (xE n1 i) d (setN (nxI (dO d) 0 (oP d) [e0, e1, e2, e3, e4, e5, e6, e7] [f0, f1, f2, f3, f4, f5, f6, f7]) true 0 [e0, e1, e2, e3, e4, e5, e6, e7]) (dnT (nxI (dO d) 0 (oP d) [e0, e1, e2, e3, e4, e5, e6, e7] [f0, f1, f2, f3, f4, f5, f6, f7]) 0 [f0, f1, f2, f3, f4, f5, f6, f7]) = _
          unfold opT; rw [if_pos z1]
        rw [g1, g2, g3, g4]
        rfl
      refine (cfr (by simpa using z1)).trans ?_
      by_cases z2 : (List.getD k1 (0 + Int.toNat (i : Int)) 0) = 2
      · refine (ctr (beq_iff_eq.2 z2)).trans ?_
        refine (cfr (same_ff (congrArg nxV ex))).trans ?_
        refine (cfr (bsame_ff (congrArg (fun x => Nat.ble (x + 1) 8) ex))).trans ?_
        rw [eb1, eb2, wi]
        have g1 : eM la lb i d (⟨k1, n1, d1, k2, n2, d2⟩ : Ac) [m0, m1, m2, m3, m4, m5, m6, m7] [t0, t1, t2, t3, t4, t5, t6, t7] = (setN (nxI d 0 (oP d) [m0, m1, m2, m3, m4, m5, m6, m7] [t0, t1, t2, t3, t4, t5, t6, t7]) true 0 [m0, m1, m2, m3, m4, m5, m6, m7]) := by
          show opM (oP d) (List.getD k1 (0 + Int.toNat (i : Int)) 0) (xE n1 i) d [m0, m1, m2, m3, m4, m5, m6, m7] [t0, t1, t2, t3, t4, t5, t6, t7] = _
          unfold opM; rw [if_neg z1, if_pos z2]
        have g2 : eT la lb i d (⟨k1, n1, d1, k2, n2, d2⟩ : Ac) [m0, m1, m2, m3, m4, m5, m6, m7] [t0, t1, t2, t3, t4, t5, t6, t7] = (dnT (nxI d 0 (oP d) [m0, m1, m2, m3, m4, m5, m6, m7] [t0, t1, t2, t3, t4, t5, t6, t7]) 0 [t0, t1, t2, t3, t4, t5, t6, t7]) := by
          show opT (oP d) (List.getD k1 (0 + Int.toNat (i : Int)) 0) (xE n1 i) d [m0, m1, m2, m3, m4, m5, m6, m7] [t0, t1, t2, t3, t4, t5, t6, t7] = _
          unfold opT; rw [if_neg z1, if_pos z2]
        have g3 : eM la lb i d (⟨k1, n1, d1, k2, n2, d2⟩ : Ac) (setN (nxI (dO d) 0 (oP d) [e0, e1, e2, e3, e4, e5, e6, e7] [f0, f1, f2, f3, f4, f5, f6, f7]) true 0 [e0, e1, e2, e3, e4, e5, e6, e7]) (dnT (nxI (dO d) 0 (oP d) [e0, e1, e2, e3, e4, e5, e6, e7] [f0, f1, f2, f3, f4, f5, f6, f7]) 0 [f0, f1, f2, f3, f4, f5, f6, f7]) = (setN (nxI d 0 (oP d) (setN (nxI (dO d) 0 (oP d) [e0, e1, e2, e3, e4, e5, e6, e7] [f0, f1, f2, f3, f4, f5, f6, f7]) true 0 [e0, e1, e2, e3, e4, e5, e6, e7]) (dnT (nxI (dO d) 0 (oP d) [e0, e1, e2, e3, e4, e5, e6, e7] [f0, f1, f2, f3, f4, f5, f6, f7]) 0 [f0, f1, f2, f3, f4, f5, f6, f7])) true 0 (setN (nxI (dO d) 0 (oP d) [e0, e1, e2, e3, e4, e5, e6, e7] [f0, f1, f2, f3, f4, f5, f6, f7]) true 0 [e0, e1, e2, e3, e4, e5, e6, e7])) := by
          show opM (oP d) (List.getD k1 (0 + Int.toNat (i : Int)) 0) (xE n1 i) d (setN (nxI (dO d) 0 (oP d) [e0, e1, e2, e3, e4, e5, e6, e7] [f0, f1, f2, f3, f4, f5, f6, f7]) true 0 [e0, e1, e2, e3, e4, e5, e6, e7]) (dnT (nxI (dO d) 0 (oP d) [e0, e1, e2, e3, e4, e5, e6, e7] [f0, f1, f2, f3, f4, f5, f6, f7]) 0 [f0, f1, f2, f3, f4, f5, f6, f7]) = _
          unfold opM; rw [if_neg z1, if_pos z2]
        have g4 : eT la lb i d (⟨k1, n1, d1, k2, n2, d2⟩ : Ac) (setN (nxI (dO d) 0 (oP d) [e0, e1, e2, e3, e4, e5, e6, e7] [f0, f1, f2, f3, f4, f5, f6, f7]) true 0 [e0, e1, e2, e3, e4, e5, e6, e7]) (dnT (nxI (dO d) 0 (oP d) [e0, e1, e2, e3, e4, e5, e6, e7] [f0, f1, f2, f3, f4, f5, f6, f7]) 0 [f0, f1, f2, f3, f4, f5, f6, f7]) = (dnT (nxI d 0 (oP d) (setN (nxI (dO d) 0 (oP d) [e0, e1, e2, e3, e4, e5, e6, e7] [f0, f1, f2, f3, f4, f5, f6, f7]) true 0 [e0, e1, e2, e3, e4, e5, e6, e7]) (dnT (nxI (dO d) 0 (oP d) [e0, e1, e2, e3, e4, e5, e6, e7] [f0, f1, f2, f3, f4, f5, f6, f7]) 0 [f0, f1, f2, f3, f4, f5, f6, f7])) 0 (dnT (nxI (dO d) 0 (oP d) [e0, e1, e2, e3, e4, e5, e6, e7] [f0, f1, f2, f3, f4, f5, f6, f7]) 0 [f0, f1, f2, f3, f4, f5, f6, f7])) := by
          show opT (oP d) (List.getD k1 (0 + Int.toNat (i : Int)) 0) (xE n1 i) d (setN (nxI (dO d) 0 (oP d) [e0, e1, e2, e3, e4, e5, e6, e7] [f0, f1, f2, f3, f4, f5, f6, f7]) true 0 [e0, e1, e2, e3, e4, e5, e6, e7]) (dnT (nxI (dO d) 0 (oP d) [e0, e1, e2, e3, e4, e5, e6, e7] [f0, f1, f2, f3, f4, f5, f6, f7]) 0 [f0, f1, f2, f3, f4, f5, f6, f7]) = _
          unfold opT; rw [if_neg z1, if_pos z2]
        rw [g1, g2, g3, g4]
        rfl
      refine (cfr (by simpa using z2)).trans ?_
      refine (cfr (same_ff ey)).trans ?_
      rw [eb1, eb2, wi]
      have g1 : eM la lb i d (⟨k1, n1, d1, k2, n2, d2⟩ : Ac) [m0, m1, m2, m3, m4, m5, m6, m7] [t0, t1, t2, t3, t4, t5, t6, t7] = (setN (ackIx (xE n1 i) (oP d) [m0, m1, m2, m3, m4, m5, m6, m7]) false 0 [m0, m1, m2, m3, m4, m5, m6, m7]) := by
        show opM (oP d) (List.getD k1 (0 + Int.toNat (i : Int)) 0) (xE n1 i) d [m0, m1, m2, m3, m4, m5, m6, m7] [t0, t1, t2, t3, t4, t5, t6, t7] = _
        unfold opM; rw [if_neg z1, if_neg z2]
      have g2 : eT la lb i d (⟨k1, n1, d1, k2, n2, d2⟩ : Ac) [m0, m1, m2, m3, m4, m5, m6, m7] [t0, t1, t2, t3, t4, t5, t6, t7] = [t0, t1, t2, t3, t4, t5, t6, t7] := by
        show opT (oP d) (List.getD k1 (0 + Int.toNat (i : Int)) 0) (xE n1 i) d [m0, m1, m2, m3, m4, m5, m6, m7] [t0, t1, t2, t3, t4, t5, t6, t7] = _
        unfold opT; rw [if_neg z1, if_neg z2]
      have g3 : eM la lb i d (⟨k1, n1, d1, k2, n2, d2⟩ : Ac) (setN (nxI (dO d) 0 (oP d) [e0, e1, e2, e3, e4, e5, e6, e7] [f0, f1, f2, f3, f4, f5, f6, f7]) true 0 [e0, e1, e2, e3, e4, e5, e6, e7]) (dnT (nxI (dO d) 0 (oP d) [e0, e1, e2, e3, e4, e5, e6, e7] [f0, f1, f2, f3, f4, f5, f6, f7]) 0 [f0, f1, f2, f3, f4, f5, f6, f7]) = (setN (ackIx (xE n1 i) (oP d) (setN (nxI (dO d) 0 (oP d) [e0, e1, e2, e3, e4, e5, e6, e7] [f0, f1, f2, f3, f4, f5, f6, f7]) true 0 [e0, e1, e2, e3, e4, e5, e6, e7])) false 0 (setN (nxI (dO d) 0 (oP d) [e0, e1, e2, e3, e4, e5, e6, e7] [f0, f1, f2, f3, f4, f5, f6, f7]) true 0 [e0, e1, e2, e3, e4, e5, e6, e7])) := by
        show opM (oP d) (List.getD k1 (0 + Int.toNat (i : Int)) 0) (xE n1 i) d (setN (nxI (dO d) 0 (oP d) [e0, e1, e2, e3, e4, e5, e6, e7] [f0, f1, f2, f3, f4, f5, f6, f7]) true 0 [e0, e1, e2, e3, e4, e5, e6, e7]) (dnT (nxI (dO d) 0 (oP d) [e0, e1, e2, e3, e4, e5, e6, e7] [f0, f1, f2, f3, f4, f5, f6, f7]) 0 [f0, f1, f2, f3, f4, f5, f6, f7]) = _
        unfold opM; rw [if_neg z1, if_neg z2]
      have g4 : eT la lb i d (⟨k1, n1, d1, k2, n2, d2⟩ : Ac) (setN (nxI (dO d) 0 (oP d) [e0, e1, e2, e3, e4, e5, e6, e7] [f0, f1, f2, f3, f4, f5, f6, f7]) true 0 [e0, e1, e2, e3, e4, e5, e6, e7]) (dnT (nxI (dO d) 0 (oP d) [e0, e1, e2, e3, e4, e5, e6, e7] [f0, f1, f2, f3, f4, f5, f6, f7]) 0 [f0, f1, f2, f3, f4, f5, f6, f7]) = (dnT (nxI (dO d) 0 (oP d) [e0, e1, e2, e3, e4, e5, e6, e7] [f0, f1, f2, f3, f4, f5, f6, f7]) 0 [f0, f1, f2, f3, f4, f5, f6, f7]) := by
        show opT (oP d) (List.getD k1 (0 + Int.toNat (i : Int)) 0) (xE n1 i) d (setN (nxI (dO d) 0 (oP d) [e0, e1, e2, e3, e4, e5, e6, e7] [f0, f1, f2, f3, f4, f5, f6, f7]) true 0 [e0, e1, e2, e3, e4, e5, e6, e7]) (dnT (nxI (dO d) 0 (oP d) [e0, e1, e2, e3, e4, e5, e6, e7] [f0, f1, f2, f3, f4, f5, f6, f7]) 0 [f0, f1, f2, f3, f4, f5, f6, f7]) = _
        unfold opT; rw [if_neg z1, if_neg z2]
      rw [g1, g2, g3, g4]
      rfl
    refine (cfr (by simpa using w2)).trans ?_
    have eb1 : bMm lb i d (⟨k1, n1, d1, k2, n2, d2⟩ : Ac) [e0, e1, e2, e3, e4, e5, e6, e7] [f0, f1, f2, f3, f4, f5, f6, f7] = (setN (ackIx (xO n2 i) (oP d) [e0, e1, e2, e3, e4, e5, e6, e7]) false 0 [e0, e1, e2, e3, e4, e5, e6, e7]) := by
      show (if i < lb then opM (oP d) (List.getD k2 (0 + Int.toNat (i : Int)) 0) (xO n2 i) (dO d) [e0, e1, e2, e3, e4, e5, e6, e7] [f0, f1, f2, f3, f4, f5, f6, f7] else [e0, e1, e2, e3, e4, e5, e6, e7]) = _
      unfold opM; rw [if_pos c, if_neg w1, if_neg w2]
    have eb2 : bTt lb i d (⟨k1, n1, d1, k2, n2, d2⟩ : Ac) [e0, e1, e2, e3, e4, e5, e6, e7] [f0, f1, f2, f3, f4, f5, f6, f7] = [f0, f1, f2, f3, f4, f5, f6, f7] := by
      show (if i < lb then opT (oP d) (List.getD k2 (0 + Int.toNat (i : Int)) 0) (xO n2 i) (dO d) [e0, e1, e2, e3, e4, e5, e6, e7] [f0, f1, f2, f3, f4, f5, f6, f7] else [f0, f1, f2, f3, f4, f5, f6, f7]) = _
      unfold opT; rw [if_pos c, if_neg w1, if_neg w2]
    have agx : Ag [m0, m1, m2, m3, m4, m5, m6, m7] [t0, t1, t2, t3, t4, t5, t6, t7] (bMm lb i d (⟨k1, n1, d1, k2, n2, d2⟩ : Ac) [e0, e1, e2, e3, e4, e5, e6, e7] [f0, f1, f2, f3, f4, f5, f6, f7]) (bTt lb i d (⟨k1, n1, d1, k2, n2, d2⟩ : Ac) [e0, e1, e2, e3, e4, e5, e6, e7] [f0, f1, f2, f3, f4, f5, f6, f7]) := by unfold bMm bTt; rw [if_pos c, if_pos c]; exact agO _
    rw [eb1, eb2] at agx
    have ex := Ag.nx h0 h4 agx
    have ey := Ag.ack hx (os := oP d) agx
    by_cases z1 : (List.getD k1 (0 + Int.toNat (i : Int)) 0) = 1
    · refine (ctr (beq_iff_eq.2 z1)).trans ?_
      rw [eb1, eb2, wi]
      have g1 : eM la lb i d (⟨k1, n1, d1, k2, n2, d2⟩ : Ac) [m0, m1, m2, m3, m4, m5, m6, m7] [t0, t1, t2, t3, t4, t5, t6, t7] = [m0, m1, m2, m3, m4, m5, m6, m7] := by
        show opM (oP d) (List.getD k1 (0 + Int.toNat (i : Int)) 0) (xE n1 i) d [m0, m1, m2, m3, m4, m5, m6, m7] [t0, t1, t2, t3, t4, t5, t6, t7] = _
        unfold opM; rw [if_pos z1]
      have g2 : eT la lb i d (⟨k1, n1, d1, k2, n2, d2⟩ : Ac) [m0, m1, m2, m3, m4, m5, m6, m7] [t0, t1, t2, t3, t4, t5, t6, t7] = (upT (upIx (xE n1 i)) 0 [t0, t1, t2, t3, t4, t5, t6, t7]) := by
        show opT (oP d) (List.getD k1 (0 + Int.toNat (i : Int)) 0) (xE n1 i) d [m0, m1, m2, m3, m4, m5, m6, m7] [t0, t1, t2, t3, t4, t5, t6, t7] = _
        unfold opT; rw [if_pos z1]
      have g3 : eM la lb i d (⟨k1, n1, d1, k2, n2, d2⟩ : Ac) (setN (ackIx (xO n2 i) (oP d) [e0, e1, e2, e3, e4, e5, e6, e7]) false 0 [e0, e1, e2, e3, e4, e5, e6, e7]) [f0, f1, f2, f3, f4, f5, f6, f7] = (setN (ackIx (xO n2 i) (oP d) [e0, e1, e2, e3, e4, e5, e6, e7]) false 0 [e0, e1, e2, e3, e4, e5, e6, e7]) := by
        show opM (oP d) (List.getD k1 (0 + Int.toNat (i : Int)) 0) (xE n1 i) d (setN (ackIx (xO n2 i) (oP d) [e0, e1, e2, e3, e4, e5, e6, e7]) false 0 [e0, e1, e2, e3, e4, e5, e6, e7]) [f0, f1, f2, f3, f4, f5, f6, f7] = _
        unfold opM; rw [if_pos z1]
      have g4 : eT la lb i d (⟨k1, n1, d1, k2, n2, d2⟩ : Ac) (setN (ackIx (xO n2 i) (oP d) [e0, e1, e2, e3, e4, e5, e6, e7]) false 0 [e0, e1, e2, e3, e4, e5, e6, e7]) [f0, f1, f2, f3, f4, f5, f6, f7] = (upT (upIx (xE n1 i)) 0 [f0, f1, f2, f3, f4, f5, f6, f7]) := by
        show opT (oP d) (List.getD k1 (0 + Int.toNat (i : Int)) 0) (xE n1 i) d (setN (ackIx (xO n2 i) (oP d) [e0, e1, e2, e3, e4, e5, e6, e7]) false 0 [e0, e1, e2, e3, e4, e5, e6, e7]) [f0, f1, f2, f3, f4, f5, f6, f7] = _
        unfold opT; rw [if_pos z1]
      rw [g1, g2, g3, g4]
      rfl
    refine (cfr (by simpa using z1)).trans ?_
    by_cases z2 : (List.getD k1 (0 + Int.toNat (i : Int)) 0) = 2
    · refine (ctr (beq_iff_eq.2 z2)).trans ?_
      refine (cfr (same_ff (congrArg nxV ex))).trans ?_
      refine (cfr (bsame_ff (congrArg (fun x => Nat.ble (x + 1) 8) ex))).trans ?_
      rw [eb1, eb2, wi]
      have g1 : eM la lb i d (⟨k1, n1, d1, k2, n2, d2⟩ : Ac) [m0, m1, m2, m3, m4, m5, m6, m7] [t0, t1, t2, t3, t4, t5, t6, t7] = (setN (nxI d 0 (oP d) [m0, m1, m2, m3, m4, m5, m6, m7] [t0, t1, t2, t3, t4, t5, t6, t7]) true 0 [m0, m1, m2, m3, m4, m5, m6, m7]) := by
        show opM (oP d) (List.getD k1 (0 + Int.toNat (i : Int)) 0) (xE n1 i) d [m0, m1, m2, m3, m4, m5, m6, m7] [t0, t1, t2, t3, t4, t5, t6, t7] = _
        unfold opM; rw [if_neg z1, if_pos z2]
      have g2 : eT la lb i d (⟨k1, n1, d1, k2, n2, d2⟩ : Ac) [m0, m1, m2, m3, m4, m5, m6, m7] [t0, t1, t2, t3, t4, t5, t6, t7] = (dnT (nxI d 0 (oP d) [m0, m1, m2, m3, m4, m5, m6, m7] [t0, t1, t2, t3, t4, t5, t6, t7]) 0 [t0, t1, t2, t3, t4, t5, t6, t7]) := by
        show opT (oP d) (List.getD k1 (0 + Int.toNat (i : Int)) 0) (xE n1 i) d [m0, m1, m2, m3, m4, m5, m6, m7] [t0, t1, t2, t3, t4, t5, t6, t7] = _
        unfold opT; rw [if_neg z1, if_pos z2]
      have g3 : eM la lb i d (⟨k1, n1, d1, k2, n2, d2⟩ : Ac) (setN (ackIx (xO n2 i) (oP d) [e0, e1, e2, e3, e4, e5, e6, e7]) false 0 [e0, e1, e2, e3, e4, e5, e6, e7]) [f0, f1, f2, f3, f4, f5, f6, f7] = (setN (nxI d 0 (oP d) (setN (ackIx (xO n2 i) (oP d) [e0, e1, e2, e3, e4, e5, e6, e7]) false 0 [e0, e1, e2, e3, e4, e5, e6, e7]) [f0, f1, f2, f3, f4, f5, f6, f7]) true 0 (setN (ackIx (xO n2 i) (oP d) [e0, e1, e2, e3, e4, e5, e6, e7]) false 0 [e0, e1, e2, e3, e4, e5, e6, e7])) := by
        show opM (oP d) (List.getD k1 (0 + Int.toNat (i : Int)) 0) (xE n1 i) d (setN (ackIx (xO n2 i) (oP d) [e0, e1, e2, e3, e4, e5, e6, e7]) false 0 [e0, e1, e2, e3, e4, e5, e6, e7]) [f0, f1, f2, f3, f4, f5, f6, f7] = _
        unfold opM; rw [if_neg z1, if_pos z2]
      have g4 : eT la lb i d (⟨k1, n1, d1, k2, n2, d2⟩ : Ac) (setN (ackIx (xO n2 i) (oP d) [e0, e1, e2, e3, e4, e5, e6, e7]) false 0 [e0, e1, e2, e3, e4, e5, e6, e7]) [f0, f1, f2, f3, f4, f5, f6, f7] = (dnT (nxI d 0 (oP d) (setN (ackIx (xO n2 i) (oP d) [e0, e1, e2, e3, e4, e5, e6, e7]) false 0 [e0, e1, e2, e3, e4, e5, e6, e7]) [f0, f1, f2, f3, f4, f5, f6, f7]) 0 [f0, f1, f2, f3, f4, f5, f6, f7]) := by
        show opT (oP d) (List.getD k1 (0 + Int.toNat (i : Int)) 0) (xE n1 i) d (setN (ackIx (xO n2 i) (oP d) [e0, e1, e2, e3, e4, e5, e6, e7]) false 0 [e0, e1, e2, e3, e4, e5, e6, e7]) [f0, f1, f2, f3, f4, f5, f6, f7] = _
        unfold opT; rw [if_neg z1, if_pos z2]
      rw [g1, g2, g3, g4]
      rfl
    refine (cfr (by simpa using z2)).trans ?_
    refine (cfr (same_ff ey)).trans ?_
    rw [eb1, eb2, wi]
    have g1 : eM la lb i d (⟨k1, n1, d1, k2, n2, d2⟩ : Ac) [m0, m1, m2, m3, m4, m5, m6, m7] [t0, t1, t2, t3, t4, t5, t6, t7] = (setN (ackIx (xE n1 i) (oP d) [m0, m1, m2, m3, m4, m5, m6, m7]) false 0 [m0, m1, m2, m3, m4, m5, m6, m7]) := by
      show opM (oP d) (List.getD k1 (0 + Int.toNat (i : Int)) 0) (xE n1 i) d [m0, m1, m2, m3, m4, m5, m6, m7] [t0, t1, t2, t3, t4, t5, t6, t7] = _
      unfold opM; rw [if_neg z1, if_neg z2]
    have g2 : eT la lb i d (⟨k1, n1, d1, k2, n2, d2⟩ : Ac) [m0, m1, m2, m3, m4, m5, m6, m7] [t0, t1, t2, t3, t4, t5, t6, t7] = [t0, t1, t2, t3, t4, t5, t6, t7] := by
      show opT (oP d) (List.getD k1 (0 + Int.toNat (i : Int)) 0) (xE n1 i) d [m0, m1, m2, m3, m4, m5, m6, m7] [t0, t1, t2, t3, t4, t5, t6, t7] = _
      unfold opT; rw [if_neg z1, if_neg z2]
    have g3 : eM la lb i d (⟨k1, n1, d1, k2, n2, d2⟩ : Ac) (setN (ackIx (xO n2 i) (oP d) [e0, e1, e2, e3, e4, e5, e6, e7]) false 0 [e0, e1, e2, e3, e4, e5, e6, e7]) [f0, f1, f2, f3, f4, f5, f6, f7] = (setN (ackIx (xE n1 i) (oP d) (setN (ackIx (xO n2 i) (oP d) [e0, e1, e2, e3, e4, e5, e6, e7]) false 0 [e0, e1, e2, e3, e4, e5, e6, e7])) false 0 (setN (ackIx (xO n2 i) (oP d) [e0, e1, e2, e3, e4, e5, e6, e7]) false 0 [e0, e1, e2, e3, e4, e5, e6, e7])) := by
      show opM (oP d) (List.getD k1 (0 + Int.toNat (i : Int)) 0) (xE n1 i) d (setN (ackIx (xO n2 i) (oP d) [e0, e1, e2, e3, e4, e5, e6, e7]) false 0 [e0, e1, e2, e3, e4, e5, e6, e7]) [f0, f1, f2, f3, f4, f5, f6, f7] = _
      unfold opM; rw [if_neg z1, if_neg z2]
    have g4 : eT la lb i d (⟨k1, n1, d1, k2, n2, d2⟩ : Ac) (setN (ackIx (xO n2 i) (oP d) [e0, e1, e2, e3, e4, e5, e6, e7]) false 0 [e0, e1, e2, e3, e4, e5, e6, e7]) [f0, f1, f2, f3, f4, f5, f6, f7] = [f0, f1, f2, f3, f4, f5, f6, f7] := by
      show opT (oP d) (List.getD k1 (0 + Int.toNat (i : Int)) 0) (xE n1 i) d (setN (ackIx (xO n2 i) (oP d) [e0, e1, e2, e3, e4, e5, e6, e7]) false 0 [e0, e1, e2, e3, e4, e5, e6, e7]) [f0, f1, f2, f3, f4, f5, f6, f7] = _
      unfold opT; rw [if_neg z1, if_neg z2]
    rw [g1, g2, g3, g4]
    rfl
  · refine (cfr (decide_eq_false (by omega))).trans ?_
    have eb1 : bMm lb i d (⟨k1, n1, d1, k2, n2, d2⟩ : Ac) [e0, e1, e2, e3, e4, e5, e6, e7] [f0, f1, f2, f3, f4, f5, f6, f7] = [e0, e1, e2, e3, e4, e5, e6, e7] := by
      show (if i < lb then opM (oP d) (List.getD k2 (0 + Int.toNat (i : Int)) 0) (xO n2 i) (dO d) [e0, e1, e2, e3, e4, e5, e6, e7] [f0, f1, f2, f3, f4, f5, f6, f7] else [e0, e1, e2, e3, e4, e5, e6, e7]) = _
      rw [if_neg c]
    have eb2 : bTt lb i d (⟨k1, n1, d1, k2, n2, d2⟩ : Ac) [e0, e1, e2, e3, e4, e5, e6, e7] [f0, f1, f2, f3, f4, f5, f6, f7] = [f0, f1, f2, f3, f4, f5, f6, f7] := by
      show (if i < lb then opT (oP d) (List.getD k2 (0 + Int.toNat (i : Int)) 0) (xO n2 i) (dO d) [e0, e1, e2, e3, e4, e5, e6, e7] [f0, f1, f2, f3, f4, f5, f6, f7] else [f0, f1, f2, f3, f4, f5, f6, f7]) = _
      rw [if_neg c]
    have agx : Ag [m0, m1, m2, m3, m4, m5, m6, m7] [t0, t1, t2, t3, t4, t5, t6, t7] [e0, e1, e2, e3, e4, e5, e6, e7] [f0, f1, f2, f3, f4, f5, f6, f7] := ag0
    have ex := Ag.nx h0 h4 agx
    have ey := Ag.ack hx (os := oP d) agx
    by_cases z1 : (List.getD k1 (0 + Int.toNat (i : Int)) 0) = 1
    · refine (ctr (beq_iff_eq.2 z1)).trans ?_
      rw [eb1, eb2, wi]
      have g1 : eM la lb i d (⟨k1, n1, d1, k2, n2, d2⟩ : Ac) [m0, m1, m2, m3, m4, m5, m6, m7] [t0, t1, t2, t3, t4, t5, t6, t7] = [m0, m1, m2, m3, m4, m5, m6, m7] := by
        show opM (oP d) (List.getD k1 (0 + Int.toNat (i : Int)) 0) (xE n1 i) d [m0, m1, m2, m3, m4, m5, m6, m7] [t0, t1, t2, t3, t4, t5, t6, t7] = _
        unfold opM; rw [if_pos z1]
      have g2 : eT la lb i d (⟨k1, n1, d1, k2, n2, d2⟩ : Ac) [m0, m1, m2, m3, m4, m5, m6, m7] [t0, t1, t2, t3, t4, t5, t6, t7] = (upT (upIx (xE n1 i)) 0 [t0, t1, t2, t3, t4, t5, t6, t7]) := by
        show opT (oP d) (List.getD k1 (0 + Int.toNat (i : Int)) 0) (xE n1 i) d [m0, m1, m2, m3, m4, m5, m6, m7] [t0, t1, t2, t3, t4, t5, t6, t7] = _
        unfold opT; rw [if_pos z1]
      have g3 : eM la lb i d (⟨k1, n1, d1, k2, n2, d2⟩ : Ac) [e0, e1, e2, e3, e4, e5, e6, e7] [f0, f1, f2, f3, f4, f5, f6, f7] = [e0, e1, e2, e3, e4, e5, e6, e7] := by
        show opM (oP d) (List.getD k1 (0 + Int.toNat (i : Int)) 0) (xE n1 i) d [e0, e1, e2, e3, e4, e5, e6, e7] [f0, f1, f2, f3, f4, f5, f6, f7] = _
        unfold opM; rw [if_pos z1]
      have g4 : eT la lb i d (⟨k1, n1, d1, k2, n2, d2⟩ : Ac) [e0, e1, e2, e3, e4, e5, e6, e7] [f0, f1, f2, f3, f4, f5, f6, f7] = (upT (upIx (xE n1 i)) 0 [f0, f1, f2, f3, f4, f5, f6, f7]) := by
        show opT (oP d) (List.getD k1 (0 + Int.toNat (i : Int)) 0) (xE n1 i) d [e0, e1, e2, e3, e4, e5, e6, e7] [f0, f1, f2, f3, f4, f5, f6, f7] = _
        unfold opT; rw [if_pos z1]
      rw [g1, g2, g3, g4]
      rfl
    refine (cfr (by simpa using z1)).trans ?_
    by_cases z2 : (List.getD k1 (0 + Int.toNat (i : Int)) 0) = 2
    · refine (ctr (beq_iff_eq.2 z2)).trans ?_
      refine (cfr (same_ff (congrArg nxV ex))).trans ?_
      refine (cfr (bsame_ff (congrArg (fun x => Nat.ble (x + 1) 8) ex))).trans ?_
      rw [eb1, eb2, wi]
      have g1 : eM la lb i d (⟨k1, n1, d1, k2, n2, d2⟩ : Ac) [m0, m1, m2, m3, m4, m5, m6, m7] [t0, t1, t2, t3, t4, t5, t6, t7] = (setN (nxI d 0 (oP d) [m0, m1, m2, m3, m4, m5, m6, m7] [t0, t1, t2, t3, t4, t5, t6, t7]) true 0 [m0, m1, m2, m3, m4, m5, m6, m7]) := by
        show opM (oP d) (List.getD k1 (0 + Int.toNat (i : Int)) 0) (xE n1 i) d [m0, m1, m2, m3, m4, m5, m6, m7] [t0, t1, t2, t3, t4, t5, t6, t7] = _
        unfold opM; rw [if_neg z1, if_pos z2]
      have g2 : eT la lb i d (⟨k1, n1, d1, k2, n2, d2⟩ : Ac) [m0, m1, m2, m3, m4, m5, m6, m7] [t0, t1, t2, t3, t4, t5, t6, t7] = (dnT (nxI d 0 (oP d) [m0, m1, m2, m3, m4, m5, m6, m7] [t0, t1, t2, t3, t4, t5, t6, t7]) 0 [t0, t1, t2, t3, t4, t5, t6, t7]) := by
        show opT (oP d) (List.getD k1 (0 + Int.toNat (i : Int)) 0) (xE n1 i) d [m0, m1, m2, m3, m4, m5, m6, m7] [t0, t1, t2, t3, t4, t5, t6, t7] = _
        unfold opT; rw [if_neg z1, if_pos z2]
      have g3 : eM la lb i d (⟨k1, n1, d1, k2, n2, d2⟩ : Ac) [e0, e1, e2, e3, e4, e5, e6, e7] [f0, f1, f2, f3, f4, f5, f6, f7] = (setN (nxI d 0 (oP d) [e0, e1, e2, e3, e4, e5, e6, e7] [f0, f1, f2, f3, f4, f5, f6, f7]) true 0 [e0, e1, e2, e3, e4, e5, e6, e7]) := by
        show opM (oP d) (List.getD k1 (0 + Int.toNat (i : Int)) 0) (xE n1 i) d [e0, e1, e2, e3, e4, e5, e6, e7] [f0, f1, f2, f3, f4, f5, f6, f7] = _
        unfold opM; rw [if_neg z1, if_pos z2]
      have g4 : eT la lb i d (⟨k1, n1, d1, k2, n2, d2⟩ : Ac) [e0, e1, e2, e3, e4, e5, e6, e7] [f0, f1, f2, f3, f4, f5, f6, f7] = (dnT (nxI d 0 (oP d) [e0, e1, e2, e3, e4, e5, e6, e7] [f0, f1, f2, f3, f4, f5, f6, f7]) 0 [f0, f1, f2, f3, f4, f5, f6, f7]) := by
        show opT (oP d) (List.getD k1 (0 + Int.toNat (i : Int)) 0) (xE n1 i) d [e0, e1, e2, e3, e4, e5, e6, e7] [f0, f1, f2, f3, f4, f5, f6, f7] = _
        unfold opT; rw [if_neg z1, if_pos z2]
      rw [g1, g2, g3, g4]
      rfl
    refine (cfr (by simpa using z2)).trans ?_
    refine (cfr (same_ff ey)).trans ?_
    rw [eb1, eb2, wi]
    have g1 : eM la lb i d (⟨k1, n1, d1, k2, n2, d2⟩ : Ac) [m0, m1, m2, m3, m4, m5, m6, m7] [t0, t1, t2, t3, t4, t5, t6, t7] = (setN (ackIx (xE n1 i) (oP d) [m0, m1, m2, m3, m4, m5, m6, m7]) false 0 [m0, m1, m2, m3, m4, m5, m6, m7]) := by
      show opM (oP d) (List.getD k1 (0 + Int.toNat (i : Int)) 0) (xE n1 i) d [m0, m1, m2, m3, m4, m5, m6, m7] [t0, t1, t2, t3, t4, t5, t6, t7] = _
      unfold opM; rw [if_neg z1, if_neg z2]
    have g2 : eT la lb i d (⟨k1, n1, d1, k2, n2, d2⟩ : Ac) [m0, m1, m2, m3, m4, m5, m6, m7] [t0, t1, t2, t3, t4, t5, t6, t7] = [t0, t1, t2, t3, t4, t5, t6, t7] := by
      show opT (oP d) (List.getD k1 (0 + Int.toNat (i : Int)) 0) (xE n1 i) d [m0, m1, m2, m3, m4, m5, m6, m7] [t0, t1, t2, t3, t4, t5, t6, t7] = _
      unfold opT; rw [if_neg z1, if_neg z2]
    have g3 : eM la lb i d (⟨k1, n1, d1, k2, n2, d2⟩ : Ac) [e0, e1, e2, e3, e4, e5, e6, e7] [f0, f1, f2, f3, f4, f5, f6, f7] = (setN (ackIx (xE n1 i) (oP d) [e0, e1, e2, e3, e4, e5, e6, e7]) false 0 [e0, e1, e2, e3, e4, e5, e6, e7]) := by
      show opM (oP d) (List.getD k1 (0 + Int.toNat (i : Int)) 0) (xE n1 i) d [e0, e1, e2, e3, e4, e5, e6, e7] [f0, f1, f2, f3, f4, f5, f6, f7] = _
      unfold opM; rw [if_neg z1, if_neg z2]
    have g4 : eT la lb i d (⟨k1, n1, d1, k2, n2, d2⟩ : Ac) [e0, e1, e2, e3, e4, e5, e6, e7] [f0, f1, f2, f3, f4, f5, f6, f7] = [f0, f1, f2, f3, f4, f5, f6, f7] := by
      show opT (oP d) (List.getD k1 (0 + Int.toNat (i : Int)) 0) (xE n1 i) d [e0, e1, e2, e3, e4, e5, e6, e7] [f0, f1, f2, f3, f4, f5, f6, f7] = _
      unfold opT; rw [if_neg z1, if_neg z2]
    rw [g1, g2, g3, g4]
    rfl
theorem ap_stop (la lb i : Nat) (d : Int) (B : Ac) (ma mb : List Bool) (ta tb : List Nat) (ag : Ag ma ta mb tb) (h : ¬ (i < la ∧ i < 60)) (K : HeadK) :
    bodyR Try.prog sW lNil iA2 60 (loopOf Try.prog 4 2) (vA la lb d i) (hA B (oP d) ma ta (oP d) mb tb) K = K (.exit 2) [] [bOp B.k1 B.n1 B.d1, bOp B.k2 B.n2 B.d2] := by
  obtain ⟨q1, q2, q3, q4, qe⟩ := ag
  obtain ⟨m0, m1, m2, m3, m4, m5, m6, m7, rfl⟩ := len8 q1
  obtain ⟨t0, t1, t2, t3, t4, t5, t6, t7, rfl⟩ := len8 q2
  obtain ⟨e0, e1, e2, e3, e4, e5, e6, e7, rfl⟩ := len8 q3
  obtain ⟨f0, f1, f2, f3, f4, f5, f6, f7, rfl⟩ := len8 q4
  obtain ⟨k1, n1, d1, k2, n2, d2⟩ := B
  refine (t_a2 la lb d i k1 n1 d1 k2 n2 d2 d (dO d) d (dO d) d (dO d) d (dO d) m0 m1 m2 m3 m4 m5 m6 m7 t0 t1 t2 t3 t4 t5 t6 t7 e0 e1 e2 e3 e4 e5 e6 e7 f0 f1 f2 f3 f4 f5 f6 f7 K).trans ?_
  by_cases a1 : i < la
  · refine (ctr (decide_eq_true (by omega))).trans ?_
    exact cfr (decide_eq_false (by omega))
  · exact cfr (decide_eq_false (by omega))
theorem ap_loop (la lb : Nat) (d : Int) (h0 : 0 ≤ d) (h4 : d < 4) (B : Ac) (hB : AcOk la lb B) (K : HeadK) : ∀ (j i : Nat) (ma mb : List Bool) (ta tb : List Nat), Ag ma ta mb tb → 60 ≤ i + j →
    iterR Try.prog sW lNil iA2 60 (loopOf Try.prog 4 2) (j + 1) (vA la lb d i) (hA B (oP d) ma ta (oP d) mb tb) K = K (.exit 2) [] [bOp B.k1 B.n1 B.d1, bOp B.k2 B.n2 B.d2]
  | 0, i, ma, mb, ta, tb, ag, h => by
    rw [iterR]
    exact ap_stop la lb i d B ma mb ta tb ag (by omega) _
  | j + 1, i, ma, mb, ta, tb, ag, h => by
    rw [iterR]
    by_cases c : i < la ∧ i < 60
    · refine (ap_round la lb i d h0 h4 B ma mb ta tb ag hB c.1 c.2 _).trans ?_
      refine ap_loop la lb d h0 h4 B hB K j (i + 1) _ _ _ _ ?_ (by omega)
      obtain ⟨qx, _, hx⟩ := xE_of B.n1 i
      obtain ⟨qo, _, ho⟩ := xO_of B.n2 i
      refine Ag.even h0 h4 hx ?_
      unfold bMm bTt
      by_cases e : i < lb
      · rw [if_pos e, if_pos e]; exact Ag.odd h0 h4 ho ag
      · rw [if_neg e, if_neg e]; exact ag
    · exact ap_stop la lb i d B ma mb ta tb ag c _
theorem a0_go8 (la lb : Nat) (d : Int) (h0 : 0 ≤ d) (h4 : d < 4) (B : Ac) (K : HeadK) : iterR Try.prog sW lNil iA0 60 (loopOf Try.prog 4 0) 1 (vA la lb d 8) (hA B [d, dO d, d, dO d, d, dO d, d, dO d] [false, false, false, false, false, false, false, false] [0, 0, 0, 0, 0, 0, 0, 0] [d, dO d, d, dO d, d, dO d, d, dO d] [false, false, false, false, false, false, false, false] [0, 0, 0, 0, 0, 0, 0, 0]) K = K (.exit 0) [vOp la, vOq lb, aint .i64 d, vP 2, vP 3] (hA B (oP d) [false, false, false, false, false, false, false, false] [0, 0, 0, 0, 0, 0, 0, 0] (oP d) [false, false, false, false, false, false, false, false] [0, 0, 0, 0, 0, 0, 0, 0]) := by
  rw [iterR]
  refine (t_a0_8 la lb d B.k1 B.n1 B.d1 B.k2 B.n2 B.d2 d (dO d) d (dO d) d (dO d) d (dO d) false false false false false false false false 0 0 0 0 0 0 0 0 d (dO d) d (dO d) d (dO d) d (dO d) false false false false false false false false 0 0 0 0 0 0 0 0 _).trans ?_
  rfl
theorem a0_go7 (la lb : Nat) (d : Int) (h0 : 0 ≤ d) (h4 : d < 4) (B : Ac) (K : HeadK) : iterR Try.prog sW lNil iA0 60 (loopOf Try.prog 4 0) 2 (vA la lb d 7) (hA B [d, dO d, d, dO d, d, dO d, d, -1] [false, false, false, false, false, false, false, true] [0, 0, 0, 0, 0, 0, 0, 0] [d, dO d, d, dO d, d, dO d, d, -1] [false, false, false, false, false, false, false, true] [0, 0, 0, 0, 0, 0, 0, 0]) K = K (.exit 0) [vOp la, vOq lb, aint .i64 d, vP 2, vP 3] (hA B (oP d) [false, false, false, false, false, false, false, false] [0, 0, 0, 0, 0, 0, 0, 0] (oP d) [false, false, false, false, false, false, false, false] [0, 0, 0, 0, 0, 0, 0, 0]) := by
  rw [iterR]
  refine (t_a0_7 la lb d B.k1 B.n1 B.d1 B.k2 B.n2 B.d2 d (dO d) d (dO d) d (dO d) d (-1) false false false false false false false true 0 0 0 0 0 0 0 0 d (dO d) d (dO d) d (dO d) d (-1) false false false false false false false true 0 0 0 0 0 0 0 0 _).trans ?_
  obtain ⟨g0, g4, _⟩ := dO_of h0 h4
  have e : ownE 7 (dO d) [d, dO d, d, dO d, d, dO d, d, -1] = 0 := by unfold ownE; rw [if_pos ⟨rfl, g0, g4⟩]; rfl
  have x : ownIx 7 (dO d) [d, dO d, d, dO d, d, dO d, d, -1] = 7 := by unfold ownIx; rw [if_pos e]; rfl
  rw [x]
  exact a0_go8 la lb d h0 h4 B K
theorem a0_go6 (la lb : Nat) (d : Int) (h0 : 0 ≤ d) (h4 : d < 4) (B : Ac) (K : HeadK) : iterR Try.prog sW lNil iA0 60 (loopOf Try.prog 4 0) 3 (vA la lb d 6) (hA B [d, dO d, d, dO d, d, dO d, -1, -1] [false, false, false, false, false, false, true, true] [0, 0, 0, 0, 0, 0, 0, 0] [d, dO d, d, dO d, d, dO d, -1, -1] [false, false, false, false, false, false, true, true] [0, 0, 0, 0, 0, 0, 0, 0]) K = K (.exit 0) [vOp la, vOq lb, aint .i64 d, vP 2, vP 3] (hA B (oP d) [false, false, false, false, false, false, false, false] [0, 0, 0, 0, 0, 0, 0, 0] (oP d) [false, false, false, false, false, false, false, false] [0, 0, 0, 0, 0, 0, 0, 0]) := by
  rw [iterR]
  refine (t_a0_6 la lb d B.k1 B.n1 B.d1 B.k2 B.n2 B.d2 d (dO d) d (dO d) d (dO d) (-1) (-1) false false false false false false true true 0 0 0 0 0 0 0 0 d (dO d) d (dO d) d (dO d) (-1) (-1) false false false false false false true true 0 0 0 0 0 0 0 0 _).trans ?_
  have e : ownE 6 d [d, dO d, d, dO d, d, dO d, -1, -1] = 0 := by unfold ownE; rw [if_pos ⟨rfl, h0, h4⟩]; rfl
  have x : ownIx 6 d [d, dO d, d, dO d, d, dO d, -1, -1] = 6 := by unfold ownIx; rw [if_pos e]; rfl
  rw [x]
  exact a0_go7 la lb d h0 h4 B K
theorem a0_go5 (la lb : Nat) (d : Int) (h0 : 0 ≤ d) (h4 : d < 4) (B : Ac) (K : HeadK) : iterR Try.prog sW lNil iA0 60 (loopOf Try.prog 4 0) 4 (vA la lb d 5) (hA B [d, dO d, d, dO d, d, -1, -1, -1] [false, false, false, false, false, true, true, true] [0, 0, 0, 0, 0, 0, 0, 0] [d, dO d, d, dO d, d, -1, -1, -1] [false, false, false, false, false, true, true, true] [0, 0, 0, 0, 0, 0, 0, 0]) K = K (.exit 0) [vOp la, vOq lb, aint .i64 d, vP 2, vP 3] (hA B (oP d) [false, false, false, false, false, false, false, false] [0, 0, 0, 0, 0, 0, 0, 0] (oP d) [false, false, false, false, false, false, false, false] [0, 0, 0, 0, 0, 0, 0, 0]) := by
  rw [iterR]
  refine (t_a0_5 la lb d B.k1 B.n1 B.d1 B.k2 B.n2 B.d2 d (dO d) d (dO d) d (-1) (-1) (-1) false false false false false true true true 0 0 0 0 0 0 0 0 d (dO d) d (dO d) d (-1) (-1) (-1) false false false false false true true true 0 0 0 0 0 0 0 0 _).trans ?_
  obtain ⟨g0, g4, _⟩ := dO_of h0 h4
  have e : ownE 5 (dO d) [d, dO d, d, dO d, d, -1, -1, -1] = 0 := by unfold ownE; rw [if_pos ⟨rfl, g0, g4⟩]; rfl
  have x : ownIx 5 (dO d) [d, dO d, d, dO d, d, -1, -1, -1] = 5 := by unfold ownIx; rw [if_pos e]; rfl
  rw [x]
  exact a0_go6 la lb d h0 h4 B K
theorem a0_go4 (la lb : Nat) (d : Int) (h0 : 0 ≤ d) (h4 : d < 4) (B : Ac) (K : HeadK) : iterR Try.prog sW lNil iA0 60 (loopOf Try.prog 4 0) 5 (vA la lb d 4) (hA B [d, dO d, d, dO d, -1, -1, -1, -1] [false, false, false, false, true, true, true, true] [0, 0, 0, 0, 0, 0, 0, 0] [d, dO d, d, dO d, -1, -1, -1, -1] [false, false, false, false, true, true, true, true] [0, 0, 0, 0, 0, 0, 0, 0]) K = K (.exit 0) [vOp la, vOq lb, aint .i64 d, vP 2, vP 3] (hA B (oP d) [false, false, false, false, false, false, false, false] [0, 0, 0, 0, 0, 0, 0, 0] (oP d) [false, false, false, false, false, false, false, false] [0, 0, 0, 0, 0, 0, 0, 0]) := by
  rw [iterR]
  refine (t_a0_4 la lb d B.k1 B.n1 B.d1 B.k2 B.n2 B.d2 d (dO d) d (dO d) (-1) (-1) (-1) (-1) false false false false true true true true 0 0 0 0 0 0 0 0 d (dO d) d (dO d) (-1) (-1) (-1) (-1) false false false false true true true true 0 0 0 0 0 0 0 0 _).trans ?_
  have e : ownE 4 d [d, dO d, d, dO d, -1, -1, -1, -1] = 0 := by unfold ownE; rw [if_pos ⟨rfl, h0, h4⟩]; rfl
  have x : ownIx 4 d [d, dO d, d, dO d, -1, -1, -1, -1] = 4 := by unfold ownIx; rw [if_pos e]; rfl
  rw [x]
  exact a0_go5 la lb d h0 h4 B K
theorem a0_go3 (la lb : Nat) (d : Int) (h0 : 0 ≤ d) (h4 : d < 4) (B : Ac) (K : HeadK) : iterR Try.prog sW lNil iA0 60 (loopOf Try.prog 4 0) 6 (vA la lb d 3) (hA B [d, dO d, d, -1, -1, -1, -1, -1] [false, false, false, true, true, true, true, true] [0, 0, 0, 0, 0, 0, 0, 0] [d, dO d, d, -1, -1, -1, -1, -1] [false, false, false, true, true, true, true, true] [0, 0, 0, 0, 0, 0, 0, 0]) K = K (.exit 0) [vOp la, vOq lb, aint .i64 d, vP 2, vP 3] (hA B (oP d) [false, false, false, false, false, false, false, false] [0, 0, 0, 0, 0, 0, 0, 0] (oP d) [false, false, false, false, false, false, false, false] [0, 0, 0, 0, 0, 0, 0, 0]) := by
  rw [iterR]
  refine (t_a0_3 la lb d B.k1 B.n1 B.d1 B.k2 B.n2 B.d2 d (dO d) d (-1) (-1) (-1) (-1) (-1) false false false true true true true true 0 0 0 0 0 0 0 0 d (dO d) d (-1) (-1) (-1) (-1) (-1) false false false true true true true true 0 0 0 0 0 0 0 0 _).trans ?_
  obtain ⟨g0, g4, _⟩ := dO_of h0 h4
  have e : ownE 3 (dO d) [d, dO d, d, -1, -1, -1, -1, -1] = 0 := by unfold ownE; rw [if_pos ⟨rfl, g0, g4⟩]; rfl
  have x : ownIx 3 (dO d) [d, dO d, d, -1, -1, -1, -1, -1] = 3 := by unfold ownIx; rw [if_pos e]; rfl
  rw [x]
  exact a0_go4 la lb d h0 h4 B K
theorem a0_go2 (la lb : Nat) (d : Int) (h0 : 0 ≤ d) (h4 : d < 4) (B : Ac) (K : HeadK) : iterR Try.prog sW lNil iA0 60 (loopOf Try.prog 4 0) 7 (vA la lb d 2) (hA B [d, dO d, -1, -1, -1, -1, -1, -1] [false, false, true, true, true, true, true, true] [0, 0, 0, 0, 0, 0, 0, 0] [d, dO d, -1, -1, -1, -1, -1, -1] [false, false, true, true, true, true, true, true] [0, 0, 0, 0, 0, 0, 0, 0]) K = K (.exit 0) [vOp la, vOq lb, aint .i64 d, vP 2, vP 3] (hA B (oP d) [false, false, false, false, false, false, false, false] [0, 0, 0, 0, 0, 0, 0, 0] (oP d) [false, false, false, false, false, false, false, false] [0, 0, 0, 0, 0, 0, 0, 0]) := by
  rw [iterR]
  refine (t_a0_2 la lb d B.k1 B.n1 B.d1 B.k2 B.n2 B.d2 d (dO d) (-1) (-1) (-1) (-1) (-1) (-1) false false true true true true true true 0 0 0 0 0 0 0 0 d (dO d) (-1) (-1) (-1) (-1) (-1) (-1) false false true true true true true true 0 0 0 0 0 0 0 0 _).trans ?_
  have e : ownE 2 d [d, dO d, -1, -1, -1, -1, -1, -1] = 0 := by unfold ownE; rw [if_pos ⟨rfl, h0, h4⟩]; rfl
  have x : ownIx 2 d [d, dO d, -1, -1, -1, -1, -1, -1] = 2 := by unfold ownIx; rw [if_pos e]; rfl
  rw [x]
  exact a0_go3 la lb d h0 h4 B K
theorem a0_go1 (la lb : Nat) (d : Int) (h0 : 0 ≤ d) (h4 : d < 4) (B : Ac) (K : HeadK) : iterR Try.prog sW lNil iA0 60 (loopOf Try.prog 4 0) 8 (vA la lb d 1) (hA B [d, -1, -1, -1, -1, -1, -1, -1] [false, true, true, true, true, true, true, true] [0, 0, 0, 0, 0, 0, 0, 0] [d, -1, -1, -1, -1, -1, -1, -1] [false, true, true, true, true, true, true, true] [0, 0, 0, 0, 0, 0, 0, 0]) K = K (.exit 0) [vOp la, vOq lb, aint .i64 d, vP 2, vP 3] (hA B (oP d) [false, false, false, false, false, false, false, false] [0, 0, 0, 0, 0, 0, 0, 0] (oP d) [false, false, false, false, false, false, false, false] [0, 0, 0, 0, 0, 0, 0, 0]) := by
  rw [iterR]
  refine (t_a0_1 la lb d B.k1 B.n1 B.d1 B.k2 B.n2 B.d2 d (-1) (-1) (-1) (-1) (-1) (-1) (-1) false true true true true true true true 0 0 0 0 0 0 0 0 d (-1) (-1) (-1) (-1) (-1) (-1) (-1) false true true true true true true true 0 0 0 0 0 0 0 0 _).trans ?_
  obtain ⟨g0, g4, _⟩ := dO_of h0 h4
  have e : ownE 1 (dO d) [d, -1, -1, -1, -1, -1, -1, -1] = 0 := by unfold ownE; rw [if_pos ⟨rfl, g0, g4⟩]; rfl
  have x : ownIx 1 (dO d) [d, -1, -1, -1, -1, -1, -1, -1] = 1 := by unfold ownIx; rw [if_pos e]; rfl
  rw [x]
  exact a0_go2 la lb d h0 h4 B K
theorem a0_go0 (la lb : Nat) (d : Int) (h0 : 0 ≤ d) (h4 : d < 4) (B : Ac) (K : HeadK) : iterR Try.prog sW lNil iA0 60 (loopOf Try.prog 4 0) 9 (vA la lb d 0) (hA B [-1, -1, -1, -1, -1, -1, -1, -1] [true, true, true, true, true, true, true, true] [0, 0, 0, 0, 0, 0, 0, 0] [-1, -1, -1, -1, -1, -1, -1, -1] [true, true, true, true, true, true, true, true] [0, 0, 0, 0, 0, 0, 0, 0]) K = K (.exit 0) [vOp la, vOq lb, aint .i64 d, vP 2, vP 3] (hA B (oP d) [false, false, false, false, false, false, false, false] [0, 0, 0, 0, 0, 0, 0, 0] (oP d) [false, false, false, false, false, false, false, false] [0, 0, 0, 0, 0, 0, 0, 0]) := by
  rw [iterR]
  refine (t_a0_0 la lb d B.k1 B.n1 B.d1 B.k2 B.n2 B.d2 (-1) (-1) (-1) (-1) (-1) (-1) (-1) (-1) true true true true true true true true 0 0 0 0 0 0 0 0 (-1) (-1) (-1) (-1) (-1) (-1) (-1) (-1) true true true true true true true true 0 0 0 0 0 0 0 0 _).trans ?_
  have e : ownE 0 d [-1, -1, -1, -1, -1, -1, -1, -1] = 0 := by unfold ownE; rw [if_pos ⟨rfl, h0, h4⟩]; rfl
  have x : ownIx 0 d [-1, -1, -1, -1, -1, -1, -1, -1] = 0 := by unfold ownIx; rw [if_pos e]; rfl
  rw [x]
  exact a0_go1 la lb d h0 h4 B K
noncomputable def lAp (la lb : Nat) (d : Int) (B : Ac) : Nat → Option Orc := lAdd (lAdd lNil 0 (wrapO iA0 0 (cAt 0 (vA la lb d 0) (hA B [-1, -1, -1, -1, -1, -1, -1, -1] [true, true, true, true, true, true, true, true] [0, 0, 0, 0, 0, 0, 0, 0] [-1, -1, -1, -1, -1, -1, -1, -1] [true, true, true, true, true, true, true, true] [0, 0, 0, 0, 0, 0, 0, 0]) [vOp la, vOq lb, aint .i64 d, vP 2, vP 3] (hA B (oP d) [false, false, false, false, false, false, false, false] [0, 0, 0, 0, 0, 0, 0, 0] (oP d) [false, false, false, false, false, false, false, false] [0, 0, 0, 0, 0, 0, 0, 0])))) 2 (wrapO iA2 2 (cAt 2 (vA la lb d 0) (hA B (oP d) [false, false, false, false, false, false, false, false] [0, 0, 0, 0, 0, 0, 0, 0] (oP d) [false, false, false, false, false, false, false, false] [0, 0, 0, 0, 0, 0, 0, 0]) [] [bOp B.k1 B.n1 B.d1, bOp B.k2 B.n2 B.d2]))
theorem lAp_for (la lb : Nat) (d : Int) (h0 : 0 ≤ d) (h4 : d < 4) (B : Ac) (hB : AcOk la lb B) : LFor 2 Try.prog 4 (lAp la lb d B) := by
  have c0 := cAt_sound (I := iA0) sW_ok 9 (fun K => a0_go0 la lb d h0 h4 B K)
  have c2 := cAt_sound (I := iA2) sW_ok 61 (fun K => ap_loop la lb d h0 h4 B hB K 60 0 [false, false, false, false, false, false, false, false] [false, false, false, false, false, false, false, false] [0, 0, 0, 0, 0, 0, 0, 0] [0, 0, 0, 0, 0, 0, 0, 0] ⟨rfl, rfl, rfl, rfl, fun _ _ => ⟨rfl, rfl⟩⟩ (by omega))
  exact lAdd_for (lAdd_for lNil_for (by kernel_rfl) c0) (by kernel_rfl) c2
theorem ap_dis : Go.Eng.distinct (blockIds (codeOf Try.prog 4)) = true := by kernel_rfl
set_option maxHeartbeats 4000000 in
theorem t_apart (la lb : Nat) (d z : Int) (k1 n1 d1 k2 n2 d2 : List Int) (k : Res → Option Res) : runLG Try.prog sW (lAp la lb z ⟨k1, n1, d1, k2, n2, d2⟩) 2 100 4 [vOp la, vOq lb, aint .i64 d] [some ⟨true, .rows [.ints .i64 k1, .ints .i64 n1, .ints .i64 d1]⟩, some ⟨true, .rows [.ints .i64 k2, .ints .i64 n2, .ints .i64 d2]⟩] k = (cond (isQ ([AV.e (AE.c (AC.slice { id := 0, row := 0, sz := 3, col := 0, ix := 0, es := 0, n := 0 } 3 la 0 false)), AV.e (AE.c (AC.slice { id := 1, row := 0, sz := 3, col := 0, ix := 0, es := 0, n := 0 } 3 lb 0 false)), AV.e (AE.c (AC.int IntKind.i64 (IntKind.wrap IntKind.i64 (Int.tmod (IntKind.wrap IntKind.u64 d) 4)))), AV.e (AE.c (AC.ptr { id := 2, row := 0, sz := 0, col := 0, ix := 0, es := 0, n := 0 })), AV.e (AE.c (AC.ptr { id := 3, row := 0, sz := 0, col := 0, ix := 0, es := 0, n := 0 })), AV.e (AE.c (AC.int IntKind.i64 0))] = vA la lb z 0 ∧ [(false, some { ro := true, d := Data.rows [Col.ints IntKind.i64 k1, Col.ints IntKind.i64 n1, Col.ints IntKind.i64 d1] }), (false, some { ro := true, d := Data.rows [Col.ints IntKind.i64 k2, Col.ints IntKind.i64 n2, Col.ints IntKind.i64 d2] }), (true, some { ro := false, d := Data.mix [AC.chan { id := 4, row := 0, sz := 0, col := 0, ix := 0, es := 0, n := 0 }, AC.int IntKind.i64 (-1), AC.bool true, AC.chan { id := 5, row := 0, sz := 0, col := 0, ix := 0, es := 0, n := 0 }, AC.int IntKind.i64 (-1), AC.bool true, AC.chan { id := 6, row := 0, sz := 0, col := 0, ix := 0, es := 0, n := 0 }, AC.int IntKind.i64 (-1), AC.bool true, AC.chan { id := 7, row := 0, sz := 0, col := 0, ix := 0, es := 0, n := 0 }, AC.int IntKind.i64 (-1), AC.bool true, AC.chan { id := 8, row := 0, sz := 0, col := 0, ix := 0, es := 0, n := 0 }, AC.int IntKind.i64 (-1), AC.bool true, AC.chan { id := 9, row := 0, sz := 0, col := 0, ix := 0, es := 0, n := 0 }, AC.int IntKind.i64 (-1), AC.bool true, AC.chan { id := 10, row := 0, sz := 0, col := 0, ix := 0, es := 0, n := 0 }, AC.int IntKind.i64 (-1), AC.bool true, AC.chan { id := 11, row := 0, sz := 0, col := 0, ix := 0, es := 0, n := 0 }, AC.int IntKind.i64 (-1), AC.bool true] }), (true, some { ro := false, d := Data.mix [AC.chan { id := 12, row := 0, sz := 0, col := 0, ix := 0, es := 0, n := 0 }, AC.int IntKind.i64 (-1), AC.bool true, AC.chan { id := 13, row := 0, sz := 0, col := 0, ix := 0, es := 0, n := 0 }, AC.int IntKind.i64 (-1), AC.bool true, AC.chan { id := 14, row := 0, sz := 0, col := 0, ix := 0, es := 0, n := 0 }, AC.int IntKind.i64 (-1), AC.bool true, AC.chan { id := 15, row := 0, sz := 0, col := 0, ix := 0, es := 0, n := 0 }, AC.int IntKind.i64 (-1), AC.bool true, AC.chan { id := 16, row := 0, sz := 0, col := 0, ix := 0, es := 0, n := 0 }, AC.int IntKind.i64 (-1), AC.bool true, AC.chan { id := 17, row := 0, sz := 0, col := 0, ix := 0, es := 0, n := 0 }, AC.int IntKind.i64 (-1), AC.bool true, AC.chan { id := 18, row := 0, sz := 0, col := 0, ix := 0, es := 0, n := 0 }, AC.int IntKind.i64 (-1), AC.bool true, AC.chan { id := 19, row := 0, sz := 0, col := 0, ix := 0, es := 0, n := 0 }, AC.int IntKind.i64 (-1), AC.bool true] }), (true, some { ro := false, d := Data.chan 1 0 }), (true, some { ro := false, d := Data.chan 1 0 }), (true, some { ro := false, d := Data.chan 1 0 }), (true, some { ro := false, d := Data.chan 1 0 }), (true, some { ro := false, d := Data.chan 1 0 }), (true, some { ro := false, d := Data.chan 1 0 }), (true, some { ro := false, d := Data.chan 1 0 }), (true, some { ro := false, d := Data.chan 1 0 }), (true, some { ro := false, d := Data.chan 1 0 }), (true, some { ro := false, d := Data.chan 1 0 }), (true, some { ro := false, d := Data.chan 1 0 }), (true, some { ro := false, d := Data.chan 1 0 }), (true, some { ro := false, d := Data.chan 1 0 }), (true, some { ro := false, d := Data.chan 1 0 }), (true, some { ro := false, d := Data.chan 1 0 }), (true, some { ro := false, d := Data.chan 1 0 })] = hA { k1 := k1, n1 := n1, d1 := d1, k2 := k2, n2 := n2, d2 := d2 } [-1, -1, -1, -1, -1, -1, -1, -1] [true, true, true, true, true, true, true, true] [0, 0, 0, 0, 0, 0, 0, 0] [-1, -1, -1, -1, -1, -1, -1, -1] [true, true, true, true, true, true, true, true] [0, 0, 0, 0, 0, 0, 0, 0])) (cond (isQ ([AV.e (AE.c (AC.slice { id := 0, row := 0, sz := 3, col := 0, ix := 0, es := 0, n := 0 } 3 la 0 false)), AV.e (AE.c (AC.slice { id := 1, row := 0, sz := 3, col := 0, ix := 0, es := 0, n := 0 } 3 lb 0 false)), AV.e (AE.c (AC.int IntKind.i64 z)), AV.e (AE.c (AC.ptr { id := 2, row := 0, sz := 0, col := 0, ix := 0, es := 0, n := 0 })), AV.e (AE.c (AC.ptr { id := 3, row := 0, sz := 0, col := 0, ix := 0, es := 0, n := 0 })), AV.e (AE.c (AC.int IntKind.i64 0))] = vA la lb z 0 ∧ [(false, some { ro := true, d := Data.rows [Col.ints IntKind.i64 k1, Col.ints IntKind.i64 n1, Col.ints IntKind.i64 d1] }), (false, some { ro := true, d := Data.rows [Col.ints IntKind.i64 k2, Col.ints IntKind.i64 n2, Col.ints IntKind.i64 d2] }), (true, some { ro := false, d := Data.mix [AC.chan { id := 4, row := 0, sz := 0, col := 0, ix := 0, es := 0, n := 0 }, AC.int IntKind.i64 z, AC.bool false, AC.chan { id := 5, row := 0, sz := 0, col := 0, ix := 0, es := 0, n := 0 }, AC.int IntKind.i64 (dO z), AC.bool false, AC.chan { id := 6, row := 0, sz := 0, col := 0, ix := 0, es := 0, n := 0 }, AC.int IntKind.i64 z, AC.bool false, AC.chan { id := 7, row := 0, sz := 0, col := 0, ix := 0, es := 0, n := 0 }, AC.int IntKind.i64 (dO z), AC.bool false, AC.chan { id := 8, row := 0, sz := 0, col := 0, ix := 0, es := 0, n := 0 }, AC.int IntKind.i64 z, AC.bool false, AC.chan { id := 9, row := 0, sz := 0, col := 0, ix := 0, es := 0, n := 0 }, AC.int IntKind.i64 (dO z), AC.bool false, AC.chan { id := 10, row := 0, sz := 0, col := 0, ix := 0, es := 0, n := 0 }, AC.int IntKind.i64 z, AC.bool false, AC.chan { id := 11, row := 0, sz := 0, col := 0, ix := 0, es := 0, n := 0 }, AC.int IntKind.i64 (dO z), AC.bool false] }), (true, some { ro := false, d := Data.mix [AC.chan { id := 12, row := 0, sz := 0, col := 0, ix := 0, es := 0, n := 0 }, AC.int IntKind.i64 z, AC.bool false, AC.chan { id := 13, row := 0, sz := 0, col := 0, ix := 0, es := 0, n := 0 }, AC.int IntKind.i64 (dO z), AC.bool false, AC.chan { id := 14, row := 0, sz := 0, col := 0, ix := 0, es := 0, n := 0 }, AC.int IntKind.i64 z, AC.bool false, AC.chan { id := 15, row := 0, sz := 0, col := 0, ix := 0, es := 0, n := 0 }, AC.int IntKind.i64 (dO z), AC.bool false, AC.chan { id := 16, row := 0, sz := 0, col := 0, ix := 0, es := 0, n := 0 }, AC.int IntKind.i64 z, AC.bool false, AC.chan { id := 17, row := 0, sz := 0, col := 0, ix := 0, es := 0, n := 0 }, AC.int IntKind.i64 (dO z), AC.bool false, AC.chan { id := 18, row := 0, sz := 0, col := 0, ix := 0, es := 0, n := 0 }, AC.int IntKind.i64 z, AC.bool false, AC.chan { id := 19, row := 0, sz := 0, col := 0, ix := 0, es := 0, n := 0 }, AC.int IntKind.i64 (dO z), AC.bool false] }), (true, some { ro := false, d := Data.chan 1 0 }), (true, some { ro := false, d := Data.chan 1 0 }), (true, some { ro := false, d := Data.chan 1 0 }), (true, some { ro := false, d := Data.chan 1 0 }), (true, some { ro := false, d := Data.chan 1 0 }), (true, some { ro := false, d := Data.chan 1 0 }), (true, some { ro := false, d := Data.chan 1 0 }), (true, some { ro := false, d := Data.chan 1 0 }), (true, some { ro := false, d := Data.chan 1 0 }), (true, some { ro := false, d := Data.chan 1 0 }), (true, some { ro := false, d := Data.chan 1 0 }), (true, some { ro := false, d := Data.chan 1 0 }), (true, some { ro := false, d := Data.chan 1 0 }), (true, some { ro := false, d := Data.chan 1 0 }), (true, some { ro := false, d := Data.chan 1 0 }), (true, some { ro := false, d := Data.chan 1 0 })] = hA { k1 := k1, n1 := n1, d1 := d1, k2 := k2, n2 := n2, d2 := d2 } (oP z) [false, false, false, false, false, false, false, false] [0, 0, 0, 0, 0, 0, 0, 0] (oP z) [false, false, false, false, false, false, false, false] [0, 0, 0, 0, 0, 0, 0, 0])) (k (Res.mk (AV.e (AE.c (AC.bool true))) [(none), (none)])) none) none) := by kernel_rfl
end Go.Proofs.Ytanchmbopllimaa.Wlk
