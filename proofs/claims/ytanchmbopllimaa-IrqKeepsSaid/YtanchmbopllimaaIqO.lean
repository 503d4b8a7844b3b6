/- Lines of interrupts: none is lost: the law. -/
import Derived.Test.YtanchmbopllimaaIqN
set_option linter.unusedVariables false
set_option linter.unusedSimpArgs false
set_option maxRecDepth 100000
namespace Go.Proofs.Ytanchmbopllimaa.Wlk
open Go Go.Eng Go.Proofs Go.RowKit
noncomputable abbrev rK (ul i : Nat) (dd : Int) (ok on od : List Int) (s s' : Li) : Nat → Option Orc := lK (vK3 ul i 0) (hK3 (List.getD ok (0 + Int.toNat i) 0) (List.getD on (0 + Int.toNat i) 0) dd ok on od (oR s.hs s.ow) s.ms (tR s.is) s.is (tkR s.hs s.ms) s.hs s.ow) (vK ul i) (hSK ok on od s) (vK5 ul i (wd 0 0 s'.is) 0) (hSK ok on od s') (vK ul i) (hSK ok on od s')
theorem k5_any (ul : Nat) (i : Int) (ok on od : List Int) (s : Li) (hs : LiOk s) (K : HeadK) :
    iterR Try.prog sW lNil iK5 60 (loopOf Try.prog 3 5) 9 (vK5 ul i (wd 0 0 s.is) 0) (hSK ok on od s) K = K (.exit 5) (vK ul i) (hSK ok on od s) := by
  obtain ⟨q1, q2, q3, q4, g⟩ := hs
  obtain ⟨is, ms, hs, ow⟩ := s
  obtain ⟨i0, i1, i2, i3, i4, i5, i6, i7, rfl⟩ := len8 q1
  obtain ⟨m0, m1, m2, m3, m4, m5, m6, m7, rfl⟩ := len8 q2
  obtain ⟨h0, h1, h2, h3, h4, h5, h6, h7, rfl⟩ := len8 q3
  obtain ⟨w0, w1, w2, w3, w4, w5, w6, w7, rfl⟩ := len8 q4
  obtain ⟨z0, z1, z2, z3, z4, z5, z6, z7⟩ := wd_bits i0 i1 i2 i3 i4 i5 i6 i7
  exact k5_go0 ul i (wd 0 0 [i0, i1, i2, i3, i4, i5, i6, i7]) ok on od (if h0 = true then w0 else -1) (if h1 = true then w1 else -1) (if h2 = true then w2 else -1) (if h3 = true then w3 else -1) (if h4 = true then w4 else -1) (if h5 = true then w5 else -1) (if h6 = true then w6 else -1) (if h7 = true then w7 else -1) m0 m1 m2 m3 m4 m5 m6 m7 (if i0 = true then 1 else 0) (if i1 = true then 1 else 0) (if i2 = true then 1 else 0) (if i3 = true then 1 else 0) (if i4 = true then 1 else 0) (if i5 = true then 1 else 0) (if i6 = true then 1 else 0) (if i7 = true then 1 else 0) i0 i1 i2 i3 i4 i5 i6 i7 (h0 && m0) (h1 && m1) (h2 && m2) (h3 && m3) (h4 && m4) (h5 && m5) (h6 && m6) (h7 && m7) h0 h1 h2 h3 h4 h5 h6 h7 w0 w1 w2 w3 w4 w5 w6 w7 K z0 z1 z2 z3 z4 z5 z6 z7
theorem k3_any (ul : Nat) (i a n d : Int) (ok on od : List Int) (s : Li) (hs : LiOk s) (hn : ¬ rnI d 0 s.hs s.ow s.is s.ms < 8) (K : HeadK) :
    iterR Try.prog sW lNil iK3 60 (loopOf Try.prog 3 3) 9 (vK3 ul i 0) (hK3 a n d ok on od (oR s.hs s.ow) s.ms (tR s.is) s.is (tkR s.hs s.ms) s.hs s.ow) K = K (.exit 3) (vK ul i) (hSK ok on od s) := by
  have no := rnI_none d 0 s.hs s.ow s.is s.ms (by rw [hs.l3]; omega) (by rw [hs.l4, hs.l3]) (by rw [hs.l1, hs.l3]) (by rw [hs.l2, hs.l3]) hn
  obtain ⟨q1, q2, q3, q4, g⟩ := hs
  obtain ⟨is, ms, hs, ow⟩ := s
  obtain ⟨i0, i1, i2, i3, i4, i5, i6, i7, rfl⟩ := len8 q1
  obtain ⟨m0, m1, m2, m3, m4, m5, m6, m7, rfl⟩ := len8 q2
  obtain ⟨h0, h1, h2, h3, h4, h5, h6, h7, rfl⟩ := len8 q3
  obtain ⟨w0, w1, w2, w3, w4, w5, w6, w7, rfl⟩ := len8 q4
  exact k3_go0 ul i a n d ok on od (if h0 = true then w0 else -1) (if h1 = true then w1 else -1) (if h2 = true then w2 else -1) (if h3 = true then w3 else -1) (if h4 = true then w4 else -1) (if h5 = true then w5 else -1) (if h6 = true then w6 else -1) (if h7 = true then w7 else -1) m0 m1 m2 m3 m4 m5 m6 m7 (if i0 = true then 1 else 0) (if i1 = true then 1 else 0) (if i2 = true then 1 else 0) (if i3 = true then 1 else 0) (if i4 = true then 1 else 0) (if i5 = true then 1 else 0) (if i6 = true then 1 else 0) (if i7 = true then 1 else 0) i0 i1 i2 i3 i4 i5 i6 i7 (h0 && m0) (h1 && m1) (h2 && m2) (h3 && m3) (h4 && m4) (h5 && m5) (h6 && m6) (h7 && m7) h0 h1 h2 h3 h4 h5 h6 h7 w0 w1 w2 w3 w4 w5 w6 w7 K (k3c (no 0 (show 0 < 8 by omega))) (k3c (no 1 (show 1 < 8 by omega))) (k3c (no 2 (show 2 < 8 by omega))) (k3c (no 3 (show 3 < 8 by omega))) (k3c (no 4 (show 4 < 8 by omega))) (k3c (no 5 (show 5 < 8 by omega))) (k3c (no 6 (show 6 < 8 by omega))) (k3c (no 7 (show 7 < 8 by omega)))
/-- What stays of the loop, from a state on. -/
noncomputable abbrev eK (ul i : Nat) (ok on od : List Int) (s : Li) : HeadO := cAt 0 (vK ul i) (hSK ok on od s) [] [bOp ok on od]
theorem kp_any (ul i : Nat) (dd : Int) (ok on od : List Int) (s s' : Li) (hs : LiOk s) (hs' : LiOk s') (he : act (List.getD ok (0 + Int.toNat i) 0) (List.getD on (0 + Int.toNat i) 0) (List.getD od (0 + Int.toNat i) 0) s = s') (l1 : ul = ok.length) (l2 : ul = on.length) (l3 : ul = od.length) (y1 : i < ul) (y2 : i < 100) (hd : ¬ rnI (List.getD od (0 + Int.toNat i) 0) 0 s.hs s.ow s.is s.ms < 8 → dd = List.getD od (0 + Int.toNat i) 0) (K : HeadK) :
    bodyR Try.prog sW (rK ul i dd ok on od s s') iKp 60 (loopOf Try.prog 3 0) (vK ul i) (hSK ok on od s) K = K .normal (vK ul (i + 1 : Nat)) (hSK ok on od s') := by
  obtain ⟨q1, q2, q3, q4, g⟩ := hs
  obtain ⟨p1, p2, p3, p4, _⟩ := hs'
  obtain ⟨is, ms, hs, ow⟩ := s
  obtain ⟨is', ms', hs', ow'⟩ := s'
  obtain ⟨i0, i1, i2, i3, i4, i5, i6, i7, rfl⟩ := len8 q1
  obtain ⟨m0, m1, m2, m3, m4, m5, m6, m7, rfl⟩ := len8 q2
  obtain ⟨h0, h1, h2, h3, h4, h5, h6, h7, rfl⟩ := len8 q3
  obtain ⟨w0, w1, w2, w3, w4, w5, w6, w7, rfl⟩ := len8 q4
  obtain ⟨e0, e1, e2, e3, e4, e5, e6, e7, rfl⟩ := len8 p1
  obtain ⟨b0, b1, b2, b3, b4, b5, b6, b7, rfl⟩ := len8 p2
  obtain ⟨g0, g1, g2, g3, g4, g5, g6, g7, rfl⟩ := len8 p3
  obtain ⟨x0, x1, x2, x3, x4, x5, x6, x7, rfl⟩ := len8 p4
  exact kp_round ul i dd ok on od i0 i1 i2 i3 i4 i5 i6 i7 m0 m1 m2 m3 m4 m5 m6 m7 h0 h1 h2 h3 h4 h5 h6 h7 e0 e1 e2 e3 e4 e5 e6 e7 b0 b1 b2 b3 b4 b5 b6 b7 g0 g1 g2 g3 g4 g5 g6 g7 w0 w1 w2 w3 w4 w5 w6 w7 x0 x1 x2 x3 x4 x5 x6 x7 K g l1 l2 l3 y1 y2 hd he
theorem kp_stop (ul i : Nat) (dd : Int) (ok on od : List Int) (s : Li) (hs : LiOk s) (h : ¬ (i < ul ∧ i < 100)) (K : HeadK) :
    bodyR Try.prog sW (rK ul i dd ok on od s s) iKp 60 (loopOf Try.prog 3 0) (vK ul i) (hSK ok on od s) K = K (.exit 0) [] [bOp ok on od] := by
  obtain ⟨q1, q2, q3, q4, g⟩ := hs
  obtain ⟨is, ms, hs, ow⟩ := s
  obtain ⟨i0, i1, i2, i3, i4, i5, i6, i7, rfl⟩ := len8 q1
  obtain ⟨m0, m1, m2, m3, m4, m5, m6, m7, rfl⟩ := len8 q2
  obtain ⟨h0, h1, h2, h3, h4, h5, h6, h7, rfl⟩ := len8 q3
  obtain ⟨w0, w1, w2, w3, w4, w5, w6, w7, rfl⟩ := len8 q4
  refine (t_kp ul i (wd 0 0 [i0, i1, i2, i3, i4, i5, i6, i7]) (List.getD ok (0 + Int.toNat i) 0) (List.getD on (0 + Int.toNat i) 0) dd ok on od (if h0 = true then w0 else -1) (if h1 = true then w1 else -1) (if h2 = true then w2 else -1) (if h3 = true then w3 else -1) (if h4 = true then w4 else -1) (if h5 = true then w5 else -1) (if h6 = true then w6 else -1) (if h7 = true then w7 else -1) m0 m1 m2 m3 m4 m5 m6 m7 (if i0 = true then 1 else 0) (if i1 = true then 1 else 0) (if i2 = true then 1 else 0) (if i3 = true then 1 else 0) (if i4 = true then 1 else 0) (if i5 = true then 1 else 0) (if i6 = true then 1 else 0) (if i7 = true then 1 else 0) i0 i1 i2 i3 i4 i5 i6 i7 (h0 && m0) (h1 && m1) (h2 && m2) (h3 && m3) (h4 && m4) (h5 && m5) (h6 && m6) (h7 && m7) h0 h1 h2 h3 h4 h5 h6 h7 w0 w1 w2 w3 w4 w5 w6 w7 (if h0 = true then w0 else -1) (if h1 = true then w1 else -1) (if h2 = true then w2 else -1) (if h3 = true then w3 else -1) (if h4 = true then w4 else -1) (if h5 = true then w5 else -1) (if h6 = true then w6 else -1) (if h7 = true then w7 else -1) m0 m1 m2 m3 m4 m5 m6 m7 (if i0 = true then 1 else 0) (if i1 = true then 1 else 0) (if i2 = true then 1 else 0) (if i3 = true then 1 else 0) (if i4 = true then 1 else 0) (if i5 = true then 1 else 0) (if i6 = true then 1 else 0) (if i7 = true then 1 else 0) i0 i1 i2 i3 i4 i5 i6 i7 (h0 && m0) (h1 && m1) (h2 && m2) (h3 && m3) (h4 && m4) (h5 && m5) (h6 && m6) (h7 && m7) h0 h1 h2 h3 h4 h5 h6 h7 w0 w1 w2 w3 w4 w5 w6 w7 K).trans ?_
  by_cases a1 : i < ul
  · refine (ctr (decide_eq_true (by omega))).trans ?_
    exact cfr (decide_eq_false (by omega))
  · exact cfr (decide_eq_false (by omega))
theorem kp_dis : Go.Eng.distinct (blockIds (codeOf Try.prog 3)) = true := by kernel_rfl
theorem rK_in (ul i : Nat) (dd : Int) (ok on od : List Int) (s s' : Li) (hs : LiOk s) (hs' : LiOk s') (hn : ¬ rnI dd 0 s.hs s.ow s.is s.ms < 8) : LOk 1 Try.prog (rK ul i dd ok on od s s') (loopOf Try.prog 3 0) := by
  have h3 : HeadSound Try.prog iK3 (loopOf Try.prog 3 3) (cAt 3 (vK3 ul i 0) (hK3 (List.getD ok (0 + Int.toNat i) 0) (List.getD on (0 + Int.toNat i) 0) dd ok on od (oR s.hs s.ow) s.ms (tR s.is) s.is (tkR s.hs s.ms) s.hs s.ow) (vK ul i) (hSK ok on od s)) := cAt_sound sW_ok 9 (fun K => k3_any ul i _ _ _ ok on od s hs hn K)
  have h5 : HeadSound Try.prog iK5 (loopOf Try.prog 3 5) (cAt 5 (vK5 ul i (wd 0 0 s'.is) 0) (hSK ok on od s') (vK ul i) (hSK ok on od s')) := cAt_sound sW_ok 9 (fun K => k5_any ul i ok on od s' hs' K)
  have hf : LFor 1 Try.prog 3 (rK ul i dd ok on od s s') := lAdd_for (lAdd_for lNil_for (by kernel_rfl) h3) (by kernel_rfl) h5
  exact hf.inner kp_dis (by kernel_rfl)
theorem rnI_m1 : ∀ (j : Nat) (hs : List Bool) (ow : List Int) (is mk : List Bool), gd hs ow → rnI (-1) j hs ow is mk = 8
  | j, [], ow, is, mk, _ => by simp [rnI]
  | j, _ :: _, [], is, mk, _ => by simp [rnI]
  | j, _ :: _, _ :: _, [], mk, _ => by simp [rnI]
  | j, _ :: _, _ :: _, _ :: _, [], _ => by simp [rnI]
  | j, a :: hs, w :: ow, i :: is, k :: mk, g => by
    rw [rnI, if_neg (fun c => g.1 c.1 c.2.1)]
    exact rnI_m1 (j + 1) hs ow is mk g.2
theorem kp_loop (ul : Nat) (ok on od : List Int) (l1 : ul = ok.length) (l2 : ul = on.length) (l3 : ul = od.length) : ∀ (j i : Nat) (s : Li), LiOk s → 100 ≤ i + j →
    ∃ H : HeadO, HeadSound Try.prog iKp (loopOf Try.prog 3 0) H ∧ ∀ K : HeadK, H (vK ul i) (hSK ok on od s) K = K (.exit 0) [] [bOp ok on od]
  | 0, i, s, hs, h => ⟨stepR Try.prog sW (rK ul i (-1) ok on od s s) iKp 60 (loopOf Try.prog 3 0) (fun _ _ _ => none), stepR_sound sW_ok mix (rK_in ul i (-1) ok on od s s hs hs (by rw [rnI_m1 _ _ _ _ _ hs.g]; omega)) (fun vs h K r hn e => by cases e), fun K => kp_stop ul i (-1) ok on od s hs (by omega) _⟩
  | j + 1, i, s, hs, h => by
    by_cases c : i < ul ∧ i < 100
    · have hs' := hs.act (List.getD ok (0 + Int.toNat i) 0) (List.getD on (0 + Int.toNat i) 0) (List.getD od (0 + Int.toNat i) 0)
      obtain ⟨H, hH, hK⟩ := kp_loop ul ok on od l1 l2 l3 j (i + 1) _ hs' (by omega)
      by_cases cx : rnI (List.getD od (0 + Int.toNat i) 0) 0 s.hs s.ow s.is s.ms < 8
      · exact ⟨stepR Try.prog sW (rK ul i (-1) ok on od s _) iKp 60 (loopOf Try.prog 3 0) H, stepR_sound sW_ok mix (rK_in ul i (-1) ok on od s _ hs hs' (by rw [rnI_m1 _ _ _ _ _ hs.g]; omega)) hH, fun K => (kp_any ul i (-1) ok on od s _ hs hs' rfl l1 l2 l3 c.1 c.2 (fun h => absurd cx h) _).trans (hK K)⟩
      · exact ⟨stepR Try.prog sW (rK ul i (List.getD od (0 + Int.toNat i) 0) ok on od s _) iKp 60 (loopOf Try.prog 3 0) H, stepR_sound sW_ok mix (rK_in ul i _ ok on od s _ hs hs' cx) hH, fun K => (kp_any ul i _ ok on od s _ hs hs' rfl l1 l2 l3 c.1 c.2 (fun _ => rfl) _).trans (hK K)⟩
    · exact ⟨stepR Try.prog sW (rK ul i (-1) ok on od s s) iKp 60 (loopOf Try.prog 3 0) (fun _ _ _ => none), stepR_sound sW_ok mix (rK_in ul i (-1) ok on od s s hs hs (by rw [rnI_m1 _ _ _ _ _ hs.g]; omega)) (fun vs h K r hn e => by cases e), fun K => kp_stop ul i (-1) ok on od s hs c _⟩
noncomputable def cKp (ul : Nat) (ok on od : List Int) : HeadO := cAt 0 (vK ul 0) (hSK ok on od st0) [] [bOp ok on od]
theorem cKp_sound (ul : Nat) (ok on od : List Int) (l1 : ul = ok.length) (l2 : ul = on.length) (l3 : ul = od.length) : HeadSound Try.prog iKp (loopOf Try.prog 3 0) (cKp ul ok on od) := by
  refine HeadSound.any fun vs h K r q => ?_
  unfold cKp cAt at q
  split at q
  · rename_i hc
    obtain ⟨rfl, rfl⟩ := isQ_spec hc
    obtain ⟨H, hH, hK⟩ := kp_loop ul ok on od l1 l2 l3 100 0 st0 st0_ok (by omega)
    exact ⟨H, hH, (hK K).trans q⟩
  · cases q
noncomputable def lKp (ul : Nat) (ok on od : List Int) : Nat → Option Orc := lAdd lNil 0 (wrapO iKp 0 (cKp ul ok on od))
theorem lKp_for (ul : Nat) (ok on od : List Int) (l1 : ul = ok.length) (l2 : ul = on.length) (l3 : ul = od.length) : LFor 1 Try.prog 3 (lKp ul ok on od) := lAdd_for lNil_for (by kernel_rfl) (cKp_sound ul ok on od l1 l2 l3)
theorem t_keeps (ul : Nat) (ok on od : List Int) (k : Res → Option Res) : runLG Try.prog sW (lKp ul ok on od) 1 100 3 [vOp ul] [some ⟨true, .rows [.ints .i64 ok, .ints .i64 on, .ints .i64 od]⟩] k = (cond (Go.Proofs.Ytanchmbopllimaa.Wlk.isQ ([AV.e (AE.c (AC.slice { id := 0, row := 0, sz := 3, col := 0, ix := 0, es := 0, n := 0 } 3 ul 0 false)), AV.e (AE.c (AC.ptr { id := 1, row := 0, sz := 0, col := 0, ix := 0, es := 0, n := 0 })), AV.e (AE.c (AC.ptr { id := 2, row := 0, sz := 0, col := 0, ix := 0, es := 0, n := 0 })), AV.e (AE.c (AC.ptr { id := 3, row := 0, sz := 0, col := 0, ix := 0, es := 0, n := 0 })), AV.e (AE.c (AC.ptr { id := 4, row := 0, sz := 0, col := 0, ix := 0, es := 0, n := 0 })), AV.e (AE.c (AC.ptr { id := 5, row := 0, sz := 0, col := 0, ix := 0, es := 0, n := 0 })), AV.e (AE.c (AC.int IntKind.i64 0))] = Go.Proofs.Ytanchmbopllimaa.Wlk.vK ul 0 ∧ [(false, some { ro := true, d := Data.rows [Col.ints IntKind.i64 ok, Col.ints IntKind.i64 on, Col.ints IntKind.i64 od] }), (true, some { ro := false, d := Data.mix [AC.chan { id := 6, row := 0, sz := 0, col := 0, ix := 0, es := 0, n := 0 }, AC.int IntKind.i64 (-1), AC.bool true, AC.chan { id := 7, row := 0, sz := 0, col := 0, ix := 0, es := 0, n := 0 }, AC.int IntKind.i64 (-1), AC.bool true, AC.chan { id := 8, row := 0, sz := 0, col := 0, ix := 0, es := 0, n := 0 }, AC.int IntKind.i64 (-1), AC.bool true, AC.chan { id := 9, row := 0, sz := 0, col := 0, ix := 0, es := 0, n := 0 }, AC.int IntKind.i64 (-1), AC.bool true, AC.chan { id := 10, row := 0, sz := 0, col := 0, ix := 0, es := 0, n := 0 }, AC.int IntKind.i64 (-1), AC.bool true, AC.chan { id := 11, row := 0, sz := 0, col := 0, ix := 0, es := 0, n := 0 }, AC.int IntKind.i64 (-1), AC.bool true, AC.chan { id := 12, row := 0, sz := 0, col := 0, ix := 0, es := 0, n := 0 }, AC.int IntKind.i64 (-1), AC.bool true, AC.chan { id := 13, row := 0, sz := 0, col := 0, ix := 0, es := 0, n := 0 }, AC.int IntKind.i64 (-1), AC.bool true] }), (true, some { ro := false, d := Data.mix [AC.bool false, AC.bool false, AC.bool false, AC.bool false, AC.bool false, AC.bool false, AC.bool false, AC.bool false] }), (true, some { ro := false, d := Data.mix [AC.bool false, AC.bool false, AC.bool false, AC.bool false, AC.bool false, AC.bool false, AC.bool false, AC.bool false] }), (true, some { ro := false, d := Data.mix [AC.bool false, AC.bool false, AC.bool false, AC.bool false, AC.bool false, AC.bool false, AC.bool false, AC.bool false] }), (true, some { ro := false, d := Data.mix [AC.int IntKind.i64 0, AC.int IntKind.i64 0, AC.int IntKind.i64 0, AC.int IntKind.i64 0, AC.int IntKind.i64 0, AC.int IntKind.i64 0, AC.int IntKind.i64 0, AC.int IntKind.i64 0] }), (true, some { ro := false, d := Data.chan 1 0 }), (true, some { ro := false, d := Data.chan 1 0 }), (true, some { ro := false, d := Data.chan 1 0 }), (true, some { ro := false, d := Data.chan 1 0 }), (true, some { ro := false, d := Data.chan 1 0 }), (true, some { ro := false, d := Data.chan 1 0 }), (true, some { ro := false, d := Data.chan 1 0 }), (true, some { ro := false, d := Data.chan 1 0 })] = Go.Proofs.Ytanchmbopllimaa.Wlk.hSK ok on od Go.Proofs.Ytanchmbopllimaa.Wlk.st0)) (k (Res.mk (AV.e (AE.c (AC.bool true))) [(none)])) none) := by kernel_rfl
theorem keeps_walk (x : Option Addr) (len cap : Nat) (W : World) (hg : IsGrid ksOp W x len cap) (hs : len * 24 ≤ 140737488351232) :
    Calls Try.prog 3 #[.slice x len cap] W fun e w' => e = .returned (.bool true) ∧ Below W.heap.size W w' := by
  obtain ⟨k, n, d, ok, lk, ln, ld⟩ := ops_of hg
  refine of_rows (sl := [⟨x, len, cap, [.ints .i64 k, .ints .i64 n, .ints .i64 d]⟩]) (args := [vOp len])
    (blks := [none]) (runL_sound sW_ok mix 100 3 kp_dis (lKp_for len k n d lk.symm ln.symm ld.symm)).gc (ok1 ok) ?_
    ((t_keeps len k n d some).trans ((ctr (isQ_of ⟨rfl, rfl⟩)).trans rfl))
  exact LR.cons (args_slice (i := 0) rfl ok rfl) LR.nil
end Go.Proofs.Ytanchmbopllimaa.Wlk
