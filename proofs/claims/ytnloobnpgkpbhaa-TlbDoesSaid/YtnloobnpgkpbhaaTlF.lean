/- What is kept: taking out, its loop. -/
import Derived.Test.YtnloobnpgkpbhaaTlE
set_option linter.unusedVariables false
set_option linter.unusedSimpArgs false
set_option maxRecDepth 100000
namespace Go.Proofs.Ytnloobnpgkpbhaa.Wlk
open Go Go.Eng Go.Proofs Go.RowKit
theorem loopDlD (n e : Nat) (x y : Int) (s p : List Int) (v w : List Bool) (a : List Int) (h1 : n ≤ s.length) (h2 : n ≤ p.length) (h3 : n ≤ v.length) (h4 : n ≤ w.length) (h5 : n ≤ a.length) (hn : n < 4611686018427387904) (K : HeadK) : ∀ (j i : Nat) (fl : Bool), i + j = n →
    iterR Try.prog sKf lNil iDl3 60 (loopOf Try.prog 37 0) (j + 1) [kS n e, .e (.c (.clos 46 [⟨1, 0, 0, 0, 0, 0, 0⟩, ⟨2, 0, 0, 0, 0, 0, 0⟩])), aint .i64 (cntN (hitD s p x y) i : Nat), aint .i64 i] [(fl, kB (midN (hitD s p x y) s 0 i) (midN (hitD s p x y) p 0 i) (midN (hitD s p x y) v false i) (midN (hitD s p x y) w false i) (midN (hitD s p x y) a 0 i)), (false, bI x), (false, bI y)] K =
      K (.exit 0) [kS n e, aint .i64 (cntN (hitD s p x y) n : Nat)] [(fl || anyN (hitD s p x y) j i, kB (midN (hitD s p x y) s 0 n) (midN (hitD s p x y) p 0 n) (midN (hitD s p x y) v false n) (midN (hitD s p x y) w false n) (midN (hitD s p x y) a 0 n)), (false, bI x), (false, bI y)]
  | 0, i, fl, hi => by
    obtain rfl : i = n := by omega
    rw [iterR]
    cases fl
    · refine (t_dlD0 i e (cntN (hitD s p x y) i : Nat) i x y _ _ _ _ _ _).trans ?_
      rw [decide_eq_false (show ¬ (i : Int) < (i : Int) by omega), cF]; rfl
    · refine (t_dlD1 i e (cntN (hitD s p x y) i : Nat) i x y _ _ _ _ _ _).trans ?_
      rw [decide_eq_false (show ¬ (i : Int) < (i : Int) by omega), cF]; rfl
  | j + 1, i, fl, hi => by
    have k := cntN_le (hitD s p x y) i
    have e1 := midN_len (hitD s p x y) s 0 i (by omega)
    have e2 := midN_len (hitD s p x y) p 0 i (by omega)
    have e3 := midN_len (hitD s p x y) v false i (by omega)
    have e4 := midN_len (hitD s p x y) w false i (by omega)
    have e5 := midN_len (hitD s p x y) a 0 i (by omega)
    have g1 := midN_get (hitD s p x y) s 0 i (by omega)
    have g2 := midN_get (hitD s p x y) p 0 i (by omega)
    have g3 := midN_get (hitD s p x y) v false i (by omega)
    have g4 := midN_get (hitD s p x y) w false i (by omega)
    have g5 := midN_get (hitD s p x y) a 0 i (by omega)
    have y1 := midN_yes (hitD s p x y) s 0 i
    have y2 := midN_yes (hitD s p x y) p 0 i
    have y3 := midN_yes (hitD s p x y) v false i
    have y4 := midN_yes (hitD s p x y) w false i
    have y5 := midN_yes (hitD s p x y) a 0 i
    have n1 := midN_no (hitD s p x y) s 0 i (by omega)
    have n2 := midN_no (hitD s p x y) p 0 i (by omega)
    have n3 := midN_no (hitD s p x y) v false i (by omega)
    have n4 := midN_no (hitD s p x y) w false i (by omega)
    have n5 := midN_no (hitD s p x y) a 0 i (by omega)
    have ih0 := loopDlD n e x y s p v w a h1 h2 h3 h4 h5 hn K j (i + 1)
    have hc0 : (List.getD s i 0 == x && List.getD p i 0 == y) = (hitD s p x y) i := rfl
    have cn : cntN (hitD s p x y) (i + 1) = cntN (hitD s p x y) i + (if (hitD s p x y) i = true then 0 else 1) := rfl
    have an : ∀ b : Bool, (b || anyN (hitD s p x y) (j + 1) i) = (b || (!(hitD s p x y) i || anyN (hitD s p x y) j (i + 1))) := fun b => rfl
    rw [iterR, an]
    have main : ∀ fl : Bool, iterR Try.prog sKf lNil iDl3 60 (loopOf Try.prog 37 0) (j + 1) [kS n e, .e (.c (.clos 46 [⟨1, 0, 0, 0, 0, 0, 0⟩, ⟨2, 0, 0, 0, 0, 0, 0⟩])), aint .i64 (cntN (hitD s p x y) (i + 1) : Nat), aint .i64 (i + 1 : Nat)] [(fl, kB (midN (hitD s p x y) s 0 (i + 1)) (midN (hitD s p x y) p 0 (i + 1)) (midN (hitD s p x y) v false (i + 1)) (midN (hitD s p x y) w false (i + 1)) (midN (hitD s p x y) a 0 (i + 1))), (false, bI x), (false, bI y)] K =
      K (.exit 0) [kS n e, aint .i64 (cntN (hitD s p x y) n : Nat)] [(fl || anyN (hitD s p x y) j (i + 1), kB (midN (hitD s p x y) s 0 n) (midN (hitD s p x y) p 0 n) (midN (hitD s p x y) v false n) (midN (hitD s p x y) w false n) (midN (hitD s p x y) a 0 n)), (false, bI x), (false, bI y)] := fun fl => ih0 fl (by omega)
    clear ih0
    cases fl
    · refine (t_dlD0 n e (cntN (hitD s p x y) i : Nat) i x y _ _ _ _ _ _).trans ?_
      rw [decide_eq_true (show (i : Int) < (n : Int) by omega), decide_eq_true (show (0 : Int) ≤ i by omega), Int.toNat_natCast, Int.toNat_natCast, Nat.zero_add, Nat.zero_add, e1, e2, e3, e4, e5, g1, g2, g3, g4, g5, hc0, decide_eq_true (show i < s.length by omega), decide_eq_true (show i < p.length by omega), decide_eq_true (show i < v.length by omega), decide_eq_true (show i < w.length by omega), decide_eq_true (show i < a.length by omega),
        decide_eq_true (show (0 : Int) ≤ (cntN (hitD s p x y) i : Nat) by omega), decide_eq_true (show ((cntN (hitD s p x y) i : Nat) : Int) < (n : Int) by omega), decide_eq_true (show cntN (hitD s p x y) i < s.length by omega), decide_eq_true (show cntN (hitD s p x y) i < p.length by omega), decide_eq_true (show cntN (hitD s p x y) i < v.length by omega), decide_eq_true (show cntN (hitD s p x y) i < w.length by omega), decide_eq_true (show cntN (hitD s p x y) i < a.length by omega),
        Bool.and_self, Bool.and_self, Bool.and_self, Bool.and_self, Bool.and_self, cT, cT, cT, cT, cT, wrap_i64 (n := (i : Int) + 1) (by omega) (by omega), wrap_i64 (n := ((cntN (hitD s p x y) i : Nat) : Int) + 1) (by omega) (by omega), show (i : Int) + 1 = ((i + 1 : Nat) : Int) from by omega, show ((cntN (hitD s p x y) i : Nat) : Int) + 1 = ((cntN (hitD s p x y) i + 1 : Nat) : Int) from by omega]
      cases c : (hitD s p x y) i with
      | true =>
        have m := main false
        rw [y1 c, y2 c, y3 c, y4 c, y5 c, cn, if_pos c, Nat.add_zero] at m
        rw [Bool.not_true, cF]; exact m
      | false =>
        have m := main true
        rw [n1 c, n2 c, n3 c, n4 c, n5 c, cn, if_neg (by rw [c]; decide)] at m
        rw [Bool.not_false, cT]; exact m
    · refine (t_dlD1 n e (cntN (hitD s p x y) i : Nat) i x y _ _ _ _ _ _).trans ?_
      rw [decide_eq_true (show (i : Int) < (n : Int) by omega), decide_eq_true (show (0 : Int) ≤ i by omega), Int.toNat_natCast, Int.toNat_natCast, Nat.zero_add, Nat.zero_add, e1, e2, e3, e4, e5, g1, g2, g3, g4, g5, hc0, decide_eq_true (show i < s.length by omega), decide_eq_true (show i < p.length by omega), decide_eq_true (show i < v.length by omega), decide_eq_true (show i < w.length by omega), decide_eq_true (show i < a.length by omega),
        decide_eq_true (show (0 : Int) ≤ (cntN (hitD s p x y) i : Nat) by omega), decide_eq_true (show ((cntN (hitD s p x y) i : Nat) : Int) < (n : Int) by omega), decide_eq_true (show cntN (hitD s p x y) i < s.length by omega), decide_eq_true (show cntN (hitD s p x y) i < p.length by omega), decide_eq_true (show cntN (hitD s p x y) i < v.length by omega), decide_eq_true (show cntN (hitD s p x y) i < w.length by omega), decide_eq_true (show cntN (hitD s p x y) i < a.length by omega),
        Bool.and_self, Bool.and_self, Bool.and_self, Bool.and_self, Bool.and_self, cT, cT, cT, cT, cT, wrap_i64 (n := (i : Int) + 1) (by omega) (by omega), wrap_i64 (n := ((cntN (hitD s p x y) i : Nat) : Int) + 1) (by omega) (by omega), show (i : Int) + 1 = ((i + 1 : Nat) : Int) from by omega, show ((cntN (hitD s p x y) i : Nat) : Int) + 1 = ((cntN (hitD s p x y) i + 1 : Nat) : Int) from by omega]
      cases c : (hitD s p x y) i with
      | true =>
        have m := main true
        rw [y1 c, y2 c, y3 c, y4 c, y5 c, cn, if_pos c, Nat.add_zero] at m
        rw [Bool.not_true, cF]; exact m
      | false =>
        have m := main true
        rw [n1 c, n2 c, n3 c, n4 c, n5 c, cn, if_neg (by rw [c]; decide)] at m
        rw [Bool.not_false, cT]; exact m

theorem loopDlF (n e : Nat) (x : Int) (s p : List Int) (v w : List Bool) (a : List Int) (h1 : n ≤ s.length) (h2 : n ≤ p.length) (h3 : n ≤ v.length) (h4 : n ≤ w.length) (h5 : n ≤ a.length) (hn : n < 4611686018427387904) (K : HeadK) : ∀ (j i : Nat) (fl : Bool), i + j = n →
    iterR Try.prog sKf lNil iDl2 60 (loopOf Try.prog 37 0) (j + 1) [kS n e, .e (.c (.clos 38 [⟨1, 0, 0, 0, 0, 0, 0⟩])), aint .i64 (cntN (hitF s x) i : Nat), aint .i64 i] [(fl, kB (midN (hitF s x) s 0 i) (midN (hitF s x) p 0 i) (midN (hitF s x) v false i) (midN (hitF s x) w false i) (midN (hitF s x) a 0 i)), (false, bI x)] K =
      K (.exit 0) [kS n e, aint .i64 (cntN (hitF s x) n : Nat)] [(fl || anyN (hitF s x) j i, kB (midN (hitF s x) s 0 n) (midN (hitF s x) p 0 n) (midN (hitF s x) v false n) (midN (hitF s x) w false n) (midN (hitF s x) a 0 n)), (false, bI x)]
  | 0, i, fl, hi => by
    obtain rfl : i = n := by omega
    rw [iterR]
    cases fl
    · refine (t_dlF0 i e (cntN (hitF s x) i : Nat) i x _ _ _ _ _ _).trans ?_
      rw [decide_eq_false (show ¬ (i : Int) < (i : Int) by omega), cF]; rfl
    · refine (t_dlF1 i e (cntN (hitF s x) i : Nat) i x _ _ _ _ _ _).trans ?_
      rw [decide_eq_false (show ¬ (i : Int) < (i : Int) by omega), cF]; rfl
  | j + 1, i, fl, hi => by
    have k := cntN_le (hitF s x) i
    have e1 := midN_len (hitF s x) s 0 i (by omega)
    have e2 := midN_len (hitF s x) p 0 i (by omega)
    have e3 := midN_len (hitF s x) v false i (by omega)
    have e4 := midN_len (hitF s x) w false i (by omega)
    have e5 := midN_len (hitF s x) a 0 i (by omega)
    have g1 := midN_get (hitF s x) s 0 i (by omega)
    have g2 := midN_get (hitF s x) p 0 i (by omega)
    have g3 := midN_get (hitF s x) v false i (by omega)
    have g4 := midN_get (hitF s x) w false i (by omega)
    have g5 := midN_get (hitF s x) a 0 i (by omega)
    have y1 := midN_yes (hitF s x) s 0 i
    have y2 := midN_yes (hitF s x) p 0 i
    have y3 := midN_yes (hitF s x) v false i
    have y4 := midN_yes (hitF s x) w false i
    have y5 := midN_yes (hitF s x) a 0 i
    have n1 := midN_no (hitF s x) s 0 i (by omega)
    have n2 := midN_no (hitF s x) p 0 i (by omega)
    have n3 := midN_no (hitF s x) v false i (by omega)
    have n4 := midN_no (hitF s x) w false i (by omega)
    have n5 := midN_no (hitF s x) a 0 i (by omega)
    have ih0 := loopDlF n e x s p v w a h1 h2 h3 h4 h5 hn K j (i + 1)
    have hc0 : (List.getD s i 0 == x) = (hitF s x) i := rfl
    have cn : cntN (hitF s x) (i + 1) = cntN (hitF s x) i + (if (hitF s x) i = true then 0 else 1) := rfl
    have an : ∀ b : Bool, (b || anyN (hitF s x) (j + 1) i) = (b || (!(hitF s x) i || anyN (hitF s x) j (i + 1))) := fun b => rfl
    rw [iterR, an]
    have main : ∀ fl : Bool, iterR Try.prog sKf lNil iDl2 60 (loopOf Try.prog 37 0) (j + 1) [kS n e, .e (.c (.clos 38 [⟨1, 0, 0, 0, 0, 0, 0⟩])), aint .i64 (cntN (hitF s x) (i + 1) : Nat), aint .i64 (i + 1 : Nat)] [(fl, kB (midN (hitF s x) s 0 (i + 1)) (midN (hitF s x) p 0 (i + 1)) (midN (hitF s x) v false (i + 1)) (midN (hitF s x) w false (i + 1)) (midN (hitF s x) a 0 (i + 1))), (false, bI x)] K =
      K (.exit 0) [kS n e, aint .i64 (cntN (hitF s x) n : Nat)] [(fl || anyN (hitF s x) j (i + 1), kB (midN (hitF s x) s 0 n) (midN (hitF s x) p 0 n) (midN (hitF s x) v false n) (midN (hitF s x) w false n) (midN (hitF s x) a 0 n)), (false, bI x)] := fun fl => ih0 fl (by omega)
    clear ih0
    cases fl
    · refine (t_dlF0 n e (cntN (hitF s x) i : Nat) i x _ _ _ _ _ _).trans ?_
      rw [decide_eq_true (show (i : Int) < (n : Int) by omega), decide_eq_true (show (0 : Int) ≤ i by omega), Int.toNat_natCast, Int.toNat_natCast, Nat.zero_add, Nat.zero_add, e1, e2, e3, e4, e5, g1, g2, g3, g4, g5, hc0, decide_eq_true (show i < s.length by omega), decide_eq_true (show i < p.length by omega), decide_eq_true (show i < v.length by omega), decide_eq_true (show i < w.length by omega), decide_eq_true (show i < a.length by omega),
        decide_eq_true (show (0 : Int) ≤ (cntN (hitF s x) i : Nat) by omega), decide_eq_true (show ((cntN (hitF s x) i : Nat) : Int) < (n : Int) by omega), decide_eq_true (show cntN (hitF s x) i < s.length by omega), decide_eq_true (show cntN (hitF s x) i < p.length by omega), decide_eq_true (show cntN (hitF s x) i < v.length by omega), decide_eq_true (show cntN (hitF s x) i < w.length by omega), decide_eq_true (show cntN (hitF s x) i < a.length by omega),
        Bool.and_self, Bool.and_self, Bool.and_self, Bool.and_self, Bool.and_self, cT, cT, cT, cT, cT, wrap_i64 (n := (i : Int) + 1) (by omega) (by omega), wrap_i64 (n := ((cntN (hitF s x) i : Nat) : Int) + 1) (by omega) (by omega), show (i : Int) + 1 = ((i + 1 : Nat) : Int) from by omega, show ((cntN (hitF s x) i : Nat) : Int) + 1 = ((cntN (hitF s x) i + 1 : Nat) : Int) from by omega]
      cases c : (hitF s x) i with
      | true =>
        have m := main false
        rw [y1 c, y2 c, y3 c, y4 c, y5 c, cn, if_pos c, Nat.add_zero] at m
        rw [Bool.not_true, cF]; exact m
      | false =>
        have m := main true
        rw [n1 c, n2 c, n3 c, n4 c, n5 c, cn, if_neg (by rw [c]; decide)] at m
        rw [Bool.not_false, cT]; exact m
    · refine (t_dlF1 n e (cntN (hitF s x) i : Nat) i x _ _ _ _ _ _).trans ?_
      rw [decide_eq_true (show (i : Int) < (n : Int) by omega), decide_eq_true (show (0 : Int) ≤ i by omega), Int.toNat_natCast, Int.toNat_natCast, Nat.zero_add, Nat.zero_add, e1, e2, e3, e4, e5, g1, g2, g3, g4, g5, hc0, decide_eq_true (show i < s.length by omega), decide_eq_true (show i < p.length by omega), decide_eq_true (show i < v.length by omega), decide_eq_true (show i < w.length by omega), decide_eq_true (show i < a.length by omega),
        decide_eq_true (show (0 : Int) ≤ (cntN (hitF s x) i : Nat) by omega), decide_eq_true (show ((cntN (hitF s x) i : Nat) : Int) < (n : Int) by omega), decide_eq_true (show cntN (hitF s x) i < s.length by omega), decide_eq_true (show cntN (hitF s x) i < p.length by omega), decide_eq_true (show cntN (hitF s x) i < v.length by omega), decide_eq_true (show cntN (hitF s x) i < w.length by omega), decide_eq_true (show cntN (hitF s x) i < a.length by omega),
        Bool.and_self, Bool.and_self, Bool.and_self, Bool.and_self, Bool.and_self, cT, cT, cT, cT, cT, wrap_i64 (n := (i : Int) + 1) (by omega) (by omega), wrap_i64 (n := ((cntN (hitF s x) i : Nat) : Int) + 1) (by omega) (by omega), show (i : Int) + 1 = ((i + 1 : Nat) : Int) from by omega, show ((cntN (hitF s x) i : Nat) : Int) + 1 = ((cntN (hitF s x) i + 1 : Nat) : Int) from by omega]
      cases c : (hitF s x) i with
      | true =>
        have m := main true
        rw [y1 c, y2 c, y3 c, y4 c, y5 c, cn, if_pos c, Nat.add_zero] at m
        rw [Bool.not_true, cF]; exact m
      | false =>
        have m := main true
        rw [n1 c, n2 c, n3 c, n4 c, n5 c, cn, if_neg (by rw [c]; decide)] at m
        rw [Bool.not_false, cT]; exact m

end Go.Proofs.Ytnloobnpgkpbhaa.Wlk
