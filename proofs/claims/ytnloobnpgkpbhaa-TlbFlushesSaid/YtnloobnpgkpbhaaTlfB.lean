/- Flushed: which places were filled in. -/
import Derived.Test.YtnloobnpgkpbhaaTlfA
set_option linter.unusedVariables false
set_option linter.unusedSimpArgs false
set_option maxRecDepth 100000
namespace Go.Proofs.Ytnloobnpgkpbhaa.Wlk
open Go Go.Eng Go.Proofs Go.RowKit
theorem loopF6N (u1 u2 n : Nat) (c q l s p : Int) (ok : Bool) (l1 l2 : List Int) (h1 : n ≤ l1.length) (h2 : n ≤ l2.length) (hu1 : u1 = l1.length) (hu2 : u2 = l2.length) (h8 : n ≤ 8) (K : HeadK) (j : Nat) : ∀ (i : Nat) (b : Bool), i + j = n →
    iterR Try.prog sNil lNil iF6 60 (loopOf Try.prog 4 6) (j + 1) [vS0 u1, vS1 u2, aint .i64 c, vPt 2, aint .i64 n, aint .i64 q, aint .i64 l, aint .i64 s, aint .i64 p, vB ok, vB b, aint .i64 i] [bR1 l1, bR1 l2, bT0] K = K (.exit 6) [vS0 u1, vS1 u2, aint .i64 c, vPt 2, aint .i64 n, aint .i64 q, aint .i64 l, aint .i64 s, aint .i64 p, vB ok, vB (orF l1 l2 s p j i b)] [bR1 l1, bR1 l2, bT0] := by
  induction j with
  | zero =>
    intro i b hi
    rw [iterR]
    refine (t_f6N u1 u2 c n q l s p i ok b l1 l2 _).trans ?_
    rw [decide_eq_false (show ¬ (i : Int) < (n : Int) by omega), cF]; rfl
  | succ j ih =>
    intro i b hi
    have hw : IntKind.wrap IntKind.i64 ((i : Int) + 1) = ((i + 1 : Nat) : Int) := by rw [wrap_i64 (by omega) (by omega)]; omega
    have ih' := ih (i + 1) (b || (kx l1 i 4 == s && kx l2 i 256 == p)) (by omega)
    clear ih
    rw [iterR]
    refine (t_f6N u1 u2 c n q l s p i ok b l1 l2 _).trans ?_
    rw [decide_eq_true (show (i : Int) < (n : Int) by omega), cT]
    cases b with
    | true => rw [cT, hw]; exact ih'
    | false =>
      rw [cF, decide_eq_true (show (0 : Int) ≤ (i : Int) by omega), decide_eq_true (show (i : Int) < (u1 : Int) by omega), decide_eq_true (show (i : Int) < (u2 : Int) by omega), Bool.and_self, cT, Int.toNat_natCast, Nat.zero_add, decide_eq_true (show i < l1.length by omega), decide_eq_true (show i < l2.length by omega), cT, show IntKind.wrap IntKind.i64 (Int.tmod (IntKind.wrap IntKind.u64 (l1.getD i 0)) 4) = kx l1 i 4 from rfl, show IntKind.wrap IntKind.i64 (Int.tmod (IntKind.wrap IntKind.u64 (l2.getD i 0)) 256) = kx l2 i 256 from rfl, hw]
      cases e : (kx l1 i 4 == s) with
      | true =>
        rw [cT, cT, cT]
        refine Eq.trans ?_ ih'
        rw [show (false || (kx l1 i 4 == s && kx l2 i 256 == p)) = (kx l2 i 256 == p) from by rw [e]; rfl] <;> rfl
      | false =>
        rw [cF]
        refine Eq.trans ?_ ih'
        rw [show (false || (kx l1 i 4 == s && kx l2 i 256 == p)) = false from by rw [e]; rfl] <;> rfl
def cF6N (OR : List Int → List Int → Int → Int → Nat → Nat → Bool → Bool) : HeadO := fun vs h K => match vs, h with
  | [.e (.c (.slice ⟨0, 0, 1, 0, 0, 0, 0⟩ 1 u1 0 false)), .e (.c (.slice ⟨1, 0, 1, 0, 0, 0, 0⟩ 1 u2 0 false)), .e (.c (.int .i64 c)), .e (.c (.ptr ⟨2, 0, 0, 0, 0, 0, 0⟩)), .e (.c (.int .i64 n)), .e (.c (.int .i64 q)), .e (.c (.int .i64 l)), .e (.c (.int .i64 s)), .e (.c (.int .i64 p)), .e (.c (.bool ok)), .e (.c (.bool b)), .e (.c (.int .i64 i))], [(false, some ⟨true, .rows [.ints .i64 l1]⟩), (false, some ⟨true, .rows [.ints .i64 l2]⟩), (true, some ⟨false, .mix [.nils]⟩)] =>
    match decide (i = 0) && decide (u1 = l1.length) && decide (u2 = l2.length) && decide (0 ≤ n) && decide (n ≤ 8) && decide (n.toNat ≤ l1.length) && decide (n.toNat ≤ l2.length) with
    | true => K (.exit 6) [vS0 u1, vS1 u2, aint .i64 c, vPt 2, aint .i64 n, aint .i64 q, aint .i64 l, aint .i64 s, aint .i64 p, vB ok, vB (OR l1 l2 s p n.toNat 0 b)] [bR1 l1, bR1 l2, bT0]
    | false => none
  | _, _ => none
theorem cF6N_ok (vs : List AV) (h : Heap) (K : HeadK) (r : Res) (ee : cF6N orF vs h K = some r) : ∃ n, iterR Try.prog sNil lNil iF6 60 (loopOf Try.prog 4 6) n vs h K = some r := by
  unfold cF6N at ee
  split at ee
  · rename_i u1 u2 c n q l s p ok b i l1 l2
    split at ee
    · rename_i hc
      simp only [Bool.and_eq_true, decide_eq_true_eq] at hc
      obtain ⟨⟨⟨⟨⟨⟨rfl, c1⟩, c2⟩, c3⟩, c4⟩, c5⟩, c6⟩ := hc
      obtain ⟨n, rfl⟩ : ∃ k : Nat, n = (k : Int) := ⟨n.toNat, by omega⟩
      rw [Int.toNat_natCast] at c5 c6 ee
      exact ⟨n + 1, (loopF6N u1 u2 n c q l s p ok l1 l2 c5 c6 c1 c2 (by omega) K n 0 b (by omega)).trans ee⟩
    · cases ee
  · cases ee
theorem loopF6S (u1 u2 n : Nat) (c q l s p : Int) (ok : Bool) (l1 l2 : List Int) (m e : Nat) (ks kp : List Int) (kv kw : List Bool) (ka : List Int) (h1 : n ≤ l1.length) (h2 : n ≤ l2.length) (hu1 : u1 = l1.length) (hu2 : u2 = l2.length) (h8 : n ≤ 8) (K : HeadK) (j : Nat) : ∀ (i : Nat) (b : Bool), i + j = n →
    iterR Try.prog sNil lNil iF6 60 (loopOf Try.prog 4 6) (j + 1) [vS0 u1, vS1 u2, aint .i64 c, vPt 2, aint .i64 n, aint .i64 q, aint .i64 l, aint .i64 s, aint .i64 p, vB ok, vB b, aint .i64 i] [bR1 l1, bR1 l2, bT 3 m e, bC5 ks kp kv kw ka] K = K (.exit 6) [vS0 u1, vS1 u2, aint .i64 c, vPt 2, aint .i64 n, aint .i64 q, aint .i64 l, aint .i64 s, aint .i64 p, vB ok, vB (orF l1 l2 s p j i b)] [bR1 l1, bR1 l2, bT 3 m e, bC5 ks kp kv kw ka] := by
  induction j with
  | zero =>
    intro i b hi
    rw [iterR]
    refine (t_f6S u1 u2 m e c n q l s p i ok b l1 l2 ks kp kv kw ka _).trans ?_
    rw [decide_eq_false (show ¬ (i : Int) < (n : Int) by omega), cF]; rfl
  | succ j ih =>
    intro i b hi
    have hw : IntKind.wrap IntKind.i64 ((i : Int) + 1) = ((i + 1 : Nat) : Int) := by rw [wrap_i64 (by omega) (by omega)]; omega
    have ih' := ih (i + 1) (b || (kx l1 i 4 == s && kx l2 i 256 == p)) (by omega)
    clear ih
    rw [iterR]
    refine (t_f6S u1 u2 m e c n q l s p i ok b l1 l2 ks kp kv kw ka _).trans ?_
    rw [decide_eq_true (show (i : Int) < (n : Int) by omega), cT]
    cases b with
    | true => rw [cT, hw]; exact ih'
    | false =>
      rw [cF, decide_eq_true (show (0 : Int) ≤ (i : Int) by omega), decide_eq_true (show (i : Int) < (u1 : Int) by omega), decide_eq_true (show (i : Int) < (u2 : Int) by omega), Bool.and_self, cT, Int.toNat_natCast, Nat.zero_add, decide_eq_true (show i < l1.length by omega), decide_eq_true (show i < l2.length by omega), cT, show IntKind.wrap IntKind.i64 (Int.tmod (IntKind.wrap IntKind.u64 (l1.getD i 0)) 4) = kx l1 i 4 from rfl, show IntKind.wrap IntKind.i64 (Int.tmod (IntKind.wrap IntKind.u64 (l2.getD i 0)) 256) = kx l2 i 256 from rfl, hw]
      cases e : (kx l1 i 4 == s) with
      | true =>
        rw [cT, cT, cT]
        refine Eq.trans ?_ ih'
        rw [show (false || (kx l1 i 4 == s && kx l2 i 256 == p)) = (kx l2 i 256 == p) from by rw [e]; rfl] <;> rfl
      | false =>
        rw [cF]
        refine Eq.trans ?_ ih'
        rw [show (false || (kx l1 i 4 == s && kx l2 i 256 == p)) = false from by rw [e]; rfl] <;> rfl
def cF6S (OR : List Int → List Int → Int → Int → Nat → Nat → Bool → Bool) : HeadO := fun vs h K => match vs, h with
  | [.e (.c (.slice ⟨0, 0, 1, 0, 0, 0, 0⟩ 1 u1 0 false)), .e (.c (.slice ⟨1, 0, 1, 0, 0, 0, 0⟩ 1 u2 0 false)), .e (.c (.int .i64 c)), .e (.c (.ptr ⟨2, 0, 0, 0, 0, 0, 0⟩)), .e (.c (.int .i64 n)), .e (.c (.int .i64 q)), .e (.c (.int .i64 l)), .e (.c (.int .i64 s)), .e (.c (.int .i64 p)), .e (.c (.bool ok)), .e (.c (.bool b)), .e (.c (.int .i64 i))], [(false, some ⟨true, .rows [.ints .i64 l1]⟩), (false, some ⟨true, .rows [.ints .i64 l2]⟩), (true, some ⟨false, .mix [.slice ⟨3, 0, 5, 0, 0, 0, 0⟩ 5 m e false]⟩), (true, some ⟨false, .rows [.ints .i64 ks, .ints .i64 kp, .bools kv, .bools kw, .ints .i64 ka]⟩)] =>
    match decide (i = 0) && decide (u1 = l1.length) && decide (u2 = l2.length) && decide (0 ≤ n) && decide (n ≤ 8) && decide (n.toNat ≤ l1.length) && decide (n.toNat ≤ l2.length) with
    | true => K (.exit 6) [vS0 u1, vS1 u2, aint .i64 c, vPt 2, aint .i64 n, aint .i64 q, aint .i64 l, aint .i64 s, aint .i64 p, vB ok, vB (OR l1 l2 s p n.toNat 0 b)] [bR1 l1, bR1 l2, bT 3 m e, bC5 ks kp kv kw ka]
    | false => none
  | _, _ => none
theorem cF6S_ok (vs : List AV) (h : Heap) (K : HeadK) (r : Res) (ee : cF6S orF vs h K = some r) : ∃ n, iterR Try.prog sNil lNil iF6 60 (loopOf Try.prog 4 6) n vs h K = some r := by
  unfold cF6S at ee
  split at ee
  · rename_i u1 u2 c n q l s p ok b i l1 l2 m e ks kp kv kw ka
    split at ee
    · rename_i hc
      simp only [Bool.and_eq_true, decide_eq_true_eq] at hc
      obtain ⟨⟨⟨⟨⟨⟨rfl, c1⟩, c2⟩, c3⟩, c4⟩, c5⟩, c6⟩ := hc
      obtain ⟨n, rfl⟩ : ∃ k : Nat, n = (k : Int) := ⟨n.toNat, by omega⟩
      rw [Int.toNat_natCast] at c5 c6 ee
      exact ⟨n + 1, (loopF6S u1 u2 n c q l s p ok l1 l2 m e ks kp kv kw ka c5 c6 c1 c2 (by omega) K n 0 b (by omega)).trans ee⟩
    · cases ee
  · cases ee
def cF6 (OR : List Int → List Int → Int → Int → Nat → Nat → Bool → Bool) : HeadO := fun vs h K => match h with
  | [_, _, _] => cF6N OR vs h K
  | _ => cF6S OR vs h K
theorem cF6_sound : HeadSound Try.prog iF6 (loopOf Try.prog 4 6) (cF6 orF) := by
  refine HeadSound.short (iterR_sound (F := 60) sNil_ok mix lNil_ok) fun vs h K r ee => ?_
  unfold cF6 at ee
  split at ee
  · exact cF6N_ok _ _ _ _ ee
  · exact cF6S_ok _ _ _ _ ee
abbrev ORf := List Int → List Int → Int → Int → Nat → Nat → Bool → Bool
noncomputable def lF6 (OR : ORf) : Nat → Option Orc := lAdd lNil 6 (wrapO iF6 6 (cF6 OR))
theorem lF6_for : LFor 2 Try.prog 4 (lF6 orF) := lAdd_for (I := iF6) lNil_for (by kernel_rfl) cF6_sound
theorem f_dis : Go.Eng.distinct (blockIds (codeOf Try.prog 4)) = true := by kernel_rfl
theorem lF6_in : LOk 2 Try.prog (lF6 orF) (loopOf Try.prog 4 4) := lF6_for.inner f_dis (by kernel_rfl)
noncomputable def sFg (V W : GB) (A : GZ) (I : GB) : Summ := sAdd sNil 11 (gGetT V W A I)
theorem t_f4N (V W : GB) (A : GZ) (I : GB) (OR : ORf) (u1 u2 : Nat) (c n q l s p : Int) (l1 l2 : List Int) (K : HeadK) : bodyR Try.prog (sFg V W A I) (lF6 OR) iF4 60 (loopOf Try.prog 4 4) [vS0 u1, vS1 u2, aint .i64 c, vPt 2, aint .i64 n, aint .i64 q, aint .i64 l, aint .i64 s, aint .i64 p] [bR1 l1, bR1 l2, bT0] K = (cond (decide (p < 256)) (cond (true && decide (u1 = List.length l1) && decide (u2 = List.length l2) && decide (0 ≤ n) && decide (n ≤ 8) && decide (Int.toNat n ≤ List.length l1) && decide (Int.toNat n ≤ List.length l2)) (cond (OR l1 l2 s p (Int.toNat n) 0 false) (cond (!false == (s != c)) (K (Ex.ret) [(AV.e (AE.c (AC.bool false)))] [(Prod.mk false (some (Block.mk true (Data.rows [(Col.ints (IntKind.i64) (l1))])))), (Prod.mk false (some (Block.mk true (Data.rows [(Col.ints (IntKind.i64) (l2))]))))]) (K (Ex.normal) [(AV.e (AE.c (AC.slice (Loc.mk 0 0 1 0 0 0 0) 1 (u1) 0 false))), (AV.e (AE.c (AC.slice (Loc.mk 1 0 1 0 0 0 0) 1 (u2) 0 false))), (AV.e (AE.c (AC.int (IntKind.i64) (c)))), (AV.e (AE.c (AC.ptr (Loc.mk 2 0 0 0 0 0 0)))), (AV.e (AE.c (AC.int (IntKind.i64) (n)))), (AV.e (AE.c (AC.int (IntKind.i64) (q)))), (AV.e (AE.c (AC.int (IntKind.i64) (l)))), (AV.e (AE.c (AC.int (IntKind.i64) (s)))), (AV.e (AE.c (AC.int (IntKind.i64) (IntKind.wrap IntKind.i64 (p + 1)))))] [(Prod.mk false (some (Block.mk true (Data.rows [(Col.ints (IntKind.i64) (l1))])))), (Prod.mk false (some (Block.mk true (Data.rows [(Col.ints (IntKind.i64) (l2))])))), (Prod.mk true (some (Block.mk false (Data.mix [(AC.nils)]))))])) (K (Ex.normal) [(AV.e (AE.c (AC.slice (Loc.mk 0 0 1 0 0 0 0) 1 (u1) 0 false))), (AV.e (AE.c (AC.slice (Loc.mk 1 0 1 0 0 0 0) 1 (u2) 0 false))), (AV.e (AE.c (AC.int (IntKind.i64) (c)))), (AV.e (AE.c (AC.ptr (Loc.mk 2 0 0 0 0 0 0)))), (AV.e (AE.c (AC.int (IntKind.i64) (n)))), (AV.e (AE.c (AC.int (IntKind.i64) (q)))), (AV.e (AE.c (AC.int (IntKind.i64) (l)))), (AV.e (AE.c (AC.int (IntKind.i64) (s)))), (AV.e (AE.c (AC.int (IntKind.i64) (IntKind.wrap IntKind.i64 (p + 1)))))] [(Prod.mk false (some (Block.mk true (Data.rows [(Col.ints (IntKind.i64) (l1))])))), (Prod.mk false (some (Block.mk true (Data.rows [(Col.ints (IntKind.i64) (l2))])))), (Prod.mk true (some (Block.mk false (Data.mix [(AC.nils)]))))])) none) (K (Ex.exit 4) [(AV.e (AE.c (AC.slice (Loc.mk 0 0 1 0 0 0 0) 1 (u1) 0 false))), (AV.e (AE.c (AC.slice (Loc.mk 1 0 1 0 0 0 0) 1 (u2) 0 false))), (AV.e (AE.c (AC.int (IntKind.i64) (c)))), (AV.e (AE.c (AC.ptr (Loc.mk 2 0 0 0 0 0 0)))), (AV.e (AE.c (AC.int (IntKind.i64) (n)))), (AV.e (AE.c (AC.int (IntKind.i64) (q)))), (AV.e (AE.c (AC.int (IntKind.i64) (l)))), (AV.e (AE.c (AC.int (IntKind.i64) (s))))] [(Prod.mk false (some (Block.mk true (Data.rows [(Col.ints (IntKind.i64) (l1))])))), (Prod.mk false (some (Block.mk true (Data.rows [(Col.ints (IntKind.i64) (l2))])))), (Prod.mk true (some (Block.mk false (Data.mix [(AC.nils)]))))])) := by kernel_rfl
theorem t_f4S (V W : GB) (A : GZ) (I : GB) (OR : ORf) (u1 u2 m e : Nat) (c n q l s p : Int) (l1 l2 : List Int) (ks kp : List Int) (kv kw : List Bool) (ka : List Int) (K : HeadK) : bodyR Try.prog (sFg V W A I) (lF6 OR) iF4 60 (loopOf Try.prog 4 4) [vS0 u1, vS1 u2, aint .i64 c, vPt 2, aint .i64 n, aint .i64 q, aint .i64 l, aint .i64 s, aint .i64 p] [bR1 l1, bR1 l2, bT 3 m e, bC5 ks kp kv kw ka] K = (cond (decide (p < 256)) (cond (Go.Proofs.Ytnloobnpgkpbhaa.Wlk.okK m e ks kp kv kw ka) (cond (true && decide (u1 = List.length l1) && decide (u2 = List.length l2) && decide (0 ≤ n) && decide (n ≤ 8) && decide (Int.toNat n ≤ List.length l1) && decide (Int.toNat n ≤ List.length l2)) (cond (OR l1 l2 s p (Int.toNat n) 0 false) (cond (!I s p (Go.Proofs.Ytnloobnpgkpbhaa.Wlk.rowsN m ks kp kv kw ka) == (s != c)) (K (Ex.ret) [(AV.e (AE.c (AC.bool false)))] [(Prod.mk false (some (Block.mk true (Data.rows [(Col.ints (IntKind.i64) (l1))])))), (Prod.mk false (some (Block.mk true (Data.rows [(Col.ints (IntKind.i64) (l2))]))))]) (cond (I s p (Go.Proofs.Ytnloobnpgkpbhaa.Wlk.rowsN m ks kp kv kw ka)) (K (Ex.normal) [(AV.e (AE.c (AC.slice (Loc.mk 0 0 1 0 0 0 0) 1 (u1) 0 false))), (AV.e (AE.c (AC.slice (Loc.mk 1 0 1 0 0 0 0) 1 (u2) 0 false))), (AV.e (AE.c (AC.int (IntKind.i64) (c)))), (AV.e (AE.c (AC.ptr (Loc.mk 2 0 0 0 0 0 0)))), (AV.e (AE.c (AC.int (IntKind.i64) (n)))), (AV.e (AE.c (AC.int (IntKind.i64) (q)))), (AV.e (AE.c (AC.int (IntKind.i64) (IntKind.wrap IntKind.i64 (l + 1))))), (AV.e (AE.c (AC.int (IntKind.i64) (s)))), (AV.e (AE.c (AC.int (IntKind.i64) (IntKind.wrap IntKind.i64 (p + 1)))))] [(Prod.mk false (some (Block.mk true (Data.rows [(Col.ints (IntKind.i64) (l1))])))), (Prod.mk false (some (Block.mk true (Data.rows [(Col.ints (IntKind.i64) (l2))])))), (Prod.mk true (some (Block.mk false (Data.mix [(AC.slice (Loc.mk 3 0 5 0 0 0 0) 5 (m) (e) false)])))), (Prod.mk true (some (Block.mk false (Data.rows [(Col.ints (IntKind.i64) (ks)), (Col.ints (IntKind.i64) (kp)), (Col.bools (kv)), (Col.bools (kw)), (Col.ints (IntKind.i64) (ka))]))))]) (K (Ex.normal) [(AV.e (AE.c (AC.slice (Loc.mk 0 0 1 0 0 0 0) 1 (u1) 0 false))), (AV.e (AE.c (AC.slice (Loc.mk 1 0 1 0 0 0 0) 1 (u2) 0 false))), (AV.e (AE.c (AC.int (IntKind.i64) (c)))), (AV.e (AE.c (AC.ptr (Loc.mk 2 0 0 0 0 0 0)))), (AV.e (AE.c (AC.int (IntKind.i64) (n)))), (AV.e (AE.c (AC.int (IntKind.i64) (q)))), (AV.e (AE.c (AC.int (IntKind.i64) (l)))), (AV.e (AE.c (AC.int (IntKind.i64) (s)))), (AV.e (AE.c (AC.int (IntKind.i64) (IntKind.wrap IntKind.i64 (p + 1)))))] [(Prod.mk false (some (Block.mk true (Data.rows [(Col.ints (IntKind.i64) (l1))])))), (Prod.mk false (some (Block.mk true (Data.rows [(Col.ints (IntKind.i64) (l2))])))), (Prod.mk true (some (Block.mk false (Data.mix [(AC.slice (Loc.mk 3 0 5 0 0 0 0) 5 (m) (e) false)])))), (Prod.mk true (some (Block.mk false (Data.rows [(Col.ints (IntKind.i64) (ks)), (Col.ints (IntKind.i64) (kp)), (Col.bools (kv)), (Col.bools (kw)), (Col.ints (IntKind.i64) (ka))]))))]))) (cond (!I s p (Go.Proofs.Ytnloobnpgkpbhaa.Wlk.rowsN m ks kp kv kw ka) == false) (K (Ex.ret) [(AV.e (AE.c (AC.bool false)))] [(Prod.mk false (some (Block.mk true (Data.rows [(Col.ints (IntKind.i64) (l1))])))), (Prod.mk false (some (Block.mk true (Data.rows [(Col.ints (IntKind.i64) (l2))]))))]) (cond (I s p (Go.Proofs.Ytnloobnpgkpbhaa.Wlk.rowsN m ks kp kv kw ka)) (K (Ex.normal) [(AV.e (AE.c (AC.slice (Loc.mk 0 0 1 0 0 0 0) 1 (u1) 0 false))), (AV.e (AE.c (AC.slice (Loc.mk 1 0 1 0 0 0 0) 1 (u2) 0 false))), (AV.e (AE.c (AC.int (IntKind.i64) (c)))), (AV.e (AE.c (AC.ptr (Loc.mk 2 0 0 0 0 0 0)))), (AV.e (AE.c (AC.int (IntKind.i64) (n)))), (AV.e (AE.c (AC.int (IntKind.i64) (q)))), (AV.e (AE.c (AC.int (IntKind.i64) (IntKind.wrap IntKind.i64 (l + 1))))), (AV.e (AE.c (AC.int (IntKind.i64) (s)))), (AV.e (AE.c (AC.int (IntKind.i64) (IntKind.wrap IntKind.i64 (p + 1)))))] [(Prod.mk false (some (Block.mk true (Data.rows [(Col.ints (IntKind.i64) (l1))])))), (Prod.mk false (some (Block.mk true (Data.rows [(Col.ints (IntKind.i64) (l2))])))), (Prod.mk true (some (Block.mk false (Data.mix [(AC.slice (Loc.mk 3 0 5 0 0 0 0) 5 (m) (e) false)])))), (Prod.mk true (some (Block.mk false (Data.rows [(Col.ints (IntKind.i64) (ks)), (Col.ints (IntKind.i64) (kp)), (Col.bools (kv)), (Col.bools (kw)), (Col.ints (IntKind.i64) (ka))]))))]) (K (Ex.normal) [(AV.e (AE.c (AC.slice (Loc.mk 0 0 1 0 0 0 0) 1 (u1) 0 false))), (AV.e (AE.c (AC.slice (Loc.mk 1 0 1 0 0 0 0) 1 (u2) 0 false))), (AV.e (AE.c (AC.int (IntKind.i64) (c)))), (AV.e (AE.c (AC.ptr (Loc.mk 2 0 0 0 0 0 0)))), (AV.e (AE.c (AC.int (IntKind.i64) (n)))), (AV.e (AE.c (AC.int (IntKind.i64) (q)))), (AV.e (AE.c (AC.int (IntKind.i64) (l)))), (AV.e (AE.c (AC.int (IntKind.i64) (s)))), (AV.e (AE.c (AC.int (IntKind.i64) (IntKind.wrap IntKind.i64 (p + 1)))))] [(Prod.mk false (some (Block.mk true (Data.rows [(Col.ints (IntKind.i64) (l1))])))), (Prod.mk false (some (Block.mk true (Data.rows [(Col.ints (IntKind.i64) (l2))])))), (Prod.mk true (some (Block.mk false (Data.mix [(AC.slice (Loc.mk 3 0 5 0 0 0 0) 5 (m) (e) false)])))), (Prod.mk true (some (Block.mk false (Data.rows [(Col.ints (IntKind.i64) (ks)), (Col.ints (IntKind.i64) (kp)), (Col.bools (kv)), (Col.bools (kw)), (Col.ints (IntKind.i64) (ka))]))))])))) none) none) (K (Ex.exit 4) [(AV.e (AE.c (AC.slice (Loc.mk 0 0 1 0 0 0 0) 1 (u1) 0 false))), (AV.e (AE.c (AC.slice (Loc.mk 1 0 1 0 0 0 0) 1 (u2) 0 false))), (AV.e (AE.c (AC.int (IntKind.i64) (c)))), (AV.e (AE.c (AC.ptr (Loc.mk 2 0 0 0 0 0 0)))), (AV.e (AE.c (AC.int (IntKind.i64) (n)))), (AV.e (AE.c (AC.int (IntKind.i64) (q)))), (AV.e (AE.c (AC.int (IntKind.i64) (l)))), (AV.e (AE.c (AC.int (IntKind.i64) (s))))] [(Prod.mk false (some (Block.mk true (Data.rows [(Col.ints (IntKind.i64) (l1))])))), (Prod.mk false (some (Block.mk true (Data.rows [(Col.ints (IntKind.i64) (l2))])))), (Prod.mk true (some (Block.mk false (Data.mix [(AC.slice (Loc.mk 3 0 5 0 0 0 0) 5 (m) (e) false)])))), (Prod.mk true (some (Block.mk false (Data.rows [(Col.ints (IntKind.i64) (ks)), (Col.ints (IntKind.i64) (kp)), (Col.bools (kv)), (Col.bools (kw)), (Col.ints (IntKind.i64) (ka))]))))])) := by kernel_rfl
end Go.Proofs.Ytnloobnpgkpbhaa.Wlk
