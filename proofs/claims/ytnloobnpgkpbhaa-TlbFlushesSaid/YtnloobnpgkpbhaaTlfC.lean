/- Flushed: a row of places looked at. -/
import Derived.Test.YtnloobnpgkpbhaaTlfB
set_option linter.unusedVariables false
set_option linter.unusedSimpArgs false
set_option maxRecDepth 100000
namespace Go.Proofs.Ytnloobnpgkpbhaa.Wlk
open Go Go.Eng Go.Proofs Go.RowKit
def chR (h : Int → Bool) : Nat → Nat → Bool
  | 0, _ => true
  | c + 1, i => h i && chR h c (i + 1)
def ck4 (l1 l2 : List Int) (n c s : Int) (L : List Ro) : Nat → Nat → Bool := chR fun p => ktI s p L == (orF l1 l2 s p n.toNat 0 false && (s != c))
def cn4 (s : Int) (L : List Ro) : Nat → Nat → Nat := cntR fun p => ktI s p L
def ckF (l1 l2 : List Int) (n c s : Int) (L : List Ro) : Bool := ck4 l1 l2 n c s L 256 0
def cnF (s : Int) (L : List Ro) : Nat := cn4 s L 256 0
theorem ktI_nil (s p : Int) : ktI s p [] = false := rfl
theorem cn4_le (s : Int) (L : List Ro) (c i : Nat) : cn4 s L c i ≤ c := cntR_le _ c i
theorem cn4_nil (s : Int) (c i : Nat) : cn4 s [] c i = 0 := by
  unfold cn4
  rw [show (fun p => ktI s p []) = (fun _ => false) from rfl]; exact cntR_false c i
set_option maxHeartbeats 2000000 in
theorem loopF4N (u1 u2 n : Nat) (c q s : Int) (l1 l2 : List Int) (h1 : n ≤ l1.length) (h2 : n ≤ l2.length) (hu1 : u1 = l1.length) (hu2 : u2 = l2.length) (h8 : n ≤ 8) (K : HeadK) (k p0 : Nat) (hk : k + p0 = 256) (j : Nat) : ∀ (p l : Nat), p + j = 256 → l ≤ 4096 + p → ck4 l1 l2 n c s [] j p = true →
    iterR Try.prog (sFg ktV ktW ktA ktI) (lF6 orF) iF4 60 (loopOf Try.prog 4 4) (j + 1) [vS0 u1, vS1 u2, aint .i64 c, vPt 2, aint .i64 n, aint .i64 q, aint .i64 l, aint .i64 s, aint .i64 p] [bR1 l1, bR1 l2, bT0] K = K (.exit 4) [vS0 u1, vS1 u2, aint .i64 c, vPt 2, aint .i64 n, aint .i64 q, aint .i64 (l + cn4 s [] j p : Nat), aint .i64 s] [bR1 l1, bR1 l2, bT0] := by
  induction j with
  | zero =>
    intro p l hp hl hc
    rw [iterR]
    refine (t_f4N ktV ktW ktA ktI orF u1 u2 c n q l s p l1 l2 _).trans ?_
    rw [decide_eq_false (show ¬ (p : Int) < 256 by omega), cF]; rfl
  | succ j ih =>
    intro p l hp hlp hc
    have hw : IntKind.wrap IntKind.i64 ((p : Int) + 1) = ((p + 1 : Nat) : Int) := by rw [wrap_i64 (by omega) (by omega)]; omega
    have hl : IntKind.wrap IntKind.i64 ((l : Int) + 1) = ((l + 1 : Nat) : Int) := by rw [wrap_i64 (by omega) (by omega)]; omega
    have hc1 : (ktI s p [] == (orF l1 l2 s p n 0 false && (s != c))) = true := (Bool.and_eq_true _ _ ▸ hc : _ ∧ _).1
    have hc2 : ck4 l1 l2 n c s [] j (p + 1) = true := (Bool.and_eq_true _ _ ▸ hc : _ ∧ _).2
    clear hc
    have ih' := ih (p + 1) (l + (if ktI s p [] = true then 1 else 0)) (by omega) (by split <;> omega) hc2
    rw [show l + (if ktI s p [] = true then 1 else 0) + cn4 s [] j (p + 1) = l + cn4 s [] (j + 1) p from by unfold cn4; rw [cntR]; omega] at ih'
    clear ih
    rw [iterR]
    refine (t_f4N ktV ktW ktA ktI orF u1 u2 c n q l s p l1 l2 _).trans ?_
    rw [decide_eq_true (show (p : Int) < 256 by omega), cT, decide_eq_true hu1, decide_eq_true hu2, decide_eq_true (show (0 : Int) ≤ (n : Int) by omega), decide_eq_true (show (n : Int) ≤ 8 by omega), Int.toNat_natCast, decide_eq_true h1, decide_eq_true h2]
    repeat rw [Bool.and_self]
    rw [cT, hw]
    · skip
      cases eo : orF l1 l2 s p n 0 false with
      | true =>
        rw [cT]
        rw [eo, ktI_nil] at hc1
        rw [beq_iff_eq] at hc1
        rw [show (false == (s != c)) = true from by rw [beq_iff_eq]; exact hc1, Bool.not_true, cF]
        rw [cn4_nil, Nat.add_zero] at ih' ⊢
        exact ih'
      | false =>
        rw [cF]
        rw [cn4_nil, Nat.add_zero] at ih' ⊢
        exact ih'
def cF4N (CK : List Int → List Int → Int → Int → Int → List Ro → Bool) (CN : Int → List Ro → Nat) : HeadO := fun vs h K => match vs, h with
  | [.e (.c (.slice ⟨0, 0, 1, 0, 0, 0, 0⟩ 1 u1 0 false)), .e (.c (.slice ⟨1, 0, 1, 0, 0, 0, 0⟩ 1 u2 0 false)), .e (.c (.int .i64 c)), .e (.c (.ptr ⟨2, 0, 0, 0, 0, 0, 0⟩)), .e (.c (.int .i64 n)), .e (.c (.int .i64 q)), .e (.c (.int .i64 l)), .e (.c (.int .i64 s)), .e (.c (.int .i64 p))], [(false, some ⟨true, .rows [.ints .i64 l1]⟩), (false, some ⟨true, .rows [.ints .i64 l2]⟩), (true, some ⟨false, .mix [.nils]⟩)] =>
    match decide (p = 0) && decide (u1 = l1.length) && decide (u2 = l2.length) && decide (0 ≤ n) && decide (n ≤ 8) && decide (n.toNat ≤ l1.length) && decide (n.toNat ≤ l2.length) && decide (0 ≤ l) && decide (l ≤ 4096) && CK l1 l2 n c s [] with
    | true => K (.exit 4) [vS0 u1, vS1 u2, aint .i64 c, vPt 2, aint .i64 n, aint .i64 q, aint .i64 (l.toNat + CN s [] : Nat), aint .i64 s] [bR1 l1, bR1 l2, bT0]
    | false => none
  | _, _ => none
theorem cF4N_ok (vs : List AV) (h : Heap) (K : HeadK) (r : Res) (ee : cF4N ckF cnF vs h K = some r) : ∃ n, iterR Try.prog (sFg ktV ktW ktA ktI) (lF6 orF) iF4 60 (loopOf Try.prog 4 4) n vs h K = some r := by
  unfold cF4N at ee
  split at ee
  · rename_i u1 u2 c n q l s p l1 l2
    split at ee
    · rename_i hc
      simp only [Bool.and_eq_true, decide_eq_true_eq] at hc
      obtain ⟨⟨⟨⟨⟨⟨⟨⟨⟨rfl, c1⟩, c2⟩, c3⟩, c4⟩, c5⟩, c6⟩, c7⟩, c8⟩, c9⟩ := hc
      obtain ⟨n, rfl⟩ : ∃ k : Nat, n = (k : Int) := ⟨n.toNat, by omega⟩
      obtain ⟨l, rfl⟩ : ∃ k : Nat, l = (k : Int) := ⟨l.toNat, by omega⟩
      rw [Int.toNat_natCast] at c5 c6 ee
      exact ⟨256 + 1, (loopF4N u1 u2 n c q s l1 l2 c5 c6 c1 c2 (by omega) K 0 256 rfl 256 0 l (by omega) (by omega) c9).trans ee⟩
    · cases ee
  · cases ee
set_option maxHeartbeats 2000000 in
theorem loopF4S (u1 u2 n : Nat) (c q s : Int) (l1 l2 : List Int) (L : List Ro) (e : Nat) (hL : L.length + e < 4611686018427387904) (h1 : n ≤ l1.length) (h2 : n ≤ l2.length) (hu1 : u1 = l1.length) (hu2 : u2 = l2.length) (h8 : n ≤ 8) (K : HeadK) (k p0 : Nat) (hk : k + p0 = 256) (j : Nat) : ∀ (p l : Nat), p + j = 256 → l ≤ 4096 + p → ck4 l1 l2 n c s L j p = true →
    iterR Try.prog (sFg ktV ktW ktA ktI) (lF6 orF) iF4 60 (loopOf Try.prog 4 4) (j + 1) [vS0 u1, vS1 u2, aint .i64 c, vPt 2, aint .i64 n, aint .i64 q, aint .i64 l, aint .i64 s, aint .i64 p] [bR1 l1, bR1 l2, bT 3 L.length e, bC5 (cS L e) (cP L e) (cV L e) (cW L e) (cA L e)] K = K (.exit 4) [vS0 u1, vS1 u2, aint .i64 c, vPt 2, aint .i64 n, aint .i64 q, aint .i64 (l + cn4 s L j p : Nat), aint .i64 s] [bR1 l1, bR1 l2, bT 3 L.length e, bC5 (cS L e) (cP L e) (cV L e) (cW L e) (cA L e)] := by
  induction j with
  | zero =>
    intro p l hp hl hc
    rw [iterR]
    refine (t_f4S ktV ktW ktA ktI orF u1 u2 L.length e c n q l s p l1 l2 _ _ _ _ _ _).trans ?_
    rw [decide_eq_false (show ¬ (p : Int) < 256 by omega), cF]; rfl
  | succ j ih =>
    intro p l hp hlp hc
    have hw : IntKind.wrap IntKind.i64 ((p : Int) + 1) = ((p + 1 : Nat) : Int) := by rw [wrap_i64 (by omega) (by omega)]; omega
    have hl : IntKind.wrap IntKind.i64 ((l : Int) + 1) = ((l + 1 : Nat) : Int) := by rw [wrap_i64 (by omega) (by omega)]; omega
    have hc1 : (ktI s p L == (orF l1 l2 s p n 0 false && (s != c))) = true := (Bool.and_eq_true _ _ ▸ hc : _ ∧ _).1
    have hc2 : ck4 l1 l2 n c s L j (p + 1) = true := (Bool.and_eq_true _ _ ▸ hc : _ ∧ _).2
    clear hc
    have ih' := ih (p + 1) (l + (if ktI s p L = true then 1 else 0)) (by omega) (by split <;> omega) hc2
    rw [show l + (if ktI s p L = true then 1 else 0) + cn4 s L j (p + 1) = l + cn4 s L (j + 1) p from by unfold cn4; rw [cntR]; omega] at ih'
    clear ih
    rw [iterR]
    refine (t_f4S ktV ktW ktA ktI orF u1 u2 L.length e c n q l s p l1 l2 _ _ _ _ _ _).trans ?_
    rw [decide_eq_true (show (p : Int) < 256 by omega), cT, okK_self L e hL, cT, decide_eq_true hu1, decide_eq_true hu2, decide_eq_true (show (0 : Int) ≤ (n : Int) by omega), decide_eq_true (show (n : Int) ≤ 8 by omega), Int.toNat_natCast, decide_eq_true h1, decide_eq_true h2]
    repeat rw [Bool.and_self]
    rw [cT, hw, rowsN_cols]
    · skip
      cases eo : orF l1 l2 s p n 0 false with
      | true =>
        rw [cT]
        rw [eo, Bool.true_and] at hc1
        rw [hc1, Bool.not_true, cF]
        cases ek : ktI s p L with
        | true =>
          rw [cT, hl]
          rw [ek, if_pos rfl] at ih'
          exact ih'
        | false =>
          rw [cF]
          rw [ek, if_neg Bool.false_ne_true, Nat.add_zero] at ih'
          exact ih'
      | false =>
        rw [eo, Bool.false_and, beq_iff_eq] at hc1
        rw [cF, hc1, show (!(false == false)) = false from rfl, cF, cF]
        rw [hc1, if_neg Bool.false_ne_true, Nat.add_zero] at ih'
        exact ih'
def cF4S (CK : List Int → List Int → Int → Int → Int → List Ro → Bool) (CN : Int → List Ro → Nat) : HeadO := fun vs h K => match vs, h with
  | [.e (.c (.slice ⟨0, 0, 1, 0, 0, 0, 0⟩ 1 u1 0 false)), .e (.c (.slice ⟨1, 0, 1, 0, 0, 0, 0⟩ 1 u2 0 false)), .e (.c (.int .i64 c)), .e (.c (.ptr ⟨2, 0, 0, 0, 0, 0, 0⟩)), .e (.c (.int .i64 n)), .e (.c (.int .i64 q)), .e (.c (.int .i64 l)), .e (.c (.int .i64 s)), .e (.c (.int .i64 p))], [(false, some ⟨true, .rows [.ints .i64 l1]⟩), (false, some ⟨true, .rows [.ints .i64 l2]⟩), (true, some ⟨false, .mix [.slice ⟨3, 0, 5, 0, 0, 0, 0⟩ 5 m e false]⟩), (true, some ⟨false, .rows [.ints .i64 ks, .ints .i64 kp, .bools kv, .bools kw, .ints .i64 ka]⟩)] =>
    match decide (p = 0) && decide (u1 = l1.length) && decide (u2 = l2.length) && decide (0 ≤ n) && decide (n ≤ 8) && decide (n.toNat ≤ l1.length) && decide (n.toNat ≤ l2.length) && decide (0 ≤ l) && decide (l ≤ 4096) && CK l1 l2 n c s (rowsN m ks kp kv kw ka) && okK m e ks kp kv kw ka with
    | true => K (.exit 4) [vS0 u1, vS1 u2, aint .i64 c, vPt 2, aint .i64 n, aint .i64 q, aint .i64 (l.toNat + CN s (rowsN m ks kp kv kw ka) : Nat), aint .i64 s] [bR1 l1, bR1 l2, bT 3 m e, bC5 ks kp kv kw ka]
    | false => none
  | _, _ => none
theorem cF4S_ok (vs : List AV) (h : Heap) (K : HeadK) (r : Res) (ee : cF4S ckF cnF vs h K = some r) : ∃ n, iterR Try.prog (sFg ktV ktW ktA ktI) (lF6 orF) iF4 60 (loopOf Try.prog 4 4) n vs h K = some r := by
  unfold cF4S at ee
  split at ee
  · rename_i u1 u2 c n q l s p l1 l2 m e ks kp kv kw ka
    split at ee
    · rename_i hc
      simp only [Bool.and_eq_true, decide_eq_true_eq] at hc
      obtain ⟨⟨⟨⟨⟨⟨⟨⟨⟨⟨rfl, c1⟩, c2⟩, c3⟩, c4⟩, c5⟩, c6⟩, c7⟩, c8⟩, c9⟩, c10⟩ := hc
      obtain ⟨n, rfl⟩ : ∃ k : Nat, n = (k : Int) := ⟨n.toNat, by omega⟩
      obtain ⟨l, rfl⟩ : ∃ k : Nat, l = (k : Int) := ⟨l.toNat, by omega⟩
      obtain ⟨L, hL, rfl, rfl, rfl, rfl, rfl, hb, hr⟩ := okK_spec c10
      subst hL
      rw [rowsN_cols] at c9 ee
      rw [Int.toNat_natCast] at c5 c6 ee
      exact ⟨256 + 1, (loopF4S u1 u2 n c q s l1 l2 L e hb c5 c6 c1 c2 (by omega) K 0 256 rfl 256 0 l (by omega) (by omega) c9).trans ee⟩
    · cases ee
  · cases ee
def cF4 (CK : List Int → List Int → Int → Int → Int → List Ro → Bool) (CN : Int → List Ro → Nat) : HeadO := fun vs h K => match h with
  | [_, _, _] => cF4N CK CN vs h K
  | _ => cF4S CK CN vs h K
theorem sFg_ok : SummOk Try.prog (sFg ktV ktW ktA ktI) := sAdd_ok sNil_ok gGetT_sound (enters Try.func11 rfl (by kernel_rfl))
theorem cF4_sound : HeadSound Try.prog iF4 (loopOf Try.prog 4 4) (cF4 ckF cnF) := by
  refine HeadSound.short (iterR_sound (F := 60) sFg_ok mix lF6_in) fun vs h K r ee => ?_
  unfold cF4 at ee
  split at ee
  · exact cF4N_ok _ _ _ _ ee
  · exact cF4S_ok _ _ _ _ ee
abbrev CK4 := List Int → List Int → Int → Int → Int → List Ro → Bool
abbrev CN4 := Int → List Ro → Nat
noncomputable def lF4 (CK : CK4) (CN : CN4) : Nat → Option Orc := lAdd lNil 4 (wrapO iF4 4 (cF4 CK CN))
theorem lF4_for : LFor 2 Try.prog 4 (lF4 ckF cnF) := lAdd_for (I := iF4) lNil_for (by kernel_rfl) cF4_sound
theorem lF4_in : LOk 2 Try.prog (lF4 ckF cnF) (loopOf Try.prog 4 2) := lF4_for.inner f_dis (by kernel_rfl)
theorem t_f2N (CK : CK4) (CN : CN4) (u1 u2 : Nat) (c n q l s : Int) (l1 l2 : List Int) (K : HeadK) : bodyR Try.prog sNil (lF4 CK CN) iF2 60 (loopOf Try.prog 4 2) [vS0 u1, vS1 u2, aint .i64 c, vPt 2, aint .i64 n, aint .i64 q, aint .i64 l, aint .i64 s] [bR1 l1, bR1 l2, bT0] K = (cond (decide (s < 4)) (cond (true && decide (u1 = List.length l1) && decide (u2 = List.length l2) && decide (0 ≤ n) && decide (n ≤ 8) && decide (Int.toNat n ≤ List.length l1) && decide (Int.toNat n ≤ List.length l2) && decide (0 ≤ l) && decide (l ≤ 4096) && CK l1 l2 n c s []) (K (Ex.normal) [(AV.e (AE.c (AC.slice (Loc.mk 0 0 1 0 0 0 0) 1 (u1) 0 false))), (AV.e (AE.c (AC.slice (Loc.mk 1 0 1 0 0 0 0) 1 (u2) 0 false))), (AV.e (AE.c (AC.int (IntKind.i64) (c)))), (AV.e (AE.c (AC.ptr (Loc.mk 2 0 0 0 0 0 0)))), (AV.e (AE.c (AC.int (IntKind.i64) (n)))), (AV.e (AE.c (AC.int (IntKind.i64) (q)))), (AV.e (AE.c (AC.int (IntKind.i64) ((↑(Int.toNat l + CN s []) : Int))))), (AV.e (AE.c (AC.int (IntKind.i64) (IntKind.wrap IntKind.i64 (s + 1)))))] [(Prod.mk false (some (Block.mk true (Data.rows [(Col.ints (IntKind.i64) (l1))])))), (Prod.mk false (some (Block.mk true (Data.rows [(Col.ints (IntKind.i64) (l2))])))), (Prod.mk true (some (Block.mk false (Data.mix [(AC.nils)]))))]) none) (K (Ex.exit 2) [(AV.e (AE.c (AC.ptr (Loc.mk 2 0 0 0 0 0 0)))), (AV.e (AE.c (AC.int (IntKind.i64) (q)))), (AV.e (AE.c (AC.int (IntKind.i64) (l))))] [(Prod.mk false (some (Block.mk true (Data.rows [(Col.ints (IntKind.i64) (l1))])))), (Prod.mk false (some (Block.mk true (Data.rows [(Col.ints (IntKind.i64) (l2))])))), (Prod.mk true (some (Block.mk false (Data.mix [(AC.nils)]))))])) := by kernel_rfl
theorem t_f2S (CK : CK4) (CN : CN4) (u1 u2 m e : Nat) (c n q l s : Int) (l1 l2 : List Int) (ks kp : List Int) (kv kw : List Bool) (ka : List Int) (K : HeadK) : bodyR Try.prog sNil (lF4 CK CN) iF2 60 (loopOf Try.prog 4 2) [vS0 u1, vS1 u2, aint .i64 c, vPt 2, aint .i64 n, aint .i64 q, aint .i64 l, aint .i64 s] [bR1 l1, bR1 l2, bT 3 m e, bC5 ks kp kv kw ka] K = (cond (decide (s < 4)) (cond (true && decide (u1 = List.length l1) && decide (u2 = List.length l2) && decide (0 ≤ n) && decide (n ≤ 8) && decide (Int.toNat n ≤ List.length l1) && decide (Int.toNat n ≤ List.length l2) && decide (0 ≤ l) && decide (l ≤ 4096) && CK l1 l2 n c s (Go.Proofs.Ytnloobnpgkpbhaa.Wlk.rowsN m ks kp kv kw ka) && Go.Proofs.Ytnloobnpgkpbhaa.Wlk.okK m e ks kp kv kw ka) (K (Ex.normal) [(AV.e (AE.c (AC.slice (Loc.mk 0 0 1 0 0 0 0) 1 (u1) 0 false))), (AV.e (AE.c (AC.slice (Loc.mk 1 0 1 0 0 0 0) 1 (u2) 0 false))), (AV.e (AE.c (AC.int (IntKind.i64) (c)))), (AV.e (AE.c (AC.ptr (Loc.mk 2 0 0 0 0 0 0)))), (AV.e (AE.c (AC.int (IntKind.i64) (n)))), (AV.e (AE.c (AC.int (IntKind.i64) (q)))), (AV.e (AE.c (AC.int (IntKind.i64) ((↑(Int.toNat l + CN s (Go.Proofs.Ytnloobnpgkpbhaa.Wlk.rowsN m ks kp kv kw ka)) : Int))))), (AV.e (AE.c (AC.int (IntKind.i64) (IntKind.wrap IntKind.i64 (s + 1)))))] [(Prod.mk false (some (Block.mk true (Data.rows [(Col.ints (IntKind.i64) (l1))])))), (Prod.mk false (some (Block.mk true (Data.rows [(Col.ints (IntKind.i64) (l2))])))), (Prod.mk true (some (Block.mk false (Data.mix [(AC.slice (Loc.mk 3 0 5 0 0 0 0) 5 (m) (e) false)])))), (Prod.mk true (some (Block.mk false (Data.rows [(Col.ints (IntKind.i64) (ks)), (Col.ints (IntKind.i64) (kp)), (Col.bools (kv)), (Col.bools (kw)), (Col.ints (IntKind.i64) (ka))]))))]) none) (K (Ex.exit 2) [(AV.e (AE.c (AC.ptr (Loc.mk 2 0 0 0 0 0 0)))), (AV.e (AE.c (AC.int (IntKind.i64) (q)))), (AV.e (AE.c (AC.int (IntKind.i64) (l))))] [(Prod.mk false (some (Block.mk true (Data.rows [(Col.ints (IntKind.i64) (l1))])))), (Prod.mk false (some (Block.mk true (Data.rows [(Col.ints (IntKind.i64) (l2))])))), (Prod.mk true (some (Block.mk false (Data.mix [(AC.slice (Loc.mk 3 0 5 0 0 0 0) 5 (m) (e) false)])))), (Prod.mk true (some (Block.mk false (Data.rows [(Col.ints (IntKind.i64) (ks)), (Col.ints (IntKind.i64) (kp)), (Col.bools (kv)), (Col.bools (kw)), (Col.ints (IntKind.i64) (ka))]))))])) := by kernel_rfl
end Go.Proofs.Ytnloobnpgkpbhaa.Wlk
