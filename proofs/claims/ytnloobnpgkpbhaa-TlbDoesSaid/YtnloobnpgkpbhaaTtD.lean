/- What is kept agrees: told in short. -/
import Derived.Test.YtnloobnpgkpbhaaTtC
set_option linter.unusedVariables false
set_option linter.unusedSimpArgs false
set_option maxRecDepth 100000
namespace Go.Proofs.Ytnloobnpgkpbhaa.Wlk
open Go Go.Eng Go.Proofs Go.RowKit
def w16 (p : Int) : Int := IntKind.wrap IntKind.i64 (p * 16)
def agR (ws : List Int) (sp d : Int) (r : Ro) : Bool := if r.s = sp then (if pgE ws d (w16 r.p) = 0 then pgV ws d (w16 r.p) == r.v && (pgW ws d (w16 r.p) == r.w && (pgA ws d (w16 r.p) == r.a && true)) else false) else true
def agL (ws : List Int) (sp d : Int) (L : List Ro) : Bool := L.all (agR ws sp d)
abbrev agV (n e : Nat) (sp d i : Int) : List AV := [vPt 1, aint .i64 sp, aint .i64 d, agS n e, aint .i64 n, aint .i64 i]
abbrev agH (n e m c : Nat) (s p : List Int) (v w : List Bool) (q : List Int) (ws : List Int) : Heap := [bO (some ⟨false, .mix [.slice ⟨2, 0, 5, 0, 0, 0, 0⟩ 5 n e false]⟩), bO (some ⟨false, .mix [.slice ⟨3, 0, 1, 0, 0, 0, 0⟩ 1 m c true]⟩), bO (kB s p v w q), bO (some ⟨false, .rows [.ints .u64 ws]⟩)]
theorem w16_in (p : Int) : inI (w16 p) = true := by
  unfold w16
  rw [wrap_i64_eq]
  split <;> exact inI_of (by omega) (by omega)
set_option maxHeartbeats 2000000 in
theorem loopAg (e m c : Nat) (sp d : Int) (L : List Ro) (ws : List Int) (hL : L.length + e < 4611686018427387904) (hg : (okM m ws && inI d && allW ws) = true) (K : HeadK) (j : Nat) : ∀ i : Nat, i + j = L.length →
    iterR Try.prog (sAgP pgV pgW pgA pgE) lNil iAg 60 (loopOf Try.prog 26 0) (j + 1) (agV L.length e sp d i) (agH L.length e m c (cS L e) (cP L e) (cV L e) (cW L e) (cA L e) ws) K =
      cond (agL ws sp d (L.drop i)) (K (.exit 0) [] (agH L.length e m c (cS L e) (cP L e) (cV L e) (cW L e) (cA L e) ws)) (K .ret [wr_ false] (agH L.length e m c (cS L e) (cP L e) (cV L e) (cW L e) (cA L e) ws)) := by
  induction j with
  | zero =>
    intro i hi
    rw [iterR, List.drop_of_length_le (by omega), show agL ws sp d [] = true from rfl, cT]
    refine (t_ag pgV pgW pgA pgE L.length e m c sp d i _ _ _ _ _ ws _).trans ?_
    rw [decide_eq_false (show ¬ (i : Int) < (L.length : Int) by omega), cF] <;> rfl
  | succ j ih =>
    intro i hi
    have hil : i < L.length := by omega
    have ih' := ih (i + 1) (by omega)
    clear ih
    have hw : IntKind.wrap IntKind.i64 ((i : Int) + 1) = ((i + 1 : Nat) : Int) := by rw [wrap_i64 (by omega) (by omega)]; omega
    simp only [Bool.and_eq_true] at hg
    have ha : agL ws sp d (L.drop i) = (agR ws sp d L[i] && agL ws sp d (L.drop (i + 1))) := by
      rw [List.drop_eq_getElem_cons hil]; rfl
    rw [iterR, ha]
    refine (t_ag pgV pgW pgA pgE L.length e m c sp d i _ _ _ _ _ ws _).trans ?_
    rw [decide_eq_true (show (i : Int) < (L.length : Int) by omega), cT, decide_eq_true (show (0 : Int) ≤ (i : Int) by omega), Bool.and_self, cT, Int.toNat_natCast, Nat.zero_add, cS_len, cP_len, cV_len, cW_len, cA_len, decide_eq_true (show i < L.length + e by omega)]
    repeat rw [Bool.and_self]
    rw [cT, show (cS L e).getD i 0 = L[i].s from col_getD Ro.s 0 L e i hil, show (cP L e).getD i 0 = L[i].p from col_getD Ro.p 0 L e i hil, show (cV L e).getD i false = L[i].v from col_getD Ro.v false L e i hil, show (cW L e).getD i false = L[i].w from col_getD Ro.w false L e i hil, show (cA L e).getD i 0 = L[i].a from col_getD Ro.a 0 L e i hil, hw, show IntKind.wrap IntKind.i64 (L[i].p * 16) = w16 L[i].p from rfl, w16_in, hg.1.1, hg.1.2, hg.2]
    unfold agR
    by_cases c1 : L[i].s = sp
    · rw [if_pos c1, show (L[i].s != sp) = false from by simp [c1], cF]
      repeat rw [Bool.and_self]
      rw [cT]
      by_cases c2 : pgE ws d (w16 L[i].p) = 0
      · rw [if_pos c2, bne_false c2, cF]
        cases c3 : (pgV ws d (w16 L[i].p) == L[i].v && (pgW ws d (w16 L[i].p) == L[i].w && (pgA ws d (w16 L[i].p) == L[i].a && true))) with
        | true =>
          rw [Bool.true_and, Bool.not_true, cF]
          exact ih'
        | false =>
          rw [Bool.false_and, Bool.not_false, cT, cF] <;> rfl
      · rw [if_neg c2, show (pgE ws d (w16 L[i].p) != 0) = true from by simp [c2], cT, Bool.false_and, cF] <;> rfl
    · rw [if_neg c1, Bool.true_and, show (L[i].s != sp) = true from by simp [c1], cT]
      exact ih'
def cAg (AG : List Int → Int → Int → List Ro → Bool) : HeadO := fun vs h K => match vs, h with
  | [.e (.c (.ptr ⟨1, 0, 0, 0, 0, 0, 0⟩)), .e (.c (.int .i64 sp)), .e (.c (.int .i64 d)), .e (.c (.slice ⟨2, 0, 5, 0, 0, 0, 0⟩ 5 n e false)), .e (.c (.int .i64 n')), .e (.c (.int .i64 i))], [(false, some ⟨false, .mix [.slice ⟨2, 0, 5, 0, 0, 0, 0⟩ 5 n1 e1 false]⟩), (false, some ⟨false, .mix [.slice ⟨3, 0, 1, 0, 0, 0, 0⟩ 1 m c true]⟩), (false, some ⟨false, .rows [.ints .i64 s, .ints .i64 p, .bools v, .bools w, .ints .i64 q]⟩), (false, some ⟨false, .rows [.ints .u64 ws]⟩)] =>
    match okK n e s p v w q && decide (n' = (n : Int)) && decide (i = 0) && decide (n1 = n) && decide (e1 = e) && (okM m ws && inI d && allW ws) with
    | true => match AG ws sp d (rowsN n s p v w q) with
      | true => K (.exit 0) [] (agH n e m c s p v w q ws)
      | false => K .ret [wr_ false] (agH n e m c s p v w q ws)
    | false => none
  | _, _ => none
theorem cAg_sound : HeadSound Try.prog iAg (loopOf Try.prog 26 0) (cAg agL) := by
  refine HeadSound.short (iterR_sound (F := 60) sAgP_ok mix lNil_ok) fun vs h K r ee => ?_
  unfold cAg at ee
  split at ee
  · rename_i sp d n e n' i n1 e1 m c s p v w q ws
    split at ee
    · rename_i hc
      rw [Bool.and_eq_true, Bool.and_eq_true, Bool.and_eq_true, Bool.and_eq_true, Bool.and_eq_true] at hc
      obtain ⟨⟨⟨⟨⟨h1, h2⟩, h3⟩, h4⟩, h5⟩, h6⟩ := hc
      obtain ⟨L, hL, rfl, rfl, rfl, rfl, rfl, hb, hr⟩ := okK_spec h1
      subst hL
      have h2 := of_decide_eq_true h2
      have h3 := of_decide_eq_true h3
      have h4 := of_decide_eq_true h4
      have h5 := of_decide_eq_true h5
      subst h2 h3 h4 h5
      rw [rowsN_cols] at ee
      refine ⟨L.length + 1, (loopAg e1 m c sp d L ws hb h6 K L.length 0 (by omega)).trans ?_⟩
      rw [List.drop_zero]
      cases ca : agL ws sp d L with
      | true => rw [ca] at ee; rw [cT]; exact ee
      | false => rw [ca] at ee; rw [cF]; exact ee
    · cases ee
  · cases ee
abbrev AGf := List Int → Int → Int → List Ro → Bool
noncomputable def lAg (AG : AGf) : Nat → Option Orc := lAdd lNil 0 (wrapO iAg 0 (cAg AG))
theorem lAg_for : LFor 4 Try.prog 26 (lAg agL) := lAdd_for (I := iAg) lNil_for (by kernel_rfl) cAg_sound
theorem ag_dis : Go.Eng.distinct (blockIds (codeOf Try.prog 26)) = true := by kernel_rfl
def gAgT (AG : AGf) : Fun := fun args sub κ => match args, sub with
  | [.e (.c (.ptr ⟨0, 0, 0, 0, 0, 0, 0⟩)), .e (.c (.ptr ⟨1, 0, 0, 0, 0, 0, 0⟩)), .e (.c (.int .i64 sp)), .e (.c (.int .i64 d))], [some ⟨false, .mix [.slice ⟨2, 0, 5, 0, 0, 0, 0⟩ 5 n e false]⟩, some ⟨false, .mix [.slice ⟨3, 0, 1, 0, 0, 0, 0⟩ 1 m c true]⟩, some ⟨false, .rows [.ints .i64 s, .ints .i64 p, .bools v, .bools w, .ints .i64 q]⟩, some ⟨false, .rows [.ints .u64 ws]⟩] =>
    match okK n e s p v w q && (okM m ws && inI d && allW ws) with
    | true => κ ⟨wr_ (AG ws sp d (rowsN n s p v w q)), [none, none, none, none]⟩
    | false => none
  | [.e (.c (.ptr ⟨0, 0, 0, 0, 0, 0, 0⟩)), .e (.c (.ptr ⟨1, 0, 0, 0, 0, 0, 0⟩)), .e (.c (.int .i64 sp)), .e (.c (.int .i64 d))], [some ⟨false, .mix [.nils]⟩, some ⟨false, .mix [.slice ⟨2, 0, 1, 0, 0, 0, 0⟩ 1 m c true]⟩, some ⟨false, .rows [.ints .u64 ws]⟩] => κ ⟨wr_ true, [none, none, none]⟩
  | _, _ => none
theorem t_agS (AG : AGf) (n e m c : Nat) (sp d : Int) (s p : List Int) (v w : List Bool) (q : List Int) (ws : List Int) (K : Res → Option Res) : runLG Try.prog (sAgP pgV pgW pgA pgE) (lAg AG) 4 100 26 [tP, vPt 1, aint .i64 sp, aint .i64 d] [some ⟨false, .mix [.slice ⟨2, 0, 5, 0, 0, 0, 0⟩ 5 n e false]⟩, some ⟨false, .mix [.slice ⟨3, 0, 1, 0, 0, 0, 0⟩ 1 m c true]⟩, kB s p v w q, some ⟨false, .rows [.ints .u64 ws]⟩] K = (cond (Go.Proofs.Ytnloobnpgkpbhaa.Wlk.okK n e s p v w q && decide ((↑n : Int) = (↑n : Int)) && true && decide (n = n) && decide (e = e) && (Go.Proofs.Ytnloobnpgkpbhaa.Wlk.okM m ws && inI d && Go.Proofs.Ytnloobnpgkpbhaa.Wlk.allW ws)) (cond (AG ws sp d (Go.Proofs.Ytnloobnpgkpbhaa.Wlk.rowsN n s p v w q)) (K (Res.mk (AV.e (AE.c (AC.bool true))) [(none), (none), (none), (none)])) (K (Res.mk (AV.e (AE.c (AC.bool false))) [(none), (none), (none), (none)]))) none) := by kernel_rfl
theorem t_agN (m c : Nat) (sp d : Int) (ws : List Int) (K : Res → Option Res) : runG Try.prog (sAgP pgV pgW pgA pgE) 100 26 [tP, vPt 1, aint .i64 sp, aint .i64 d] [some ⟨false, .mix [.nils]⟩, some ⟨false, .mix [.slice ⟨2, 0, 1, 0, 0, 0, 0⟩ 1 m c true]⟩, some ⟨false, .rows [.ints .u64 ws]⟩] K = (K (Res.mk (AV.e (AE.c (AC.bool true))) [(none), (none), (none)])) := by kernel_rfl
set_option maxHeartbeats 2000000 in
theorem gAgT_sound : FunSound Try.prog 26 (gAgT agL) := by
  intro args sub κ r h
  unfold gAgT at h
  split at h
  · rename_i sp d n e m c s p v w q ws
    split at h
    · rename_i hc
      rw [Bool.and_eq_true] at hc
      refine (runL_sound sAgP_ok mix 100 26 ag_dis lAg_for).gc _ _ κ r ((t_agS agL n e m c sp d s p v w q ws κ).trans ?_)
      rw [hc.1, hc.2]
      simp only [decide_true, Bool.and_self]
      rw [cT]
      cases ca : agL ws sp d (rowsN n s p v w q) with
      | true => rw [ca] at h; rw [cT]; exact h
      | false => rw [ca] at h; rw [cF]; exact h
    · cases h
  · rename_i sp d m c ws
    exact runG_sound sAgP_ok mix 100 26 _ _ κ r ((t_agN m c sp d ws κ).trans h)
  · cases h
end Go.Proofs.Ytnloobnpgkpbhaa.Wlk
