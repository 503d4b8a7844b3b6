/- The law that a table taken out hides what it holds: its loop. -/
import Derived.Test.YtmpmnjekcajlgaaSpX
set_option linter.unusedVariables false
set_option linter.unusedSimpArgs false
set_option maxRecDepth 100000
namespace Go.Proofs.Ytmpmnjekcajlgaa.Wlk
open Go Go.Eng Go.Proofs Go.RowKit
noncomputable def sHd (Z : Int → List Int) (TE : EF3) (TM : List Int → Int → Int → Int → List Int) (UE : EF2) (UM : List Int → Int → Int → List Int) (ME : EF3) (MM : List Int → Int → Int → Int → Bool → List Int) (NE : EF2) (NM : List Int → Int → Int → List Int) (EM : XB) (LN : XN) (CP CA : XL) (CB : XM) : Summ :=
  sAdd (sAdd (sAdd (sAdd (sAdd (sAdd (sAdd (sAdd (sAdd sNil 8 gWorks) 9 (gNewV Z)) 10 (gTableV TE TM)) 16 (gUntableV UE UM)) 11 (gMapV ME MM)) 14 (gUnmapV NE NM)) 12 (gListV EM LN CP CA CB)) 13 gWords) 15 gSame
theorem sHd_ok : SummOk Try.prog (sHd newZ opTE opTW opUE opUW opME opMW opNE opNW lEM lLN lCP lCA lCB) :=
  sAdd_ok (sAdd_ok (sAdd_ok (sAdd_ok (sAdd_ok (sAdd_ok (sAdd_ok (sAdd_ok (sAdd_ok sNil_ok gWorks_sound (enters Try.func8 rfl (by kernel_rfl))) gNewV_sound (enters Try.func9 rfl (by kernel_rfl))) gTable_sound (enters Try.func10 rfl (by kernel_rfl))) gUntable_sound (enters Try.func16 rfl (by kernel_rfl))) gMap_sound (enters Try.func11 rfl (by kernel_rfl))) gUnmap_sound (enters Try.func14 rfl (by kernel_rfl))) gList_sound (enters Try.func12 rfl (by kernel_rfl))) gWords_sound (enters Try.func13 rfl (by kernel_rfl))) gSame_sound (enters Try.func15 rfl (by kernel_rfl))
noncomputable def iHd : LI := ⟨1, nT 4, [0, 1, 5, 7], [1, 5], [4]⟩
abbrev hdV (ll : Nat) (p i : Int) : List AV := [.e (.c (.slice ⟨0, 0, 5, 0, 0, 0, 0⟩ 5 ll 0 false)), .e (.c (.int .i64 p)), .e (.c (.ptr ⟨1, 0, 0, 0, 0, 0, 0⟩)), .e (.c (.int .i64 i))]
abbrev hdH (k d a t : List Int) (w : List Bool) (n x : Nat) (ws : List Int) : Heap := [(false, some ⟨true, .rows [.ints .i64 k, .ints .i64 d, .ints .i64 a, .ints .i64 t, .bools w]⟩), (true, some ⟨false, .mix [.slice ⟨2, 0, 1, 0, 0, 0, 0⟩ 1 n x true]⟩), (true, some ⟨false, .rows [.ints .u64 ws]⟩)]
theorem t_hdB (Z : Int → List Int) (TE : EF3) (TM : List Int → Int → Int → Int → List Int) (UE : EF2) (UM : List Int → Int → Int → List Int) (ME : EF3) (MM : List Int → Int → Int → Int → Bool → List Int) (NE : EF2) (NM : List Int → Int → Int → List Int) (EM : XB) (LN : XN) (CP CA : XL) (CB : XM) (p i : Int) (ll n x : Nat) (k d a t : List Int) (w : List Bool) (ws : List Int) (K : HeadK) : bodyR Try.prog (sHd Z TE TM UE UM ME MM NE NM EM LN CP CA CB) lNil iHd 80 (loopOf Try.prog 4 0) (hdV ll p i) (hdH k d a t w n x ws) K = (cond (decide (i < (↑ll : Int))) (cond (decide (i < 20)) (cond (decide (0 ≤ i) && decide (i < (↑ll : Int))) (cond (decide (0 + Int.toNat i < List.length a)) (cond (decide (0 ≤ i) && decide (i < (↑ll : Int))) (cond (decide (0 + Int.toNat i < List.length t)) (cond (decide (0 ≤ i) && decide (i < (↑ll : Int))) (cond (decide (0 + Int.toNat i < List.length w)) (cond (Go.Proofs.Ytmpmnjekcajlgaa.Wlk.okM n ws && inI 0 && inI (IntKind.wrap IntKind.i64 (IntKind.wrap IntKind.i64 (256 * p) + IntKind.wrap IntKind.i64 (Int.tmod (IntKind.wrap IntKind.u64 (List.getD a (0 + Int.toNat i) 0)) 256))) && inI (IntKind.wrap IntKind.i64 (64 + IntKind.wrap IntKind.i64 (16 * IntKind.wrap IntKind.i64 (Int.tmod (IntKind.wrap IntKind.u64 (List.getD t (0 + Int.toNat i) 0)) 20)))) && Go.Proofs.Ytmpmnjekcajlgaa.Wlk.allW ws) (K (Ex.normal) [(AV.e (AE.c (AC.slice (Loc.mk 0 0 5 0 0 0 0) 5 (ll) 0 false))), (AV.e (AE.c (AC.int (IntKind.i64) (p)))), (AV.e (AE.c (AC.ptr (Loc.mk 1 0 0 0 0 0 0)))), (AV.e (AE.c (AC.int (IntKind.i64) (IntKind.wrap IntKind.i64 (i + 1)))))] [(Prod.mk false (some (Block.mk true (Data.rows [(Col.ints (IntKind.i64) (k)), (Col.ints (IntKind.i64) (d)), (Col.ints (IntKind.i64) (a)), (Col.ints (IntKind.i64) (t)), (Col.bools (w))])))), (Prod.mk true (some (Block.mk false (Data.mix [(AC.slice (Loc.mk 2 0 1 0 0 0 0) 1 (n) (x) true)])))), (Prod.mk true (some (Block.mk false (Data.rows [(Col.ints (IntKind.u64) (MM ws 0 (IntKind.wrap IntKind.i64 (IntKind.wrap IntKind.i64 (256 * p) + IntKind.wrap IntKind.i64 (Int.tmod (IntKind.wrap IntKind.u64 (List.getD a (0 + Int.toNat i) 0)) 256))) (IntKind.wrap IntKind.i64 (64 + IntKind.wrap IntKind.i64 (16 * IntKind.wrap IntKind.i64 (Int.tmod (IntKind.wrap IntKind.u64 (List.getD t (0 + Int.toNat i) 0)) 20)))) (List.getD w (0 + Int.toNat i) false)))]))))]) none) none) none) none) none) none) none) (K (Ex.exit 0) [(AV.e (AE.c (AC.int (IntKind.i64) (p)))), (AV.e (AE.c (AC.ptr (Loc.mk 1 0 0 0 0 0 0))))] [(Prod.mk false (some (Block.mk true (Data.rows [(Col.ints (IntKind.i64) (k)), (Col.ints (IntKind.i64) (d)), (Col.ints (IntKind.i64) (a)), (Col.ints (IntKind.i64) (t)), (Col.bools (w))])))), (Prod.mk true (some (Block.mk false (Data.mix [(AC.slice (Loc.mk 2 0 1 0 0 0 0) 1 (n) (x) true)])))), (Prod.mk true (some (Block.mk false (Data.rows [(Col.ints (IntKind.u64) (ws))]))))])) (K (Ex.exit 0) [(AV.e (AE.c (AC.int (IntKind.i64) (p)))), (AV.e (AE.c (AC.ptr (Loc.mk 1 0 0 0 0 0 0))))] [(Prod.mk false (some (Block.mk true (Data.rows [(Col.ints (IntKind.i64) (k)), (Col.ints (IntKind.i64) (d)), (Col.ints (IntKind.i64) (a)), (Col.ints (IntKind.i64) (t)), (Col.bools (w))])))), (Prod.mk true (some (Block.mk false (Data.mix [(AC.slice (Loc.mk 2 0 1 0 0 0 0) 1 (n) (x) true)])))), (Prod.mk true (some (Block.mk false (Data.rows [(Col.ints (IntKind.u64) (ws))]))))])) := by kernel_rfl
def hAdr (p x : Int) : Int := IntKind.wrap IntKind.i64 (IntKind.wrap IntKind.i64 (256 * p) + IntKind.wrap IntKind.i64 (Int.tmod (IntKind.wrap IntKind.u64 x) 256))
def frm (x : Int) : Int := IntKind.wrap IntKind.i64 (64 + IntKind.wrap IntKind.i64 (16 * IntKind.wrap IntKind.i64 (Int.tmod (IntKind.wrap IntKind.u64 x) 20)))
theorem frm_facts (x : Int) : 64 ≤ frm x ∧ frm x + 16 ≤ 512 ∧ frm x % 16 = 0 := by
  unfold frm
  rw [wrap_u64_emod, Int.tmod_eq_emod_of_nonneg (by omega), wrap_i64 (n := x % 18446744073709551616 % 20) (by omega) (by omega), wrap_i64 (n := 16 * (x % 18446744073709551616 % 20)) (by omega) (by omega), wrap_i64 (by omega) (by omega)]
  omega
theorem hAdr_facts {p : Int} (h0 : 0 ≤ p) (h1 : p < 16) (x : Int) : 256 * p ≤ hAdr p x ∧ hAdr p x < 256 * p + 256 := by
  unfold hAdr
  rw [wrap_u64_emod, Int.tmod_eq_emod_of_nonneg (by omega), wrap_i64 (n := x % 18446744073709551616 % 256) (by omega) (by omega), wrap_i64 (n := 256 * p) (by omega) (by omega), wrap_i64 (by omega) (by omega)]
  omega
def hdF (p : Int) (a t : List Int) (w : List Bool) : Nat → Nat → List Int → List Int
  | 0, _, ws => ws
  | j + 1, i, ws => if i < a.length then hdF p a t w j (i + 1) (opMW ws 0 (hAdr p (a.getD i 0)) (frm (t.getD i 0)) (w.getD i false)) else ws
theorem opMW_len (ws : List Int) (d a t : Int) (w : Bool) : (opMW ws d a t w).length = ws.length := by
  have := actW_len ws 2 d a t w
  unfold actW at this
  rw [if_neg (by decide), if_neg (by decide), if_pos rfl] at this; exact this
theorem opMW_all {ws : List Int} (h : allW ws = true) (d a t : Int) (w : Bool) : allW (opMW ws d a t w) = true := by
  have := actW_all h 2 d a t w
  unfold actW at this
  rw [if_neg (by decide), if_neg (by decide), if_pos rfl] at this; exact this
theorem loopHd (p : Int) (h0 : 0 ≤ p) (h1 : p < 16) (x : Nat) (k d a t : List Int) (w : List Bool) (lt : t.length = a.length) (lw : w.length = a.length) (K : HeadK) : ∀ (j i : Nat) (ws : List Int), i + j = 20 → ws.length ≤ 65536 → allW ws = true →
    iterR Try.prog (sHd newZ opTE opTW opUE opUW opME opMW opNE opNW lEM lLN lCP lCA lCB) lNil iHd 80 (loopOf Try.prog 4 0) (j + 1) (hdV a.length p i) (hdH k d a t w ws.length x ws) K =
      K (.exit 0) [.e (.c (.int .i64 p)), .e (.c (.ptr ⟨1, 0, 0, 0, 0, 0, 0⟩))] (hdH k d a t w ws.length x (hdF p a t w j i ws))
  | 0, i, ws, hi, hl, hw => by
    rw [iterR]
    refine (t_hdB newZ opTE opTW opUE opUW opME opMW opNE opNW lEM lLN lCP lCA lCB p i a.length ws.length x k d a t w ws _).trans ?_
    rw [decide_eq_false (show ¬ (i : Int) < 20 by omega), cF]
    cases decide ((i : Int) < (a.length : Int))
    · rw [cF]; rfl
    · rw [cT]; rfl
  | j + 1, i, ws, hi, hl, hw => by
    rw [iterR]
    refine (t_hdB newZ opTE opTW opUE opUW opME opMW opNE opNW lEM lLN lCP lCA lCB p i a.length ws.length x k d a t w ws _).trans ?_
    rw [decide_eq_true (show (i : Int) < 20 by omega), cT]
    by_cases c1 : i < a.length
    rotate_left
    · rw [decide_eq_false (show ¬ (i : Int) < (a.length : Int) by omega), cF]
      simp only [hdF, c1, if_false]
    have q : hdF p a t w (j + 1) i ws = hdF p a t w j (i + 1) (opMW ws 0 (hAdr p (a.getD i 0)) (frm (t.getD i 0)) (w.getD i false)) := by simp only [hdF, c1, if_true]
    rw [q]
    have f1 : okM ws.length ws = true := by simp [okM, hl]
    obtain ⟨g1, g2⟩ := hAdr_facts h0 h1 (a.getD i 0)
    obtain ⟨g3, g4, _⟩ := frm_facts (t.getD i 0)
    have fa : inI (hAdr p (a.getD i 0)) = true := inI_of (by omega) (by omega)
    have ft : inI (frm (t.getD i 0)) = true := inI_of (by omega) (by omega)
    have ih := loopHd p h0 h1 x k d a t w lt lw K j (i + 1) (opMW ws 0 (hAdr p (a.getD i 0)) (frm (t.getD i 0)) (w.getD i false)) (by omega) (by rw [opMW_len]; exact hl) (opMW_all hw _ _ _ _)
    simp only [opMW_len] at ih
    rw [decide_eq_true (show (i : Int) < (a.length : Int) by omega), cT, decide_eq_true (show (0 : Int) ≤ i by omega), Bool.and_self, Int.toNat_natCast, Nat.zero_add, lt, lw, decide_eq_true c1, cT, cT, cT, cT, cT, cT, f1, hw, show inI 0 = true from rfl,
      show inI (IntKind.wrap IntKind.i64 (IntKind.wrap IntKind.i64 (256 * p) + IntKind.wrap IntKind.i64 (Int.tmod (IntKind.wrap IntKind.u64 (List.getD a i 0)) 256))) = true from fa,
      show inI (IntKind.wrap IntKind.i64 (64 + IntKind.wrap IntKind.i64 (16 * IntKind.wrap IntKind.i64 (Int.tmod (IntKind.wrap IntKind.u64 (List.getD t i 0)) 20)))) = true from ft, Bool.and_self, Bool.and_self, Bool.and_self, Bool.and_self, cT,
      wrap_i64 (n := (i : Int) + 1) (by omega) (by omega), show (i : Int) + 1 = ((i + 1 : Nat) : Int) from by omega]
    exact ih
def cHd (F : Int → List Int → List Int → List Bool → Nat → Nat → List Int → List Int) : HeadO := fun vs h K => match vs, h with
  | [.e (.c (.slice ⟨0, 0, 5, 0, 0, 0, 0⟩ 5 ll 0 false)), .e (.c (.int .i64 p)), .e (.c (.ptr ⟨1, 0, 0, 0, 0, 0, 0⟩)), .e (.c (.int .i64 i))], [(false, some ⟨true, .rows [.ints .i64 k, .ints .i64 d, .ints .i64 a, .ints .i64 t, .bools w]⟩), (true, some ⟨false, .mix [.slice ⟨2, 0, 1, 0, 0, 0, 0⟩ 1 n x true]⟩), (true, some ⟨false, .rows [.ints .u64 ws]⟩)] =>
    match decide (i = 0) && decide (0 ≤ p) && decide (p < 16) && Nat.beq ll a.length && Nat.beq t.length a.length && Nat.beq w.length a.length && okM n ws && allW ws with
    | true => K (.exit 0) [.e (.c (.int .i64 p)), .e (.c (.ptr ⟨1, 0, 0, 0, 0, 0, 0⟩))] [(false, some ⟨true, .rows [.ints .i64 k, .ints .i64 d, .ints .i64 a, .ints .i64 t, .bools w]⟩), (true, some ⟨false, .mix [.slice ⟨2, 0, 1, 0, 0, 0, 0⟩ 1 n x true]⟩), (true, some ⟨false, .rows [.ints .u64 (F p a t w 20 0 ws)]⟩)]
    | false => none
  | _, _ => none
theorem cHd_sound : HeadSound Try.prog iHd (loopOf Try.prog 4 0) (cHd hdF) := by
  refine HeadSound.short (iterR_sound (F := 80) sHd_ok mix lNil_ok) fun vs h K r e => ?_
  unfold cHd at e
  split at e
  · rename_i ll p i k d a t w n x ws
    split at e
    · rename_i hc
      simp only [Bool.and_eq_true, decide_eq_true_eq] at hc
      obtain ⟨⟨⟨⟨⟨⟨⟨rfl, c1⟩, c2⟩, c3⟩, c4⟩, c5⟩, c6⟩, c7⟩ := hc
      obtain ⟨rfl, hn⟩ := okM_spec c6
      have c3 := Nat.eq_of_beq_eq_true c3
      subst c3
      exact ⟨21, (loopHd p c1 c2 x k d a t w (Nat.eq_of_beq_eq_true c4) (Nat.eq_of_beq_eq_true c5) K 20 0 ws (by omega) hn c7).trans e⟩
    · cases e
  · cases e
noncomputable def lHd (F : Int → List Int → List Int → List Bool → Nat → Nat → List Int → List Int) : Nat → Option Orc := lAdd lNil 0 (wrapO iHd 0 (cHd F))
theorem lHd_for : LFor 1 Try.prog 4 (lHd hdF) := lAdd_for (I := iHd) lNil_for (by kernel_rfl) cHd_sound
theorem hd_dis : Go.Eng.distinct (blockIds (codeOf Try.prog 4)) = true := by kernel_rfl
end Go.Proofs.Ytmpmnjekcajlgaa.Wlk
