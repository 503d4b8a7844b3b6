/- The law of what is listed: its loops told in short. -/
import Derived.Test.YtmpmnjekcajlgaaSpP
set_option linter.unusedVariables false
set_option linter.unusedSimpArgs false
set_option maxRecDepth 100000
namespace Go.Proofs.Ytmpmnjekcajlgaa.Wlk
open Go Go.Eng Go.Proofs Go.RowKit
noncomputable abbrev sHr : Summ := sHd newZ opTE opTW opUE opUW opME opMW opNE opNW lEM lLN lCP lCA lCB
def cA0 (TE : EF3) (TM : List Int → Int → Int → Int → List Int) : HeadO := fun vs h K => match vs, h with
  | [.e (.c (.slice ⟨0, 0, 5, 0, 0, 0, 0⟩ 5 ll 0 false)), .e (.c (.int .i64 at_)), .e (.c (.int .i64 fr)), .e (.c (.bool wr)), .e (.c (.ptr ⟨1, 0, 0, 0, 0, 0, 0⟩)), .e (.c (.int .i64 0))], [(false, some ⟨true, .rows [.ints .i64 k, .ints .i64 d, .ints .i64 a, .ints .i64 t, .bools w]⟩), (true, some ⟨false, .mix [.slice ⟨2, 0, 1, 0, 0, 0, 0⟩ 1 n x true]⟩), (true, some ⟨false, .rows [.ints .u64 ws]⟩)] =>
    match okM n ws && allW ws && decide (TE ws 0 0 16 = 0) && okM n (TM ws 0 0 16) && allW (TM ws 0 0 16) && decide (TE (TM ws 0 0 16) 0 256 32 = 0) && okM n (TM (TM ws 0 0 16) 0 256 32) && allW (TM (TM ws 0 0 16) 0 256 32) && decide (TE (TM (TM ws 0 0 16) 0 256 32) 0 512 48 = 0) with
    | true => K (.exit 0) [.e (.c (.slice ⟨0, 0, 5, 0, 0, 0, 0⟩ 5 ll 0 false)), .e (.c (.int .i64 at_)), .e (.c (.int .i64 fr)), .e (.c (.bool wr)), .e (.c (.ptr ⟨1, 0, 0, 0, 0, 0, 0⟩))] [(false, some ⟨true, .rows [.ints .i64 k, .ints .i64 d, .ints .i64 a, .ints .i64 t, .bools w]⟩), (true, some ⟨false, .mix [.slice ⟨2, 0, 1, 0, 0, 0, 0⟩ 1 n x true]⟩), (true, some ⟨false, .rows [.ints .u64 (TM (TM (TM ws 0 0 16) 0 256 32) 0 512 48)]⟩)]
    | false => none
  | _, _ => none
theorem cA0_sound : HeadSound Try.prog iA0 (loopOf Try.prog 3 0) (cA0 opTE opTW) := by
  refine HeadSound.short (iterR_sound (F := 80) sHd_ok mix lNil_ok) fun vs h K r e => ?_
  unfold cA0 at e
  split at e
  · rename_i ll at_ fr wr k d a t w n x ws
    split at e
    · rename_i hc
      simp only [Bool.and_eq_true, decide_eq_true_eq] at hc
      obtain ⟨⟨⟨⟨⟨⟨⟨⟨c1, c2⟩, c3⟩, c4⟩, c5⟩, c6⟩, c7⟩, c8⟩, c9⟩ := hc
      refine ⟨4, ?_⟩
      refine Eq.trans ?_ e
      have i0 : inI 0 = true := rfl
      have k1 : ((0 : Int) != 0) = false := rfl
      rw [iterR]
      refine (t_a0 newZ opTE opTW opUE opUW opME opMW opNE opNW lEM lLN lCP lCA lCB at_ fr 0 wr ll n x k d a t w ws _).trans ?_
      rw [show decide ((0 : Int) < 3) = true from rfl, cT, show IntKind.wrap IntKind.i64 (256 * 0) = 0 from rfl, show IntKind.wrap IntKind.i64 (16 + IntKind.wrap IntKind.i64 (16 * 0)) = 16 from rfl, c1, c2, i0, show inI 16 = true from rfl, Bool.and_self, Bool.and_self, Bool.and_self, Bool.and_self, cT, c3, k1, cF, show IntKind.wrap IntKind.i64 ((0 : Int) + 1) = 1 from rfl]
      show iterR _ _ _ _ _ _ 3 _ _ _ = _
      rw [iterR]
      refine (t_a0 newZ opTE opTW opUE opUW opME opMW opNE opNW lEM lLN lCP lCA lCB at_ fr 1 wr ll n x k d a t w _ _).trans ?_
      rw [show decide ((1 : Int) < 3) = true from rfl, cT, show IntKind.wrap IntKind.i64 (256 * 1) = 256 from rfl, show IntKind.wrap IntKind.i64 (16 + IntKind.wrap IntKind.i64 (16 * 1)) = 32 from rfl, c4, c5, i0, show inI 256 = true from rfl, show inI 32 = true from rfl, Bool.and_self, Bool.and_self, Bool.and_self, Bool.and_self, cT, c6, k1, cF, show IntKind.wrap IntKind.i64 ((1 : Int) + 1) = 2 from rfl]
      show iterR _ _ _ _ _ _ 2 _ _ _ = _
      rw [iterR]
      refine (t_a0 newZ opTE opTW opUE opUW opME opMW opNE opNW lEM lLN lCP lCA lCB at_ fr 2 wr ll n x k d a t w _ _).trans ?_
      rw [show decide ((2 : Int) < 3) = true from rfl, cT, show IntKind.wrap IntKind.i64 (256 * 2) = 512 from rfl, show IntKind.wrap IntKind.i64 (16 + IntKind.wrap IntKind.i64 (16 * 2)) = 48 from rfl, c7, c8, i0, show inI 512 = true from rfl, show inI 48 = true from rfl, Bool.and_self, Bool.and_self, Bool.and_self, Bool.and_self, cT, c9, k1, cF, show IntKind.wrap IntKind.i64 ((2 : Int) + 1) = 3 from rfl]
      show iterR _ _ _ _ _ _ 1 _ _ _ = _
      rw [iterR]
      refine (t_a0 newZ opTE opTW opUE opUW opME opMW opNE opNW lEM lLN lCP lCA lCB at_ fr 3 wr ll n x k d a t w _ _).trans ?_
      rw [show decide ((3 : Int) < 3) = false from rfl, cF]
    · cases e
  · cases e
def q768 (x : Int) : Int := IntKind.wrap IntKind.i64 (Int.tmod (IntKind.wrap IntKind.u64 x) 768)
theorem q768_facts (x : Int) : 0 ≤ q768 x ∧ q768 x < 768 := by
  unfold q768
  rw [wrap_u64_emod, Int.tmod_eq_emod_of_nonneg (by omega), wrap_i64 (by omega) (by omega)]
  omega
def hdG (a t : List Int) (w : List Bool) : Nat → Nat → List Int → List Int
  | 0, _, ws => ws
  | j + 1, i, ws => if i < a.length then hdG a t w j (i + 1) (opMW ws 0 (q768 (a.getD i 0)) (frm (t.getD i 0)) (w.getD i false)) else ws
theorem loopA2 (at_ fr : Int) (wr : Bool) (x : Nat) (k d a t : List Int) (w : List Bool) (lt : t.length = a.length) (lw : w.length = a.length) (K : HeadK) : ∀ (j i : Nat) (ws : List Int), i + j = 30 → ws.length ≤ 65536 → allW ws = true →
    iterR Try.prog sHr lNil iA2 80 (loopOf Try.prog 3 2) (j + 1) (aV a.length at_ fr wr i) (aH k d a t w ws.length x ws) K =
      K (.exit 2) [.e (.c (.int .i64 at_)), .e (.c (.int .i64 fr)), .e (.c (.bool wr)), .e (.c (.ptr ⟨1, 0, 0, 0, 0, 0, 0⟩))] (aH k d a t w ws.length x (hdG a t w j i ws))
  | 0, i, ws, hi, hl, hw => by
    rw [iterR]
    refine (t_a2 newZ opTE opTW opUE opUW opME opMW opNE opNW lEM lLN lCP lCA lCB at_ fr i wr a.length ws.length x k d a t w ws _).trans ?_
    rw [decide_eq_false (show ¬ (i : Int) < 30 by omega), cF]
    cases decide ((i : Int) < (a.length : Int))
    · rw [cF]; rfl
    · rw [cT]; rfl
  | j + 1, i, ws, hi, hl, hw => by
    rw [iterR]
    refine (t_a2 newZ opTE opTW opUE opUW opME opMW opNE opNW lEM lLN lCP lCA lCB at_ fr i wr a.length ws.length x k d a t w ws _).trans ?_
    rw [decide_eq_true (show (i : Int) < 30 by omega), cT]
    by_cases c1 : i < a.length
    rotate_left
    · rw [decide_eq_false (show ¬ (i : Int) < (a.length : Int) by omega), cF]
      simp only [hdG, c1, if_false]
    have q : hdG a t w (j + 1) i ws = hdG a t w j (i + 1) (opMW ws 0 (q768 (a.getD i 0)) (frm (t.getD i 0)) (w.getD i false)) := by simp only [hdG, c1, if_true]
    rw [q]
    have f1 : okM ws.length ws = true := by simp [okM, hl]
    obtain ⟨g1, g2⟩ := q768_facts (a.getD i 0)
    obtain ⟨g3, g4, _⟩ := frm_facts (t.getD i 0)
    have fa : inI (q768 (a.getD i 0)) = true := inI_of (by omega) (by omega)
    have ft : inI (frm (t.getD i 0)) = true := inI_of (by omega) (by omega)
    have ih := loopA2 at_ fr wr x k d a t w lt lw K j (i + 1) (opMW ws 0 (q768 (a.getD i 0)) (frm (t.getD i 0)) (w.getD i false)) (by omega) (by rw [opMW_len]; exact hl) (opMW_all hw _ _ _ _)
    simp only [opMW_len] at ih
    rw [decide_eq_true (show (i : Int) < (a.length : Int) by omega), cT, decide_eq_true (show (0 : Int) ≤ i by omega), Bool.and_self, Int.toNat_natCast, Nat.zero_add, lt, lw, decide_eq_true c1, cT, cT, cT, cT, cT, cT, f1, hw, show inI 0 = true from rfl,
      show inI (IntKind.wrap IntKind.i64 (Int.tmod (IntKind.wrap IntKind.u64 (List.getD a i 0)) 768)) = true from fa,
      show inI (IntKind.wrap IntKind.i64 (64 + IntKind.wrap IntKind.i64 (16 * IntKind.wrap IntKind.i64 (Int.tmod (IntKind.wrap IntKind.u64 (List.getD t i 0)) 20)))) = true from ft, Bool.and_self, Bool.and_self, Bool.and_self, Bool.and_self, cT,
      wrap_i64 (n := (i : Int) + 1) (by omega) (by omega), show (i : Int) + 1 = ((i + 1 : Nat) : Int) from by omega]
    exact ih
def cA2 (F : List Int → List Int → List Bool → Nat → Nat → List Int → List Int) : HeadO := fun vs h K => match vs, h with
  | [.e (.c (.slice ⟨0, 0, 5, 0, 0, 0, 0⟩ 5 ll 0 false)), .e (.c (.int .i64 at_)), .e (.c (.int .i64 fr)), .e (.c (.bool wr)), .e (.c (.ptr ⟨1, 0, 0, 0, 0, 0, 0⟩)), .e (.c (.int .i64 i))], [(false, some ⟨true, .rows [.ints .i64 k, .ints .i64 d, .ints .i64 a, .ints .i64 t, .bools w]⟩), (true, some ⟨false, .mix [.slice ⟨2, 0, 1, 0, 0, 0, 0⟩ 1 n x true]⟩), (true, some ⟨false, .rows [.ints .u64 ws]⟩)] =>
    match decide (i = 0) && Nat.beq ll a.length && Nat.beq t.length a.length && Nat.beq w.length a.length && okM n ws && allW ws with
    | true => K (.exit 2) [.e (.c (.int .i64 at_)), .e (.c (.int .i64 fr)), .e (.c (.bool wr)), .e (.c (.ptr ⟨1, 0, 0, 0, 0, 0, 0⟩))] [(false, some ⟨true, .rows [.ints .i64 k, .ints .i64 d, .ints .i64 a, .ints .i64 t, .bools w]⟩), (true, some ⟨false, .mix [.slice ⟨2, 0, 1, 0, 0, 0, 0⟩ 1 n x true]⟩), (true, some ⟨false, .rows [.ints .u64 (F a t w 30 0 ws)]⟩)]
    | false => none
  | _, _ => none
theorem cA2_sound : HeadSound Try.prog iA2 (loopOf Try.prog 3 2) (cA2 hdG) := by
  refine HeadSound.short (iterR_sound (F := 80) sHd_ok mix lNil_ok) fun vs h K r e => ?_
  unfold cA2 at e
  split at e
  · rename_i ll at_ fr wr i k d a t w n x ws
    split at e
    · rename_i hc
      simp only [Bool.and_eq_true, decide_eq_true_eq] at hc
      obtain ⟨⟨⟨⟨⟨rfl, c3⟩, c4⟩, c5⟩, c6⟩, c7⟩ := hc
      obtain ⟨rfl, hn⟩ := okM_spec c6
      have c3 := Nat.eq_of_beq_eq_true c3
      subst c3
      exact ⟨31, (loopA2 at_ fr wr x k d a t w (Nat.eq_of_beq_eq_true c4) (Nat.eq_of_beq_eq_true c5) K 30 0 ws (by omega) hn c7).trans e⟩
    · cases e
  · cases e
theorem loopA4 (at_ g : Int) (e : Nat) (k d a t : List Int) (w : List Bool) (p b : List Int) (v : List Bool) (q c : List Int) (u : List Bool) (hl : p.length < 4611686018427387904) (hg : (g == 4) = true) (K : HeadK) : ∀ (j i : Nat), i + j = p.length → IntKind.wrap IntKind.i64 (Int.tdiv at_ 16) ∈ p.drop i →
    iterR Try.prog sNil lNil iA4 80 (loopOf Try.prog 3 4) (j + 1) (a4V p.length at_ g e i) (a4H k d a t w p b v q c u) K =
      K .ret [.e (.c (.bool ((e : Int) == (p.length : Int))))] [(false, some ⟨true, .rows [.ints .i64 k, .ints .i64 d, .ints .i64 a, .ints .i64 t, .bools w]⟩)]
  | 0, i, hi, hm => by
    rw [List.drop_eq_nil_of_le (by omega)] at hm; cases hm
  | j + 1, i, hi, hm => by
    rw [iterR]
    refine (t_a4 p.length e at_ g i k d a t w p b v q c u _).trans ?_
    have h1 : i < p.length := by omega
    rw [decide_eq_true (show (i : Int) < (p.length : Int) by omega), cT, decide_eq_true (show (0 : Int) ≤ i by omega), Bool.and_self, cT, Int.toNat_natCast, Nat.zero_add, decide_eq_true h1, cT, hg, cT, wrap_i64 (n := (i : Int) + 1) (by omega) (by omega), show (i : Int) + 1 = ((i + 1 : Nat) : Int) from by omega]
    rw [List.drop_eq_getElem_cons h1] at hm
    have g0 : p.getD i 0 = p[i] := by rw [List.getD_eq_getElem?_getD, List.getElem?_eq_getElem h1]; rfl
    by_cases c2 : p.getD i 0 = IntKind.wrap IntKind.i64 (Int.tdiv at_ 16)
    · rw [show (p.getD i 0 == IntKind.wrap IntKind.i64 (Int.tdiv at_ 16)) = true from by simpa using c2, cT]
    · have ih := loopA4 at_ g e k d a t w p b v q c u hl hg K j (i + 1) (by omega) (by
        rcases List.mem_cons.mp hm with h | h
        · exact absurd (g0.trans h.symm) c2
        · exact h)
      rw [show (p.getD i 0 == IntKind.wrap IntKind.i64 (Int.tdiv at_ 16)) = false from by simpa using c2, cF]
      exact ih
def cA4 : HeadO := fun vs h K => match vs, h with
  | [.e (.c (.slice ⟨1, 0, 3, 0, 0, 0, 0⟩ 3 cc 0 false)), .e (.c (.int .i64 at_)), .e (.c (.int .i64 g)), .e (.c (.slice ⟨2, 0, 3, 0, 0, 0, 0⟩ 3 e 0 false)), .e (.c (.int .i64 i))], [(false, some ⟨true, .rows [.ints .i64 k, .ints .i64 d, .ints .i64 a, .ints .i64 t, .bools w]⟩), (true, some ⟨false, .rows [.ints .i64 p, .ints .i64 b, .bools v]⟩), (true, some ⟨false, .rows [.ints .i64 q, .ints .i64 c, .bools u]⟩)] =>
    match decide (i = 0) && Nat.beq cc p.length && decide (p.length < 4611686018427387904) && (g == 4) && decide (IntKind.wrap IntKind.i64 (Int.tdiv at_ 16) ∈ p) with
    | true => K .ret [.e (.c (.bool ((e : Int) == (cc : Int))))] [(false, some ⟨true, .rows [.ints .i64 k, .ints .i64 d, .ints .i64 a, .ints .i64 t, .bools w]⟩)]
    | false => none
  | _, _ => none
theorem cA4_sound : HeadSound Try.prog iA4 (loopOf Try.prog 3 4) cA4 := by
  refine HeadSound.short (iterR_sound (F := 80) sNil_ok mix lNil_ok) fun vs h K r e => ?_
  unfold cA4 at e
  split at e
  · rename_i cc at_ g e' i k d a t w p b v q c u
    split at e
    · rename_i hc
      simp only [Bool.and_eq_true, decide_eq_true_eq] at hc
      obtain ⟨⟨⟨⟨rfl, c1⟩, c2⟩, c3⟩, c4⟩ := hc
      have c1 := Nat.eq_of_beq_eq_true c1
      subst c1
      exact ⟨p.length + 1, (loopA4 at_ g e' k d a t w p b v q c u c2 c3 K p.length 0 (by omega) (by rw [List.drop_zero]; exact c4)).trans e⟩
    · cases e
  · cases e
def insOk (q c : List Int) (u : List Bool) (p b : List Int) (v : List Bool) (x f : Int) (wr : Bool) : Nat → Nat → Nat → Bool
  | 0, _, _ => true
  | j + 1, i, kk => cond (q.getD i 0 == x) (c.getD i 0 == f && u.getD i false == wr && insOk q c u p b v x f wr j (i + 1) kk)
      (decide (kk < p.length) && (q.getD i 0 == p.getD kk 0 && (c.getD i 0 == b.getD kk 0 && (u.getD i false == v.getD kk false && true))) && insOk q c u p b v x f wr j (i + 1) (kk + 1))
theorem loopA6 (wr : Bool) (n x : Nat) (at_ f : Int) (k d a t : List Int) (w : List Bool) (p b : List Int) (v : List Bool) (was q c : List Int) (u : List Bool) (ws : List Int) (hl : q.length < 4611686018427387904) (lc : c.length = q.length) (lu : u.length = q.length) (lb : b.length = p.length) (lv : v.length = p.length) (K : HeadK) : ∀ (j i kk : Nat), i + j = q.length → kk ≤ i → insOk q c u p b v (IntKind.wrap IntKind.i64 (Int.tdiv at_ 16)) f wr j i kk = true →
    iterR Try.prog sNil lNil iA6 80 (loopOf Try.prog 3 6) (j + 1) (a6V wr p.length n at_ f q.length kk i) (a6H k d a t w n x p b v was q c u ws) K =
      K (.exit 6) [.e (.c (.ptr ⟨1, 0, 0, 0, 0, 0, 0⟩)), .e (.c (.slice ⟨2, 0, 1, 0, 0, 0, 0⟩ 1 n 0 true)), .e (.c (.int .i64 at_))] [(false, some ⟨true, .rows [.ints .i64 k, .ints .i64 d, .ints .i64 a, .ints .i64 t, .bools w]⟩), (true, some ⟨false, .mix [.slice ⟨3, 0, 1, 0, 0, 0, 0⟩ 1 n x true]⟩), (true, some ⟨false, .rows [.ints .u64 was]⟩), (true, some ⟨false, .rows [.ints .u64 ws]⟩)]
  | 0, i, kk, hi, hk, ho => by
    rw [iterR]
    refine (t_a6 wr p.length n x q.length at_ f kk i k d a t w p b v was q c u ws _).trans ?_
    rw [decide_eq_false (show ¬ (i : Int) < (q.length : Int) by omega), cF]
  | j + 1, i, kk, hi, hk, ho => by
    rw [iterR]
    refine (t_a6 wr p.length n x q.length at_ f kk i k d a t w p b v was q c u ws _).trans ?_
    have h1 : i < q.length := by omega
    rw [decide_eq_true (show (i : Int) < (q.length : Int) by omega), cT, decide_eq_true (show (0 : Int) ≤ i by omega), Bool.and_self, cT, Int.toNat_natCast, Int.toNat_natCast, Nat.zero_add, Nat.zero_add, lc, lu, lb, lv, decide_eq_true h1, cT, cT, cT, cT, cT, wrap_i64 (n := (i : Int) + 1) (by omega) (by omega), wrap_i64 (n := (kk : Int) + 1) (by omega) (by omega), show (i : Int) + 1 = ((i + 1 : Nat) : Int) from by omega, show (kk : Int) + 1 = ((kk + 1 : Nat) : Int) from by omega]
    rw [insOk] at ho
    cases c1 : q.getD i 0 == IntKind.wrap IntKind.i64 (Int.tdiv at_ 16) with
    | true =>
      rw [c1, cT] at ho
      rw [cT]
      simp only [Bool.and_eq_true] at ho
      obtain ⟨⟨o1, o2⟩, o3⟩ := ho
      have ih := loopA6 wr n x at_ f k d a t w p b v was q c u ws hl lc lu lb lv K j (i + 1) kk (by omega) (by omega) o3
      have o1' : (c.getD i 0 != f) = false := by simpa using o1
      rw [o1', cF, o2, Bool.not_true, cF]
      exact ih
    | false =>
      rw [c1, cF] at ho
      rw [cF]
      rw [Bool.and_eq_true, Bool.and_eq_true, decide_eq_true_eq] at ho
      obtain ⟨⟨o1, o2⟩, o3⟩ := ho
      have ih := loopA6 wr n x at_ f k d a t w p b v was q c u ws hl lc lu lb lv K j (i + 1) (kk + 1) (by omega) (by omega) o3
      rw [decide_eq_false (show ¬ (kk : Int) ≥ (p.length : Int) by omega), cF, Bool.and_self, Bool.and_self, Bool.and_self, cT, decide_eq_true (show (0 : Int) ≤ kk by omega), decide_eq_true (show (kk : Int) < (p.length : Int) by omega), decide_eq_true o1, Bool.and_self, Bool.and_self, cT, cT, o2, Bool.not_true, cF]
      exact ih
theorem loopA7 (wr : Bool) (n x : Nat) (at_ f : Int) (k d a t : List Int) (w : List Bool) (was q c : List Int) (u : List Bool) (ws : List Int) (hl : q.length < 4611686018427387904) (lc : c.length = q.length) (lu : u.length = q.length) (K : HeadK) : ∀ (j i : Nat), i + j = q.length → insOk q c u [] [] [] (IntKind.wrap IntKind.i64 (Int.tdiv at_ 16)) f wr j i 0 = true →
    iterR Try.prog sNil lNil iA6 80 (loopOf Try.prog 3 6) (j + 1) (a7V wr n at_ f q.length 0 i) (a7H k d a t w n x was q c u ws) K =
      K (.exit 6) [.e (.c (.ptr ⟨1, 0, 0, 0, 0, 0, 0⟩)), .e (.c (.slice ⟨2, 0, 1, 0, 0, 0, 0⟩ 1 n 0 true)), .e (.c (.int .i64 at_))] [(false, some ⟨true, .rows [.ints .i64 k, .ints .i64 d, .ints .i64 a, .ints .i64 t, .bools w]⟩), (true, some ⟨false, .mix [.slice ⟨3, 0, 1, 0, 0, 0, 0⟩ 1 n x true]⟩), (true, some ⟨false, .rows [.ints .u64 was]⟩), (true, some ⟨false, .rows [.ints .u64 ws]⟩)]
  | 0, i, hi, ho => by
    rw [iterR]
    refine (t_a7 wr n x q.length at_ f 0 i k d a t w was q c u ws _).trans ?_
    rw [decide_eq_false (show ¬ (i : Int) < (q.length : Int) by omega), cF]
  | j + 1, i, hi, ho => by
    rw [iterR]
    refine (t_a7 wr n x q.length at_ f 0 i k d a t w was q c u ws _).trans ?_
    have h1 : i < q.length := by omega
    rw [decide_eq_true (show (i : Int) < (q.length : Int) by omega), cT, decide_eq_true (show (0 : Int) ≤ i by omega), Bool.and_self, cT, Int.toNat_natCast, Nat.zero_add, lc, lu, decide_eq_true h1, cT, cT, cT, cT, cT, wrap_i64 (n := (i : Int) + 1) (by omega) (by omega), show (i : Int) + 1 = ((i + 1 : Nat) : Int) from by omega]
    rw [insOk] at ho
    cases c1 : q.getD i 0 == IntKind.wrap IntKind.i64 (Int.tdiv at_ 16) with
    | true =>
      rw [c1, cT] at ho
      rw [cT]
      simp only [Bool.and_eq_true] at ho
      obtain ⟨⟨o1, o2⟩, o3⟩ := ho
      have ih := loopA7 wr n x at_ f k d a t w was q c u ws hl lc lu K j (i + 1) (by omega) o3
      have o1' : (c.getD i 0 != f) = false := by simpa using o1
      rw [o1', cF, o2, Bool.not_true, cF]
      exact ih
    | false =>
      rw [c1, cF] at ho
      rw [Bool.and_eq_true, Bool.and_eq_true, decide_eq_true_eq] at ho
      exact absurd ho.1.1 (Nat.not_lt_zero _)
def cA6s : HeadO := fun vs h K => match vs, h with
  | [.e (.c (.bool wr)), .e (.c (.ptr ⟨1, 0, 0, 0, 0, 0, 0⟩)), .e (.c (.slice ⟨2, 0, 3, 0, 0, 0, 0⟩ 3 cc 0 false)), .e (.c (.slice ⟨3, 0, 1, 0, 0, 0, 0⟩ 1 n 0 true)), .e (.c (.int .i64 at_)), .e (.c (.int .i64 f)), .e (.c (.slice ⟨4, 0, 3, 0, 0, 0, 0⟩ 3 e 0 false)), .e (.c (.int .i64 kk)), .e (.c (.int .i64 i))],
    [(false, some ⟨true, .rows [.ints .i64 k, .ints .i64 d, .ints .i64 a, .ints .i64 t, .bools w]⟩), (true, some ⟨false, .mix [.slice ⟨5, 0, 1, 0, 0, 0, 0⟩ 1 m x true]⟩), (true, some ⟨false, .rows [.ints .i64 p, .ints .i64 b, .bools v]⟩), (true, some ⟨false, .rows [.ints .u64 was]⟩), (true, some ⟨false, .rows [.ints .i64 q, .ints .i64 c, .bools u]⟩), (true, some ⟨false, .rows [.ints .u64 ws]⟩)] =>
    match decide (i = 0) && decide (kk = 0) && Nat.beq m n && Nat.beq cc p.length && Nat.beq e q.length && decide (q.length < 4611686018427387904) && Nat.beq c.length q.length && Nat.beq u.length q.length && Nat.beq b.length p.length && Nat.beq v.length p.length && insOk q c u p b v (IntKind.wrap IntKind.i64 (Int.tdiv at_ 16)) f wr q.length 0 0 with
    | true => K (.exit 6) [.e (.c (.ptr ⟨1, 0, 0, 0, 0, 0, 0⟩)), .e (.c (.slice ⟨2, 0, 1, 0, 0, 0, 0⟩ 1 n 0 true)), .e (.c (.int .i64 at_))] [(false, some ⟨true, .rows [.ints .i64 k, .ints .i64 d, .ints .i64 a, .ints .i64 t, .bools w]⟩), (true, some ⟨false, .mix [.slice ⟨3, 0, 1, 0, 0, 0, 0⟩ 1 m x true]⟩), (true, some ⟨false, .rows [.ints .u64 was]⟩), (true, some ⟨false, .rows [.ints .u64 ws]⟩)]
    | false => none
  | _, _ => none
def cA7s : HeadO := fun vs h K => match vs, h with
  | [.e (.c (.bool wr)), .e (.c (.ptr ⟨1, 0, 0, 0, 0, 0, 0⟩)), .e (.c .nils), .e (.c (.slice ⟨2, 0, 1, 0, 0, 0, 0⟩ 1 n 0 true)), .e (.c (.int .i64 at_)), .e (.c (.int .i64 f)), .e (.c (.slice ⟨3, 0, 3, 0, 0, 0, 0⟩ 3 e 0 false)), .e (.c (.int .i64 kk)), .e (.c (.int .i64 i))],
    [(false, some ⟨true, .rows [.ints .i64 k, .ints .i64 d, .ints .i64 a, .ints .i64 t, .bools w]⟩), (true, some ⟨false, .mix [.slice ⟨4, 0, 1, 0, 0, 0, 0⟩ 1 m x true]⟩), (true, some ⟨false, .rows [.ints .u64 was]⟩), (true, some ⟨false, .rows [.ints .i64 q, .ints .i64 c, .bools u]⟩), (true, some ⟨false, .rows [.ints .u64 ws]⟩)] =>
    match decide (i = 0) && decide (kk = 0) && Nat.beq m n && Nat.beq e q.length && decide (q.length < 4611686018427387904) && Nat.beq c.length q.length && Nat.beq u.length q.length && insOk q c u [] [] [] (IntKind.wrap IntKind.i64 (Int.tdiv at_ 16)) f wr q.length 0 0 with
    | true => K (.exit 6) [.e (.c (.ptr ⟨1, 0, 0, 0, 0, 0, 0⟩)), .e (.c (.slice ⟨2, 0, 1, 0, 0, 0, 0⟩ 1 n 0 true)), .e (.c (.int .i64 at_))] [(false, some ⟨true, .rows [.ints .i64 k, .ints .i64 d, .ints .i64 a, .ints .i64 t, .bools w]⟩), (true, some ⟨false, .mix [.slice ⟨3, 0, 1, 0, 0, 0, 0⟩ 1 m x true]⟩), (true, some ⟨false, .rows [.ints .u64 was]⟩), (true, some ⟨false, .rows [.ints .u64 ws]⟩)]
    | false => none
  | _, _ => none
def cA6 : HeadO := fun vs h K => match vs with
  | [_, _, .e (.c .nils), _, _, _, _, _, _] => cA7s vs h K
  | _ => cA6s vs h K
theorem cA6s_ok (vs : List AV) (h : Heap) (K : HeadK) (r : Res) (ee : cA6s vs h K = some r) : ∃ n, iterR Try.prog sNil lNil iA6 80 (loopOf Try.prog 3 6) n vs h K = some r := by
  unfold cA6s at ee
  split at ee
  · rename_i wr cc n at_ f e kk i k d a t w m x p b v was q c u ws
    split at ee
    · rename_i hc
      simp only [Bool.and_eq_true, decide_eq_true_eq] at hc
      obtain ⟨⟨⟨⟨⟨⟨⟨⟨⟨⟨rfl, rfl⟩, c1⟩, c2⟩, c3⟩, c4⟩, c5⟩, c6⟩, c7⟩, c8⟩, c9⟩ := hc
      have c1 := Nat.eq_of_beq_eq_true c1
      have c2 := Nat.eq_of_beq_eq_true c2
      have c3 := Nat.eq_of_beq_eq_true c3
      subst c1; subst c2; subst c3
      exact ⟨q.length + 1, (loopA6 wr m x at_ f k d a t w p b v was q c u ws c4 (Nat.eq_of_beq_eq_true c5) (Nat.eq_of_beq_eq_true c6) (Nat.eq_of_beq_eq_true c7) (Nat.eq_of_beq_eq_true c8) K q.length 0 0 (by omega) (by omega) c9).trans ee⟩
    · cases ee
  · cases ee
theorem cA7s_ok (vs : List AV) (h : Heap) (K : HeadK) (r : Res) (ee : cA7s vs h K = some r) : ∃ n, iterR Try.prog sNil lNil iA6 80 (loopOf Try.prog 3 6) n vs h K = some r := by
  unfold cA7s at ee
  split at ee
  · rename_i wr n at_ f e kk i k d a t w m x was q c u ws
    split at ee
    · rename_i hc
      simp only [Bool.and_eq_true, decide_eq_true_eq] at hc
      obtain ⟨⟨⟨⟨⟨⟨⟨rfl, rfl⟩, c1⟩, c3⟩, c4⟩, c5⟩, c6⟩, c9⟩ := hc
      have c1 := Nat.eq_of_beq_eq_true c1
      have c3 := Nat.eq_of_beq_eq_true c3
      subst c1; subst c3
      exact ⟨q.length + 1, (loopA7 wr m x at_ f k d a t w was q c u ws c4 (Nat.eq_of_beq_eq_true c5) (Nat.eq_of_beq_eq_true c6) K q.length 0 (by omega) c9).trans ee⟩
    · cases ee
  · cases ee
theorem cA6_sound : HeadSound Try.prog iA6 (loopOf Try.prog 3 6) cA6 := by
  refine HeadSound.short (iterR_sound (F := 80) sNil_ok mix lNil_ok) fun vs h K r ee => ?_
  unfold cA6 at ee
  split at ee
  · exact cA7s_ok _ _ _ _ ee
  · exact cA6s_ok _ _ _ _ ee
abbrev FG := List Int → List Int → List Bool → Nat → Nat → List Int → List Int
noncomputable def lA (TE : EF3) (TM : List Int → Int → Int → Int → List Int) (F : FG) : Nat → Option Orc := lAdd (lAdd (lAdd (lAdd lNil 0 (wrapO iA0 0 (cA0 TE TM))) 2 (wrapO iA2 2 (cA2 F))) 4 (wrapO iA4 4 cA4)) 6 (wrapO iA6 6 cA6)
theorem lA_for : LFor 1 Try.prog 3 (lA opTE opTW hdG) := lAdd_for (I := iA6) (lAdd_for (I := iA4) (lAdd_for (I := iA2) (lAdd_for (I := iA0) lNil_for (by kernel_rfl) cA0_sound) (by kernel_rfl) cA2_sound) (by kernel_rfl) cA4_sound) (by kernel_rfl) cA6_sound
theorem a_dis : Go.Eng.distinct (blockIds (codeOf Try.prog 3)) = true := by kernel_rfl
end Go.Proofs.Ytmpmnjekcajlgaa.Wlk
