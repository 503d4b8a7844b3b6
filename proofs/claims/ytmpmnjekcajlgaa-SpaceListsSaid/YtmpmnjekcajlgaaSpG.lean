/- The law that one word at most is changed, walked. -/
import Derived.Test.YtmpmnjekcajlgaaSpF
set_option linter.unusedVariables false
set_option linter.unusedSimpArgs false
set_option maxRecDepth 100000
namespace Go.Proofs.Ytmpmnjekcajlgaa.Wlk
open Go Go.Eng Go.Proofs Go.RowKit
noncomputable abbrev sO : Summ := sOn mdN mdW actE actW
theorem cntL_drop (xs ys : List Int) (i : Nat) (hx : i < xs.length) (hy : i < ys.length) : cntL (xs.drop i) (ys.drop i) = (if xs.getD i 0 = ys.getD i 0 then 0 else 1) + cntL (xs.drop (i + 1)) (ys.drop (i + 1)) := by
  rw [List.drop_eq_getElem_cons hx, List.drop_eq_getElem_cons hy, List.getD_eq_getElem?_getD, List.getD_eq_getElem?_getD, List.getElem?_eq_getElem hx, List.getElem?_eq_getElem hy]
  rfl
theorem loopIn (i e : Int) (ll N x : Nat) (l k d a t : List Int) (w : List Bool) (was now ws : List Int) (hn : now.length = was.length) (hl : was.length ≤ 65536) (K : HeadK) : ∀ (j kk dd : Nat), kk + j = was.length → dd ≤ kk →
    iterR Try.prog sO lNil iIn 60 (loopOf Try.prog 7 2) (j + 1) (inV ll i was.length e was.length (dd : Nat) (kk : Nat)) (inH l k d a t w N x was now ws) K =
      K (.exit 2) [.e (.c (.slice ⟨1, 0, 5, 0, 0, 0, 0⟩ 5 ll 0 false)), .e (.c (.ptr ⟨2, 0, 0, 0, 0, 0, 0⟩)), .e (.c (.int .i64 i)), .e (.c (.slice ⟨3, 0, 1, 0, 0, 0, 0⟩ 1 was.length 0 true)), .e (.c (.int .i64 e)), .e (.c (.slice ⟨4, 0, 1, 0, 0, 0, 0⟩ 1 was.length 0 true)), .e (.c (.int .i64 ((dd + cntL (was.drop kk) (now.drop kk) : Nat) : Int)))] (inH l k d a t w N x was now ws)
  | 0, kk, dd, hi, hd => by
    rw [iterR]
    refine (t_in mdN mdW actE actW i e dd kk ll was.length was.length N x l k d a t w was now ws _).trans ?_
    rw [decide_eq_false (show ¬ (kk : Int) < (was.length : Int) by omega), cF, List.drop_eq_nil_of_le (show was.length ≤ kk by omega)]
    rfl
  | j + 1, kk, dd, hi, hd => by
    rw [iterR]
    refine (t_in mdN mdW actE actW i e dd kk ll was.length was.length N x l k d a t w was now ws _).trans ?_
    rw [decide_eq_true (show (kk : Int) < (was.length : Int) by omega), cT, cT, decide_eq_true (show (0 : Int) ≤ kk by omega), Bool.and_self, cT, Int.toNat_natCast, Nat.zero_add, decide_eq_true (show kk < was.length by omega), cT, cT, decide_eq_true (show kk < now.length by omega), cT,
      wrap_i64 (n := (kk : Int) + 1) (by omega) (by omega), wrap_i64 (n := (dd : Int) + 1) (by omega) (by omega), show (kk : Int) + 1 = ((kk + 1 : Nat) : Int) from by omega, show (dd : Int) + 1 = ((dd + 1 : Nat) : Int) from by omega, cntL_drop was now kk (by omega) (by omega)]
    by_cases c : was.getD kk 0 = now.getD kk 0
    · have ih := loopIn i e ll N x l k d a t w was now ws hn hl K j (kk + 1) dd (by omega) (by omega)
      rw [show (was.getD kk 0 != now.getD kk 0) = false from by simpa using c, cF, if_pos c, Nat.zero_add]
      exact ih
    · have ih := loopIn i e ll N x l k d a t w was now ws hn hl K j (kk + 1) (dd + 1) (by omega) (by omega)
      rw [show (was.getD kk 0 != now.getD kk 0) = true from by simpa using c, cT, if_neg c, ← Nat.add_assoc]
      exact ih
theorem cIn_sound : HeadSound Try.prog iIn (loopOf Try.prog 7 2) (cIn cntL) := by
  refine HeadSound.short (iterR_sound (F := 60) sOn_ok mix lNil_ok) fun vs h K r e => ?_
  unfold cIn at e
  split at e
  · rename_i ll i n e' m l k d a t w N x was now ws
    split at e
    · rename_i hc
      simp only [Bool.and_eq_true] at hc
      obtain ⟨⟨c1, c2⟩, c3⟩ := hc
      obtain ⟨rfl, hn⟩ := okM_spec c1
      have c2 := Nat.eq_of_beq_eq_true c2
      have c3 := Nat.eq_of_beq_eq_true c3
      subst c2
      have := loopIn i e' ll N x l k d a t w was now ws c3 hn K was.length 0 0 (by omega) (by omega)
      simp only [List.drop_zero, Nat.zero_add] at this
      exact ⟨was.length + 1, this.trans e⟩
    · cases e
  · cases e
theorem one_dis : Go.Eng.distinct (blockIds (codeOf Try.prog 7)) = true := by kernel_rfl
theorem lIn_for : LFor 2 Try.prog 7 (lIn cntL) := lAdd_for (I := iIn) lNil_for (by kernel_rfl) cIn_sound
theorem lIn_in : LOk 2 Try.prog (lIn cntL) (loopOf Try.prog 7 0) := lIn_for.inner one_dis (by kernel_rfl)
def allI (l : List Int) : Bool := l.all inI
theorem getD_allI {l : List Int} (h : allI l = true) (i : Nat) : inI (l.getD i 0) = true := by
  rw [List.getD_eq_getElem?_getD]
  cases e : l[i]? with
  | none => rfl
  | some x =>
    simp only [allI, List.all_eq_true] at h
    exact h x (List.mem_of_getElem? e)
theorem allI_of {l : List Int} (h : ∀ n ∈ l, (Lit.int .i64 n).wf = true) : allI l = true := by
  simp only [allI, List.all_eq_true]
  exact fun x hx => wfI (h x hx)
theorem loopOu (x : Nat) (l k d a t : List Int) (w : List Bool) (hd : allI d = true) (ha : allI a = true) (ht : allI t = true) (ld : d.length = k.length) (la : a.length = k.length) (lt : t.length = k.length) (lw : w.length = k.length) (K : HeadK) : ∀ (j i : Nat) (ws : List Int), i + j = 40 → ws.length ≤ 65536 → allW ws = true →
    iterR Try.prog sO (lIn cntL) iOu 80 (loopOf Try.prog 7 0) (j + 1) (ouV k.length i) (ouH l k d a t w ws.length x ws) K = K (.exit 0) [] [(false, some ⟨true, .rows [.ints .u64 l]⟩), (false, some ⟨true, .rows [.ints .i64 k, .ints .i64 d, .ints .i64 a, .ints .i64 t, .bools w]⟩)]
  | 0, i, ws, hi, hl, hw => by
    rw [iterR]
    refine (t_ou cntL mdN mdW actE actW i k.length ws.length x l k d a t w ws _).trans ?_
    rw [decide_eq_false (show ¬ (i : Int) < 40 by omega), cF]
    cases decide ((i : Int) < (k.length : Int))
    · rw [cF]
    · rw [cT]
  | j + 1, i, ws, hi, hl, hw => by
    rw [iterR]
    refine (t_ou cntL mdN mdW actE actW i k.length ws.length x l k d a t w ws _).trans ?_
    rw [decide_eq_true (show (i : Int) < 40 by omega), cT]
    by_cases c1 : i < k.length
    rotate_left
    · rw [decide_eq_false (show ¬ (i : Int) < (k.length : Int) by omega), cF]
    have f1 : okM ws.length ws = true := by simp [okM, hl]
    have fd : inI (d.getD i 0) = true := getD_allI hd i
    have fa : inI (a.getD i 0) = true := getD_allI ha i
    have ft : inI (t.getD i 0) = true := getD_allI ht i
    rw [decide_eq_true (show (i : Int) < (k.length : Int) by omega), cT, decide_eq_true (show (0 : Int) ≤ i by omega), Bool.and_self, Int.toNat_natCast, Nat.zero_add, ld, la, lt, lw, decide_eq_true c1, Bool.and_self, Bool.and_self, Bool.and_self, Bool.and_self, Bool.and_self,
      wrap_i64 (n := (i : Int) + 1) (by omega) (by omega), show (i : Int) + 1 = ((i + 1 : Nat) : Int) from by omega]
    generalize k.getD i 0 = kk at *
    generalize d.getD i 0 = dd at fd ⊢
    generalize a.getD i 0 = aa at fa ⊢
    generalize t.getD i 0 = tt at ft ⊢
    generalize w.getD i false = ww at *
    have ih := loopOu x l k d a t w hd ha ht ld la lt lw K j (i + 1) (actW ws kk dd aa tt ww) (by omega) (by rw [actW_len]; exact hl) (actW_all hw _ _ _ _ _)
    obtain ⟨n1, n2⟩ := act_cnt ws kk dd aa tt ww
    have f2 : okM ws.length (actW ws kk dd aa tt ww) = true := by simp [okM, actW_len, hl]
    simp only [actW_len] at ih
    rw [f1, fd, fa, ft, hw, f2, actW_len, Nat.beq_refl, show ((ws.length : Int) != (ws.length : Int)) = false from by simp, decide_eq_false (show ¬ ((cntL ws (actW ws kk dd aa tt ww) : Nat) : Int) > 1 by omega)]
    simp only [Bool.and_self, cT, cF]
    by_cases c2 : actE ws kk dd aa tt ww = 0
    · rw [show (actE ws kk dd aa tt ww != 0) = false from by simpa using c2, cF]
      exact ih
    · rw [show (actE ws kk dd aa tt ww != 0) = true from by simpa using c2, cT, n2 c2, show decide (((0 : Nat) : Int) > 0) = false from rfl, cF]
      exact ih
def cOu : HeadO := fun vs h K => match vs, h with
  | [.e (.c (.slice ⟨1, 0, 5, 0, 0, 0, 0⟩ 5 ll 0 false)), .e (.c (.ptr ⟨2, 0, 0, 0, 0, 0, 0⟩)), .e (.c (.int .i64 i))],
    [(false, some ⟨true, .rows [.ints .u64 l]⟩), (false, some ⟨true, .rows [.ints .i64 k, .ints .i64 d, .ints .i64 a, .ints .i64 t, .bools w]⟩), (true, some ⟨false, .mix [.slice ⟨3, 0, 1, 0, 0, 0, 0⟩ 1 N x true]⟩), (true, some ⟨false, .rows [.ints .u64 ws]⟩)] =>
    match decide (i = 0) && allI d && allI a && allI t && Nat.beq ll k.length && Nat.beq d.length k.length && Nat.beq a.length k.length && Nat.beq t.length k.length && Nat.beq w.length k.length && okM N ws && allW ws with
    | true => K (.exit 0) [] [(false, some ⟨true, .rows [.ints .u64 l]⟩), (false, some ⟨true, .rows [.ints .i64 k, .ints .i64 d, .ints .i64 a, .ints .i64 t, .bools w]⟩)]
    | false => none
  | _, _ => none
theorem cOu_sound : HeadSound Try.prog iOu (loopOf Try.prog 7 0) cOu := by
  refine HeadSound.short (iterR_sound (F := 80) sOn_ok mix lIn_in) fun vs h K r e => ?_
  unfold cOu at e
  split at e
  · rename_i ll i l k d a t w N x ws
    split at e
    · rename_i hc
      simp only [Bool.and_eq_true, decide_eq_true_eq] at hc
      obtain ⟨⟨⟨⟨⟨⟨⟨⟨⟨⟨rfl, c1⟩, c2⟩, c3⟩, c4⟩, c5⟩, c6⟩, c7⟩, c8⟩, c9⟩, c10⟩ := hc
      obtain ⟨rfl, hn⟩ := okM_spec c9
      have c4 := Nat.eq_of_beq_eq_true c4
      subst c4
      exact ⟨41, (loopOu x l k d a t w c1 c2 c3 (Nat.eq_of_beq_eq_true c5) (Nat.eq_of_beq_eq_true c6) (Nat.eq_of_beq_eq_true c7) (Nat.eq_of_beq_eq_true c8) K 40 0 ws (by omega) hn c10).trans e⟩
    · cases e
  · cases e
noncomputable def lOne : Nat → Option Orc := lAdd (lIn cntL) 0 (wrapO iOu 0 cOu)
theorem lOne_for : LFor 2 Try.prog 7 lOne := lAdd_for (I := iOu) lIn_for (by kernel_rfl) cOu_sound
theorem t_one (N : Int → Nat) (M : Int → List Int → List Int) (XE : AE6) (XW : AW6) (n : Int) (wl ll : Nat) (l k d a t : List Int) (w : List Bool) (K : Res → Option Res) : runLG Try.prog (sOn N M XE XW) lOne 2 150 7 [aint .i64 n, .e (.c (.slice ⟨0, 0, 1, 0, 0, 0, 0⟩ 1 wl 0 false)), .e (.c (.slice ⟨1, 0, 5, 0, 0, 0, 0⟩ 5 ll 0 false))] [some ⟨true, .rows [.ints .u64 l]⟩, some ⟨true, .rows [.ints .i64 k, .ints .i64 d, .ints .i64 a, .ints .i64 t, .bools w]⟩] K = (cond (Nat.beq wl (List.length l) && decide (List.length l < 4611686018427387904)) (cond (true && Go.Proofs.Ytmpmnjekcajlgaa.Wlk.allI d && Go.Proofs.Ytmpmnjekcajlgaa.Wlk.allI a && Go.Proofs.Ytmpmnjekcajlgaa.Wlk.allI t && Nat.beq ll (List.length k) && Nat.beq (List.length d) (List.length k) && Nat.beq (List.length a) (List.length k) && Nat.beq (List.length t) (List.length k) && Nat.beq (List.length w) (List.length k) && Go.Proofs.Ytmpmnjekcajlgaa.Wlk.okM (N n) (M n l) && Go.Proofs.Ytmpmnjekcajlgaa.Wlk.allW (M n l)) (K (Res.mk (AV.e (AE.c (AC.bool true))) [(none), (none)])) none) none) := by kernel_rfl
theorem allW_of {l : List Int} (h : ∀ n ∈ l, IntKind.u64.min ≤ n ∧ n ≤ IntKind.u64.max) : allW l = true := by
  simp only [allW, List.all_eq_true]
  intro x hx
  obtain ⟨h1, h2⟩ := h x hx
  have e1 : IntKind.min .u64 = 0 := by decide
  have e2 : IntKind.max .u64 = 18446744073709551615 := by decide
  rw [e1] at h1; rw [e2] at h2
  simp only [word, Bool.and_eq_true, decide_eq_true_eq]; omega
theorem md_facts (n : Int) {l : List Int} (h : allW l = true) : okM (mdN n) (mdW n l) = true ∧ allW (mdW n l) = true := by
  have h1 := mdW_len n l
  have h2 := mdN_in n
  exact ⟨by simp [okM, h1]; omega, mdW_all n h⟩
theorem ok2 {w : World} {s t : SlArg} (h : SlOk w s) (g : SlOk w t) : ∀ (i : Nat) (s' : SlArg), [s, t][i]? = some s' → SlOk w s' := by
  intro i s' hs
  match i, hs with
  | 0, hs => simp at hs; subst hs; exact h
  | 1, hs => simp at hs; subst hs; exact g
  | i + 2, hs => simp at hs
/-- The columns of a row of acts. -/
theorem acts_of {W : World} {y : Option Addr} {len cap : Nat} (hg : IsGrid [.int .i64, .int .i64, .int .i64, .int .i64, .bool] W y len cap) : ∃ (k d a t : List Int) (w : List Bool), SlOk W ⟨y, len, cap, [.ints .i64 k, .ints .i64 d, .ints .i64 a, .ints .i64 t, .bools w]⟩ ∧
    k.length = len ∧ d.length = len ∧ a.length = len ∧ t.length = len ∧ w.length = len ∧ allI k = true ∧ allI d = true ∧ allI a = true ∧ allI t = true := by
  obtain ⟨ok, hc⟩ := hg.ok (by decide)
  obtain ⟨k, ek, lk, fk⟩ := hc 0 (.int .i64) rfl
  obtain ⟨d, ed, ld, fd⟩ := hc 1 (.int .i64) rfl
  obtain ⟨a, ea, la, fa⟩ := hc 2 (.int .i64) rfl
  obtain ⟨t, et, lt, ft⟩ := hc 3 (.int .i64) rfl
  obtain ⟨w, ew, lw⟩ := hc 4 .bool rfl
  have e : gridCols W y 5 len 0 [.int .i64, .int .i64, .int .i64, .int .i64, .bool] = [.ints .i64 k, .ints .i64 d, .ints .i64 a, .ints .i64 t, .bools w] := by
    show [gridCol W y 5 len 0 _, gridCol W y 5 len 1 _, gridCol W y 5 len 2 _, gridCol W y 5 len 3 _, gridCol W y 5 len 4 _] = _
    have ek' : gridCol W y 5 len 0 (.int .i64) = .ints .i64 k := ek
    have ed' : gridCol W y 5 len 1 (.int .i64) = .ints .i64 d := ed
    have ea' : gridCol W y 5 len 2 (.int .i64) = .ints .i64 a := ea
    have et' : gridCol W y 5 len 3 (.int .i64) = .ints .i64 t := et
    have ew' : gridCol W y 5 len 4 .bool = .bools w := ew
    rw [ek', ed', ea', et', ew']
  exact ⟨k, d, a, t, w, by rw [← e]; exact ok, lk, ld, la, lt, lw, allI_of fk, allI_of fd, allI_of fa, allI_of ft⟩
theorem one_walk (n : Int) (x : Option Addr) (len cap : Nat) (zs : List Int) (y : Option Addr) (len1 cap1 : Nat) (W : World) (h0 : (Lit.int .i64 n).wf = true) (hr : IsRow .u64 W x len cap zs) (hs : len * 8 ≤ 140737488351232) (hg : IsGrid [.int .i64, .int .i64, .int .i64, .int .i64, .bool] W y len1 cap1) (hs1 : len1 * 40 ≤ 140737488351232) :
    Calls Try.prog 7 #[.int .i64 n, .slice x len cap, .slice y len1 cap1] W fun e w' => e = .returned (.bool true) ∧ Below W.heap.size W w' := by
  obtain ⟨ok, hl, hb⟩ := hr.ok
  obtain ⟨k, d, a, t, w, ok1, lk, ld, la, lt, lw, fk, fd, fa, ft⟩ := acts_of hg
  refine of_rows (sl := [intArg .u64 x len cap zs, ⟨y, len1, cap1, [.ints .i64 k, .ints .i64 d, .ints .i64 a, .ints .i64 t, .bools w]⟩]) (args := [aint .i64 n, .e (.c (.slice ⟨0, 0, 1, 0, 0, 0, 0⟩ 1 len 0 false)), .e (.c (.slice ⟨1, 0, 5, 0, 0, 0, 0⟩ 5 len1 0 false))])
    (blks := [none, none]) (runL_sound sOn_ok mix 150 7 one_dis lOne_for).gc (ok2 ok ok1) ?_ ((t_one mdN mdW actE actW n len len1 (zs.take len) k d a t w some).trans ?_)
  · exact LR.cons rfl (LR.cons (args_slice (i := 0) rfl ok rfl) (LR.cons (args_slice (i := 1) rfl ok1 rfl) LR.nil))
  · obtain ⟨q1, q2⟩ := md_facts n (allW_of hb)
    simp only [hl, lk, ld, la, lt, lw, fd, fa, ft, q1, q2, Nat.beq_refl, decide_eq_true (show len < 4611686018427387904 by omega), Bool.and_self, cT]
end Go.Proofs.Ytmpmnjekcajlgaa.Wlk
