/- The law of what is mapped, listed and kept, walked. -/
import Derived.Test.YtmpmnjekcajlgaaSpK
set_option linter.unusedVariables false
set_option linter.unusedSimpArgs false
set_option maxRecDepth 100000
namespace Go.Proofs.Ytmpmnjekcajlgaa.Wlk
open Go Go.Eng Go.Proofs Go.RowKit
def dsF (k d a t : List Int) (w : List Bool) : Nat → Nat → List Int → List Int
  | 0, _, ws => ws
  | j + 1, i, ws => if i < k.length then dsF k d a t w j (i + 1) (actW ws (k.getD i 0) (d.getD i 0) (a.getD i 0) (t.getD i 0) (w.getD i false)) else ws
theorem dsF_ok (k d a t : List Int) (w : List Bool) : ∀ j i ws, allW ws = true → (dsF k d a t w j i ws).length = ws.length ∧ allW (dsF k d a t w j i ws) = true
  | 0, _, ws, h => ⟨rfl, h⟩
  | j + 1, i, ws, h => by
    simp only [dsF]
    split
    · have := dsF_ok k d a t w j (i + 1) (actW ws (k.getD i 0) (d.getD i 0) (a.getD i 0) (t.getD i 0) (w.getD i false)) (actW_all h _ _ _ _ _)
      rw [actW_len] at this; exact this
    · exact ⟨rfl, h⟩
theorem loopDs (EM : XB) (LN : XN) (CP CA : XL) (CB : XM) (h1 : ∀ ws d, (CP ws d).length = LN ws d) (h2 : ∀ ws d, (CA ws d).length = LN ws d) (h3 : ∀ ws d, (CB ws d).length = LN ws d) (h4 : ∀ ws d, LN ws d < 4611686018427387904)
    (x y : Nat) (l k d a t : List Int) (w : List Bool) (hd : allI d = true) (ha : allI a = true) (ht : allI t = true) (ld : d.length = k.length) (la : a.length = k.length) (lt : t.length = k.length) (lw : w.length = k.length) (K : HeadK) : ∀ (j i : Nat) (ws : List Int), i + j = 40 → ws.length ≤ 65536 → allW ws = true →
    iterR Try.prog (sDs mdN mdW actE actW EM LN CP CA CB) lNil iDs 80 (loopOf Try.prog 6 0) (j + 1) (dsV k.length i) (dsH l k d a t w ws.length x ws.length y ws ws) K =
      K (.exit 0) [.e (.c (.ptr ⟨2, 0, 0, 0, 0, 0, 0⟩)), .e (.c (.ptr ⟨3, 0, 0, 0, 0, 0, 0⟩))] (dsH l k d a t w ws.length x ws.length y (dsF k d a t w j i ws) (dsF k d a t w j i ws))
  | 0, i, ws, hi, hl, hw => by
    rw [iterR]
    refine (t_dsB mdN mdW actE actW EM LN CP CA CB i k.length ws.length x ws.length y l k d a t w ws ws _).trans ?_
    rw [decide_eq_false (show ¬ (i : Int) < 40 by omega), cF]
    cases decide ((i : Int) < (k.length : Int))
    · rw [cF]; rfl
    · rw [cT]; rfl
  | j + 1, i, ws, hi, hl, hw => by
    rw [iterR]
    refine (t_dsB mdN mdW actE actW EM LN CP CA CB i k.length ws.length x ws.length y l k d a t w ws ws _).trans ?_
    rw [decide_eq_true (show (i : Int) < 40 by omega), cT]
    by_cases c1 : i < k.length
    rotate_left
    · rw [decide_eq_false (show ¬ (i : Int) < (k.length : Int) by omega), cF]
      simp only [dsF, c1, if_false]
    have q : dsF k d a t w (j + 1) i ws = dsF k d a t w j (i + 1) (actW ws (k.getD i 0) (d.getD i 0) (a.getD i 0) (t.getD i 0) (w.getD i false)) := by simp only [dsF, c1, if_true]
    rw [q]
    have f1 : okM ws.length ws = true := by simp [okM, hl]
    have fd : inI (d.getD i 0) = true := getD_allI hd i
    have fa : inI (a.getD i 0) = true := getD_allI ha i
    have ft : inI (t.getD i 0) = true := getD_allI ht i
    rw [decide_eq_true (show (i : Int) < (k.length : Int) by omega), cT, decide_eq_true (show (0 : Int) ≤ i by omega), Bool.and_self, Int.toNat_natCast, Nat.zero_add, ld, la, lt, lw, decide_eq_true c1, Bool.and_self, Bool.and_self, Bool.and_self, Bool.and_self, Bool.and_self,
      wrap_i64 (n := (i : Int) + 1) (by omega) (by omega), show (i : Int) + 1 = ((i + 1 : Nat) : Int) from by omega]
    have ih := loopDs EM LN CP CA CB h1 h2 h3 h4 x y l k d a t w hd ha ht ld la lt lw K j (i + 1) (actW ws (k.getD i 0) (d.getD i 0) (a.getD i 0) (t.getD i 0) (w.getD i false)) (by omega) (by rw [actW_len]; exact hl) (actW_all hw _ _ _ _ _)
    simp only [actW_len] at ih
    have hwl := actW_len ws (k.getD i 0) (d.getD i 0) (a.getD i 0) (t.getD i 0) (w.getD i false)
    have hwa := actW_all hw (k.getD i 0) (d.getD i 0) (a.getD i 0) (t.getD i 0) (w.getD i false)
    generalize actW ws (k.getD i 0) (d.getD i 0) (a.getD i 0) (t.getD i 0) (w.getD i false) = W1 at ih hwl hwa ⊢
    have f2 : okM ws.length W1 = true := by simp [okM, hwl, hl]
    generalize d.getD i 0 = dd at fd ⊢
    rw [f1, fd, fa, ft, hw, f2, hwa]
    simp only [Bool.and_self, bne_self_eq_false, cT, cF]
    cases hs : sth ws.length dd with
    | false => simp only [bne_self_eq_false, Bool.not_true, cT, cF]; exact ih
    | true =>
      rw [cT]
      cases he : EM W1 dd with
      | true => simp only [bne_self_eq_false, Bool.not_true, cT, cF]; exact ih
      | false =>
        simp only [h1, h2, h3, Nat.beq_refl, decide_eq_true (h4 W1 dd), decide_true, bne_self_eq_false, Bool.and_self, Bool.not_true, cT, cF]
        exact ih
def cDs : HeadO := fun vs h K => match vs, h with
  | [.e (.c (.slice ⟨1, 0, 5, 0, 0, 0, 0⟩ 5 ll 0 false)), .e (.c (.ptr ⟨2, 0, 0, 0, 0, 0, 0⟩)), .e (.c (.ptr ⟨3, 0, 0, 0, 0, 0, 0⟩)), .e (.c (.int .i64 i))],
    [(false, some ⟨true, .rows [.ints .u64 l]⟩), (false, some ⟨true, .rows [.ints .i64 k, .ints .i64 d, .ints .i64 a, .ints .i64 t, .bools w]⟩), (true, some ⟨false, .mix [.slice ⟨4, 0, 1, 0, 0, 0, 0⟩ 1 n x true]⟩), (true, some ⟨false, .mix [.slice ⟨5, 0, 1, 0, 0, 0, 0⟩ 1 m y true]⟩), (true, some ⟨false, .rows [.ints .u64 ws]⟩), (true, some ⟨false, .rows [.ints .u64 wt]⟩)] =>
    match decide (i = 0) && allI d && allI a && allI t && Nat.beq ll k.length && Nat.beq d.length k.length && Nat.beq a.length k.length && Nat.beq t.length k.length && Nat.beq w.length k.length && okM n ws && Nat.beq m n && decide (wt = ws) && allW ws with
    | true => K (.exit 0) [.e (.c (.ptr ⟨2, 0, 0, 0, 0, 0, 0⟩)), .e (.c (.ptr ⟨3, 0, 0, 0, 0, 0, 0⟩))]
       [(false, some ⟨true, .rows [.ints .u64 l]⟩), (false, some ⟨true, .rows [.ints .i64 k, .ints .i64 d, .ints .i64 a, .ints .i64 t, .bools w]⟩), (true, some ⟨false, .mix [.slice ⟨4, 0, 1, 0, 0, 0, 0⟩ 1 n x true]⟩), (true, some ⟨false, .mix [.slice ⟨5, 0, 1, 0, 0, 0, 0⟩ 1 m y true]⟩), (true, some ⟨false, .rows [.ints .u64 (dsF k d a t w 40 0 ws)]⟩), (true, some ⟨false, .rows [.ints .u64 (dsF k d a t w 40 0 ws)]⟩)]
    | false => none
  | _, _ => none
theorem l_len (ws : List Int) (d : Int) : (lCP ws d).length = lLN ws d ∧ (lCA ws d).length = lLN ws d ∧ (lCB ws d).length = lLN ws d ∧ lLN ws d < 4611686018427387904 := by
  have h := pgL_len ws d 256
  unfold lCP lCA lCB lLN cP cA cB
  rw [List.length_map, List.length_map, List.length_map]
  generalize (pgL ws d 256).length = n at h ⊢
  exact ⟨rfl, rfl, rfl, by omega⟩
theorem cDs_sound : HeadSound Try.prog iDs (loopOf Try.prog 6 0) cDs := by
  refine HeadSound.short (iterR_sound (F := 80) sDs_ok mix lNil_ok) fun vs h K r e => ?_
  unfold cDs at e
  split at e
  · rename_i ll i l k d a t w n x m y ws wt
    split at e
    · rename_i hc
      simp only [Bool.and_eq_true, decide_eq_true_eq] at hc
      obtain ⟨⟨⟨⟨⟨⟨⟨⟨⟨⟨⟨⟨rfl, c1⟩, c2⟩, c3⟩, c4⟩, c5⟩, c6⟩, c7⟩, c8⟩, c9⟩, c10⟩, rfl⟩, c11⟩ := hc
      obtain ⟨rfl, hn⟩ := okM_spec c9
      have c4 := Nat.eq_of_beq_eq_true c4
      have c10 := Nat.eq_of_beq_eq_true c10
      subst c4; subst c10
      exact ⟨41, (loopDs lEM lLN lCP lCA lCB (fun w d => (l_len w d).1) (fun w d => (l_len w d).2.1) (fun w d => (l_len w d).2.2.1) (fun w d => (l_len w d).2.2.2) x y l k d a t w c1 c2 c3 (Nat.eq_of_beq_eq_true c5) (Nat.eq_of_beq_eq_true c6) (Nat.eq_of_beq_eq_true c7) (Nat.eq_of_beq_eq_true c8) K 40 0 wt (by omega) hn c11).trans e⟩
    · cases e
  · cases e
noncomputable def lDs : Nat → Option Orc := lAdd lNil 0 (wrapO iDs 0 cDs)
theorem lDs_for : LFor 2 Try.prog 6 lDs := lAdd_for (I := iDs) lNil_for (by kernel_rfl) cDs_sound
theorem ds_dis : Go.Eng.distinct (blockIds (codeOf Try.prog 6)) = true := by kernel_rfl
theorem t_sdoes (N : Int → Nat) (M : Int → List Int → List Int) (XE : AE6) (XW : AW6) (EM : XB) (LN : XN) (CP CA : XL) (CB : XM) (n : Int) (wl ll : Nat) (l k d a t : List Int) (w : List Bool) (K : Res → Option Res) : runLG Try.prog (sDs N M XE XW EM LN CP CA CB) lDs 2 150 6 [aint .i64 n, .e (.c (.slice ⟨0, 0, 1, 0, 0, 0, 0⟩ 1 wl 0 false)), .e (.c (.slice ⟨1, 0, 5, 0, 0, 0, 0⟩ 5 ll 0 false))] [some ⟨true, .rows [.ints .u64 l]⟩, some ⟨true, .rows [.ints .i64 k, .ints .i64 d, .ints .i64 a, .ints .i64 t, .bools w]⟩] K = (cond (Nat.beq wl (List.length l) && decide (List.length l < 4611686018427387904)) (cond (true && Go.Proofs.Ytmpmnjekcajlgaa.Wlk.allI d && Go.Proofs.Ytmpmnjekcajlgaa.Wlk.allI a && Go.Proofs.Ytmpmnjekcajlgaa.Wlk.allI t && Nat.beq ll (List.length k) && Nat.beq (List.length d) (List.length k) && Nat.beq (List.length a) (List.length k) && Nat.beq (List.length t) (List.length k) && Nat.beq (List.length w) (List.length k) && Go.Proofs.Ytmpmnjekcajlgaa.Wlk.okM (N n) (M n l) && Nat.beq (N n) (N n) && decide (M n l = M n l) && Go.Proofs.Ytmpmnjekcajlgaa.Wlk.allW (M n l)) (cond (Go.Proofs.Ytmpmnjekcajlgaa.Wlk.okM (N n) (Go.Proofs.Ytmpmnjekcajlgaa.Wlk.dsF k d a t w 40 0 (M n l))) (cond (Nat.beq (N n) (List.length (Go.Proofs.Ytmpmnjekcajlgaa.Wlk.dsF k d a t w 40 0 (M n l))) && Nat.beq (N n) (List.length (Go.Proofs.Ytmpmnjekcajlgaa.Wlk.dsF k d a t w 40 0 (M n l))) && decide (List.length (Go.Proofs.Ytmpmnjekcajlgaa.Wlk.dsF k d a t w 40 0 (M n l)) < 4611686018427387904) && decide (List.length (Go.Proofs.Ytmpmnjekcajlgaa.Wlk.dsF k d a t w 40 0 (M n l)) < 4611686018427387904)) (K (Res.mk (AV.e (AE.c (AC.bool (decide (Go.Proofs.Ytmpmnjekcajlgaa.Wlk.dsF k d a t w 40 0 (M n l) = Go.Proofs.Ytmpmnjekcajlgaa.Wlk.dsF k d a t w 40 0 (M n l)))))) [(none), (none)])) none) none) none) none) := by kernel_rfl
theorem sdoes_walk (n : Int) (x : Option Addr) (len cap : Nat) (zs : List Int) (y : Option Addr) (len1 cap1 : Nat) (W : World) (h0 : (Lit.int .i64 n).wf = true) (hr : IsRow .u64 W x len cap zs) (hs : len * 8 ≤ 140737488351232) (hg : IsGrid [.int .i64, .int .i64, .int .i64, .int .i64, .bool] W y len1 cap1) (hs1 : len1 * 40 ≤ 140737488351232) :
    Calls Try.prog 6 #[.int .i64 n, .slice x len cap, .slice y len1 cap1] W fun e w' => e = .returned (.bool true) ∧ Below W.heap.size W w' := by
  obtain ⟨ok, hl, hb⟩ := hr.ok
  obtain ⟨k, d, a, t, w, ok1, lk, ld, la, lt, lw, fk, fd, fa, ft⟩ := acts_of hg
  refine of_rows (sl := [intArg .u64 x len cap zs, ⟨y, len1, cap1, [.ints .i64 k, .ints .i64 d, .ints .i64 a, .ints .i64 t, .bools w]⟩]) (args := [aint .i64 n, .e (.c (.slice ⟨0, 0, 1, 0, 0, 0, 0⟩ 1 len 0 false)), .e (.c (.slice ⟨1, 0, 5, 0, 0, 0, 0⟩ 5 len1 0 false))])
    (blks := [none, none]) (runL_sound sDs_ok mix 150 6 ds_dis lDs_for).gc (ok2 ok ok1) ?_ ((t_sdoes mdN mdW actE actW lEM lLN lCP lCA lCB n len len1 (zs.take len) k d a t w some).trans ?_)
  · exact LR.cons rfl (LR.cons (args_slice (i := 0) rfl ok rfl) (LR.cons (args_slice (i := 1) rfl ok1 rfl) LR.nil))
  · obtain ⟨q1, q2⟩ := md_facts n (allW_of hb)
    have q3 := mdW_len n (zs.take len)
    have q4 := mdN_in n
    obtain ⟨d1, d2⟩ := dsF_ok k d a t w 40 0 (mdW n (zs.take len)) q2
    rw [q3] at d1
    have f1 : okM (mdN n) (dsF k d a t w 40 0 (mdW n (zs.take len))) = true := by simp [okM, d1]; omega
    simp only [hl, lk, ld, la, lt, lw, fd, fa, ft, q1, q2, f1, d1, Nat.beq_refl, decide_eq_true (show len < 4611686018427387904 by omega), decide_eq_true (show mdN n < 4611686018427387904 by omega), decide_true, Bool.and_self, cT]
end Go.Proofs.Ytmpmnjekcajlgaa.Wlk
