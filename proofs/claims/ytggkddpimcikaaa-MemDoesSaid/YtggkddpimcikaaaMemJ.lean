/- The law of whatever is put, copied and read, walked. -/
import Derived.Test.YtggkddpimcikaaaMemI
set_option linter.unusedVariables false
set_option linter.unusedSimpArgs false
set_option maxRecDepth 100000
namespace Go.Proofs.Ytggkddpimcikaaa.Wlk
open Go Go.Eng Go.Proofs Go.RowKit
theorem cT {α : Type} (a b : α) : cond true a b = a := by
  have h : ∀ c : Bool, c = true → cond c a b = a := fun c hc => by rw [hc, cond_true]
  exact h true rfl
theorem cF {α : Type} (a b : α) : cond false a b = b := by
  have h : ∀ c : Bool, c = false → cond c a b = b := fun c hc => by rw [hc, cond_false]
  exact h false rfl
def allI (l : List Int) : Bool := l.all inI
theorem getD_allI {l : List Int} (h : allI l = true) (i : Nat) : inI (l.getD i 0) = true := by
  rw [List.getD_eq_getElem?_getD]
  cases e : l[i]? with
  | none => rfl
  | some x =>
    simp only [allI, List.all_eq_true] at h
    exact h x (List.mem_of_getElem? e)
theorem allI_of {l : List Int} (h : ∀ n ∈ l, (Lit.int .i64 n).wf = true) : allI l = true := by
  simp only [allI, List.all_eq_true]
  exact fun x hx => wfI (h x hx)
def opW (ws : List Int) (k a b n v : Int) : List Int := if k = 0 then putW ws a v else if k = 1 then zeroW ws a n else if k = 2 then copyW ws a b n else ws
theorem opW_len (ws : List Int) (k a b n v : Int) : (opW ws k a b n v).length = ws.length := by
  unfold opW
  split
  · exact putW_len _ _ _
  split
  · exact zeroW_len _ _ _
  split
  · exact copyW_len _ _ _ _
  · rfl
def doF (k a b n v : List Int) : Nat → Nat → List Int → List Int
  | 0, _, ws => ws
  | j + 1, i, ws => if i < k.length then doF k a b n v j (i + 1) (opW ws (k.getD i 0) (a.getD i 0) (b.getD i 0) (n.getD i 0) (v.getD i 0)) else ws
theorem doF_len (k a b n v : List Int) : ∀ j i ws, (doF k a b n v j i ws).length = ws.length
  | 0, _, _ => rfl
  | j + 1, i, ws => by
    simp only [doF]
    split
    · rw [doF_len k a b n v j, opW_len]
    · rfl
theorem loopDo (nI : Int) (x y : Nat) (k a b n v : List Int) (hk : allI k = true) (ha : allI a = true) (hb : allI b = true) (hn : allI n = true) (la : a.length = k.length) (lb : b.length = k.length) (ln : n.length = k.length) (lv : v.length = k.length) (K : HeadK) : ∀ (j i : Nat) (ws : List Int), i + j = 60 → ws.length ≤ 65536 →
    iterR Try.prog sDo lNil iDo 80 (loopOf Try.prog 7 0) (j + 1) (doV nI k.length i) (doH k a b n v ws.length x ws.length y ws ws) K =
      K (.exit 0) [.e (.c (.int .i64 nI)), .e (.c (.ptr ⟨1, 0, 0, 0, 0, 0, 0⟩)), .e (.c (.ptr ⟨2, 0, 0, 0, 0, 0, 0⟩))] (doH k a b n v ws.length x ws.length y (doF k a b n v j i ws) (doF k a b n v j i ws))
  | 0, i, ws, hi, hl => by
    rw [iterR]
    refine (t_doB nI i k.length ws.length x ws.length y k a b n v ws ws _).trans ?_
    rw [decide_eq_false (show ¬ (i : Int) < 60 by omega), cF]
    cases decide ((i : Int) < (k.length : Int))
    · rw [cF]; rfl
    · rw [cT]; rfl
  | j + 1, i, ws, hi, hl => by
    rw [iterR]
    refine (t_doB nI i k.length ws.length x ws.length y k a b n v ws ws _).trans ?_
    rw [decide_eq_true (show (i : Int) < 60 by omega), cT]
    by_cases c1 : i < k.length
    rotate_left
    · rw [decide_eq_false (show ¬ (i : Int) < (k.length : Int) by omega), cF]
      simp only [doF, c1, if_false]
    have ih := loopDo nI x y k a b n v hk ha hb hn la lb ln lv K j (i + 1) (opW ws (k.getD i 0) (a.getD i 0) (b.getD i 0) (n.getD i 0) (v.getD i 0)) (by omega) (by rw [opW_len]; exact hl)
    simp only [opW_len] at ih
    have q : doF k a b n v (j + 1) i ws = doF k a b n v j (i + 1) (opW ws (k.getD i 0) (a.getD i 0) (b.getD i 0) (n.getD i 0) (v.getD i 0)) := by simp only [doF, c1, if_true]
    rw [q]
    have f1 : okM ws.length ws = true := by simp [okM, hl]
    have fa : inI (a.getD i 0) = true := getD_allI ha i
    have fb : inI (b.getD i 0) = true := getD_allI hb i
    have fn : inI (n.getD i 0) = true := getD_allI hn i
    rw [decide_eq_true (show (i : Int) < (k.length : Int) by omega), cT, decide_eq_true (show (0 : Int) ≤ i by omega), Bool.and_self, cT, Int.toNat_natCast, Nat.zero_add, la, lb, ln, lv, decide_eq_true c1, Bool.and_self, Bool.and_self, Bool.and_self, Bool.and_self, Bool.and_self, cT,
      wrap_i64 (n := (i : Int) + 1) (by omega) (by omega), show (i : Int) + 1 = ((i + 1 : Nat) : Int) from by omega]
    generalize hkk : k.getD i 0 = kk at ih ⊢
    generalize a.getD i 0 = aa at ih fa ⊢
    generalize b.getD i 0 = bb at ih fb ⊢
    generalize n.getD i 0 = nn at ih fn ⊢
    generalize v.getD i 0 = vv at ih ⊢
    by_cases k0 : kk = 0
    · rw [show (kk == 0) = true from by simpa using k0, cT]
      have e : opW ws kk aa bb nn vv = putW ws aa vv := by unfold opW; rw [if_pos k0]
      rw [e] at ih ⊢
      have f2 : okM ws.length (putW ws aa vv) = true := by simp [okM, putW_len, hl]
      simp only [f1, f2, fa, fb, Bool.and_self, bne_self_eq_false, cT, cF]
      exact ih
    rw [show (kk == 0) = false from by simpa using k0, cF]
    by_cases k1 : kk = 1
    · rw [show (kk == 1) = true from by simpa using k1, cT]
      have e : opW ws kk aa bb nn vv = zeroW ws aa nn := by unfold opW; rw [if_neg k0, if_pos k1]
      rw [e] at ih ⊢
      have f2 : okM ws.length (zeroW ws aa nn) = true := by simp [okM, zeroW_len, hl]
      simp only [f1, f2, fa, fb, fn, Bool.and_self, bne_self_eq_false, cT, cF]
      exact ih
    rw [show (kk == 1) = false from by simpa using k1, cF]
    by_cases k2 : kk = 2
    · rw [show (kk == 2) = true from by simpa using k2, cT]
      have e : opW ws kk aa bb nn vv = copyW ws aa bb nn := by unfold opW; rw [if_neg k0, if_neg k1, if_pos k2]
      rw [e] at ih ⊢
      have f2 : okM ws.length (copyW ws aa bb nn) = true := by simp [okM, copyW_len, hl]
      simp only [f1, f2, fa, fb, fn, Bool.and_self, bne_self_eq_false, cT, cF]
      exact ih
    rw [show (kk == 2) = false from by simpa using k2, cF]
    have e : opW ws kk aa bb nn vv = ws := by unfold opW; rw [if_neg k0, if_neg k1, if_neg k2]
    rw [e] at ih ⊢
    simp only [f1, fa, fb, fn, Bool.and_self, bne_self_eq_false, cT, cF]
    cases c : inM ws.length aa nn with
    | true =>
      have kc := c
      simp only [inM, Bool.and_eq_true, decide_eq_true_eq] at kc
      have l1 : (List.take nn.toNat (List.drop aa.toNat ws)).length = nn.toNat := by simp only [List.length_take, List.length_drop]; omega
      simp only [l1, Nat.beq_refl, decide_eq_true (show nn.toNat < 4611686018427387904 by omega), decide_true, Bool.and_self, Bool.not_true, cT, cF, bne_self_eq_false]
      exact ih
    | false =>
      simp only [Bool.not_true, cT, cF, bne_self_eq_false]
      exact ih
def cDo : HeadO := fun vs h K => match vs, h with
  | [.e (.c (.int .i64 nI)), .e (.c (.slice ⟨0, 0, 5, 0, 0, 0, 0⟩ 5 ll 0 false)), .e (.c (.ptr ⟨1, 0, 0, 0, 0, 0, 0⟩)), .e (.c (.ptr ⟨2, 0, 0, 0, 0, 0, 0⟩)), .e (.c (.int .i64 i))],
    [(false, some ⟨true, .rows [.ints .i64 k, .ints .i64 a, .ints .i64 b, .ints .i64 n, .ints .u64 v]⟩), (true, some ⟨false, .mix [.slice ⟨3, 0, 1, 0, 0, 0, 0⟩ 1 N x true]⟩), (true, some ⟨false, .mix [.slice ⟨4, 0, 1, 0, 0, 0, 0⟩ 1 M y true]⟩), (true, some ⟨false, .rows [.ints .u64 ws]⟩), (true, some ⟨false, .rows [.ints .u64 wt]⟩)] =>
    match decide (i = 0) && allI k && allI a && allI b && allI n && Nat.beq ll k.length && Nat.beq a.length k.length && Nat.beq b.length k.length && Nat.beq n.length k.length && Nat.beq v.length k.length && okM N ws && Nat.beq M N && decide (wt = ws) with
    | true => K (.exit 0) [.e (.c (.int .i64 nI)), .e (.c (.ptr ⟨1, 0, 0, 0, 0, 0, 0⟩)), .e (.c (.ptr ⟨2, 0, 0, 0, 0, 0, 0⟩))]
       [(false, some ⟨true, .rows [.ints .i64 k, .ints .i64 a, .ints .i64 b, .ints .i64 n, .ints .u64 v]⟩), (true, some ⟨false, .mix [.slice ⟨3, 0, 1, 0, 0, 0, 0⟩ 1 N x true]⟩), (true, some ⟨false, .mix [.slice ⟨4, 0, 1, 0, 0, 0, 0⟩ 1 M y true]⟩), (true, some ⟨false, .rows [.ints .u64 (doF k a b n v 60 0 ws)]⟩), (true, some ⟨false, .rows [.ints .u64 (doF k a b n v 60 0 ws)]⟩)]
    | false => none
  | _, _ => none
theorem cDo_sound : HeadSound Try.prog iDo (loopOf Try.prog 7 0) cDo := by
  refine HeadSound.short (iterR_sound (F := 80) sDo_ok mix lNil_ok) fun vs h K r e => ?_
  unfold cDo at e
  split at e
  · rename_i nI ll i k a b n v N x M y ws wt
    split at e
    · rename_i hc
      simp only [Bool.and_eq_true, decide_eq_true_eq] at hc
      obtain ⟨⟨⟨⟨⟨⟨⟨⟨⟨⟨⟨⟨rfl, c1⟩, c2⟩, c3⟩, c4⟩, c5⟩, c6⟩, c7⟩, c8⟩, c9⟩, c10⟩, c11⟩, rfl⟩ := hc
      obtain ⟨rfl, hn⟩ := okM_spec c10
      have c5 := Nat.eq_of_beq_eq_true c5
      have c11 := Nat.eq_of_beq_eq_true c11
      subst c5; subst c11
      exact ⟨61, (loopDo nI x y k a b n v c1 c2 c3 c4 (Nat.eq_of_beq_eq_true c6) (Nat.eq_of_beq_eq_true c7) (Nat.eq_of_beq_eq_true c8) (Nat.eq_of_beq_eq_true c9) K 60 0 wt (by omega) hn).trans e⟩
    · cases e
  · cases e
noncomputable def lDo : Nat → Option Orc := lAdd lNil 0 (wrapO iDo 0 cDo)
theorem lDo_for : LFor 1 Try.prog 7 lDo := lAdd_for (I := iDo) lNil_for (by kernel_rfl) cDo_sound
theorem do_dis : Go.Eng.distinct (blockIds (codeOf Try.prog 7)) = true := by kernel_rfl
theorem t_do (nI : Int) (ll : Nat) (k a b n v : List Int) (K : Res → Option Res) : runLG Try.prog sDo lDo 1 150 7 [aint .i64 nI, .e (.c (.slice ⟨0, 0, 5, 0, 0, 0, 0⟩ 5 ll 0 false))] [some ⟨true, .rows [.ints .i64 k, .ints .i64 a, .ints .i64 b, .ints .i64 n, .ints .u64 v]⟩] K = (cond (Go.Proofs.Ytggkddpimcikaaa.Wlk.newOk nI) (cond (Go.Proofs.Ytggkddpimcikaaa.Wlk.newOk nI) (cond (true && Go.Proofs.Ytggkddpimcikaaa.Wlk.allI k && Go.Proofs.Ytggkddpimcikaaa.Wlk.allI a && Go.Proofs.Ytggkddpimcikaaa.Wlk.allI b && Go.Proofs.Ytggkddpimcikaaa.Wlk.allI n && Nat.beq ll (List.length k) && Nat.beq (List.length a) (List.length k) && Nat.beq (List.length b) (List.length k) && Nat.beq (List.length n) (List.length k) && Nat.beq (List.length v) (List.length k) && Go.Proofs.Ytggkddpimcikaaa.Wlk.okM (Int.toNat nI) (List.replicate (Int.toNat nI) (0 : Int)) && Nat.beq (Int.toNat nI) (Int.toNat nI) && decide (List.replicate (Int.toNat nI) (0 : Int) = List.replicate (Int.toNat nI) (0 : Int))) (cond (Go.Proofs.Ytggkddpimcikaaa.Wlk.okM (Int.toNat nI) (Go.Proofs.Ytggkddpimcikaaa.Wlk.doF k a b n v 60 0 (List.replicate (Int.toNat nI) (0 : Int))) && inI 0 && inI nI) (cond (Go.Proofs.Ytggkddpimcikaaa.Wlk.inM (Int.toNat nI) 0 nI) (cond ((↑(Int.toNat nI) : Int) == nI) (cond (Nat.beq (Int.toNat nI) (List.length (List.take (Int.toNat nI) (List.drop 0 (Go.Proofs.Ytggkddpimcikaaa.Wlk.doF k a b n v 60 0 (List.replicate (Int.toNat nI) (0 : Int)))))) && Nat.beq (Int.toNat nI) (List.length (Go.Proofs.Ytggkddpimcikaaa.Wlk.doF k a b n v 60 0 (List.replicate (Int.toNat nI) (0 : Int)))) && decide (List.length (List.take (Int.toNat nI) (List.drop 0 (Go.Proofs.Ytggkddpimcikaaa.Wlk.doF k a b n v 60 0 (List.replicate (Int.toNat nI) (0 : Int))))) < 4611686018427387904) && decide (List.length (Go.Proofs.Ytggkddpimcikaaa.Wlk.doF k a b n v 60 0 (List.replicate (Int.toNat nI) (0 : Int))) < 4611686018427387904)) (K (Res.mk (AV.e (AE.c (AC.bool (decide (List.take (Int.toNat nI) (List.drop 0 (Go.Proofs.Ytggkddpimcikaaa.Wlk.doF k a b n v 60 0 (List.replicate (Int.toNat nI) (0 : Int)))) = Go.Proofs.Ytggkddpimcikaaa.Wlk.doF k a b n v 60 0 (List.replicate (Int.toNat nI) (0 : Int))))))) [(none)])) none) (K (Res.mk (AV.e (AE.c (AC.bool false))) [(none)]))) (cond ((↑(Int.toNat nI) : Int) == nI) (K (Res.mk (AV.e (AE.c (AC.bool false))) [(none)])) (K (Res.mk (AV.e (AE.c (AC.bool false))) [(none)])))) none) none) (K (Res.mk (AV.e (AE.c (AC.bool false))) [(none)]))) (cond (Go.Proofs.Ytggkddpimcikaaa.Wlk.newOk nI) (K (Res.mk (AV.e (AE.c (AC.bool false))) [(none)])) (K (Res.mk (AV.e (AE.c (AC.bool true))) [(none)])))) := by kernel_rfl
theorem do_walk (n : Int) (x : Option Addr) (len cap : Nat) (W : World) (h0 : (Lit.int .i64 n).wf = true) (hg : IsGrid [.int .i64, .int .i64, .int .i64, .int .i64, .int .u64] W x len cap) (hs : len * 40 ≤ 140737488351232) :
    Calls Try.prog 7 #[.int .i64 n, .slice x len cap] W fun e w' => e = .returned (.bool true) ∧ Below W.heap.size W w' := by
  obtain ⟨ok, hc⟩ := hg.ok (by decide)
  obtain ⟨k, ek, lk, fk⟩ := hc 0 (.int .i64) rfl
  obtain ⟨a, ea, la, fa⟩ := hc 1 (.int .i64) rfl
  obtain ⟨b, eb, lb, fb⟩ := hc 2 (.int .i64) rfl
  obtain ⟨m, em, lm, fm⟩ := hc 3 (.int .i64) rfl
  obtain ⟨v, ev, lv, fv⟩ := hc 4 (.int .u64) rfl
  have e : gridCols W x 5 len 0 [.int .i64, .int .i64, .int .i64, .int .i64, .int .u64] = [.ints .i64 k, .ints .i64 a, .ints .i64 b, .ints .i64 m, .ints .u64 v] := by
    show [gridCol W x 5 len 0 _, gridCol W x 5 len 1 _, gridCol W x 5 len 2 _, gridCol W x 5 len 3 _, gridCol W x 5 len 4 _] = _
    have ek' : gridCol W x 5 len 0 (.int .i64) = .ints .i64 k := ek
    have ea' : gridCol W x 5 len 1 (.int .i64) = .ints .i64 a := ea
    have eb' : gridCol W x 5 len 2 (.int .i64) = .ints .i64 b := eb
    have em' : gridCol W x 5 len 3 (.int .i64) = .ints .i64 m := em
    have ev' : gridCol W x 5 len 4 (.int .u64) = .ints .u64 v := ev
    rw [ek', ea', eb', em', ev']
  have ok' : SlOk W ⟨x, len, cap, [.ints .i64 k, .ints .i64 a, .ints .i64 b, .ints .i64 m, .ints .u64 v]⟩ := by rw [← e]; exact ok
  refine of_rows (sl := [⟨x, len, cap, [.ints .i64 k, .ints .i64 a, .ints .i64 b, .ints .i64 m, .ints .u64 v]⟩]) (args := [aint .i64 n, .e (.c (.slice ⟨0, 0, 5, 0, 0, 0, 0⟩ 5 len 0 false))])
    (blks := [none]) (runL_sound sDo_ok mix 150 7 do_dis lDo_for).gc (ok1 ok') ?_ ((t_do n len k a b m v some).trans ?_)
  · exact LR.cons rfl (LR.cons (args_slice (i := 0) rfl ok' rfl) LR.nil)
  · by_cases c : newOk n = true
    rotate_left
    · have c' : newOk n = false := by simpa using c
      rw [c', cF, cF]
    have kc := c
    simp only [newOk, Bool.and_eq_true, decide_eq_true_eq] at kc
    obtain ⟨N, rfl⟩ : ∃ N : Nat, n = (N : Int) := ⟨n.toNat, by omega⟩
    have hl := doF_len k a b m v 60 0 (List.replicate N (0 : Int))
    rw [List.length_replicate] at hl
    have f0 : okM N (List.replicate N (0 : Int)) = true := by simp [okM]; omega
    have f1 : okM N (doF k a b m v 60 0 (List.replicate N (0 : Int))) = true := by simp [okM, hl]; omega
    have f2 : inM N 0 (N : Int) = true := by simp [inM]
    have f4 : List.take N (List.drop 0 (doF k a b m v 60 0 (List.replicate N (0 : Int)))) = doF k a b m v 60 0 (List.replicate N (0 : Int)) := by
      rw [List.drop_zero]; exact List.take_of_length_le (by rw [hl]; exact Nat.le_refl _)
    have f5 : inI (N : Int) = true := by
      have : -9223372036854775808 ≤ (N : Int) ∧ (N : Int) ≤ 9223372036854775807 := by omega
      simp [inI, this]
    have f6 : inI 0 = true := rfl
    simp only [Int.toNat_natCast, c, f0, f1, f2, f4, f5, f6, hl, allI_of fk, allI_of fa, allI_of fb, allI_of fm, lk, la, lb, lm, lv, Nat.beq_refl, decide_true, beq_self_eq_true, decide_eq_true (show N < 4611686018427387904 by omega), Bool.and_self, cT]
end Go.Proofs.Ytggkddpimcikaaa.Wlk
