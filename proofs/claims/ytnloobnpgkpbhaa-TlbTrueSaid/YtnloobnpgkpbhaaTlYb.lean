/- The youngest: the outer loop; the law. -/
import Derived.Test.YtnloobnpgkpbhaaTlYa
set_option linter.unusedVariables false
set_option linter.unusedSimpArgs false
set_option maxRecDepth 100000
namespace Go.Proofs.Ytnloobnpgkpbhaa.Wlk
open Go Go.Eng Go.Proofs Go.RowKit
def keys (L : List Ro) : List Ky := L.map fun r => (r.s, r.p)
theorem keys_len (L : List Ro) : (keys L).length = L.length := List.length_map ..
theorem keys_drop (x y : Int) (L : List Ro) : keys (dropL x y L) = flK x y (keys L) := by
  unfold keys dropL flK
  rw [List.filter_map]
  congr 1
  refine List.filter_congr fun r _ => ?_
  simp [neK]
theorem keys_add (r : Ro) (M : List Ro) : keys (addL r M) = if 8 < (keys M).length + 1 then (keys M ++ [(r.s, r.p)]).drop 1 else keys M ++ [(r.s, r.p)] := by
  unfold addL
  rw [keys_len]
  split
  · unfold keys; rw [List.map_drop, List.map_append]; rfl
  · unfold keys; rw [List.map_append]; rfl
theorem keys_fill (x y : Int) (v w : Bool) (a : Int) (L : List Ro) : keys (fillL x y v w a L) = if 8 < (flK x y (keys L)).length + 1 then (flK x y (keys L) ++ [(x, y)]).drop 1 else flK x y (keys L) ++ [(x, y)] := by
  unfold fillL
  rw [keys_add, keys_drop]
theorem ktI_iff (x y : Int) (L : List Ro) : ktI x y L = true ↔ (x, y) ∈ keys L := by
  unfold ktI fndR keys
  rw [List.mem_map]
  constructor
  · intro h
    split at h
    · rename_i r hr
      have h1 := List.mem_of_find?_eq_some hr
      have h2 := List.find?_some hr
      simp only [Bool.and_eq_true, beq_iff_eq] at h2
      exact ⟨r, h1, by rw [h2.1, h2.2]⟩
    · cases h
  · rintro ⟨r, hr, he⟩
    split
    · rfl
    · rename_i hn
      rw [List.find?_eq_none] at hn
      have := hn r hr
      simp only [Prod.mk.injEq] at he
      simp [he.1, he.2] at this
theorem flK_nodup (x y : Int) {I : List Ky} (h : I.Nodup) : (flK x y I).Nodup := List.Pairwise.filter _ h
theorem flK_notin (x y : Int) (I : List Ky) : (x, y) ∉ flK x y I := by
  unfold flK
  intro h
  have := (List.mem_filter.1 h).2
  simp [neK] at this
theorem snoc_nodup (x y : Int) {I : List Ky} (h : I.Nodup) : (flK x y I ++ [(x, y)]).Nodup := by
  rw [List.nodup_append]
  refine ⟨flK_nodup x y h, by simp, fun a ha b hb => ?_⟩
  rw [List.mem_singleton] at hb
  subst hb
  intro e
  subst e
  exact flK_notin x y I ha
theorem chkB_all (F : Int → Int → Bool) : ∀ I : List Ky, I.length ≤ 8 → (∀ q ∈ I, F q.1 q.2 = true) → chkB F I = true
  | [], _, _ => rfl
  | q :: r, hl, h => by
    rw [List.length_cons] at hl
    rw [chkB, h q (List.mem_cons_self ..), decide_eq_true hl, chkB_all F r (by omega) fun q' h' => h q' (List.mem_cons_of_mem _ h')]
    rfl
theorem chk_fill {L : List Ro} {I : List Ky} (hn : I.Nodup) (h9 : I.length ≤ 9) (hk : keys L = if 8 < I.length then I.drop 1 else I) : chkB (fun x y => ktI x y L) I = true := by
  by_cases c : 8 < I.length
  · rw [if_pos c] at hk
    cases I with
    | nil => simp at c
    | cons q r =>
      rw [List.drop_succ_cons, List.drop_zero] at hk
      rw [List.length_cons] at h9 c
      rw [List.nodup_cons] at hn
      have h0 : ktI q.1 q.2 L = false := by
        cases e : ktI q.1 q.2 L with
        | false => rfl
        | true =>
          have := (ktI_iff q.1 q.2 L).1 e
          rw [hk] at this
          exact absurd this hn.1
      have h1 : chkB (fun x y => ktI x y L) r = true := chkB_all _ r (by omega) fun q' h' => (ktI_iff q'.1 q'.2 L).2 (by rw [hk]; exact h')
      rw [chkB, h1, h0, decide_eq_false (by omega)]; rfl
  · rw [if_neg c] at hk
    exact chkB_all _ I (by omega) fun q' h' => (ktI_iff q'.1 q'.2 L).2 (by rw [hk]; exact h')
/-- What holds of what is kept all the while. -/
structure InvT (L : List Ro) (e : Nat) : Prop where
  nd : (keys L).Nodup
  len : L.length ≤ 8
  room : L.length + e ≤ 16
theorem fill_len (x y : Int) (v w : Bool) (a : Int) (L : List Ro) : (fillL x y v w a L).length = if 8 < (dropL x y L).length + 1 then (dropL x y L).length else (dropL x y L).length + 1 := by
  unfold fillL addL
  split
  · rw [List.length_drop, List.length_append]; simp
  · rw [List.length_append]; simp
theorem InvT.fill {L : List Ro} {e : Nat} (h : InvT L e) (x y : Int) (v w : Bool) (a : Int) : InvT (fillL x y v w a L) (fillX x y L e) := by
  have hd := drop_le x y L
  have := h.len
  have := h.room
  refine ⟨?_, ?_, ?_⟩
  · rw [keys_fill]
    have := snoc_nodup x y h.nd
    split
    · exact this.sublist (List.drop_sublist ..)
    · exact this
  · rw [fill_len]; split <;> omega
  · rw [fill_len]
    unfold fillX addX
    split <;> omega
theorem keys_map1 (L : List Ro) : (keys L).map Prod.fst = L.map Ro.s := by unfold keys; rw [List.map_map]; rfl
theorem keys_map2 (L : List Ro) : (keys L).map Prod.snd = L.map Ro.p := by unfold keys; rw [List.map_map]; rfl
theorem zip_map (I : List Ky) : List.zip (I.map Prod.fst) (I.map Prod.snd) = I := by
  induction I with
  | nil => rfl
  | cons q I ih => rw [List.map_cons, List.map_cons, List.zip_cons_cons, ih]
def kx (l : List Int) (i : Nat) (m : Int) : Int := IntKind.wrap IntKind.i64 (Int.tmod (IntKind.wrap IntKind.u64 (l.getD i 0)) m)
theorem kx_in (l : List Int) (i : Nat) {m : Int} (h0 : 0 < m) (h : m ≤ 256) : 0 ≤ kx l i m ∧ kx l i m < m := by
  unfold kx
  rw [wrap_u64_emod, Int.tmod_eq_emod_of_nonneg (by omega)]
  have h1 := Int.emod_nonneg (l.getD i 0 % 18446744073709551616) (show m ≠ 0 by omega)
  have h2 := Int.emod_lt_of_pos (l.getD i 0 % 18446744073709551616) h0
  rw [wrap_i64 (by omega) (by omega)]
  exact ⟨h1, h2⟩
theorem filE_ok {x y a : Int} {w : Bool} (hx : 0 ≤ x ∧ x < 64) (hy : 0 ≤ y ∧ y < 256) (ha : 0 ≤ a ∧ a ≤ 65520 ∧ a % 16 = 0) : filE x y true w a = 0 := by
  unfold filE rgt epE
  rw [decide_eq_true hx.1, decide_eq_true hx.2, decide_eq_true hy.1, decide_eq_true hy.2]
  simp [ha]
abbrev y0V (u1 u2 : Nat) (L : List Ro) (b : Bool) (i : Nat) : List AV := [vS0 u1, vS1 u2, vPt 2, vI 3 L.length b, aint .i64 i]
abbrev y0H (l1 l2 : List Int) (L : List Ro) (e : Nat) : Heap := [bR1 l1, bR1 l2, bT 4 L.length e, bC2 ((keys L).map Prod.fst) ((keys L).map Prod.snd), bC5 (cS L e) (cP L e) (cV L e) (cW L e) (cA L e)]
theorem bsame {α : Type} (c : Bool) (a : α) : cond c a a = a := by cases c <;> rfl
set_option maxHeartbeats 4000000 in
theorem roundYS (u1 u2 e : Nat) (b : Bool) (i : Nat) (l1 l2 : List Int) (L : List Ro) (h : InvT L e) (h1 : i < u1) (h2 : i < u2) (h60 : i < 60) (hu1 : u1 = l1.length) (hu2 : u2 = l2.length) (K : HeadK) :
    bodyR Try.prog (sYo filE fillL fillX fillN) (lY yN yL yA yB ckB) iY0 60 (loopOf Try.prog 3 0) (y0V u1 u2 L b i) (y0H l1 l2 L e) K =
      K .normal (y0V u1 u2 (fillL (kx l1 i 64) (kx l2 i 256) true false (16 * i) L) (decide (8 < (flK (kx l1 i 64) (kx l2 i 256) (keys L)).length + 1)) (i + 1)) (y0H l1 l2 (fillL (kx l1 i 64) (kx l2 i 256) true false (16 * i) L) (fillX (kx l1 i 64) (kx l2 i 256) L e)) := by
  have hl := h.len
  have hr := h.room
  have hk := keys_len L
  have i64 : IntKind.wrap IntKind.i64 (16 * (i : Int)) = 16 * (i : Int) := wrap_i64 (by omega) (by omega)
  have hx := kx_in l1 i (m := 64) (by omega) (by omega)
  have hy := kx_in l2 i (m := 256) (by omega) (by omega)
  have hE : filE (kx l1 i 64) (kx l2 i 256) true false (16 * (i : Int)) = 0 := filE_ok hx hy ⟨by omega, by omega, by omega⟩
  have hI := h.fill (kx l1 i 64) (kx l2 i 256) true false (16 * (i : Int))
  have hkf := keys_fill (kx l1 i 64) (kx l2 i 256) true false (16 * (i : Int)) L
  have hw : IntKind.wrap IntKind.i64 ((i : Int) + 1) = ((i + 1 : Nat) : Int) := by rw [wrap_i64 (by omega) (by omega)]; omega
  have m1 : ((keys L).map Prod.fst).length = L.length := by rw [List.length_map, hk]
  have m2 : ((keys L).map Prod.snd).length = L.length := by rw [List.length_map, hk]
  have nd := snoc_nodup (kx l1 i 64) (kx l2 i 256) h.nd
  have fl : (flK (kx l1 i 64) (kx l2 i 256) (keys L)).length ≤ L.length := by rw [← hk]; exact List.length_filter_le _ _
  refine (t_y0S filE fillL fillX fillN yN yL yA yB ckB u1 u2 L.length e L.length b i l1 l2 _ _ _ _ _ _ _ K).trans ?_
  rw [decide_eq_true (show (i : Int) < (u1 : Int) by omega), cT, decide_eq_true (show (i : Int) < (u2 : Int) by omega), cT, decide_eq_true (show (i : Int) < 60 by omega), cT, decide_eq_true (show (0 : Int) ≤ (i : Int) by omega), Bool.and_self, cT, Int.toNat_natCast, Nat.zero_add, decide_eq_true (show i < l1.length by omega), cT, decide_eq_true (show i < l2.length by omega), cT, cT, rowsN_cols, okK_self L e (by omega), Nat.ble_eq_true_of_le hl, i64, inI_of (show -9223372036854775808 ≤ 16 * (i : Int) by omega) (show 16 * (i : Int) ≤ 9223372036854775807 by omega), Bool.and_self, Bool.and_self, cT]
  rw [show IntKind.wrap IntKind.i64 (Int.tmod (IntKind.wrap IntKind.u64 (l1.getD i 0)) 64) = kx l1 i 64 from rfl, show IntKind.wrap IntKind.i64 (Int.tmod (IntKind.wrap IntKind.u64 (l2.getD i 0)) 256) = kx l2 i 256 from rfl, hw, hE, decide_eq_true rfl, cT, bsame (fillN (kx l1 i 64) (kx l2 i 256) L e)]
  clear hE hx hy hw i64
  generalize kx l1 i 64 = x at *
  generalize kx l2 i 256 = y at *
  unfold yN yL yA yB yR
  rw [zip_map, m1, m2, decide_eq_true rfl, Nat.ble_eq_true_of_le (show L.length ≤ 16 by omega)]
  repeat rw [Bool.and_self]
  rw [cT]
  generalize flK x y (keys L) = R at *
  generalize fillL x y true false (16 * (i : Int)) L = F at *
  generalize fillX x y L e = g at *
  have hFl := keys_len F
  have hFg := hI.room
  have hFk := okK_self F g (by omega)
  have x1 : List.take 1 (List.drop 0 [x]) = [x] := rfl
  have y1 : List.take 1 (List.drop 0 [y]) = [y] := rfl
  have z3 : ∀ t : Int, [t].length = 1 := fun _ => rfl
  unfold y0V y0H
  by_cases hR : R = []
  · subst hR
    rw [if_neg (show ¬ 8 < ([] : List Ky).length + 1 by decide), List.nil_append] at hkf
    have hk1 : F.length = 1 := by rw [← hFl, hkf]; rfl
    have hc : ckB [x] [y] F = true := chk_fill (I := [(x, y)]) nd (by simp) (by rw [hkf]; rfl)
    rw [show List.isEmpty ([] : List Ky) = true from rfl, cT, rowsN_cols, hFk, x1, y1, z3, z3, hc, decide_eq_true rfl, show Nat.ble 1 16 = true from rfl]
    repeat rw [Bool.and_self]
    rw [cT, hk1, show (((1 : Nat) : Int) != 1) = false from rfl, cF, show decide (8 < ([] : List Ky).length + 1) = false from rfl, hkf]
    rfl
  · have hne : R.isEmpty = false := by cases R with | nil => exact absurd rfl hR | cons q R => rfl
    have s1 := snoc_map Prod.fst R (x, y)
    have s2 := snoc_map Prod.snd R (x, y)
    have n1 : (R.map Prod.fst).length = R.length := List.length_map ..
    have n2 : (R.map Prod.snd).length = R.length := List.length_map ..
    have nJ : (R ++ [(x, y)]).length = R.length + 1 := by simp
    have n3 : ((R ++ [(x, y)]).map Prod.fst).length = R.length + 1 := by rw [List.length_map]; exact nJ
    have n4 : ((R ++ [(x, y)]).map Prod.snd).length = R.length + 1 := by rw [List.length_map]; exact nJ
    have hc : ckB ((R ++ [(x, y)]).map Prod.fst) ((R ++ [(x, y)]).map Prod.snd) F = true := by
      unfold ckB
      rw [zip_map]
      exact chk_fill nd (by omega) (by rw [hkf, nJ])
    rw [hne, cF, n1, n2, z3, z3, decide_eq_true (show 0 + R.length ≤ R.length by omega), decide_eq_true (show 0 + 1 ≤ 1 by omega), decide_eq_true (show (R.length + 1) * 16 ≤ 140737488355328 by omega), decide_eq_true (show R.length + 1 ≤ 140737488355328 by omega)]
    repeat rw [Bool.and_self]
    rw [cT, s1, s2, n3, n4, rowsN_cols, hFk, hc, decide_eq_true rfl, Nat.ble_eq_true_of_le (show R.length + 1 ≤ 16 by omega)]
    repeat rw [Bool.and_self]
    rw [cT]
    by_cases c8 : 8 < R.length + 1
    · rw [if_pos c8] at hkf
      have w8 : IntKind.wrap IntKind.i64 (((R.length + 1 : Nat) : Int) - 8) = ((1 : Nat) : Int) := by rw [wrap_i64 (by omega) (by omega)]; omega
      have hk1 : F.length = R.length := by rw [← hFl, hkf, List.length_drop, nJ]; rfl
      have cc : ∀ f : Ky → Int, List.take 0 (List.drop 0 ([] : List Int)) ++ List.take (R.length + 1 - 1) (List.drop (0 + 1) ((R ++ [(x, y)]).map f)) = ((R ++ [(x, y)]).drop 1).map f := fun f => by
        rw [List.take_zero, List.nil_append, Nat.zero_add, List.map_drop, List.take_of_length_le (by rw [List.length_drop, List.length_map, nJ]; exact Nat.le_refl _)]
      rw [decide_eq_true (show ((R.length + 1 : Nat) : Int) > 8 by omega), cT, w8, Int.toNat_natCast, decide_eq_true (show (0 : Int) ≤ ((1 : Nat) : Int) by omega), decide_eq_true (show ((1 : Nat) : Int) ≤ ((R.length + 1 : Nat) : Int) by omega), Bool.and_self, cT, decide_eq_true (show 0 + 0 ≤ 0 by omega), decide_eq_true (show 0 + 1 + (R.length + 1 - 1) ≤ R.length + 1 by omega), decide_eq_true (show (0 + (R.length + 1 - 1)) * 16 ≤ 140737488355328 by omega), decide_eq_true (show 0 + (R.length + 1 - 1) ≤ 140737488355328 by omega)]
      repeat rw [Bool.and_self]
      rw [cT, cc Prod.fst, cc Prod.snd, hk1, show 0 + (R.length + 1 - 1) = R.length from by omega, show (((R.length : Nat) : Int) != ((R.length : Nat) : Int)) = false from by simp, cF, decide_eq_true c8, hkf]
      rfl
    · rw [if_neg c8] at hkf
      have hk1 : F.length = R.length + 1 := by rw [← hFl, hkf, nJ]
      rw [decide_eq_false (show ¬ ((R.length + 1 : Nat) : Int) > 8 by omega), cF, hk1, show (((R.length + 1 : Nat) : Int) != ((R.length + 1 : Nat) : Int)) = false from by simp, cF, decide_eq_false c8, hkf]
      rfl
abbrev y0Vn (u1 u2 : Nat) (i : Nat) : List AV := [vS0 u1, vS1 u2, vPt 2, .e (.c .nils), aint .i64 i]
abbrev y0Hn (l1 l2 : List Int) : Heap := [bR1 l1, bR1 l2, bT0]
set_option maxHeartbeats 4000000 in
theorem roundYN (u1 u2 : Nat) (i : Nat) (l1 l2 : List Int) (h1 : i < u1) (h2 : i < u2) (h60 : i < 60) (hu1 : u1 = l1.length) (hu2 : u2 = l2.length) (K : HeadK) :
    bodyR Try.prog (sYo filE fillL fillX fillN) (lY yN yL yA yB ckB) iY0 60 (loopOf Try.prog 3 0) (y0Vn u1 u2 i) (y0Hn l1 l2) K =
      K .normal (y0V u1 u2 [⟨kx l1 i 64, kx l2 i 256, true, false, 16 * i⟩] false (i + 1)) (y0H l1 l2 [⟨kx l1 i 64, kx l2 i 256, true, false, 16 * i⟩] 0) := by
  have i64 : IntKind.wrap IntKind.i64 (16 * (i : Int)) = 16 * (i : Int) := wrap_i64 (by omega) (by omega)
  have hx := kx_in l1 i (m := 64) (by omega) (by omega)
  have hy := kx_in l2 i (m := 256) (by omega) (by omega)
  have hE : filE (kx l1 i 64) (kx l2 i 256) true false (16 * (i : Int)) = 0 := filE_ok hx hy ⟨by omega, by omega, by omega⟩
  have hw : IntKind.wrap IntKind.i64 ((i : Int) + 1) = ((i + 1 : Nat) : Int) := by rw [wrap_i64 (by omega) (by omega)]; omega
  refine (t_y0N filE fillL fillX fillN yN yL yA yB ckB u1 u2 i l1 l2 K).trans ?_
  rw [decide_eq_true (show (i : Int) < (u1 : Int) by omega), cT, decide_eq_true (show (i : Int) < (u2 : Int) by omega), cT, decide_eq_true (show (i : Int) < 60 by omega), cT, decide_eq_true (show (0 : Int) ≤ (i : Int) by omega), Bool.and_self, cT, Int.toNat_natCast, Nat.zero_add, decide_eq_true (show i < l1.length by omega), cT, decide_eq_true (show i < l2.length by omega), cT, cT, i64, inI_of (show -9223372036854775808 ≤ 16 * (i : Int) by omega) (show 16 * (i : Int) ≤ 9223372036854775807 by omega), cT]
  rw [show IntKind.wrap IntKind.i64 (Int.tmod (IntKind.wrap IntKind.u64 (l1.getD i 0)) 64) = kx l1 i 64 from rfl, show IntKind.wrap IntKind.i64 (Int.tmod (IntKind.wrap IntKind.u64 (l2.getD i 0)) 256) = kx l2 i 256 from rfl, hw, hE, decide_eq_true rfl, cT]
  clear hE hx hy hw i64
  generalize kx l1 i 64 = x at *
  generalize kx l2 i 256 = y at *
  have hFk := okK_self [(⟨x, y, true, false, 16 * i⟩ : Ro)] 0 (by simp)
  have hrc := rowsN_cols [(⟨x, y, true, false, 16 * i⟩ : Ro)] 0
  rw [show List.length [(⟨x, y, true, false, 16 * i⟩ : Ro)] = 1 from rfl] at hFk hrc
  have x1 : List.take 1 (List.drop 0 [x]) = [x] := rfl
  have y1 : List.take 1 (List.drop 0 [y]) = [y] := rfl
  have z3 : ∀ t : Int, [t].length = 1 := fun _ => rfl
  have hc : ckB [x] [y] [(⟨x, y, true, false, 16 * i⟩ : Ro)] = true := chk_fill (I := [(x, y)]) (by simp) (by simp) rfl
  rw [hrc, hFk, x1, y1, z3, z3, hc, decide_eq_true rfl, show Nat.ble 1 16 = true from rfl]
  repeat rw [Bool.and_self]
  rw [cT]
  rfl
noncomputable def SY : Summ := sYo filE fillL fillX fillN
theorem loopYS (u1 u2 : Nat) (l1 l2 : List Int) (hu1 : u1 = l1.length) (hu2 : u2 = l2.length) (K : HeadK) (c : Nat) : ∀ (i : Nat) (L : List Ro) (e : Nat) (b : Bool), InvT L e → i + c = 60 →
    iterR Try.prog (sYo filE fillL fillX fillN) (lY yN yL yA yB ckB) iY0 60 (loopOf Try.prog 3 0) (c + 1) (y0V u1 u2 L b i) (y0H l1 l2 L e) K = K (.exit 0) [] [bR1 l1, bR1 l2] := by
  have stop : ∀ (i : Nat) (L : List Ro) (e : Nat) (b : Bool) (K : HeadK), ¬ (i < u1 ∧ i < u2 ∧ i < 60) → bodyR Try.prog (sYo filE fillL fillX fillN) (lY yN yL yA yB ckB) iY0 60 (loopOf Try.prog 3 0) (y0V u1 u2 L b i) (y0H l1 l2 L e) K = K (.exit 0) [] [bR1 l1, bR1 l2] := by
    intro i L e b K hs
    refine (t_y0S filE fillL fillX fillN yN yL yA yB ckB u1 u2 L.length e L.length b i l1 l2 _ _ _ _ _ _ _ K).trans ?_
    by_cases a1 : i < u1
    · rw [decide_eq_true (show (i : Int) < (u1 : Int) by omega), cT]
      by_cases a2 : i < u2
      · rw [decide_eq_true (show (i : Int) < (u2 : Int) by omega), cT, decide_eq_false (show ¬ (i : Int) < 60 by omega), cF]
      · rw [decide_eq_false (show ¬ (i : Int) < (u2 : Int) by omega), cF]
    · rw [decide_eq_false (show ¬ (i : Int) < (u1 : Int) by omega), cF]
  induction c with
  | zero =>
    intro i L e b h hi
    rw [iterR]
    exact stop i L e b _ (by omega)
  | succ c ih =>
    intro i L e b h hi
    by_cases hs : i < u1 ∧ i < u2 ∧ i < 60
    · rw [iterR]
      refine (roundYS u1 u2 e b i l1 l2 L h hs.1 hs.2.1 hs.2.2 hu1 hu2 _).trans ?_
      exact ih _ _ _ _ (h.fill _ _ _ _ _) (by omega)
    · rw [iterR]
      exact stop i L e b _ hs
theorem loopYN (u1 u2 : Nat) (l1 l2 : List Int) (hu1 : u1 = l1.length) (hu2 : u2 = l2.length) (K : HeadK) :
    iterR Try.prog (sYo filE fillL fillX fillN) (lY yN yL yA yB ckB) iY0 60 (loopOf Try.prog 3 0) 61 (y0Vn u1 u2 0) (y0Hn l1 l2) K = K (.exit 0) [] [bR1 l1, bR1 l2] := by
  rw [iterR]
  by_cases hs : 0 < u1 ∧ 0 < u2
  · refine (roundYN u1 u2 0 l1 l2 hs.1 hs.2 (by omega) hu1 hu2 _).trans ?_
    refine loopYS u1 u2 l1 l2 hu1 hu2 K 59 1 _ 0 false ⟨?_, ?_, ?_⟩ rfl
    · simp [keys]
    · simp
    · simp
  · refine (t_y0N filE fillL fillX fillN yN yL yA yB ckB u1 u2 (0 : Nat) l1 l2 _).trans ?_
    by_cases a1 : 0 < u1
    · rw [decide_eq_true (show ((0 : Nat) : Int) < (u1 : Int) by omega), cT, decide_eq_false (show ¬ ((0 : Nat) : Int) < (u2 : Int) by omega), cF]
    · rw [decide_eq_false (show ¬ ((0 : Nat) : Int) < (u1 : Int) by omega), cF]
def cY0 : HeadO := fun vs h K => match vs, h with
  | [.e (.c (.slice ⟨0, 0, 1, 0, 0, 0, 0⟩ 1 u1 0 false)), .e (.c (.slice ⟨1, 0, 1, 0, 0, 0, 0⟩ 1 u2 0 false)), .e (.c (.ptr ⟨2, 0, 0, 0, 0, 0, 0⟩)), .e (.c .nils), .e (.c (.int .i64 i))],
    [(false, some ⟨true, .rows [.ints .i64 l1]⟩), (false, some ⟨true, .rows [.ints .i64 l2]⟩), (true, some ⟨false, .mix [.nils]⟩)] =>
    match decide (i = 0) && decide (u1 = l1.length) && decide (u2 = l2.length) with
    | true => K (.exit 0) [] [bR1 l1, bR1 l2]
    | false => none
  | _, _ => none
theorem y_dis : Go.Eng.distinct (blockIds (codeOf Try.prog 3)) = true := by kernel_rfl
theorem lY_in : LOk 2 Try.prog (lY yN yL yA yB ckB) (loopOf Try.prog 3 0) := lY_for.inner y_dis (by kernel_rfl)
theorem cY0_sound : HeadSound Try.prog iY0 (loopOf Try.prog 3 0) cY0 := by
  refine HeadSound.short (iterR_sound (F := 60) sYo_ok mix lY_in) fun vs h K r ee => ?_
  unfold cY0 at ee
  split at ee
  · rename_i u1 u2 i l1 l2
    split at ee
    · rename_i hc
      simp only [Bool.and_eq_true, decide_eq_true_eq] at hc
      obtain ⟨⟨rfl, c1⟩, c2⟩ := hc
      exact ⟨61, (loopYN u1 u2 l1 l2 c1 c2 K).trans ee⟩
    · cases ee
  · cases ee
end Go.Proofs.Ytnloobnpgkpbhaa.Wlk
