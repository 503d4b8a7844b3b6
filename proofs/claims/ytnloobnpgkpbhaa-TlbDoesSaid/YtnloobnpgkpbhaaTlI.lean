/- What is kept: rows as a list; taking out, told in short. -/
import Derived.Test.YtnloobnpgkpbhaaTlH
set_option linter.unusedVariables false
set_option linter.unusedSimpArgs false
set_option maxRecDepth 100000
namespace Go.Proofs.Ytnloobnpgkpbhaa.Wlk
open Go Go.Eng Go.Proofs Go.RowKit
structure Ro where
  s : Int
  p : Int
  v : Bool
  w : Bool
  a : Int
def rowN (s p : List Int) (v w : List Bool) (a : List Int) (i : Nat) : Ro := ⟨s.getD i 0, p.getD i 0, v.getD i false, w.getD i false, a.getD i 0⟩
def rowsN (n : Nat) (s p : List Int) (v w : List Bool) (a : List Int) : List Ro := (List.range n).map (rowN s p v w a)
def cS (L : List Ro) (e : Nat) : List Int := L.map Ro.s ++ List.replicate e 0
def cP (L : List Ro) (e : Nat) : List Int := L.map Ro.p ++ List.replicate e 0
def cV (L : List Ro) (e : Nat) : List Bool := L.map Ro.v ++ List.replicate e false
def cW (L : List Ro) (e : Nat) : List Bool := L.map Ro.w ++ List.replicate e false
def cA (L : List Ro) (e : Nat) : List Int := L.map Ro.a ++ List.replicate e 0
def okK (n e : Nat) (s p : List Int) (v w : List Bool) (a : List Int) : Bool :=
  decide (s = cS (rowsN n s p v w a) e) && decide (p = cP (rowsN n s p v w a) e) && decide (v = cV (rowsN n s p v w a) e) && decide (w = cW (rowsN n s p v w a) e) && decide (a = cA (rowsN n s p v w a) e) && decide (n + e < 4611686018427387904)
theorem col_getD {α : Type} (f : Ro → α) (d : α) (L : List Ro) (e : Nat) (i : Nat) (hi : i < L.length) : (L.map f ++ List.replicate e d).getD i d = f L[i] := by
  rw [List.getD_eq_getElem?_getD, List.getElem?_append_left (by rw [List.length_map]; exact hi), List.getElem?_map, List.getElem?_eq_getElem hi]; rfl
theorem rowsN_len (n : Nat) (s p : List Int) (v w : List Bool) (a : List Int) : (rowsN n s p v w a).length = n := by simp [rowsN]
theorem rowsN_cols (L : List Ro) (e : Nat) : rowsN L.length (cS L e) (cP L e) (cV L e) (cW L e) (cA L e) = L := by
  refine List.ext_getElem (rowsN_len _ _ _ _ _ _) fun i h1 h2 => ?_
  simp only [rowsN, List.getElem_map, List.getElem_range, rowN]
  rw [show (cS L e).getD i 0 = L[i].s from col_getD Ro.s 0 L e i h2, show (cP L e).getD i 0 = L[i].p from col_getD Ro.p 0 L e i h2, show (cV L e).getD i false = L[i].v from col_getD Ro.v false L e i h2, show (cW L e).getD i false = L[i].w from col_getD Ro.w false L e i h2, show (cA L e).getD i 0 = L[i].a from col_getD Ro.a 0 L e i h2]
theorem okK_self (L : List Ro) (e : Nat) (h : L.length + e < 4611686018427387904) : okK L.length e (cS L e) (cP L e) (cV L e) (cW L e) (cA L e) = true := by
  unfold okK
  rw [rowsN_cols]
  simp [h]
theorem okK_spec {n e : Nat} {s p : List Int} {v w : List Bool} {a : List Int} (h : okK n e s p v w a = true) : ∃ L : List Ro, L.length = n ∧ s = cS L e ∧ p = cP L e ∧ v = cV L e ∧ w = cW L e ∧ a = cA L e ∧ n + e < 4611686018427387904 ∧ rowsN n s p v w a = L := by
  simp only [okK, Bool.and_eq_true, decide_eq_true_eq] at h
  obtain ⟨⟨⟨⟨⟨h1, h2⟩, h3⟩, h4⟩, h5⟩, h6⟩ := h
  exact ⟨rowsN n s p v w a, rowsN_len _ _ _ _ _ _, h1, h2, h3, h4, h5, h6, rfl⟩
theorem cS_len (L : List Ro) (e : Nat) : (cS L e).length = L.length + e := by simp [cS]
theorem cP_len (L : List Ro) (e : Nat) : (cP L e).length = L.length + e := by simp [cP]
theorem cV_len (L : List Ro) (e : Nat) : (cV L e).length = L.length + e := by simp [cV]
theorem cW_len (L : List Ro) (e : Nat) : (cW L e).length = L.length + e := by simp [cW]
theorem cA_len (L : List Ro) (e : Nat) : (cA L e).length = L.length + e := by simp [cA]
theorem lensK_self (L : List Ro) (e : Nat) (h : L.length + e < 4611686018427387904) : lensK L.length (cS L e) (cP L e) (cV L e) (cW L e) (cA L e) = true := by
  unfold lensK
  rw [cS_len, cP_len, cV_len, cW_len, cA_len, decide_eq_true (by omega), Nat.ble_eq_true_of_le (by omega)]; rfl
theorem take_snoc (L : List Ro) (k : Nat) (hk : k < L.length) : L.take (k + 1) = L.take k ++ [L[k]] := by
  rw [List.take_add_one, List.getElem?_eq_getElem hk]; rfl
theorem filt_rows {α : Type} (h : Nat → Bool) (q : Ro → Bool) (L : List Ro) (e : Nat) (f : Ro → α) (d : α) (hq : ∀ (i : Nat) (hi : i < L.length), h i = !q L[i]) : ∀ k, k ≤ L.length → filtN h (L.map f ++ List.replicate e d) d k = ((L.take k).filter q).map f
  | 0, _ => by rw [List.take_zero]; rfl
  | k + 1, hk => by
    rw [filtN, filt_rows h q L e f d hq k (by omega), take_snoc L k (by omega), List.filter_append, List.map_append, col_getD f d L e k (by omega)]
    congr 1
    have := hq k (by omega)
    cases c : q L[k] with
    | true => rw [c] at this; simp [this, c]
    | false => rw [c] at this; simp [this, c]
theorem cnt_rows (h : Nat → Bool) (q : Ro → Bool) (L : List Ro) (hq : ∀ (i : Nat) (hi : i < L.length), h i = !q L[i]) : cntN h L.length = (L.filter q).length := by
  have := filtN_len h (L.map Ro.s ++ List.replicate 0 0) 0 L.length
  rw [filt_rows h q L 0 Ro.s 0 hq L.length (Nat.le_refl _), List.take_length, List.length_map] at this
  exact this.symm
theorem col_rows {α : Type} (h : Nat → Bool) (q : Ro → Bool) (L : List Ro) (e : Nat) (f : Ro → α) (d : α) (hq : ∀ (i : Nat) (hi : i < L.length), h i = !q L[i]) :
    List.take (0 + (cntN h L.length)) (midN h (L.map f ++ List.replicate e d) d L.length) ++ List.replicate (L.length - cntN h L.length) d ++ List.drop (0 + cntN h L.length + (List.replicate (L.length - cntN h L.length) d).length) (midN h (L.map f ++ List.replicate e d) d L.length) = (L.filter q).map f ++ List.replicate (e + (L.length - cntN h L.length)) d := by
  have c := cntN_le h L.length
  have F := filt_rows h q L e f d hq L.length (Nat.le_refl _)
  rw [List.take_length] at F
  have Fl := filtN_len h (L.map f ++ List.replicate e d) d L.length
  rw [midN, Nat.zero_add, List.take_append_of_le_length (by rw [Fl]; exact Nat.le_refl _), List.take_of_length_le (by rw [Fl]; exact Nat.le_refl _), List.length_replicate, List.append_assoc]
  rw [List.drop_append, List.drop_of_length_le (by rw [Fl]; omega), List.nil_append, Fl, List.drop_drop]
  rw [show cntN h L.length + (cntN h L.length + (L.length - cntN h L.length) - cntN h L.length) = L.length from by omega, List.drop_append, List.drop_of_length_le (by rw [List.length_map]; exact Nat.le_refl _), List.nil_append, List.length_map, Nat.sub_self, List.drop_zero, F]
  rw [List.replicate_append_replicate, Nat.add_comm]
theorem any_none (h : Nat → Bool) (q : Ro → Bool) (L : List Ro) (hq : ∀ (i : Nat) (hi : i < L.length), h i = !q L[i]) (hh : ∀ m, m < L.length → h m = false) : L.filter q = L := by
  rw [List.filter_eq_self]
  intro r hr
  obtain ⟨i, hi, rfl⟩ := List.getElem_of_mem hr
  have := hq i hi
  rw [hh i hi] at this
  cases c : q L[i] with
  | true => rfl
  | false => rw [c] at this; cases this
def dropL (x y : Int) (L : List Ro) : List Ro := L.filter fun r => !(r.s == x && r.p == y)
def flushL (x : Int) (L : List Ro) : List Ro := L.filter fun r => !(r.s == x)
theorem hitD_rows (x y : Int) (L : List Ro) (e : Nat) : ∀ (i : Nat) (hi : i < L.length), hitD (cS L e) (cP L e) x y i = !(!(L[i].s == x && L[i].p == y)) := fun i hi => by
  unfold hitD
  rw [show (cS L e).getD i 0 = L[i].s from col_getD Ro.s 0 L e i hi, show (cP L e).getD i 0 = L[i].p from col_getD Ro.p 0 L e i hi, Bool.not_not]
theorem hitF_rows (x : Int) (L : List Ro) (e : Nat) : ∀ (i : Nat) (hi : i < L.length), hitF (cS L e) x i = !(!(L[i].s == x)) := fun i hi => by
  unfold hitF
  rw [show (cS L e).getD i 0 = L[i].s from col_getD Ro.s 0 L e i hi, Bool.not_not]
theorem drop_le (x y : Int) (L : List Ro) : (dropL x y L).length ≤ L.length := List.length_filter_le _ _
theorem flush_le (x : Int) (L : List Ro) : (flushL x L).length ≤ L.length := List.length_filter_le _ _
abbrev DLf := Int → Int → List Ro → List Ro
abbrev FLf := Int → List Ro → List Ro
abbrev kR (L : List Ro) (e : Nat) : Option Block := kB (cS L e) (cP L e) (cV L e) (cW L e) (cA L e)
def gDel (DL : DLf) (FL : FLf) : Fun := fun args sub κ => match args, sub with
  | [.e (.c (.slice ⟨0, 0, 5, 0, 0, 0, 0⟩ 5 n e false)), .e (.c (.clos 46 [⟨1, 0, 0, 0, 0, 0, 0⟩, ⟨2, 0, 0, 0, 0, 0, 0⟩]))], [some ⟨false, .rows [.ints .i64 s, .ints .i64 p, .bools v, .bools w, .ints .i64 a]⟩, some ⟨false, .mix [.int .i64 x]⟩, some ⟨false, .mix [.int .i64 y]⟩] =>
    match okK n e s p v w a with
    | true => κ ⟨kS (DL x y (rowsN n s p v w a)).length (e + (n - (DL x y (rowsN n s p v w a)).length)), [some (kR (DL x y (rowsN n s p v w a)) (e + (n - (DL x y (rowsN n s p v w a)).length))), some (bI x), some (bI y)]⟩
    | false => none
  | [.e (.c (.slice ⟨0, 0, 5, 0, 0, 0, 0⟩ 5 n e false)), .e (.c (.clos 38 [⟨1, 0, 0, 0, 0, 0, 0⟩]))], [some ⟨false, .rows [.ints .i64 s, .ints .i64 p, .bools v, .bools w, .ints .i64 a]⟩, some ⟨false, .mix [.int .i64 x]⟩] =>
    match okK n e s p v w a with
    | true => κ ⟨kS (FL x (rowsN n s p v w a)).length (e + (n - (FL x (rowsN n s p v w a)).length)), [some (kR (FL x (rowsN n s p v w a)) (e + (n - (FL x (rowsN n s p v w a)).length))), some (bI x)]⟩
    | false => none
  | [.e (.c .nils), .e (.c (.clos 46 [⟨0, 0, 0, 0, 0, 0, 0⟩, ⟨1, 0, 0, 0, 0, 0, 0⟩]))], [some ⟨false, .mix [.int .i64 x]⟩, some ⟨false, .mix [.int .i64 y]⟩] => κ ⟨.e (.c .nils), [some (bI x), some (bI y)]⟩
  | [.e (.c .nils), .e (.c (.clos 38 [⟨0, 0, 0, 0, 0, 0, 0⟩]))], [some ⟨false, .mix [.int .i64 x]⟩] => κ ⟨.e (.c .nils), [some (bI x)]⟩
  | _, _ => none
theorem delD_L (x y : Int) (L : List Ro) (e : Nat) (h : L.length + e < 4611686018427387904) (K : Res → Option Res) :
    fillF (fun args sub κ => runLG Try.prog (sKi fiD fiF) (lDl3 fiD dCn dMz dMb dAn) 3 100 37 args sub κ) [kS L.length e, .e (.c (.clos 46 [⟨1, 0, 0, 0, 0, 0, 0⟩, ⟨2, 0, 0, 0, 0, 0, 0⟩]))] [kR L e, bI x, bI y] K = K ⟨kS (dropL x y L).length (e + (L.length - (dropL x y L).length)), [some (kR (dropL x y L) (e + (L.length - (dropL x y L).length))), some (bI x), some (bI y)]⟩ := by
  unfold fillF
  refine (t_delD fiD fiF dCn dMz dMb dAn L.length e x y _ _ _ _ _ _).trans ?_
  have q := hitD_rows x y L e
  have c := cntN_le (hitD (cS L e) (cP L e) x y) L.length
  have cc : cntN (hitD (cS L e) (cP L e) x y) L.length = (dropL x y L).length := cnt_rows _ _ L q
  rw [lensK_self L e h, decide_eq_true rfl, decide_eq_true rfl, show (Nat.beq 46 46) = true from rfl, Bool.or_true, Bool.and_self, cT, Bool.true_and, Bool.and_true]
  rcases fndF_spec (hitD (cS L e) (cP L e) x y) L.length 0 with ⟨u, hh⟩ | ⟨k, u, _, q1, q2, q3⟩
  · have u' : fiD (cS L e) (cP L e) x y L.length = -1 := u
    have D : dropL x y L = L := any_none _ _ L q (fun m hm => hh m (Nat.zero_le _) (by omega))
    rw [u', show ((-1 : Int) == -1) = true from rfl, cT, D, Nat.sub_self, Nat.add_zero]
    rfl
  · have u' : fiD (cS L e) (cP L e) x y L.length = (k : Int) := u
    have k1 : (((k : Nat) : Int) == -1) = false := by rw [beq_eq_false_iff_ne]; omega
    rw [u', k1, cF, decide_eq_true (show (0 : Int) ≤ (k : Int) by omega), cT]
    have e1 := midN_len (hitD (cS L e) (cP L e) x y) (cS L e) 0 L.length (by rw [cS_len]; omega)
    have e2 := midN_len (hitD (cS L e) (cP L e) x y) (cP L e) 0 L.length (by rw [cP_len]; omega)
    have e3 := midN_len (hitD (cS L e) (cP L e) x y) (cV L e) false L.length (by rw [cV_len]; omega)
    have e4 := midN_len (hitD (cS L e) (cP L e) x y) (cW L e) false L.length (by rw [cW_len]; omega)
    have e5 := midN_len (hitD (cS L e) (cP L e) x y) (cA L e) 0 L.length (by rw [cA_len]; omega)
    rw [cS_len] at e1; rw [cP_len] at e2; rw [cV_len] at e3; rw [cW_len] at e4; rw [cA_len] at e5
    have r1 := col_rows (hitD (cS L e) (cP L e) x y) (fun r => !(r.s == x && r.p == y)) L e Ro.s 0 q
    have r2 := col_rows (hitD (cS L e) (cP L e) x y) (fun r => !(r.s == x && r.p == y)) L e Ro.p 0 q
    have r3 := col_rows (hitD (cS L e) (cP L e) x y) (fun r => !(r.s == x && r.p == y)) L e Ro.v false q
    have r4 := col_rows (hitD (cS L e) (cP L e) x y) (fun r => !(r.s == x && r.p == y)) L e Ro.w false q
    have r5 := col_rows (hitD (cS L e) (cP L e) x y) (fun r => !(r.s == x && r.p == y)) L e Ro.a 0 q
    change List.take _ (midN _ (cS L e) 0 _) ++ _ ++ List.drop _ (midN _ (cS L e) 0 _) = _ at r1
    change List.take _ (midN _ (cP L e) 0 _) ++ _ ++ List.drop _ (midN _ (cP L e) 0 _) = _ at r2
    change List.take _ (midN _ (cV L e) false _) ++ _ ++ List.drop _ (midN _ (cV L e) false _) = _ at r3
    change List.take _ (midN _ (cW L e) false _) ++ _ ++ List.drop _ (midN _ (cW L e) false _) = _ at r4
    change List.take _ (midN _ (cA L e) 0 _) ++ _ ++ List.drop _ (midN _ (cA L e) 0 _) = _ at r5
    unfold dCn dMz dMb
    rw [decide_eq_true (show (0 : Int) ≤ (cntN (hitD (cS L e) (cP L e) x y) L.length : Nat) by omega), decide_eq_true (show ((cntN (hitD (cS L e) (cP L e) x y) L.length : Nat) : Int) ≤ (L.length : Int) by omega), Bool.and_self, cT, cT, Int.toNat_natCast, r1, r2, r3, r4, r5, e1, e2, e3, e4, e5, List.length_replicate, List.length_replicate, decide_eq_true (show 0 + cntN (hitD (cS L e) (cP L e) x y) L.length + (L.length - cntN (hitD (cS L e) (cP L e) x y) L.length) ≤ L.length + e by omega), Bool.and_self, Bool.and_self, Bool.and_self, Bool.and_self, Bool.and_self, cT, cc]
    rfl
theorem delF_L (x : Int) (L : List Ro) (e : Nat) (h : L.length + e < 4611686018427387904) (K : Res → Option Res) :
    fillF (fun args sub κ => runLG Try.prog (sKi fiD fiF) (lDl2 fiF fCn fMz fMb fAn) 2 100 37 args sub κ) [kS L.length e, .e (.c (.clos 38 [⟨1, 0, 0, 0, 0, 0, 0⟩]))] [kR L e, bI x] K = K ⟨kS (flushL x L).length (e + (L.length - (flushL x L).length)), [some (kR (flushL x L) (e + (L.length - (flushL x L).length))), some (bI x)]⟩ := by
  unfold fillF
  refine (t_delF fiD fiF fCn fMz fMb fAn L.length e x _ _ _ _ _ _).trans ?_
  have q := hitF_rows x L e
  have c := cntN_le (hitF (cS L e) x) L.length
  have cc : cntN (hitF (cS L e) x) L.length = (flushL x L).length := cnt_rows _ _ L q
  rw [lensK_self L e h, decide_eq_true rfl, decide_eq_true rfl, cT, Bool.true_and, Bool.and_true]
  rcases fndF_spec (hitF (cS L e) x) L.length 0 with ⟨u, hh⟩ | ⟨k, u, _, q1, q2, q3⟩
  · have u' : fiF (cS L e) x L.length = -1 := u
    have D : flushL x L = L := any_none _ _ L q (fun m hm => hh m (Nat.zero_le _) (by omega))
    rw [u', show ((-1 : Int) == -1) = true from rfl, cT, D, Nat.sub_self, Nat.add_zero]
    rfl
  · have u' : fiF (cS L e) x L.length = (k : Int) := u
    have k1 : (((k : Nat) : Int) == -1) = false := by rw [beq_eq_false_iff_ne]; omega
    rw [u', k1, cF, decide_eq_true (show (0 : Int) ≤ (k : Int) by omega), Bool.and_self, cT]
    have e1 := midN_len (hitF (cS L e) x) (cS L e) 0 L.length (by rw [cS_len]; omega)
    have e2 := midN_len (hitF (cS L e) x) (cP L e) 0 L.length (by rw [cP_len]; omega)
    have e3 := midN_len (hitF (cS L e) x) (cV L e) false L.length (by rw [cV_len]; omega)
    have e4 := midN_len (hitF (cS L e) x) (cW L e) false L.length (by rw [cW_len]; omega)
    have e5 := midN_len (hitF (cS L e) x) (cA L e) 0 L.length (by rw [cA_len]; omega)
    rw [cS_len] at e1; rw [cP_len] at e2; rw [cV_len] at e3; rw [cW_len] at e4; rw [cA_len] at e5
    have r1 := col_rows (hitF (cS L e) x) (fun r => !(r.s == x)) L e Ro.s 0 q
    have r2 := col_rows (hitF (cS L e) x) (fun r => !(r.s == x)) L e Ro.p 0 q
    have r3 := col_rows (hitF (cS L e) x) (fun r => !(r.s == x)) L e Ro.v false q
    have r4 := col_rows (hitF (cS L e) x) (fun r => !(r.s == x)) L e Ro.w false q
    have r5 := col_rows (hitF (cS L e) x) (fun r => !(r.s == x)) L e Ro.a 0 q
    change List.take _ (midN _ (cS L e) 0 _) ++ _ ++ List.drop _ (midN _ (cS L e) 0 _) = _ at r1
    change List.take _ (midN _ (cP L e) 0 _) ++ _ ++ List.drop _ (midN _ (cP L e) 0 _) = _ at r2
    change List.take _ (midN _ (cV L e) false _) ++ _ ++ List.drop _ (midN _ (cV L e) false _) = _ at r3
    change List.take _ (midN _ (cW L e) false _) ++ _ ++ List.drop _ (midN _ (cW L e) false _) = _ at r4
    change List.take _ (midN _ (cA L e) 0 _) ++ _ ++ List.drop _ (midN _ (cA L e) 0 _) = _ at r5
    unfold fCn fMz fMb
    rw [decide_eq_true (show (0 : Int) ≤ (cntN (hitF (cS L e) x) L.length : Nat) by omega), decide_eq_true (show ((cntN (hitF (cS L e) x) L.length : Nat) : Int) ≤ (L.length : Int) by omega), Bool.and_self, cT, cT, Int.toNat_natCast, r1, r2, r3, r4, r5, e1, e2, e3, e4, e5, List.length_replicate, List.length_replicate, decide_eq_true (show 0 + cntN (hitF (cS L e) x) L.length + (L.length - cntN (hitF (cS L e) x) L.length) ≤ L.length + e by omega), Bool.and_self, Bool.and_self, Bool.and_self, Bool.and_self, Bool.and_self, cT, cc]
    rfl
end Go.Proofs.Ytnloobnpgkpbhaa.Wlk
