/- What is kept: dropped, flushed, got: told in short. -/
import Derived.Test.YtnloobnpgkpbhaaTlJ
set_option linter.unusedVariables false
set_option linter.unusedSimpArgs false
set_option maxRecDepth 100000
namespace Go.Proofs.Ytnloobnpgkpbhaa.Wlk
open Go Go.Eng Go.Proofs Go.RowKit
def fndR (x y : Int) (L : List Ro) : Option Ro := L.find? fun r => r.s == x && r.p == y
def ktV (x y : Int) (L : List Ro) : Bool := match fndR x y L with | some r => r.v | none => false
def ktW (x y : Int) (L : List Ro) : Bool := match fndR x y L with | some r => r.w | none => false
def ktA (x y : Int) (L : List Ro) : Int := match fndR x y L with | some r => r.a | none => 0
def ktI (x y : Int) (L : List Ro) : Bool := match fndR x y L with | some _ => true | none => false
abbrev GB := Int → Int → List Ro → Bool
abbrev GZ := Int → Int → List Ro → Int
def gGetT (V W : GB) (A : GZ) (I : GB) : Fun := fun args sub κ => match args, sub with
  | [.e (.c (.ptr ⟨0, 0, 0, 0, 0, 0, 0⟩)), .e (.c (.int .i64 x)), .e (.c (.int .i64 y))], [some ⟨false, .mix [.slice ⟨1, 0, 5, 0, 0, 0, 0⟩ 5 n e false]⟩, some ⟨false, .rows [.ints .i64 s, .ints .i64 p, .bools v, .bools w, .ints .i64 a]⟩] =>
    match okK n e s p v w a with
    | true => κ ⟨.tup [.agg [.bool (V x y (rowsN n s p v w a)), .bool (W x y (rowsN n s p v w a)), .int .i64 (A x y (rowsN n s p v w a))], .c (.bool (I x y (rowsN n s p v w a)))], [none, none]⟩
    | false => none
  | [.e (.c (.ptr ⟨0, 0, 0, 0, 0, 0, 0⟩)), .e (.c (.int .i64 x)), .e (.c (.int .i64 y))], [some ⟨false, .mix [.nils]⟩] => κ ⟨.tup [.agg [.bool false, .bool false, .int .i64 0], .c (.bool false)], [none]⟩
  | _, _ => none
def gDropT (DL : DLf) : Fun := fun args sub κ => match args, sub with
  | [.e (.c (.ptr ⟨0, 0, 0, 0, 0, 0, 0⟩)), .e (.c (.int .i64 x)), .e (.c (.int .i64 y))], [some ⟨false, .mix [.slice ⟨1, 0, 5, 0, 0, 0, 0⟩ 5 n e false]⟩, some ⟨false, .rows [.ints .i64 s, .ints .i64 p, .bools v, .bools w, .ints .i64 a]⟩] =>
    match okK n e s p v w a with
    | true => κ ⟨.tup [], [some (some ⟨false, .mix [.slice ⟨1, 0, 5, 0, 0, 0, 0⟩ 5 (DL x y (rowsN n s p v w a)).length (e + (n - (DL x y (rowsN n s p v w a)).length)) false]⟩), some (kR (DL x y (rowsN n s p v w a)) (e + (n - (DL x y (rowsN n s p v w a)).length)))]⟩
    | false => none
  | [.e (.c (.ptr ⟨0, 0, 0, 0, 0, 0, 0⟩)), .e (.c (.int .i64 x)), .e (.c (.int .i64 y))], [some ⟨false, .mix [.nils]⟩] => κ ⟨.tup [], [some (some ⟨false, .mix [.nils]⟩)]⟩
  | _, _ => none
def gFlushT (FL : FLf) : Fun := fun args sub κ => match args, sub with
  | [.e (.c (.ptr ⟨0, 0, 0, 0, 0, 0, 0⟩)), .e (.c (.int .i64 x))], [some ⟨false, .mix [.slice ⟨1, 0, 5, 0, 0, 0, 0⟩ 5 n e false]⟩, some ⟨false, .rows [.ints .i64 s, .ints .i64 p, .bools v, .bools w, .ints .i64 a]⟩] =>
    match okK n e s p v w a with
    | true => κ ⟨.tup [], [some (some ⟨false, .mix [.slice ⟨1, 0, 5, 0, 0, 0, 0⟩ 5 (FL x (rowsN n s p v w a)).length (e + (n - (FL x (rowsN n s p v w a)).length)) false]⟩), some (kR (FL x (rowsN n s p v w a)) (e + (n - (FL x (rowsN n s p v w a)).length)))]⟩
    | false => none
  | [.e (.c (.ptr ⟨0, 0, 0, 0, 0, 0, 0⟩)), .e (.c (.int .i64 x))], [some ⟨false, .mix [.nils]⟩] => κ ⟨.tup [], [some (some ⟨false, .mix [.nils]⟩)]⟩
  | _, _ => none
def gLenT : Fun := fun args sub κ => match args, sub with
  | [.e (.c (.ptr ⟨0, 0, 0, 0, 0, 0, 0⟩))], [some ⟨false, .mix [.slice ⟨1, 0, 5, 0, 0, 0, 0⟩ 5 n e false]⟩, some ⟨false, .rows [.ints .i64 s, .ints .i64 p, .bools v, .bools w, .ints .i64 a]⟩] => κ ⟨.e (.c (.int .i64 (n : Int))), [none, none]⟩
  | [.e (.c (.ptr ⟨0, 0, 0, 0, 0, 0, 0⟩))], [some ⟨false, .mix [.nils]⟩] => κ ⟨.e (.c (.int .i64 0)), [none]⟩
  | _, _ => none
def gNewT : Fun := fun args sub κ => match args, sub with
  | [], [] => κ ⟨.e (.c (.ptr ⟨0, 0, 0, 0, 0, 0, 0⟩)), [some (some ⟨false, .mix [.nils]⟩)]⟩
  | _, _ => none
def rgt (x y : Int) : Bool := decide (0 ≤ x) && (decide (x < 64) && (decide (0 ≤ y) && decide (y < 256)))
def gRight (R : Int → Int → Bool) : Fun := fun args sub κ => match args, sub with
  | [.e (.agg [.int .i64 x, .int .i64 y])], [] => κ ⟨.e (.c (.bool (R x y))), []⟩
  | _, _ => none
def tlR (L : List Ro) : List Ro := L.drop 1
abbrev TLf := List Ro → List Ro
def gDel1 (TL : TLf) : Fun := fun args sub κ => match args, sub with
  | [.e (.c (.slice ⟨0, 0, 5, 0, 0, 0, 0⟩ 5 n e false)), .e (.c (.int .i64 0)), .e (.c (.int .i64 1))], [some ⟨false, .rows [.ints .i64 s, .ints .i64 p, .bools v, .bools w, .ints .i64 a]⟩] =>
    match okK n e s p v w a && Nat.ble 1 n with
    | true => κ ⟨.e (.c (.slice ⟨0, 0, 5, 0, 0, 0, 0⟩ 5 (n - 1) (e + 1) false)), [some (kR (TL (rowsN n s p v w a)) (e + 1))]⟩
    | false => none
  | _, _ => none
theorem find_none (x y : Int) (L : List Ro) (e : Nat) (h : ∀ m, m < L.length → hitD (cS L e) (cP L e) x y m = false) : fndR x y L = none := by
  unfold fndR
  rw [List.find?_eq_none]
  intro r hr
  obtain ⟨i, hi, rfl⟩ := List.getElem_of_mem hr
  have := h i hi
  rw [hitD_rows x y L e i hi, Bool.not_not] at this
  rw [this]; exact Bool.false_ne_true
theorem find_some (x y : Int) (L : List Ro) (e k : Nat) (hk : k < L.length) (hh : hitD (cS L e) (cP L e) x y k = true) (h : ∀ m, m < k → hitD (cS L e) (cP L e) x y m = false) : fndR x y L = some L[k] := by
  unfold fndR
  rw [List.find?_eq_some_iff_getElem]
  rw [hitD_rows x y L e k hk, Bool.not_not] at hh
  refine ⟨hh, k, hk, rfl, fun j hj => ?_⟩
  have := h j hj
  rw [hitD_rows x y L e j (by omega), Bool.not_not] at this
  rw [this]; rfl
theorem gGetT_sound : FunSound Try.prog 11 (gGetT ktV ktW ktA ktI) := by
  refine (runG_sound sTd_ok mix 60 11).short fun args sub κ r h => ?_
  unfold gGetT at h
  split at h
  · rename_i x y n e s p v w a
    split at h
    · rename_i hc
      obtain ⟨L, hL, rfl, rfl, rfl, rfl, rfl, hb, hr⟩ := okK_spec hc
      subst hL
      rw [rowsN_cols] at h
      refine (t_getS fiD fiF dropL flushL L.length e x y _ _ _ _ _ κ).trans ?_
      rw [lensK_self L e hb, show (Nat.beq 36 36) = true from rfl, Bool.true_or, Bool.and_self, cT]
      rcases fndF_spec (hitD (cS L e) (cP L e) x y) L.length 0 with ⟨u, hh⟩ | ⟨k, u, _, q1, q2, q3⟩
      · have u' : fiD (cS L e) (cP L e) x y L.length = -1 := u
        have F := find_none x y L e (fun m hm => hh m (Nat.zero_le _) (by omega))
        rw [u', decide_eq_true (by omega), cT]
        unfold ktV ktW ktA ktI at h
        rw [F] at h
        exact h
      · have u' : fiD (cS L e) (cP L e) x y L.length = (k : Int) := u
        have F := find_some x y L e k (by omega) q2 (fun m hm => q3 m (Nat.zero_le _) hm)
        unfold ktV ktW ktA ktI at h
        rw [F] at h
        rw [u', decide_eq_false (show ¬ (k : Int) < 0 by omega), cF, decide_eq_true (show (0 : Int) ≤ (k : Int) by omega), decide_eq_true (show (k : Int) < (L.length : Int) by omega), Bool.and_self, cT, Int.toNat_natCast, Nat.zero_add, cV_len, cW_len, cA_len, decide_eq_true (show k < L.length + e by omega), Bool.and_self, Bool.and_self, Bool.and_self, cT,
          show (cV L e).getD k false = L[k].v from col_getD Ro.v false L e k (by omega), show (cW L e).getD k false = L[k].w from col_getD Ro.w false L e k (by omega), show (cA L e).getD k 0 = L[k].a from col_getD Ro.a 0 L e k (by omega)]
        exact h
    · cases h
  · rename_i x y
    exact (t_getN fiD fiF dropL flushL x y κ).trans h
  · cases h
theorem gDropT_sound : FunSound Try.prog 19 (gDropT dropL) := by
  refine (runG_sound sTd_ok mix 60 19).short fun args sub κ r h => ?_
  unfold gDropT at h
  split at h
  · rename_i x y n e s p v w a
    refine (t_dropS fiD fiF dropL flushL n e x y s p v w a κ).trans ?_
    split at h
    · rename_i hc
      rw [hc, cT]; exact h
    · cases h
  · rename_i x y
    exact (t_dropN fiD fiF dropL flushL x y κ).trans h
  · cases h
theorem gFlushT_sound : FunSound Try.prog 13 (gFlushT flushL) := by
  refine (runG_sound sTd_ok mix 60 13).short fun args sub κ r h => ?_
  unfold gFlushT at h
  split at h
  · rename_i x n e s p v w a
    refine (t_flushS fiD fiF dropL flushL n e x s p v w a κ).trans ?_
    split at h
    · rename_i hc
      rw [hc, cT]; exact h
    · cases h
  · rename_i x
    exact (t_flushN fiD fiF dropL flushL x κ).trans h
  · cases h
theorem gLenT_sound : FunSound Try.prog 12 gLenT := by
  refine (runG_sound sNil_ok mix 60 12).short fun args sub κ r h => ?_
  unfold gLenT at h
  split at h
  · rename_i n e s p v w a
    exact (t_lenS n e s p v w a κ).trans h
  · exact (t_lenN κ).trans h
  · cases h
theorem gNewT_sound : FunSound Try.prog 9 gNewT := by
  refine (runG_sound sNil_ok mix 60 9).short fun args sub κ r h => ?_
  unfold gNewT at h
  split at h
  · exact (t_newT κ).trans h
  · cases h
theorem gRight_sound : FunSound Try.prog 32 (gRight rgt) := by
  refine (runG_sound sNil_ok mix 60 32).short fun args sub κ r h => ?_
  unfold gRight at h
  split at h
  · rename_i x y
    refine (t_right x y κ).trans ?_
    unfold rgt at h
    by_cases c1 : 0 ≤ x
    · rw [decide_eq_true (show x ≥ 0 from c1), cT]
      rw [decide_eq_true c1, Bool.true_and] at h
      by_cases c2 : x < 64
      · rw [decide_eq_true c2, cT]
        rw [decide_eq_true c2, Bool.true_and] at h
        by_cases c3 : 0 ≤ y
        · rw [decide_eq_true (show y ≥ 0 from c3), cT]
          rw [decide_eq_true c3, Bool.true_and] at h
          exact h
        · rw [decide_eq_false (show ¬ y ≥ 0 from c3), cF]
          rw [decide_eq_false c3, Bool.false_and] at h
          exact h
      · rw [decide_eq_false c2, cF]
        rw [decide_eq_false c2, Bool.false_and] at h
        exact h
    · rw [decide_eq_false (show ¬ x ≥ 0 from c1), cF]
      rw [decide_eq_false c1, Bool.false_and] at h
      exact h
  · cases h
theorem col_tail {α : Type} (f : Ro → α) (d : α) (L : List Ro) (e n : Nat) (hL : L.length = n + 1) :
    List.take n (List.take 0 (L.map f ++ List.replicate e d) ++ List.take n (List.drop 1 (L.map f ++ List.replicate e d)) ++ List.drop n (L.map f ++ List.replicate e d)) ++ List.replicate 1 d ++ List.drop (n + 1) (List.take 0 (L.map f ++ List.replicate e d) ++ List.take n (List.drop 1 (L.map f ++ List.replicate e d)) ++ List.drop n (L.map f ++ List.replicate e d)) = (L.drop 1).map f ++ List.replicate (e + 1) d := by
  cases L with
  | nil => cases hL
  | cons r L =>
    have hL' : L.length = n := by simpa using hL
    have hm : (L.map f).length = n := by rw [List.length_map]; exact hL'
    have t : List.take n (L.map f ++ List.replicate e d) = L.map f := by
      rw [List.take_append_of_le_length (Nat.le_of_eq hm.symm), List.take_of_length_le (Nat.le_of_eq hm)]
    rw [List.map_cons, List.cons_append, List.drop_succ_cons, List.drop_zero, List.take_zero, List.nil_append, t, List.take_append_of_le_length (Nat.le_of_eq hm.symm), List.take_of_length_le (Nat.le_of_eq hm)]
    rw [List.drop_append, List.drop_of_length_le (show (L.map f).length ≤ n + 1 by omega), List.nil_append, hm, show n + 1 - n = 1 from by omega, List.drop_drop, List.drop_succ_cons, List.drop_append, List.drop_of_length_le (Nat.le_of_eq hm), List.nil_append, hm, Nat.sub_self, List.drop_zero, List.drop_succ_cons, List.drop_zero, List.append_assoc, List.replicate_append_replicate, Nat.add_comm 1 e]
set_option maxHeartbeats 2000000 in
theorem gDel1_sound : FunSound Try.prog 34 (gDel1 tlR) := by
  refine (runG_sound sNil_ok mix 60 34).short fun args sub κ r h => ?_
  unfold gDel1 at h
  split at h
  · rename_i n e s p v w a
    split at h
    · rename_i hc
      rw [Bool.and_eq_true] at hc
      obtain ⟨hc, h1⟩ := hc
      have h1 := Nat.le_of_ble_eq_true h1
      obtain ⟨L, hL, rfl, rfl, rfl, rfl, rfl, hb, hr⟩ := okK_spec hc
      subst hL
      rw [rowsN_cols] at h
      obtain ⟨n, hn⟩ : ∃ n, L.length = n + 1 := ⟨L.length - 1, by omega⟩
      have T := t_del01 n e (cS L e) (cP L e) (cV L e) (cW L e) (cA L e) κ
      have r1 := col_tail Ro.s 0 L e n hn
      have r2 := col_tail Ro.p 0 L e n hn
      have r3 := col_tail Ro.v false L e n hn
      have r4 := col_tail Ro.w false L e n hn
      have r5 := col_tail Ro.a 0 L e n hn
      rw [show L.map Ro.s ++ List.replicate e 0 = cS L e from rfl] at r1
      rw [show L.map Ro.p ++ List.replicate e 0 = cP L e from rfl] at r2
      rw [show L.map Ro.v ++ List.replicate e false = cV L e from rfl] at r3
      rw [show L.map Ro.w ++ List.replicate e false = cW L e from rfl] at r4
      rw [show L.map Ro.a ++ List.replicate e 0 = cA L e from rfl] at r5
      rw [hn] at h ⊢
      refine T.trans ?_
      have l1 := cS_len L e
      have l2 := cP_len L e
      have l3 := cV_len L e
      have l4 := cW_len L e
      have l5 := cA_len L e
      rw [hn] at l1 l2 l3 l4 l5
      have t1 : (List.take n (List.drop 1 (cS L e))).length = n := by rw [List.length_take, List.length_drop, l1]; omega
      have t2 : (List.take n (List.drop 1 (cP L e))).length = n := by rw [List.length_take, List.length_drop, l2]; omega
      have t3 : (List.take n (List.drop 1 (cV L e))).length = n := by rw [List.length_take, List.length_drop, l3]; omega
      have t4 : (List.take n (List.drop 1 (cW L e))).length = n := by rw [List.length_take, List.length_drop, l4]; omega
      have t5 : (List.take n (List.drop 1 (cA L e))).length = n := by rw [List.length_take, List.length_drop, l5]; omega
      have m1 : (List.take 0 (cS L e) ++ List.take n (List.drop 1 (cS L e)) ++ List.drop n (cS L e)).length = n + 1 + e := by rw [List.take_zero, List.nil_append, List.length_append, t1, List.length_drop, l1]; omega
      have m2 : (List.take 0 (cP L e) ++ List.take n (List.drop 1 (cP L e)) ++ List.drop n (cP L e)).length = n + 1 + e := by rw [List.take_zero, List.nil_append, List.length_append, t2, List.length_drop, l2]; omega
      have m3 : (List.take 0 (cV L e) ++ List.take n (List.drop 1 (cV L e)) ++ List.drop n (cV L e)).length = n + 1 + e := by rw [List.take_zero, List.nil_append, List.length_append, t3, List.length_drop, l3]; omega
      have m4 : (List.take 0 (cW L e) ++ List.take n (List.drop 1 (cW L e)) ++ List.drop n (cW L e)).length = n + 1 + e := by rw [List.take_zero, List.nil_append, List.length_append, t4, List.length_drop, l4]; omega
      have m5 : (List.take 0 (cA L e) ++ List.take n (List.drop 1 (cA L e)) ++ List.drop n (cA L e)).length = n + 1 + e := by rw [List.take_zero, List.nil_append, List.length_append, t5, List.length_drop, l5]; omega
      simp only [show n + 1 - 1 = n from by omega, Nat.zero_add, Int.toNat_natCast, show n + 1 - n = 1 from by omega, t1, t2, t3, t4, t5, m1, m2, m3, m4, m5, List.length_replicate, r1, r2, r3, r4, r5, l1, l2, l3, l4, l5]
      rw [decide_eq_true (show (1 : Int) ≤ ((n + 1 : Nat) : Int) by omega), decide_eq_true (show ((n + 1 : Nat) : Int) ≤ ((n + 1 : Nat) : Int) by omega), decide_eq_true (show 1 + n ≤ n + 1 + e by omega), decide_eq_true (show n ≤ n + 1 + e by omega), decide_eq_true (show n ≤ e + n + 1 by omega), decide_eq_true (show (0 : Int) ≤ ((n + 1 : Nat) : Int) by omega), decide_eq_true (show ((n + 1 : Nat) : Int) ≤ (((n + ((e + n) + 1 - n)) : Nat) : Int) by omega), decide_eq_true (show (0 : Int) ≤ (n : Int) by omega), decide_eq_true (show (n : Int) ≤ ((n + 1 : Nat) : Int) by omega), decide_eq_true (show n + 1 ≤ n + 1 + e by omega), show e + n + 1 - n = e + 1 from by omega]
      rw [show n + 1 - 1 = n from by omega] at h
      exact h
    · cases h
  · cases h
end Go.Proofs.Ytnloobnpgkpbhaa.Wlk
