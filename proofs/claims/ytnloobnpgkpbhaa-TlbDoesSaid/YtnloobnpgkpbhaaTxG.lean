/- The reference's list of what is kept: where an address lies: told in short. -/
import Derived.Test.YtnloobnpgkpbhaaTxF
set_option linter.unusedVariables false
set_option linter.unusedSimpArgs false
set_option maxRecDepth 100000
namespace Go.Proofs.Ytnloobnpgkpbhaa.Wlk
open Go Go.Eng Go.Proofs Go.RowKit
def toN (sp a : Int) (L : List Ro) : Bool := bnF sp (pgN a) L
abbrev TNf := Int → Int → List Ro → Bool
def gXoS (TE TA : TEf) (TC : TCf) (TL : TLf2) (TN : TNf) : Fun := fun args sub κ => match args, sub with
  | [.e (.c (.ptr ⟨0, 0, 0, 0, 0, 0, 0⟩)), .e (.c (.ptr ⟨1, 0, 0, 0, 0, 0, 0⟩)), .e (.c (.int .i64 sp)), .e (.c (.int .i64 d)), .e (.c (.int .i64 a)), .e (.c (.bool wr))], [some ⟨false, .mix [.slice ⟨2, 0, 5, 0, 0, 0, 0⟩ 5 n 0 b]⟩, some ⟨false, .mix [.slice ⟨3, 0, 1, 0, 0, 0, 0⟩ 1 m c true]⟩, some ⟨false, .rows [.ints .i64 s, .ints .i64 p, .bools v, .bools w, .ints .i64 q]⟩, some ⟨false, .rows [.ints .u64 ws]⟩] =>
    match okK n 0 s p v w q && Nat.ble n 8 && (okM m ws && inI d && inI a && allW ws) with
    | true => match TC ws (rowsN n s p v w q) sp d a with
      | true => κ ⟨.tup [.c (.int .i64 (TA ws (rowsN n s p v w q) sp d a wr)), .c (.int .i64 (TE ws (rowsN n s p v w q) sp d a wr))], [some (xT 4 (TL ws (rowsN n s p v w q) sp d a).length (TN sp a (rowsN n s p v w q))), none, none, none, some (kR (TL ws (rowsN n s p v w q) sp d a) 0)]⟩
      | false => κ ⟨.tup [.c (.int .i64 (TA ws (rowsN n s p v w q) sp d a wr)), .c (.int .i64 (TE ws (rowsN n s p v w q) sp d a wr))], [none, none, none, none]⟩
    | false => none
  | _, _ => none
def gXoN (TE TA : TEf) (TC : TCf) (TL : TLf2) : Fun := fun args sub κ => match args, sub with
  | [.e (.c (.ptr ⟨0, 0, 0, 0, 0, 0, 0⟩)), .e (.c (.ptr ⟨1, 0, 0, 0, 0, 0, 0⟩)), .e (.c (.int .i64 sp)), .e (.c (.int .i64 d)), .e (.c (.int .i64 a)), .e (.c (.bool wr))], [some ⟨false, .mix [.nils]⟩, some ⟨false, .mix [.slice ⟨2, 0, 1, 0, 0, 0, 0⟩ 1 m c true]⟩, some ⟨false, .rows [.ints .u64 ws]⟩] =>
    match okM m ws && inI d && inI a && allW ws with
    | true => match TC ws [] sp d a with
      | true => κ ⟨.tup [.c (.int .i64 (TA ws [] sp d a wr)), .c (.int .i64 (TE ws [] sp d a wr))], [some (xT 3 1 false), none, none, some (kR (TL ws [] sp d a) 0)]⟩
      | false => κ ⟨.tup [.c (.int .i64 (TA ws [] sp d a wr)), .c (.int .i64 (TE ws [] sp d a wr))], [none, none, none]⟩
    | false => none
  | _, _ => none
def gXo (TE TA : TEf) (TC : TCf) (TL : TLf2) (TN : TNf) : Fun := fun args sub κ => match sub with
  | [_, _, _] => gXoN TE TA TC TL args sub κ
  | _ => gXoS TE TA TC TL TN args sub κ
theorem toB_cond2 {sp a : Int} {X Y : Option Res} : cond (!nmb sp) X (cond (spE a != 0) X Y) = cond (toB sp a) Y X := by
  unfold toB
  by_cases c : spE a = 0
  · have ho := spE_ok.1 c
    have hh := spOk_iff ho
    have e : rgt sp (pgN a) = nmb sp := by
      rw [pgN_ok ho]
      unfold rgt nmb
      rw [decide_eq_true (show 0 ≤ a / 16 by omega), decide_eq_true (show a / 16 < 256 by omega)]
      by_cases c1 : 0 ≤ sp <;> by_cases c2 : sp < 64 <;> simp [c1, c2] <;> omega
    rw [decide_eq_true c, Bool.true_and, e, bne_false c]
    cases nmb sp <;> rfl
  · rw [decide_eq_false c, Bool.false_and, show (spE a != 0) = true from by simp [c], cT, cF]
    cases nmb sp <;> rfl
set_option maxHeartbeats 4000000 in
theorem gXoN_sound : FunSound Try.prog 16 (gXoN tE tA tC tL) := by
  refine (runG_sound sXo_ok mix 100 16).short fun args sub κ r h => ?_
  unfold gXoN at h
  split at h
  · rename_i sp d a wr m c ws
    split at h
    · rename_i hc
      have hc' := hc
      simp only [Bool.and_eq_true] at hc
      obtain ⟨⟨⟨h1, h2⟩, h3⟩, h4⟩ := hc
      have e0 : ktI sp (pgN a) [] = false := rfl
      refine (t_xoN ktV ktW ktA ktI filE fillL bnF nmb pgV pgW pgA pgE sp1 sp2 sp3 spE m c sp d a wr ws κ).trans ?_
      rw [hc', h3, cT, toB_cond2, cT, pgA_in h1, cT]
      cases hb : toB sp a with
      | false =>
        obtain ⟨q1, q2, q3⟩ := out_E (ws := ws) (L := []) (d := d) (wr := wr) hb
        rw [q1, q2, q3] at h
        rw [cF]; exact h
      | true =>
        rw [cT]
        by_cases hp : pgE ws d a = 0
        · obtain ⟨q1, q2, q3⟩ := miss_E (ws := ws) (L := []) (d := d) (wr := wr) hb e0 hp
          rw [q1, q2, q3] at h
          rw [bne_false hp, cF]
          show cond (decide (filE sp (pgN a) (pgV ws d a) (pgW ws d a) (pgA ws d a) = 0)) _ _ = _
          cases cf : decide (filE sp (pgN a) (pgV ws d a) (pgW ws d a) (pgA ws d a) = 0) with
          | true =>
            rw [cf] at h
            rw [cT]
            exact (to_end wr (pgW ws d a) (pgA ws d a) (sp3 a) (fun A E => κ ⟨.tup [.c (.int .i64 A), .c (.int .i64 E)], [some (xT 3 1 false), none, none, some (kR [⟨sp, pgN a, pgV ws d a, pgW ws d a, pgA ws d a⟩] 0)]⟩)).trans h
          | false =>
            rw [cf] at h
            rw [cF]
            exact (to_end wr (pgW ws d a) (pgA ws d a) (sp3 a) (fun A E => κ ⟨.tup [.c (.int .i64 A), .c (.int .i64 E)], [none, none, none]⟩)).trans h
        · obtain ⟨q1, q2, q3⟩ := fail_E (ws := ws) (L := []) (d := d) (wr := wr) hb e0 hp
          rw [q1, q2, q3] at h
          rw [show (pgE ws d a != 0) = true from by simp [hp], cT]; exact h
    · cases h
  · cases h
set_option maxHeartbeats 4000000 in
theorem gXoS_sound : FunSound Try.prog 16 (gXoS tE tA tC tL toN) := by
  refine (runG_sound sXo_ok mix 100 16).short fun args sub κ r h => ?_
  unfold gXoS at h
  split at h
  · rename_i sp d a wr n b m c s p v w q ws
    split at h
    · rename_i hc
      rw [Bool.and_eq_true, Bool.and_eq_true] at hc
      obtain ⟨⟨hk, h8⟩, hc'⟩ := hc
      have hc := hc'
      simp only [Bool.and_eq_true] at hc
      obtain ⟨⟨⟨h1, h2⟩, h3⟩, h4⟩ := hc
      have h16 : Nat.ble n 16 = true := Nat.ble_eq_true_of_le (by have := Nat.le_of_ble_eq_true h8; omega)
      refine (t_xoS ktV ktW ktA ktI filE fillL bnF nmb pgV pgW pgA pgE sp1 sp2 sp3 spE n m c b sp d a wr s p v w q ws κ).trans ?_
      rw [hk, h8, h16, hc', h3, cT, toB_cond2, pgA_in h1]
      obtain ⟨L, hL⟩ : ∃ L, rowsN n s p v w q = L := ⟨_, rfl⟩
      rw [hL] at h ⊢
      repeat rw [Bool.and_self]
      cases hb : toB sp a with
      | false =>
        obtain ⟨q1, q2, q3⟩ := out_E (ws := ws) (L := L) (d := d) (wr := wr) hb
        rw [q1, q2, q3] at h
        rw [cF]; exact h
      | true =>
        rw [cT, cT]
        show cond (!ktI sp (pgN a) L) _ _ = _
        cases hh : ktI sp (pgN a) L with
        | true =>
          obtain ⟨q1, q2, q3⟩ := hit_E (ws := ws) (L := L) (d := d) (wr := wr) hb hh
          rw [q1, q2, q3] at h
          rw [Bool.not_true, cF]
          exact (to_end wr (ktW sp (pgN a) L) (ktA sp (pgN a) L) (sp3 a) (fun A E => κ ⟨.tup [.c (.int .i64 A), .c (.int .i64 E)], [none, none, none, none]⟩)).trans h
        | false =>
          rw [Bool.not_false, cT, cT]
          by_cases hp : pgE ws d a = 0
          · obtain ⟨q1, q2, q3⟩ := miss_E (ws := ws) (L := L) (d := d) (wr := wr) hb hh hp
            rw [q1, q2, q3] at h
            rw [bne_false hp, cF, cT]
            show cond (decide (filE sp (pgN a) (pgV ws d a) (pgW ws d a) (pgA ws d a) = 0)) _ _ = _
            cases cf : decide (filE sp (pgN a) (pgV ws d a) (pgW ws d a) (pgA ws d a) = 0) with
            | true =>
              rw [cf] at h
              rw [cT]
              exact (to_end wr (pgW ws d a) (pgA ws d a) (sp3 a) (fun A E => κ ⟨.tup [.c (.int .i64 A), .c (.int .i64 E)], [some (xT 4 (tL ws L sp d a).length (toN sp a L)), none, none, none, some (kR (tL ws L sp d a) 0)]⟩)).trans h
            | false =>
              rw [cf] at h
              rw [cF]
              exact (to_end wr (pgW ws d a) (pgA ws d a) (sp3 a) (fun A E => κ ⟨.tup [.c (.int .i64 A), .c (.int .i64 E)], [none, none, none, none]⟩)).trans h
          · obtain ⟨q1, q2, q3⟩ := fail_E (ws := ws) (L := L) (d := d) (wr := wr) hb hh hp
            rw [q1, q2, q3] at h
            rw [show (pgE ws d a != 0) = true from by simp [hp], cT]; exact h
    · cases h
  · cases h
theorem gXo_sound : FunSound Try.prog 16 (gXo tE tA tC tL toN) := by
  intro args sub κ r h
  unfold gXo at h
  split at h
  · exact gXoN_sound _ _ κ r h
  · exact gXoS_sound _ _ κ r h
end Go.Proofs.Ytnloobnpgkpbhaa.Wlk
