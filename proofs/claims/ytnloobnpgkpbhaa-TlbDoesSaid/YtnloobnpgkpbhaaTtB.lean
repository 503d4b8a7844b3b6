/- What is kept: where an address lies: told in short. -/
import Derived.Test.YtnloobnpgkpbhaaTtA
set_option linter.unusedVariables false
set_option linter.unusedSimpArgs false
set_option maxRecDepth 100000
namespace Go.Proofs.Ytnloobnpgkpbhaa.Wlk
open Go Go.Eng Go.Proofs Go.RowKit
def pgN (a : Int) : Int := IntKind.wrap IntKind.i64 (Int.tdiv a 16)
def toB (sp a : Int) : Bool := decide (spE a = 0) && rgt sp (pgN a)
def wrE (wr W : Bool) : Int := if wr = true ∧ W = false then 5 else 0
def tE (ws : List Int) (L : List Ro) (sp d a : Int) (wr : Bool) : Int := if toB sp a = true then (if ktI sp (pgN a) L = true then wrE wr (ktW sp (pgN a) L) else (if pgE ws d a = 0 then wrE wr (pgW ws d a) else pgE ws d a)) else 1
def tA (ws : List Int) (L : List Ro) (sp d a : Int) (wr : Bool) : Int := if tE ws L sp d a wr = 0 then IntKind.wrap IntKind.i64 ((if ktI sp (pgN a) L = true then ktA sp (pgN a) L else pgA ws d a) + sp3 a) else 0
def tC (ws : List Int) (L : List Ro) (sp d a : Int) : Bool := toB sp a && !ktI sp (pgN a) L && decide (pgE ws d a = 0) && decide (filE sp (pgN a) (pgV ws d a) (pgW ws d a) (pgA ws d a) = 0)
def tL (ws : List Int) (L : List Ro) (sp d a : Int) : List Ro := fillL sp (pgN a) (pgV ws d a) (pgW ws d a) (pgA ws d a) L
def tX (L : List Ro) (sp a : Int) (e : Nat) : Nat := fillX sp (pgN a) L e
def tW (L : List Ro) (sp a : Int) (e : Nat) : Bool := fillN sp (pgN a) L e
abbrev TEf := List Int → List Ro → Int → Int → Int → Bool → Int
abbrev TCf := List Int → List Ro → Int → Int → Int → Bool
abbrev TLf2 := List Int → List Ro → Int → Int → Int → List Ro
abbrev TXf := List Ro → Int → Int → Nat → Nat
abbrev TWf := List Ro → Int → Int → Nat → Bool
def gToS (TE TA : TEf) (TC : TCf) (TL : TLf2) (TX : TXf) (TW : TWf) : Fun := fun args sub κ => match args, sub with
  | [.e (.c (.ptr ⟨0, 0, 0, 0, 0, 0, 0⟩)), .e (.c (.ptr ⟨1, 0, 0, 0, 0, 0, 0⟩)), .e (.c (.int .i64 sp)), .e (.c (.int .i64 d)), .e (.c (.int .i64 a)), .e (.c (.bool wr))], [some ⟨false, .mix [.slice ⟨2, 0, 5, 0, 0, 0, 0⟩ 5 n e false]⟩, some ⟨false, .mix [.slice ⟨3, 0, 1, 0, 0, 0, 0⟩ 1 m c true]⟩, some ⟨false, .rows [.ints .i64 s, .ints .i64 p, .bools v, .bools w, .ints .i64 q]⟩, some ⟨false, .rows [.ints .u64 ws]⟩] =>
    match okK n e s p v w q && Nat.ble n 8 && (okM m ws && inI d && inI a && allW ws) with
    | true => match TC ws (rowsN n s p v w q) sp d a with
      | true => match TW (rowsN n s p v w q) sp a e with
        | true => κ ⟨.tup [.c (.int .i64 (TA ws (rowsN n s p v w q) sp d a wr)), .c (.int .i64 (TE ws (rowsN n s p v w q) sp d a wr))], [some (some ⟨false, .mix [.slice ⟨4, 0, 5, 0, 0, 0, 0⟩ 5 (TL ws (rowsN n s p v w q) sp d a).length (TX (rowsN n s p v w q) sp a e) false]⟩), none, some none, none, some (kR (TL ws (rowsN n s p v w q) sp d a) (TX (rowsN n s p v w q) sp a e))]⟩
        | false => κ ⟨.tup [.c (.int .i64 (TA ws (rowsN n s p v w q) sp d a wr)), .c (.int .i64 (TE ws (rowsN n s p v w q) sp d a wr))], [some (some ⟨false, .mix [.slice ⟨2, 0, 5, 0, 0, 0, 0⟩ 5 (TL ws (rowsN n s p v w q) sp d a).length (TX (rowsN n s p v w q) sp a e) false]⟩), none, some (kR (TL ws (rowsN n s p v w q) sp d a) (TX (rowsN n s p v w q) sp a e)), none]⟩
      | false => κ ⟨.tup [.c (.int .i64 (TA ws (rowsN n s p v w q) sp d a wr)), .c (.int .i64 (TE ws (rowsN n s p v w q) sp d a wr))], [none, none, none, none]⟩
    | false => none
  | _, _ => none
def gToN (TE TA : TEf) (TC : TCf) (TL : TLf2) : Fun := fun args sub κ => match args, sub with
  | [.e (.c (.ptr ⟨0, 0, 0, 0, 0, 0, 0⟩)), .e (.c (.ptr ⟨1, 0, 0, 0, 0, 0, 0⟩)), .e (.c (.int .i64 sp)), .e (.c (.int .i64 d)), .e (.c (.int .i64 a)), .e (.c (.bool wr))], [some ⟨false, .mix [.nils]⟩, some ⟨false, .mix [.slice ⟨2, 0, 1, 0, 0, 0, 0⟩ 1 m c true]⟩, some ⟨false, .rows [.ints .u64 ws]⟩] =>
    match okM m ws && inI d && inI a && allW ws with
    | true => match TC ws [] sp d a with
      | true => κ ⟨.tup [.c (.int .i64 (TA ws [] sp d a wr)), .c (.int .i64 (TE ws [] sp d a wr))], [some (some ⟨false, .mix [.slice ⟨3, 0, 5, 0, 0, 0, 0⟩ 5 1 0 false]⟩), none, none, some (kR (TL ws [] sp d a) 0)]⟩
      | false => κ ⟨.tup [.c (.int .i64 (TA ws [] sp d a wr)), .c (.int .i64 (TE ws [] sp d a wr))], [none, none, none]⟩
    | false => none
  | _, _ => none
def gToT (TE TA : TEf) (TC : TCf) (TL : TLf2) (TX : TXf) (TW : TWf) : Fun := fun args sub κ => match sub with
  | [_, _, _] => gToN TE TA TC TL args sub κ
  | _ => gToS TE TA TC TL TX TW args sub κ
theorem to_end (wr W : Bool) (A w : Int) (B : Int → Int → Option Res) : cond wr (cond (!W) (B 0 5) (B (IntKind.wrap IntKind.i64 (A + w)) 0)) (B (IntKind.wrap IntKind.i64 (A + w)) 0) = B (if wrE wr W = 0 then IntKind.wrap IntKind.i64 (A + w) else 0) (wrE wr W) := by
  cases wr <;> cases W <;> rfl
theorem pgA_in {m : Nat} {ws : List Int} (h : okM m ws = true) (d a : Int) : inI (pgA ws d a) = true := by
  by_cases c : pgE ws d a = 0
  · have h1 := pg_in c
    simp [okM] at h
    exact inI_of (by omega) (by omega)
  · unfold pgA; rw [if_neg c]; rfl
theorem hit_E {ws : List Int} {L : List Ro} {sp d a : Int} {wr : Bool} (hb : toB sp a = true) (hk : ktI sp (pgN a) L = true) : tE ws L sp d a wr = wrE wr (ktW sp (pgN a) L) ∧ tA ws L sp d a wr = (if wrE wr (ktW sp (pgN a) L) = 0 then IntKind.wrap IntKind.i64 (ktA sp (pgN a) L + sp3 a) else 0) ∧ tC ws L sp d a = false := by
  have e : tE ws L sp d a wr = wrE wr (ktW sp (pgN a) L) := by unfold tE; rw [if_pos hb, if_pos hk]
  refine ⟨e, ?_, ?_⟩
  · unfold tA; rw [e, if_pos hk]
  · unfold tC; rw [hk, Bool.not_true, Bool.and_false]; rfl
theorem miss_E {ws : List Int} {L : List Ro} {sp d a : Int} {wr : Bool} (hb : toB sp a = true) (hk : ktI sp (pgN a) L = false) (hp : pgE ws d a = 0) : tE ws L sp d a wr = wrE wr (pgW ws d a) ∧ tA ws L sp d a wr = (if wrE wr (pgW ws d a) = 0 then IntKind.wrap IntKind.i64 (pgA ws d a + sp3 a) else 0) ∧ tC ws L sp d a = decide (filE sp (pgN a) (pgV ws d a) (pgW ws d a) (pgA ws d a) = 0) := by
  have hk' : ¬ ktI sp (pgN a) L = true := by rw [hk]; exact Bool.false_ne_true
  have e : tE ws L sp d a wr = wrE wr (pgW ws d a) := by unfold tE; rw [if_pos hb, if_neg hk', if_pos hp]
  refine ⟨e, ?_, ?_⟩
  · unfold tA; rw [e, if_neg hk']
  · unfold tC; rw [hb, hk, decide_eq_true hp]; rfl
theorem fail_E {ws : List Int} {L : List Ro} {sp d a : Int} {wr : Bool} (hb : toB sp a = true) (hk : ktI sp (pgN a) L = false) (hp : ¬ pgE ws d a = 0) : tE ws L sp d a wr = pgE ws d a ∧ tA ws L sp d a wr = 0 ∧ tC ws L sp d a = false := by
  have hk' : ¬ ktI sp (pgN a) L = true := by rw [hk]; exact Bool.false_ne_true
  have e : tE ws L sp d a wr = pgE ws d a := by unfold tE; rw [if_pos hb, if_neg hk', if_neg hp]
  refine ⟨e, ?_, ?_⟩
  · unfold tA; rw [e, if_neg hp]
  · unfold tC; rw [hb, hk, decide_eq_false hp]; rfl
theorem out_E {ws : List Int} {L : List Ro} {sp d a : Int} {wr : Bool} (hb : toB sp a = false) : tE ws L sp d a wr = 1 ∧ tA ws L sp d a wr = 0 ∧ tC ws L sp d a = false := by
  have hb' : ¬ toB sp a = true := by rw [hb]; exact Bool.false_ne_true
  have e : tE ws L sp d a wr = 1 := by unfold tE; rw [if_neg hb']
  refine ⟨e, ?_, ?_⟩
  · unfold tA; rw [e]; rfl
  · unfold tC; rw [hb]; rfl
theorem toB_cond {sp a : Int} {X Y : Option Res} : cond (spE a != 0) X (cond (!rgt sp (IntKind.wrap IntKind.i64 (Int.tdiv a 16))) X Y) = cond (toB sp a) Y X := by
  unfold toB
  by_cases c : spE a = 0
  · rw [decide_eq_true c, Bool.true_and, show (spE a != 0) = false from by simp [c], cF]
    show cond (!rgt sp (pgN a)) X Y = cond (rgt sp (pgN a)) Y X
    cases rgt sp (pgN a) <;> rfl
  · rw [decide_eq_false c, Bool.false_and, show (spE a != 0) = true from by simp [c], cT, cF]
set_option maxHeartbeats 4000000 in
theorem gToN_sound : FunSound Try.prog 15 (gToN tE tA tC tL) := by
  refine (runG_sound sTo4_ok mix 100 15).short fun args sub κ r h => ?_
  unfold gToN at h
  split at h
  · rename_i sp d a wr m c ws
    split at h
    · rename_i hc
      have hc' := hc
      simp only [Bool.and_eq_true] at hc
      obtain ⟨⟨⟨h1, h2⟩, h3⟩, h4⟩ := hc
      have e0 : ktI sp (pgN a) [] = false := rfl
      refine (t_toN ktV ktW ktA ktI filE fillL fillX fillN rgt pgV pgW pgA pgE sp1 sp2 sp3 spE m c sp d a wr ws κ).trans ?_
      rw [hc', h3, cT, toB_cond, cT, pgA_in h1, cT]
      cases hb : toB sp a with
      | false =>
        obtain ⟨q1, q2, q3⟩ := out_E (ws := ws) (L := []) (d := d) (wr := wr) hb
        rw [q1, q2, q3] at h
        rw [cF]; exact h
      | true =>
        rw [cT]
        by_cases hp : pgE ws d a = 0
        · obtain ⟨q1, q2, q3⟩ := miss_E (ws := ws) (L := []) (d := d) (wr := wr) hb e0 hp
          rw [q1, q2, q3] at h
          rw [bne_false hp, cF]
          show cond (decide (filE sp (pgN a) (pgV ws d a) (pgW ws d a) (pgA ws d a) = 0)) _ _ = _
          cases cf : decide (filE sp (pgN a) (pgV ws d a) (pgW ws d a) (pgA ws d a) = 0) with
          | true =>
            rw [cf] at h
            rw [cT]
            exact (to_end wr (pgW ws d a) (pgA ws d a) (sp3 a) (fun A E => κ ⟨.tup [.c (.int .i64 A), .c (.int .i64 E)], [some (some ⟨false, .mix [.slice ⟨3, 0, 5, 0, 0, 0, 0⟩ 5 1 0 false]⟩), none, none, some (kR [⟨sp, pgN a, pgV ws d a, pgW ws d a, pgA ws d a⟩] 0)]⟩)).trans h
          | false =>
            rw [cf] at h
            rw [cF]
            exact (to_end wr (pgW ws d a) (pgA ws d a) (sp3 a) (fun A E => κ ⟨.tup [.c (.int .i64 A), .c (.int .i64 E)], [none, none, none]⟩)).trans h
        · obtain ⟨q1, q2, q3⟩ := fail_E (ws := ws) (L := []) (d := d) (wr := wr) hb e0 hp
          rw [q1, q2, q3] at h
          rw [show (pgE ws d a != 0) = true from by simp [hp], cT]; exact h
    · cases h
  · cases h
set_option maxHeartbeats 4000000 in
theorem gToS_sound : FunSound Try.prog 15 (gToS tE tA tC tL tX tW) := by
  refine (runG_sound sTo4_ok mix 100 15).short fun args sub κ r h => ?_
  unfold gToS at h
  split at h
  · rename_i sp d a wr n e m c s p v w q ws
    split at h
    · rename_i hc
      rw [Bool.and_eq_true, Bool.and_eq_true] at hc
      obtain ⟨⟨hk, h8⟩, hc'⟩ := hc
      have hc := hc'
      simp only [Bool.and_eq_true] at hc
      obtain ⟨⟨⟨h1, h2⟩, h3⟩, h4⟩ := hc
      refine (t_toS ktV ktW ktA ktI filE fillL fillX fillN rgt pgV pgW pgA pgE sp1 sp2 sp3 spE n e m c sp d a wr s p v w q ws κ).trans ?_
      rw [hk, h8, hc', h3, cT, toB_cond, pgA_in h1]
      obtain ⟨L, hL⟩ : ∃ L, rowsN n s p v w q = L := ⟨_, rfl⟩
      rw [hL] at h ⊢
      cases hb : toB sp a with
      | false =>
        obtain ⟨q1, q2, q3⟩ := out_E (ws := ws) (L := L) (d := d) (wr := wr) hb
        rw [q1, q2, q3] at h
        rw [cF]; exact h
      | true =>
        rw [cT, cT]
        show cond (!ktI sp (pgN a) L) _ _ = _
        cases hh : ktI sp (pgN a) L with
        | true =>
          obtain ⟨q1, q2, q3⟩ := hit_E (ws := ws) (L := L) (d := d) (wr := wr) hb hh
          rw [q1, q2, q3] at h
          rw [Bool.not_true, cF]
          exact (to_end wr (ktW sp (pgN a) L) (ktA sp (pgN a) L) (sp3 a) (fun A E => κ ⟨.tup [.c (.int .i64 A), .c (.int .i64 E)], [none, none, none, none]⟩)).trans h
        | false =>
          rw [Bool.not_false, cT, cT]
          by_cases hp : pgE ws d a = 0
          · obtain ⟨q1, q2, q3⟩ := miss_E (ws := ws) (L := L) (d := d) (wr := wr) hb hh hp
            rw [q1, q2, q3] at h
            rw [bne_false hp, cF]
            repeat rw [Bool.and_self]
            rw [cT]
            show cond (decide (filE sp (pgN a) (pgV ws d a) (pgW ws d a) (pgA ws d a) = 0)) _ _ = _
            cases cf : decide (filE sp (pgN a) (pgV ws d a) (pgW ws d a) (pgA ws d a) = 0) with
            | true =>
              rw [cf] at h
              rw [cT]
              show cond (tW L sp a e) _ _ = _
              cases cn : tW L sp a e with
              | true =>
                rw [cn] at h
                rw [cT]
                exact (to_end wr (pgW ws d a) (pgA ws d a) (sp3 a) (fun A E => κ ⟨.tup [.c (.int .i64 A), .c (.int .i64 E)], [some (some ⟨false, .mix [.slice ⟨4, 0, 5, 0, 0, 0, 0⟩ 5 (tL ws L sp d a).length (tX L sp a e) false]⟩), none, some none, none, some (kR (tL ws L sp d a) (tX L sp a e))]⟩)).trans h
              | false =>
                rw [cn] at h
                rw [cF]
                exact (to_end wr (pgW ws d a) (pgA ws d a) (sp3 a) (fun A E => κ ⟨.tup [.c (.int .i64 A), .c (.int .i64 E)], [some (some ⟨false, .mix [.slice ⟨2, 0, 5, 0, 0, 0, 0⟩ 5 (tL ws L sp d a).length (tX L sp a e) false]⟩), none, some (kR (tL ws L sp d a) (tX L sp a e)), none]⟩)).trans h
            | false =>
              rw [cf] at h
              rw [cF]
              exact (to_end wr (pgW ws d a) (pgA ws d a) (sp3 a) (fun A E => κ ⟨.tup [.c (.int .i64 A), .c (.int .i64 E)], [none, none, none, none]⟩)).trans h
          · obtain ⟨q1, q2, q3⟩ := fail_E (ws := ws) (L := L) (d := d) (wr := wr) hb hh hp
            rw [q1, q2, q3] at h
            rw [show (pgE ws d a != 0) = true from by simp [hp], cT]; exact h
    · cases h
  · cases h
theorem gToT_sound : FunSound Try.prog 15 (gToT tE tA tC tL tX tW) := by
  intro args sub κ r h
  unfold gToT at h
  split at h
  · exact gToN_sound _ _ κ r h
  · exact gToS_sound _ _ κ r h
end Go.Proofs.Ytnloobnpgkpbhaa.Wlk
