/- Instructions in words, walked. -/
import Derived.Test.YtiodjfgdglakkaaBits
set_option linter.unusedVariables false
set_option linter.unusedSimpArgs false
set_option maxRecDepth 100000
namespace Go.Proofs.Ytiodjfgdglakkaa.Wlk
open Go Go.Eng Go.Proofs Go.RowKit

def packOk (op a b m : Int) : Bool := decide (0 ≤ op) && decide (op ≤ 17) && decide (0 ≤ a) && decide (a ≤ 7) && decide (0 ≤ b) && decide (b ≤ 7) && decide (0 ≤ m) && decide (m ≤ 4095)
def packW (op a b m : Int) : Int := if packOk op a b m = true then op + 32 * a + 256 * b + 2048 * m else 0
def packE (op a b m : Int) : Int := if packOk op a b m = true then 0 else 10
def unpOk (w : Int) : Bool := decide (w < 8388608) && decide (w % 32 ≤ 17)
def uOp (w : Int) : Int := if unpOk w = true then w % 32 else 0
def uA (w : Int) : Int := if unpOk w = true then w / 32 % 8 else 0
def uB (w : Int) : Int := if unpOk w = true then w / 256 % 8 else 0
def uM (w : Int) : Int := if unpOk w = true then w / 2048 else 0
def uE (w : Int) : Int := if unpOk w = true then 0 else 10

def gPack : Fun := fun args sub κ => match args, sub with
  | [.e (.agg [.int .i64 op, .int .i64 a, .int .i64 b, .int .i64 m])], [] => match inI op && inI a && inI b && inI m with
    | true => κ ⟨.tup [.c (.int .u64 (packW op a b m)), .c (.int .i64 (packE op a b m))], []⟩
    | false => none
  | _, _ => none
def gUnpack : Fun := fun args sub κ => match args, sub with
  | [.e (.c (.int .u64 w))], [] => match word w with
    | true => κ ⟨.tup [.agg [.int .i64 (uOp w), .int .i64 (uA w), .int .i64 (uB w), .int .i64 (uM w)], .c (.int .i64 (uE w))], []⟩
    | false => none
  | _, _ => none

noncomputable def sF : Summ := sAdd sGP 21 (runG Try.prog sNil 100 21)
theorem sF_ok : SummOk Try.prog sF := sAdd_ok sGP_ok (runG_sound sNil_ok mix _ _) (enters Try.func21 rfl (by kernel_rfl))
noncomputable def sR : Summ := sAdd sNil 23 (runG Try.prog sNil 100 23)
theorem sR_ok : SummOk Try.prog sR := sAdd_ok sNil_ok (runG_sound sNil_ok mix _ _) (enters Try.func23 rfl (by kernel_rfl))
noncomputable def sU : Summ := sAdd sF 10 gPack

theorem t_pack (op a b m : Int) (k : Res → Option Res) : runG Try.prog sF 100 10 [.e (.agg [.int .i64 op, .int .i64 a, .int .i64 b, .int .i64 m])] [] k = (cond (decide (op < 0)) (k (Res.mk (AV.tup [(AE.c (AC.int (IntKind.u64) (0))), (AE.c (AC.int (IntKind.i64) (10)))]) [])) (cond (decide (op > 17)) (k (Res.mk (AV.tup [(AE.c (AC.int (IntKind.u64) (0))), (AE.c (AC.int (IntKind.i64) (10)))]) [])) (cond (word 0 && fld 0 5 && word (IntKind.wrap IntKind.u64 op)) (cond (putE 5 (IntKind.wrap IntKind.u64 op) != 0) (k (Res.mk (AV.tup [(AE.c (AC.int (IntKind.u64) (0))), (AE.c (AC.int (IntKind.i64) (10)))]) [])) (cond (word (putI 0 0 5 (IntKind.wrap IntKind.u64 op)) && fld 5 3 && word (IntKind.wrap IntKind.u64 a)) (cond (putE 3 (IntKind.wrap IntKind.u64 a) != 0) (k (Res.mk (AV.tup [(AE.c (AC.int (IntKind.u64) (0))), (AE.c (AC.int (IntKind.i64) (10)))]) [])) (cond (word (putI (putI 0 0 5 (IntKind.wrap IntKind.u64 op)) 5 3 (IntKind.wrap IntKind.u64 a)) && fld 8 3 && word (IntKind.wrap IntKind.u64 b)) (cond (putE 3 (IntKind.wrap IntKind.u64 b) != 0) (k (Res.mk (AV.tup [(AE.c (AC.int (IntKind.u64) (0))), (AE.c (AC.int (IntKind.i64) (10)))]) [])) (cond (word (putI (putI (putI 0 0 5 (IntKind.wrap IntKind.u64 op)) 5 3 (IntKind.wrap IntKind.u64 a)) 8 3 (IntKind.wrap IntKind.u64 b)) && fld 11 12 && word (IntKind.wrap IntKind.u64 m)) (cond (putE 12 (IntKind.wrap IntKind.u64 m) != 0) (k (Res.mk (AV.tup [(AE.c (AC.int (IntKind.u64) (0))), (AE.c (AC.int (IntKind.i64) (10)))]) [])) (k (Res.mk (AV.tup [(AE.c (AC.int (IntKind.u64) (putI (putI (putI (putI 0 0 5 (IntKind.wrap IntKind.u64 op)) 5 3 (IntKind.wrap IntKind.u64 a)) 8 3 (IntKind.wrap IntKind.u64 b)) 11 12 (IntKind.wrap IntKind.u64 m)))), (AE.c (AC.int (IntKind.i64) (0)))]) []))) none)) none)) none)) none))) := by kernel_rfl
theorem t_refPack (op a b m : Int) (k : Res → Option Res) : runG Try.prog sR 100 12 [.e (.agg [.int .i64 op, .int .i64 a, .int .i64 b, .int .i64 m])] [] k = (cond (decide (op ≥ 0)) (cond (decide (op ≤ 17)) (cond (decide (a ≥ 0)) (cond (decide (a ≤ 7)) (cond (decide (b ≥ 0)) (cond (decide (b ≤ 7)) (cond (decide (m ≥ 0)) (cond (!decide (m ≤ 4095)) (k (Res.mk (AV.tup [(AE.c (AC.int (IntKind.u64) (0))), (AE.c (AC.int (IntKind.i64) (10)))]) [])) (k (Res.mk (AV.tup [(AE.c (AC.int (IntKind.u64) (IntKind.wrap IntKind.u64 (IntKind.wrap IntKind.i64 (IntKind.wrap IntKind.i64 (IntKind.wrap IntKind.i64 (op + IntKind.wrap IntKind.i64 (32 * a)) + IntKind.wrap IntKind.i64 (256 * b)) + IntKind.wrap IntKind.i64 (2048 * m)))))), (AE.c (AC.int (IntKind.i64) (0)))]) []))) (k (Res.mk (AV.tup [(AE.c (AC.int (IntKind.u64) (0))), (AE.c (AC.int (IntKind.i64) (10)))]) []))) (k (Res.mk (AV.tup [(AE.c (AC.int (IntKind.u64) (0))), (AE.c (AC.int (IntKind.i64) (10)))]) []))) (k (Res.mk (AV.tup [(AE.c (AC.int (IntKind.u64) (0))), (AE.c (AC.int (IntKind.i64) (10)))]) []))) (k (Res.mk (AV.tup [(AE.c (AC.int (IntKind.u64) (0))), (AE.c (AC.int (IntKind.i64) (10)))]) []))) (k (Res.mk (AV.tup [(AE.c (AC.int (IntKind.u64) (0))), (AE.c (AC.int (IntKind.i64) (10)))]) []))) (k (Res.mk (AV.tup [(AE.c (AC.int (IntKind.u64) (0))), (AE.c (AC.int (IntKind.i64) (10)))]) []))) (k (Res.mk (AV.tup [(AE.c (AC.int (IntKind.u64) (0))), (AE.c (AC.int (IntKind.i64) (10)))]) []))) := by kernel_rfl
theorem t_refUnpack (w : Int) (k : Res → Option Res) : runG Try.prog sR 100 14 [aint .u64 w] [] k = (cond (decide (w ≥ 8388608)) (k (Res.mk (AV.tup [(AE.agg [(AC.int (IntKind.i64) (0)), (AC.int (IntKind.i64) (0)), (AC.int (IntKind.i64) (0)), (AC.int (IntKind.i64) (0))]), (AE.c (AC.int (IntKind.i64) (10)))]) [])) (cond (decide (Int.tmod (IntKind.wrap IntKind.i64 w) 32 ≥ 0)) (cond (decide (Int.tmod (IntKind.wrap IntKind.i64 w) 32 ≤ 17)) (cond (decide (Int.tmod (IntKind.wrap IntKind.i64 (Int.tdiv (IntKind.wrap IntKind.i64 w) 32)) 8 ≥ 0)) (cond (decide (Int.tmod (IntKind.wrap IntKind.i64 (Int.tdiv (IntKind.wrap IntKind.i64 w) 32)) 8 ≤ 7)) (cond (decide (Int.tmod (IntKind.wrap IntKind.i64 (Int.tdiv (IntKind.wrap IntKind.i64 w) 256)) 8 ≥ 0)) (cond (decide (Int.tmod (IntKind.wrap IntKind.i64 (Int.tdiv (IntKind.wrap IntKind.i64 w) 256)) 8 ≤ 7)) (cond (decide (IntKind.wrap IntKind.i64 (Int.tdiv (IntKind.wrap IntKind.i64 w) 2048) ≥ 0)) (cond (!decide (IntKind.wrap IntKind.i64 (Int.tdiv (IntKind.wrap IntKind.i64 w) 2048) ≤ 4095)) (k (Res.mk (AV.tup [(AE.agg [(AC.int (IntKind.i64) (0)), (AC.int (IntKind.i64) (0)), (AC.int (IntKind.i64) (0)), (AC.int (IntKind.i64) (0))]), (AE.c (AC.int (IntKind.i64) (10)))]) [])) (k (Res.mk (AV.tup [(AE.agg [(AC.int (IntKind.i64) (Int.tmod (IntKind.wrap IntKind.i64 w) 32)), (AC.int (IntKind.i64) (Int.tmod (IntKind.wrap IntKind.i64 (Int.tdiv (IntKind.wrap IntKind.i64 w) 32)) 8)), (AC.int (IntKind.i64) (Int.tmod (IntKind.wrap IntKind.i64 (Int.tdiv (IntKind.wrap IntKind.i64 w) 256)) 8)), (AC.int (IntKind.i64) (IntKind.wrap IntKind.i64 (Int.tdiv (IntKind.wrap IntKind.i64 w) 2048)))]), (AE.c (AC.int (IntKind.i64) (0)))]) []))) (k (Res.mk (AV.tup [(AE.agg [(AC.int (IntKind.i64) (0)), (AC.int (IntKind.i64) (0)), (AC.int (IntKind.i64) (0)), (AC.int (IntKind.i64) (0))]), (AE.c (AC.int (IntKind.i64) (10)))]) []))) (k (Res.mk (AV.tup [(AE.agg [(AC.int (IntKind.i64) (0)), (AC.int (IntKind.i64) (0)), (AC.int (IntKind.i64) (0)), (AC.int (IntKind.i64) (0))]), (AE.c (AC.int (IntKind.i64) (10)))]) []))) (k (Res.mk (AV.tup [(AE.agg [(AC.int (IntKind.i64) (0)), (AC.int (IntKind.i64) (0)), (AC.int (IntKind.i64) (0)), (AC.int (IntKind.i64) (0))]), (AE.c (AC.int (IntKind.i64) (10)))]) []))) (k (Res.mk (AV.tup [(AE.agg [(AC.int (IntKind.i64) (0)), (AC.int (IntKind.i64) (0)), (AC.int (IntKind.i64) (0)), (AC.int (IntKind.i64) (0))]), (AE.c (AC.int (IntKind.i64) (10)))]) []))) (k (Res.mk (AV.tup [(AE.agg [(AC.int (IntKind.i64) (0)), (AC.int (IntKind.i64) (0)), (AC.int (IntKind.i64) (0)), (AC.int (IntKind.i64) (0))]), (AE.c (AC.int (IntKind.i64) (10)))]) []))) (k (Res.mk (AV.tup [(AE.agg [(AC.int (IntKind.i64) (0)), (AC.int (IntKind.i64) (0)), (AC.int (IntKind.i64) (0)), (AC.int (IntKind.i64) (0))]), (AE.c (AC.int (IntKind.i64) (10)))]) []))) (k (Res.mk (AV.tup [(AE.agg [(AC.int (IntKind.i64) (0)), (AC.int (IntKind.i64) (0)), (AC.int (IntKind.i64) (0)), (AC.int (IntKind.i64) (0))]), (AE.c (AC.int (IntKind.i64) (10)))]) [])))) := by kernel_rfl
theorem t_unpack (w : Int) (k : Res → Option Res) : runG Try.prog sU 100 13 [aint .u64 w] [] k = (cond (word w && fld 0 5) (cond (word w && fld 5 3) (cond (word w && fld 8 3) (cond (word w && fld 11 12) (cond (inI (IntKind.wrap IntKind.i64 (getI w 0 5)) && inI (IntKind.wrap IntKind.i64 (getI w 5 3)) && inI (IntKind.wrap IntKind.i64 (getI w 8 3)) && inI (IntKind.wrap IntKind.i64 (getI w 11 12))) (cond (Go.Proofs.Ytiodjfgdglakkaa.Wlk.packE (IntKind.wrap IntKind.i64 (getI w 0 5)) (IntKind.wrap IntKind.i64 (getI w 5 3)) (IntKind.wrap IntKind.i64 (getI w 8 3)) (IntKind.wrap IntKind.i64 (getI w 11 12)) != 0) (k (Res.mk (AV.tup [(AE.agg [(AC.int (IntKind.i64) (0)), (AC.int (IntKind.i64) (0)), (AC.int (IntKind.i64) (0)), (AC.int (IntKind.i64) (0))]), (AE.c (AC.int (IntKind.i64) (10)))]) [])) (cond (Go.Proofs.Ytiodjfgdglakkaa.Wlk.packW (IntKind.wrap IntKind.i64 (getI w 0 5)) (IntKind.wrap IntKind.i64 (getI w 5 3)) (IntKind.wrap IntKind.i64 (getI w 8 3)) (IntKind.wrap IntKind.i64 (getI w 11 12)) != w) (k (Res.mk (AV.tup [(AE.agg [(AC.int (IntKind.i64) (0)), (AC.int (IntKind.i64) (0)), (AC.int (IntKind.i64) (0)), (AC.int (IntKind.i64) (0))]), (AE.c (AC.int (IntKind.i64) (10)))]) [])) (k (Res.mk (AV.tup [(AE.agg [(AC.int (IntKind.i64) (IntKind.wrap IntKind.i64 (getI w 0 5))), (AC.int (IntKind.i64) (IntKind.wrap IntKind.i64 (getI w 5 3))), (AC.int (IntKind.i64) (IntKind.wrap IntKind.i64 (getI w 8 3))), (AC.int (IntKind.i64) (IntKind.wrap IntKind.i64 (getI w 11 12)))]), (AE.c (AC.int (IntKind.i64) (0)))]) [])))) none) none) none) none) none) := by kernel_rfl
theorem gPack_sound : FunSound Try.prog 10 gPack := by
  refine (runG_sound sF_ok mix 100 10).short fun args sub κ r h => ?_
  unfold gPack at h
  split at h
  · rename_i op a b m
    split at h
    · rename_i hc
      simp only [inI, Bool.and_eq_true, decide_eq_true_eq] at hc
      obtain ⟨⟨⟨⟨o1, o2⟩, a1, a2⟩, b1, b2⟩, m1, m2⟩ := hc
      refine (t_pack op a b m κ).trans ?_
      rw [← h]
      have bad : packOk op a b m = false → κ ⟨AV.tup [AE.c (AC.int .u64 0), AE.c (AC.int .i64 10)], []⟩ = κ ⟨.tup [.c (.int .u64 (packW op a b m)), .c (.int .i64 (packE op a b m))], []⟩ := fun e => by simp [packW, packE, e]
      by_cases h1 : op < 0
      · rw [decide_eq_true h1, cond_true]; exact bad (by simp [packOk]; omega)
      by_cases h2 : op > 17
      · rw [decide_eq_false h1, decide_eq_true h2, cond_true, cond_false]; exact bad (by simp [packOk]; omega)
      rw [decide_eq_false h1, decide_eq_false h2, cond_false, cond_false]
      try simp only [List.getD_cons_zero, List.getD_cons_succ]
      have u : ∀ x : Int, -9223372036854775808 ≤ x → x ≤ 9223372036854775807 → 0 ≤ IntKind.u64.wrap x ∧ IntKind.u64.wrap x < 18446744073709551616 ∧ (0 ≤ x → IntKind.u64.wrap x = x) ∧ (x < 0 → 9223372036854775808 ≤ IntKind.u64.wrap x) := fun x _ _ => by rw [wrap_u64_emod]; omega
      obtain ⟨uo1, uo2, uo3, uo4⟩ := u op o1 o2
      obtain ⟨ua1, ua2, ua3, ua4⟩ := u a a1 a2
      obtain ⟨ub1, ub2, ub3, ub4⟩ := u b b1 b2
      obtain ⟨um1, um2, um3, um4⟩ := u m m1 m2
      generalize IntKind.u64.wrap op = xo at *
      generalize IntKind.u64.wrap a = xa at *
      generalize IntKind.u64.wrap b = xb at *
      generalize IntKind.u64.wrap m = xm at *
      have w : ∀ y : Int, 0 ≤ y → y < 18446744073709551616 → word y = true := fun y h1 h2 => by simp [word, h1, h2]
      have pe : ∀ (n : Int) (y : Int), putE n y = if y < 2 ^ n.toNat then 0 else 10 := fun _ _ => rfl
      rw [w 0 (by omega) (by omega), w xo uo1 uo2, w xa ua1 ua2, w xb ub1 ub2, w xm um1 um2]
      have p1 : putI 0 0 5 xo = xo := by have := putI_add (w := 0) (v := xo) (p := 0) (m := 5) (by omega) (by omega) (by omega) (by omega); simpa using this
      have e1 : putE 5 xo = 0 := by rw [pe, if_pos]; show xo < 32; omega
      rw [p1, e1, w xo uo1 uo2]
      rw [show (fld 0 5) = true from by decide, show (fld 5 3) = true from by decide, show (fld 8 3) = true from by decide, show (fld 11 12) = true from by decide]
      simp only [Bool.and_self, cond_true, cond_false, bne_self_eq_false]
      by_cases h3 : xa < 8
      · have e2 : putE 3 xa = 0 := by rw [pe, if_pos]; exact h3
        have p2 : putI xo 5 3 xa = xo + 32 * xa := by have := putI_add (w := xo) (v := xa) (p := 5) (m := 3) (by omega) (by omega) (by omega) (by omega); exact this
        rw [e2, p2, w (xo + 32 * xa) (by omega) (by omega)]
        simp only [Bool.and_self, cond_true, cond_false, bne_self_eq_false]
        by_cases h4 : xb < 8
        · have e3 : putE 3 xb = 0 := by rw [pe, if_pos]; exact h4
          have p3 : putI (xo + 32 * xa) 8 3 xb = xo + 32 * xa + 256 * xb := by have := putI_add (w := xo + 32 * xa) (v := xb) (p := 8) (m := 3) (by omega) (by omega) (by omega) (by omega); exact this
          rw [e3, p3, w (xo + 32 * xa + 256 * xb) (by omega) (by omega)]
          simp only [Bool.and_self, cond_true, cond_false, bne_self_eq_false]
          by_cases h5 : xm < 4096
          · have e4 : putE 12 xm = 0 := by rw [pe, if_pos]; exact h5
            have p4 : putI (xo + 32 * xa + 256 * xb) 11 12 xm = xo + 32 * xa + 256 * xb + 2048 * xm := by have := putI_add (w := xo + 32 * xa + 256 * xb) (v := xm) (p := 11) (m := 12) (by omega) (by omega) (by omega) (by omega); exact this
            rw [e4, p4]
            simp only [cond_false, bne_self_eq_false]
            have ok : packOk op a b m = true := by simp [packOk]; omega
            simp only [packW, packE, ok, if_true]
            rw [uo3 (by omega), ua3 (by omega), ub3 (by omega), um3 (by omega)]
          · have e4 : putE 12 xm = 10 := by rw [pe, if_neg]; exact h5
            rw [e4]; exact bad (by simp [packOk]; omega)
        · have e3 : putE 3 xb = 10 := by rw [pe, if_neg]; exact h4
          rw [e3]; exact bad (by simp [packOk]; omega)
      · have e2 : putE 3 xa = 10 := by rw [pe, if_neg]; exact h3
        rw [e2]; exact bad (by simp [packOk]; omega)
    · cases h
  · cases h

theorem gRefPack_sound : FunSound Try.prog 12 gPack := by
  refine (runG_sound sR_ok mix 100 12).short fun args sub κ r h => ?_
  unfold gPack at h
  split at h
  · rename_i op a b m
    split at h
    · rename_i hc
      refine (t_refPack op a b m κ).trans ?_
      rw [← h]
      by_cases ok : packOk op a b m = true
      · have ok' := ok
        simp only [packOk, Bool.and_eq_true, decide_eq_true_eq] at ok'
        obtain ⟨⟨⟨⟨⟨⟨⟨h1, h2⟩, h3⟩, h4⟩, h5⟩, h6⟩, h7⟩, h8⟩ := ok'
        rw [decide_eq_true (show op ≥ 0 from h1), decide_eq_true h2, decide_eq_true (show a ≥ 0 from h3), decide_eq_true h4, decide_eq_true (show b ≥ 0 from h5), decide_eq_true h6, decide_eq_true (show m ≥ 0 from h7), decide_eq_true h8]
        simp only [Bool.not_true, cond_true, cond_false]
        simp only [packW, packE, ok, if_true]
        rw [wrap_i64 (n := 32 * a) (by omega) (by omega), wrap_i64 (n := 256 * b) (by omega) (by omega), wrap_i64 (n := 2048 * m) (by omega) (by omega), wrap_i64 (n := op + 32 * a) (by omega) (by omega), wrap_i64 (n := op + 32 * a + 256 * b) (by omega) (by omega), wrap_i64 (by omega) (by omega), wrap_u64 (by omega) (by omega)]
      · have bad : κ ⟨AV.tup [AE.c (AC.int .u64 0), AE.c (AC.int .i64 10)], []⟩ = κ ⟨.tup [.c (.int .u64 (packW op a b m)), .c (.int .i64 (packE op a b m))], []⟩ := by simp [packW, packE, ok]
        rw [← bad]
        simp only [packOk, Bool.and_eq_true, decide_eq_true_eq] at ok
        by_cases h1 : op ≥ 0
        · by_cases h2 : op ≤ 17
          · by_cases h3 : a ≥ 0
            · by_cases h4 : a ≤ 7
              · by_cases h5 : b ≥ 0
                · by_cases h6 : b ≤ 7
                  · by_cases h7 : m ≥ 0
                    · by_cases h8 : m ≤ 4095
                      · exact absurd ⟨⟨⟨⟨⟨⟨⟨h1, h2⟩, h3⟩, h4⟩, h5⟩, h6⟩, h7⟩, h8⟩ ok
                      · simp [h1, h2, h3, h4, h5, h6, h7, h8]
                    · simp [h1, h2, h3, h4, h5, h6, h7]
                  · simp [h1, h2, h3, h4, h5, h6]
                · simp [h1, h2, h3, h4, h5]
              · simp [h1, h2, h3, h4]
            · simp [h1, h2, h3]
          · simp [h1, h2]
        · simp [h1]
    · cases h
  · cases h

theorem sU_ok : SummOk Try.prog sU := sAdd_ok sF_ok gPack_sound (enters Try.func10 rfl (by kernel_rfl))

theorem gUnpack_sound : FunSound Try.prog 13 gUnpack := by
  refine (runG_sound sU_ok mix 100 13).short fun args sub κ r h => ?_
  unfold gUnpack at h
  split at h
  · rename_i w
    split at h
    · rename_i hw
      refine (t_unpack w κ).trans ?_
      rw [← h, hw]
      simp only [word, Bool.and_eq_true, decide_eq_true_eq] at hw
      rw [show (fld 0 5) = true from by decide, show (fld 5 3) = true from by decide, show (fld 8 3) = true from by decide, show (fld 11 12) = true from by decide]
      have g0 : getI w 0 5 = w % 32 := by have := getI_div hw.1 0 5; simpa using this
      have g1 : getI w 5 3 = w / 32 % 8 := getI_div hw.1 5 3
      have g2 : getI w 8 3 = w / 256 % 8 := getI_div hw.1 8 3
      have g3 : getI w 11 12 = w / 2048 % 4096 := getI_div hw.1 11 12
      rw [g0, g1, g2, g3, wrap_i64 (n := w % 32) (by omega) (by omega), wrap_i64 (n := w / 32 % 8) (by omega) (by omega), wrap_i64 (n := w / 256 % 8) (by omega) (by omega), wrap_i64 (n := w / 2048 % 4096) (by omega) (by omega)]
      have i : ∀ x : Int, 0 ≤ x → x < 5000 → inI x = true := fun x h1 h2 => by simp only [inI, Bool.and_eq_true, decide_eq_true_eq]; omega
      rw [i _ (by omega) (by omega), i _ (by omega) (by omega), i _ (by omega) (by omega), i _ (by omega) (by omega)]
      simp only [Bool.and_self, cond_true]
      have ok : packOk (w % 32) (w / 32 % 8) (w / 256 % 8) (w / 2048 % 4096) = decide (w % 32 ≤ 17) := by
        simp only [packOk]
        rw [decide_eq_true (show 0 ≤ w % 32 by omega), decide_eq_true (show 0 ≤ w / 32 % 8 by omega), decide_eq_true (show w / 32 % 8 ≤ 7 by omega), decide_eq_true (show 0 ≤ w / 256 % 8 by omega), decide_eq_true (show w / 256 % 8 ≤ 7 by omega), decide_eq_true (show 0 ≤ w / 2048 % 4096 by omega), decide_eq_true (show w / 2048 % 4096 ≤ 4095 by omega)]
        simp
      by_cases h1 : w % 32 ≤ 17
      · have e1 : packE (w % 32) (w / 32 % 8) (w / 256 % 8) (w / 2048 % 4096) = 0 := by simp [packE, ok, h1]
        have e2 : packW (w % 32) (w / 32 % 8) (w / 256 % 8) (w / 2048 % 4096) = w % 32 + 32 * (w / 32 % 8) + 256 * (w / 256 % 8) + 2048 * (w / 2048 % 4096) := by simp [packW, ok, h1]
        rw [e1, e2]
        by_cases h2 : w < 8388608
        · have e3 : w % 32 + 32 * (w / 32 % 8) + 256 * (w / 256 % 8) + 2048 * (w / 2048 % 4096) = w := by omega
          rw [e3]
          simp only [bne_self_eq_false, cond_false]
          have ok2 : unpOk w = true := by simp [unpOk, h1, h2]
          simp only [uOp, uA, uB, uM, uE, ok2, if_true]
          rw [show w / 2048 % 4096 = w / 2048 by omega]
        · have e3 : (w % 32 + 32 * (w / 32 % 8) + 256 * (w / 256 % 8) + 2048 * (w / 2048 % 4096) != w) = true := by rw [bne_iff_ne]; omega
          rw [e3]
          simp only [bne_self_eq_false, cond_false, cond_true]
          have ok2 : unpOk w = false := by simp [unpOk, h2]
          simp [uOp, uA, uB, uM, uE, ok2]
      · have e1 : packE (w % 32) (w / 32 % 8) (w / 256 % 8) (w / 2048 % 4096) = 10 := by simp [packE, ok, h1]
        rw [e1]
        have ok2 : unpOk w = false := by simp [unpOk, h1]
        simp [uOp, uA, uB, uM, uE, ok2]
    · cases h
  · cases h

theorem gRefUnpack_sound : FunSound Try.prog 14 gUnpack := by
  refine (runG_sound sR_ok mix 100 14).short fun args sub κ r h => ?_
  unfold gUnpack at h
  split at h
  · rename_i w
    split at h
    · rename_i hw
      refine (t_refUnpack w κ).trans ?_
      rw [← h]
      simp only [word, Bool.and_eq_true, decide_eq_true_eq] at hw
      by_cases h2 : w < 8388608
      · rw [decide_eq_false (show ¬ w ≥ 8388608 by omega), wrap_i64 (n := w) (by omega) (by omega)]
        simp only [Int.tdiv_eq_ediv_of_nonneg hw.1]
        rw [wrap_i64 (n := w / 32) (by omega) (by omega), wrap_i64 (n := w / 256) (by omega) (by omega), wrap_i64 (n := w / 2048) (by omega) (by omega)]
        rw [Int.tmod_eq_emod_of_nonneg hw.1, Int.tmod_eq_emod_of_nonneg (show 0 ≤ w / 32 by omega), Int.tmod_eq_emod_of_nonneg (show 0 ≤ w / 256 by omega)]
        rw [decide_eq_true (show w % 32 ≥ 0 by omega), decide_eq_true (show w / 32 % 8 ≥ 0 by omega), decide_eq_true (show w / 32 % 8 ≤ 7 by omega), decide_eq_true (show w / 256 % 8 ≥ 0 by omega), decide_eq_true (show w / 256 % 8 ≤ 7 by omega), decide_eq_true (show w / 2048 ≥ 0 by omega), decide_eq_true (show w / 2048 ≤ 4095 by omega)]
        by_cases h1 : w % 32 ≤ 17
        · have ok2 : unpOk w = true := by simp [unpOk, h1, h2]
          simp [uOp, uA, uB, uM, uE, ok2, h1]
        · have ok2 : unpOk w = false := by simp [unpOk, h1]
          simp [uOp, uA, uB, uM, uE, ok2, h1]
      · have ok2 : unpOk w = false := by simp [unpOk, h2]
        rw [decide_eq_true (show w ≥ 8388608 by omega)]
        simp [uOp, uA, uB, uM, uE, ok2]
    · cases h
  · cases h

/-- The table of what is packed and unpacked, here and in the document. -/
noncomputable def sPU : Summ := sAdd (sAdd (sAdd (sAdd (sAdd sNil 10 gPack) 13 gUnpack) 12 gPack) 14 gUnpack) 11 (runG Try.prog sNil 100 11)
theorem sPU_ok : SummOk Try.prog sPU :=
  sAdd_ok (sAdd_ok (sAdd_ok (sAdd_ok (sAdd_ok sNil_ok gPack_sound (enters Try.func10 rfl (by kernel_rfl))) gUnpack_sound (enters Try.func13 rfl (by kernel_rfl))) gRefPack_sound (enters Try.func12 rfl (by kernel_rfl))) gRefUnpack_sound (enters Try.func14 rfl (by kernel_rfl))) (runG_sound sNil_ok mix _ _) (enters Try.func11 rfl (by kernel_rfl))
end Go.Proofs.Ytiodjfgdglakkaa.Wlk
