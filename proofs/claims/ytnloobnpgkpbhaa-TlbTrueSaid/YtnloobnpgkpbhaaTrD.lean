/- Flushed behind each word: a round of the outer loop, told in short. -/
import Derived.Test.YtnloobnpgkpbhaaTrC
set_option linter.unusedVariables false
set_option linter.unusedSimpArgs false
set_option maxRecDepth 100000
namespace Go.Proofs.Ytnloobnpgkpbhaa.Wlk
open Go Go.Eng Go.Proofs Go.RowKit
def emptyO : Ts → Ts
  | none => none
  | some (L, e) => some ([], e + L.length)
def trW (B : Ow) (i : Nat) (ws : List Int) : List Int := if B.ok.getD i 0 = 4 then putW ws (B.oa.getD i 0) (B.op.getD i 0) else ws
def trO (B : Ow) (i : Nat) (ws : List Int) (o : Ts) : Ts := if B.ok.getD i 0 = 4 then emptyO o else stTo ws (kx B.os i 4) (dirF B.ds (kx B.os i 4)) (B.oa.getD i 0) o
theorem ag4_sp {ws ds : List Int} {L : List Ro} {sp d : Int} (h : ag4 ws ds L = true) (hs : 0 ≤ sp ∧ sp < 4) (hd : d = dirF ds sp) : agL ws sp d L = true := by
  obtain ⟨k, rfl⟩ : ∃ k : Nat, sp = (k : Int) := ⟨sp.toNat, by omega⟩
  rw [hd]
  exact ag4_at h k (by omega)
theorem ag4_fill {ws ds : List Int} {L : List Ro} {sp d a : Int} (hc : tC ws L sp d a = true) (h : ag4 ws ds L = true) (hd : d = dirF ds sp) : ag4 ws ds (tL ws L sp d a) = true :=
  ag4_of fun s hs => ag_fill hc (ag4_at h s hs) (fun e => by rw [hd, e])
/-- What a round needs. -/
structure InvR (B : Ow) (m ud ul : Nat) (ws : List Int) (o : Ts) : Prop where
  hm : okM m ws = true
  hw : allW ws = true
  ho : InvO o
  h4 : in4 (rowsO o) = true
  hag : ag4 ws B.ds (rowsO o) = true
structure OwOk (B : Ow) (ud ul : Nat) : Prop where
  hud : ud = B.ds.length
  hI : allI B.ds = true
  hA : allI B.oa = true
  hV : allW B.op = true
  l1 : ul = B.ok.length
  l2 : ul = B.os.length
  l3 : ul = B.od.length
  l4 : ul = B.oa.length
  l5 : ul = B.ow.length
  l6 : ul = B.ov.length
  l7 : ul = B.oe.length
  l8 : ul = B.oz.length
  l9 : ul = B.op.length
set_option maxHeartbeats 8000000 in
theorem roundT0N (ud ul m c i : Nat) (B : Ow) (ws : List Int) (hB : OwOk B ud ul) (hR : InvR B m ud ul ws none) (K : HeadK) (h1 : i < ul) (h60 : i < 60) :
    bodyR Try.prog (sTr tE tA tC tL tX tW toA toE) (lT in4 allI ag4) iT0 60 (loopOf Try.prog 6 0) (tVo ud ul i) (tH B m c ws none) K = K .normal (tVo ud ul (i + 1 : Nat)) (tH B m c (trW B i ws) (trO B i ws none)) := by
  obtain ⟨hud, hI, hA, hV, l1, l2, l3, l4, l5, l6, l7, l8, l9⟩ := hB
  obtain ⟨hm, hw, ho, h4, hag⟩ := hR
  have h60' : (i : Int) < 60 := by omega
  have hag : ag4 ws B.ds [] = true := hag
  have hsp := kx_in B.os i (m := 4) (by omega) (by omega)
  have ia := getD_allI hA i
  have hv := getD_all hV i
  have hm' : okM m (putW ws (B.oa.getD i 0) (B.op.getD i 0)) = true := by
    unfold okM at hm ⊢
    rw [putW_len]; exact hm
  have hw' : allW (putW ws (B.oa.getD i 0) (B.op.getD i 0)) = true := putW_all hw hv
  have hi : IntKind.wrap IntKind.i64 ((i : Int) + 1) = ((i + 1 : Nat) : Int) := by rw [wrap_i64 (by omega) (by omega)]; omega
  unfold trW trO
  refine (t_t0N tE tA tC tL tX tW toA toE in4 allI ag4 ud ul m c i B.zs B.ds B.ok B.os B.od B.oa B.ow B.ov B.oe B.oz B.op ws K).trans ?_
  rw [decide_eq_true (show (i : Int) < (ul : Int) by omega), cT, decide_eq_true h60', cT, decide_eq_true (show (0 : Int) ≤ (i : Int) by omega), Bool.and_self, cT, Int.toNat_natCast, Nat.zero_add, decide_eq_true (show i < B.ok.length by omega), decide_eq_true (show i < B.os.length by omega), decide_eq_true (show i < B.od.length by omega), decide_eq_true (show i < B.oa.length by omega), decide_eq_true (show i < B.ow.length by omega), decide_eq_true (show i < B.ov.length by omega), decide_eq_true (show i < B.oe.length by omega), decide_eq_true (show i < B.oz.length by omega), decide_eq_true (show i < B.op.length by omega)]
  repeat rw [Bool.and_self]
  rw [cT, hi, show IntKind.wrap IntKind.i64 (Int.tmod (IntKind.wrap IntKind.u64 (B.os.getD i 0)) 4) = kx B.os i 4 from rfl]
  by_cases hsd : kx B.os i 4 < (B.ds.length : Int)
  · rw [decide_eq_true (show kx B.os i 4 < (ud : Int) by omega), cT, decide_eq_true hsp.1, Bool.and_self, cT, Nat.zero_add, decide_eq_true (show (kx B.os i 4).toNat < B.ds.length by omega), cT]
    rw [show dirF B.ds (kx B.os i 4) = B.ds.getD (kx B.os i 4).toNat 0 from by unfold dirF; rw [if_pos hsd]]
    · skip
      have hD' : (B.ds.getD (kx B.os i 4).toNat 0) = dirF B.ds (kx B.os i 4) := by unfold dirF; rw [if_pos hsd]
      have e12 := to_agree (L := []) (d := (B.ds.getD (kx B.os i 4).toNat 0)) (a := B.oa.getD i 0) (wr := B.ow.getD i false) hm (ag4_sp hag hsp hD') (show 0 ≤ kx B.os i 4 ∧ kx B.os i 4 < 64 by omega)
      obtain ⟨e1, e2⟩ := e12
      by_cases hk4 : B.ok.getD i 0 = 4
      · rw [show (B.ok.getD i 0 == 4) = true from beq_iff_eq.2 hk4]
        rw [cT, hm, ia, Bool.and_self, cT, decide_eq_true hud, hI, hm', hw']
        repeat rw [Bool.and_self]
        rw [cT, if_pos hk4, if_pos hk4]; rfl
      · rw [show (B.ok.getD i 0 == 4) = false from beq_eq_false_iff_ne.2 hk4]
        rw [cF, hm, (getD_allI hI (kx B.os i 4).toNat), ia, hw]
        repeat rw [Bool.and_self]
        rw [cT, cT, bne_same e2, cF, bne_same e1, cF, if_neg hk4, if_neg hk4, stTo_none]
        cases cc : tC ws [] (kx B.os i 4) (B.ds.getD (kx B.os i 4).toNat 0) (B.oa.getD i 0) with
        | true =>
          have ag : ag4 ws B.ds (tL ws [] (kx B.os i 4) (B.ds.getD (kx B.os i 4).toNat 0) (B.oa.getD i 0)) = true := ag4_fill cc hag hD'
          have o1 := okK_self (tL ws [] (kx B.os i 4) (B.ds.getD (kx B.os i 4).toNat 0) (B.oa.getD i 0)) 0 (by rw [tL_nil]; simp)
          have o2 := rowsN_cols (tL ws [] (kx B.os i 4) (B.ds.getD (kx B.os i 4).toNat 0) (B.oa.getD i 0)) 0
          rw [show (tL ws [] (kx B.os i 4) (B.ds.getD (kx B.os i 4).toNat 0) (B.oa.getD i 0)).length = 1 from rfl] at o1 o2
          rw [cT, decide_eq_true hud, hI, o1, o2, ag, show Nat.ble 1 8 = true from rfl, show Nat.ble 1 16 = true from rfl]
          repeat rw [Bool.and_self]
          rw [cT, if_pos rfl]; rfl
        | false =>
          rw [cF, decide_eq_true hud, hI]
          repeat rw [Bool.and_self]
          rw [cT, if_neg Bool.false_ne_true]; rfl
  · rw [decide_eq_false (show ¬ kx B.os i 4 < (ud : Int) by omega), cF]
    rw [show dirF B.ds (kx B.os i 4) = 0 from by unfold dirF; rw [if_neg hsd]]
    · skip
      have hD' : 0 = dirF B.ds (kx B.os i 4) := by unfold dirF; rw [if_neg hsd]
      have e12 := to_agree (L := []) (d := 0) (a := B.oa.getD i 0) (wr := B.ow.getD i false) hm (ag4_sp hag hsp hD') (show 0 ≤ kx B.os i 4 ∧ kx B.os i 4 < 64 by omega)
      obtain ⟨e1, e2⟩ := e12
      by_cases hk4 : B.ok.getD i 0 = 4
      · rw [show (B.ok.getD i 0 == 4) = true from beq_iff_eq.2 hk4]
        rw [cT, hm, ia, Bool.and_self, cT, decide_eq_true hud, hI, hm', hw']
        repeat rw [Bool.and_self]
        rw [cT, if_pos hk4, if_pos hk4]; rfl
      · rw [show (B.ok.getD i 0 == 4) = false from beq_eq_false_iff_ne.2 hk4]
        rw [cF, hm, (show inI 0 = true from rfl), ia, hw]
        repeat rw [Bool.and_self]
        rw [cT, cT, bne_same e2, cF, bne_same e1, cF, if_neg hk4, if_neg hk4, stTo_none]
        cases cc : tC ws [] (kx B.os i 4) 0 (B.oa.getD i 0) with
        | true =>
          have ag : ag4 ws B.ds (tL ws [] (kx B.os i 4) 0 (B.oa.getD i 0)) = true := ag4_fill cc hag hD'
          have o1 := okK_self (tL ws [] (kx B.os i 4) 0 (B.oa.getD i 0)) 0 (by rw [tL_nil]; simp)
          have o2 := rowsN_cols (tL ws [] (kx B.os i 4) 0 (B.oa.getD i 0)) 0
          rw [show (tL ws [] (kx B.os i 4) 0 (B.oa.getD i 0)).length = 1 from rfl] at o1 o2
          rw [cT, decide_eq_true hud, hI, o1, o2, ag, show Nat.ble 1 8 = true from rfl, show Nat.ble 1 16 = true from rfl]
          repeat rw [Bool.and_self]
          rw [cT, if_pos rfl]; rfl
        | false =>
          rw [cF, decide_eq_true hud, hI]
          repeat rw [Bool.and_self]
          rw [cT, if_neg Bool.false_ne_true]; rfl
set_option maxHeartbeats 8000000 in
theorem roundT0S (ud ul m c i : Nat) (B : Ow) (ws : List Int) (L : List Ro) (e : Nat) (hB : OwOk B ud ul) (hR : InvR B m ud ul ws (some (L, e))) (K : HeadK) (h1 : i < ul) (h60 : i < 60) :
    bodyR Try.prog (sTr tE tA tC tL tX tW toA toE) (lT in4 allI ag4) iT0 60 (loopOf Try.prog 6 0) (tVo ud ul i) (tH B m c ws (some (L, e))) K = K .normal (tVo ud ul (i + 1 : Nat)) (tH B m c (trW B i ws) (trO B i ws (some (L, e)))) := by
  obtain ⟨hud, hI, hA, hV, l1, l2, l3, l4, l5, l6, l7, l8, l9⟩ := hB
  obtain ⟨hm, hw, ho, h4, hag⟩ := hR
  have h60' : (i : Int) < 60 := by omega
  have hl := InvW.len ho
  have hr := InvW.room ho
  have hok := okK_self L e (by omega)
  have h4 : in4 L = true := h4
  have hag : ag4 ws B.ds L = true := hag
  have hok0 : okK 0 (e + L.length) (cS [] (e + L.length)) (cP [] (e + L.length)) (cV [] (e + L.length)) (cW [] (e + L.length)) (cA [] (e + L.length)) = true := okK_self [] (e + L.length) (by simp; omega)
  have hrc0 : rowsN 0 (cS [] (e + L.length)) (cP [] (e + L.length)) (cV [] (e + L.length)) (cW [] (e + L.length)) (cA [] (e + L.length)) = [] := rowsN_cols [] (e + L.length)
  have hsp := kx_in B.os i (m := 4) (by omega) (by omega)
  have ia := getD_allI hA i
  have hv := getD_all hV i
  have hm' : okM m (putW ws (B.oa.getD i 0) (B.op.getD i 0)) = true := by
    unfold okM at hm ⊢
    rw [putW_len]; exact hm
  have hw' : allW (putW ws (B.oa.getD i 0) (B.op.getD i 0)) = true := putW_all hw hv
  have hi : IntKind.wrap IntKind.i64 ((i : Int) + 1) = ((i + 1 : Nat) : Int) := by rw [wrap_i64 (by omega) (by omega)]; omega
  unfold trW trO
  refine (t_t0S tE tA tC tL tX tW toA toE in4 allI ag4 ud ul m c L.length e i B.zs B.ds B.ok B.os B.od B.oa B.ow B.ov B.oe B.oz B.op ws _ _ _ _ _ K).trans ?_
  rw [decide_eq_true (show (i : Int) < (ul : Int) by omega), cT, decide_eq_true h60', cT, decide_eq_true (show (0 : Int) ≤ (i : Int) by omega), Bool.and_self, cT, Int.toNat_natCast, Nat.zero_add, decide_eq_true (show i < B.ok.length by omega), decide_eq_true (show i < B.os.length by omega), decide_eq_true (show i < B.od.length by omega), decide_eq_true (show i < B.oa.length by omega), decide_eq_true (show i < B.ow.length by omega), decide_eq_true (show i < B.ov.length by omega), decide_eq_true (show i < B.oe.length by omega), decide_eq_true (show i < B.oz.length by omega), decide_eq_true (show i < B.op.length by omega)]
  repeat rw [Bool.and_self]
  rw [cT, hi, show IntKind.wrap IntKind.i64 (Int.tmod (IntKind.wrap IntKind.u64 (B.os.getD i 0)) 4) = kx B.os i 4 from rfl, rowsN_cols L e]
  by_cases hsd : kx B.os i 4 < (B.ds.length : Int)
  · rw [decide_eq_true (show kx B.os i 4 < (ud : Int) by omega), cT, decide_eq_true hsp.1, Bool.and_self, cT, Nat.zero_add, decide_eq_true (show (kx B.os i 4).toNat < B.ds.length by omega), cT]
    rw [show dirF B.ds (kx B.os i 4) = B.ds.getD (kx B.os i 4).toNat 0 from by unfold dirF; rw [if_pos hsd]]
    · skip
      have hD' : (B.ds.getD (kx B.os i 4).toNat 0) = dirF B.ds (kx B.os i 4) := by unfold dirF; rw [if_pos hsd]
      have e12 := to_agree (L := L) (d := (B.ds.getD (kx B.os i 4).toNat 0)) (a := B.oa.getD i 0) (wr := B.ow.getD i false) hm (ag4_sp hag hsp hD') (show 0 ≤ kx B.os i 4 ∧ kx B.os i 4 < 64 by omega)
      obtain ⟨e1, e2⟩ := e12
      by_cases hk4 : B.ok.getD i 0 = 4
      · rw [show (B.ok.getD i 0 == 4) = true from beq_iff_eq.2 hk4]
        rw [cT, hm, ia, Bool.and_self, cT, hok, h4, Bool.and_self, Bool.and_self, cT, decide_eq_true hud, hI, hm', hw', hok0, show Nat.ble 0 8 = true from rfl, Nat.ble_eq_true_of_le (show 0 + (e + L.length) ≤ 16 by omega), hrc0, show ag4 (putW ws (B.oa.getD i 0) (B.op.getD i 0)) B.ds [] = true from rfl]
        repeat rw [Bool.and_self]
        rw [cT, if_pos hk4, if_pos hk4]; rfl
      · rw [show (B.ok.getD i 0 == 4) = false from beq_eq_false_iff_ne.2 hk4]
        rw [cF, hok, Nat.ble_eq_true_of_le hl, hm, (getD_allI hI (kx B.os i 4).toNat), ia, hw]
        repeat rw [Bool.and_self]
        rw [cT, cT, bne_same e2, cF, bne_same e1, cF, bsame (tW L (kx B.os i 4) (B.oa.getD i 0) e), if_neg hk4, if_neg hk4, stTo_some]
        cases cc : tC ws L (kx B.os i 4) (B.ds.getD (kx B.os i 4).toNat 0) (B.oa.getD i 0) with
        | true =>
          have J := InvW.fill ho (kx B.os i 4) (pgN (B.oa.getD i 0)) (pgV ws (B.ds.getD (kx B.os i 4).toNat 0) (B.oa.getD i 0)) (pgW ws (B.ds.getD (kx B.os i 4).toNat 0) (B.oa.getD i 0)) (pgA ws (B.ds.getD (kx B.os i 4).toNat 0) (B.oa.getD i 0))
          have j1 : (tL ws L (kx B.os i 4) (B.ds.getD (kx B.os i 4).toNat 0) (B.oa.getD i 0)).length ≤ 8 := J.len
          have j2 : (tL ws L (kx B.os i 4) (B.ds.getD (kx B.os i 4).toNat 0) (B.oa.getD i 0)).length + tX L (kx B.os i 4) (B.oa.getD i 0) e ≤ 16 := J.room
          have ag : ag4 ws B.ds (tL ws L (kx B.os i 4) (B.ds.getD (kx B.os i 4).toNat 0) (B.oa.getD i 0)) = true := ag4_fill cc hag hD'
          rw [cT, decide_eq_true hud, hI, okK_self _ _ (by omega), Nat.ble_eq_true_of_le j1, Nat.ble_eq_true_of_le j2, rowsN_cols, ag]
          repeat rw [Bool.and_self]
          rw [cT, if_pos rfl]; rfl
        | false =>
          rw [cF, decide_eq_true hud, hI, Nat.ble_eq_true_of_le hr, hag]
          repeat rw [Bool.and_self]
          rw [cT, if_neg Bool.false_ne_true]; rfl
  · rw [decide_eq_false (show ¬ kx B.os i 4 < (ud : Int) by omega), cF]
    rw [show dirF B.ds (kx B.os i 4) = 0 from by unfold dirF; rw [if_neg hsd]]
    · skip
      have hD' : 0 = dirF B.ds (kx B.os i 4) := by unfold dirF; rw [if_neg hsd]
      have e12 := to_agree (L := L) (d := 0) (a := B.oa.getD i 0) (wr := B.ow.getD i false) hm (ag4_sp hag hsp hD') (show 0 ≤ kx B.os i 4 ∧ kx B.os i 4 < 64 by omega)
      obtain ⟨e1, e2⟩ := e12
      by_cases hk4 : B.ok.getD i 0 = 4
      · rw [show (B.ok.getD i 0 == 4) = true from beq_iff_eq.2 hk4]
        rw [cT, hm, ia, Bool.and_self, cT, hok, h4, Bool.and_self, Bool.and_self, cT, decide_eq_true hud, hI, hm', hw', hok0, show Nat.ble 0 8 = true from rfl, Nat.ble_eq_true_of_le (show 0 + (e + L.length) ≤ 16 by omega), hrc0, show ag4 (putW ws (B.oa.getD i 0) (B.op.getD i 0)) B.ds [] = true from rfl]
        repeat rw [Bool.and_self]
        rw [cT, if_pos hk4, if_pos hk4]; rfl
      · rw [show (B.ok.getD i 0 == 4) = false from beq_eq_false_iff_ne.2 hk4]
        rw [cF, hok, Nat.ble_eq_true_of_le hl, hm, (show inI 0 = true from rfl), ia, hw]
        repeat rw [Bool.and_self]
        rw [cT, cT, bne_same e2, cF, bne_same e1, cF, bsame (tW L (kx B.os i 4) (B.oa.getD i 0) e), if_neg hk4, if_neg hk4, stTo_some]
        cases cc : tC ws L (kx B.os i 4) 0 (B.oa.getD i 0) with
        | true =>
          have J := InvW.fill ho (kx B.os i 4) (pgN (B.oa.getD i 0)) (pgV ws 0 (B.oa.getD i 0)) (pgW ws 0 (B.oa.getD i 0)) (pgA ws 0 (B.oa.getD i 0))
          have j1 : (tL ws L (kx B.os i 4) 0 (B.oa.getD i 0)).length ≤ 8 := J.len
          have j2 : (tL ws L (kx B.os i 4) 0 (B.oa.getD i 0)).length + tX L (kx B.os i 4) (B.oa.getD i 0) e ≤ 16 := J.room
          have ag : ag4 ws B.ds (tL ws L (kx B.os i 4) 0 (B.oa.getD i 0)) = true := ag4_fill cc hag hD'
          rw [cT, decide_eq_true hud, hI, okK_self _ _ (by omega), Nat.ble_eq_true_of_le j1, Nat.ble_eq_true_of_le j2, rowsN_cols, ag]
          repeat rw [Bool.and_self]
          rw [cT, if_pos rfl]; rfl
        | false =>
          rw [cF, decide_eq_true hud, hI, Nat.ble_eq_true_of_le hr, hag]
          repeat rw [Bool.and_self]
          rw [cT, if_neg Bool.false_ne_true]; rfl
end Go.Proofs.Ytnloobnpgkpbhaa.Wlk
