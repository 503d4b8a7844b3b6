/- What the chapter says: the rounds, the loop, the law. -/
import Derived.Test.YtnloobnpgkpbhaaTxI
import Derived.Test.YtnloobnpgkpbhaaTxK
import Derived.Test.YtnloobnpgkpbhaaTxJ
import Derived.Test.YtnloobnpgkpbhaaTrG
set_option linter.unusedVariables false
set_option linter.unusedSimpArgs false
set_option maxRecDepth 100000
namespace Go.Proofs.Ytnloobnpgkpbhaa.Wlk
open Go Go.Eng Go.Proofs Go.RowKit
/-- One round, then what follows. -/
def stepR (P : Program) (S : Summ) (L : Nat → Option Orc) (I : LI) (F : Nat) (y : Code) (H : HeadO) : HeadO := fun vs h K => bodyR P S L I F y vs h fun e vs' h' => match e with
  | .normal => H vs' h' K
  | .exit i => K (.exit i) vs' h'
  | .ret => K .ret vs' h'
  | .goto _ => none
theorem stepR_sound {P : Program} {S : Summ} {L : Nat → Option Orc} {I : LI} {F : Nat} {y : Code} {H : HeadO} (hS : SummOk P S) (hmix : P.follows .mixedOrders = true) (hL : LOk I.n P L y) (hH : HeadSound P I y H) : HeadSound P I y (stepR P S L I F y H) := by
  intro vs h K r hn e
  simp only [stepR, bodyR, stK_eq] at e
  obtain ⟨ex, s', hk, hc, hcl, _⟩ := execL_sound hS hmix F hL (by exact hn) e
  split at hk
  · rename_i vs' hp
    obtain ⟨vs2, h2, hk2, hcl2, hsr⟩ := normH_sound hcl.2 hp hk
    have hc2 : CodeSoundN I.n P y (stOf I.N I.live vs h) ex (stOf I.N (I.of ex) vs2 h2) := fun ρ a w Q hs hq => hc ρ a w Q hs fun ρ1 a1 w1 h1 p1 => by
      obtain ⟨ρ2, g1, g2⟩ := hsr ρ1 a1 w1 h1
      exact hq ρ2 a1 w1 g1 (p1.trans g2)
    have out : ex ≠ .normal → LoopSoundN I.n P y (stOf I.N I.live vs h) ex (stOf I.N (I.of ex) vs2 h2) := by
      intro he
      refine ⟨1, fun ρ a w Q hs hq => ?_⟩
      rw [rounds_succ]
      refine hc2 ρ a w _ hs fun ρ1 a1 w1 h1 p1 => ?_
      have := hq ρ1 a1 w1 h1 p1
      cases ex <;> first | exact absurd rfl he | exact this
    have hcl3 : CleanN I.n h h2 := hcl.trans hcl2
    cases ex with
    | normal =>
      obtain ⟨e3, vs3, h3, hk3, ⟨m', hm⟩, hcl4⟩ := hH vs2 h2 K r hcl2.2 hk2
      refine ⟨e3, vs3, h3, hk3, ⟨m' + 1, fun ρ a w Q hs hq => ?_⟩, hcl3.trans hcl4⟩
      rw [rounds_succ]
      refine hc2 ρ a w _ hs fun ρ1 a1 w1 h1 p1 => ?_
      exact hm ρ1 a1 w1 Q h1 fun ρ2 a2 w2 h2 p2 => hq ρ2 a2 w2 h2 (p1.trans p2)
    | exit i => exact ⟨_, vs2, h2, hk2, out (by simp), hcl3⟩
    | ret => exact ⟨_, vs2, h2, hk2, out (by simp), hcl3⟩
    | goto l => simp at hk2
  · cases hk
theorem HeadSound.any {P : Program} {I : LI} {y : Code} {C : HeadO} (h : ∀ vs g K r, C vs g K = some r → ∃ H, HeadSound P I y H ∧ H vs g K = some r) : HeadSound P I y C :=
  fun vs g K r hn e => let ⟨H, h1, h2⟩ := h vs g K r e; h1 vs g K r hn h2
theorem ctr {α : Type} {c : Bool} {a b : α} (h : c = true) : cond c a b = a := by subst h; exact cT a b
theorem cfr {α : Type} {c : Bool} {a b : α} (h : c = false) : cond c a b = b := by subst h; exact cF a b
/-- What came in. -/
structure Od where
  zs : List Int
  ok : List Int
  os : List Int
  od : List Int
  oa : List Int
  ow : List Bool
  ov : List Bool
  oe : List Bool
  oz : List Int
  op : List Int
structure OdOk (B : Od) (ul : Nat) : Prop where
  hD : allI B.od = true
  hA : allI B.oa = true
  hZ : allI B.oz = true
  hV : allW B.op = true
  l1 : ul = B.ok.length
  l2 : ul = B.os.length
  l3 : ul = B.od.length
  l4 : ul = B.oa.length
  l5 : ul = B.ow.length
  l6 : ul = B.ov.length
  l7 : ul = B.oe.length
  l8 : ul = B.oz.length
  l9 : ul = B.op.length
def dropT (x y : Int) : Ts → Ts
  | none => none
  | some (L, e) => some (dropL x y L, e + (L.length - (dropL x y L).length))
def flushT (x : Int) : Ts → Ts
  | none => none
  | some (L, e) => some (flushL x L, e + (L.length - (flushL x L).length))
def fillT (x y : Int) (v w : Bool) (a : Int) (o : Ts) : Ts := if filE x y v w a = 0 then some (fillL x y v w a (rowsO o), fillX x y (rowsO o) (roomO o)) else o
def doW (B : Od) (i : Nat) (ws : List Int) : List Int := if B.ok.getD i 0 = 4 then putW ws (B.oa.getD i 0) (B.op.getD i 0) else ws
def doO (B : Od) (i : Nat) (ws : List Int) (o : Ts) : Ts :=
  if B.ok.getD i 0 = 0 then stTo ws (B.os.getD i 0) (B.od.getD i 0) (B.oa.getD i 0) o
  else if B.ok.getD i 0 = 1 then fillT (B.os.getD i 0) (B.oa.getD i 0) (B.ov.getD i false) (B.oe.getD i false) (B.oz.getD i 0) o
  else if B.ok.getD i 0 = 2 then dropT (B.os.getD i 0) (B.oa.getD i 0) o
  else if B.ok.getD i 0 = 3 then flushT (B.os.getD i 0) o
  else o
abbrev bOd (B : Od) : Bool × Option Block := bOp B.ok B.os B.od B.oa B.ow B.ov B.oe B.oz B.op
/-- Memory at the head: what is kept; the reference's list, nil where it has no rows. -/
def doH (B : Od) (m c c' : Nat) (b : Bool) (ws : List Int) : Ts → Heap
  | none => [bRw B.zs, bOd B, bM 6 m c, bM 7 m c', bT0, bT0, bW ws, bW ws]
  | some ([], e) => [bRw B.zs, bOd B, bM 6 m c, bM 7 m c', bT 8 0 e, bT0, bW ws, bW ws, bCL [] e]
  | some (q :: L, e) => [bRw B.zs, bOd B, bM 6 m c, bM 7 m c', bT 8 (q :: L).length e, bXs 9 (q :: L).length b, bW ws, bW ws, bCL (q :: L) e, bCL (q :: L) 0]
theorem doH_ne (B : Od) (m c c' : Nat) (b : Bool) (ws : List Int) {L : List Ro} (h : L ≠ []) (e : Nat) : doH B m c c' b ws (some (L, e)) = [bRw B.zs, bOd B, bM 6 m c, bM 7 m c', bT 8 L.length e, bXs 9 L.length b, bW ws, bW ws, bCL L e, bCL L 0] := by
  cases L with
  | nil => exact absurd rfl h
  | cons q L => rfl
noncomputable def fD (L1 : List Ro) (e1 : Nat) : DoF := ⟨tE, tA, tC, tQ L1 e1, tW, xQ L1, toN, fQ L1 e1, fillN, yQ L1, bnF, dQ L1 e1, gQ L1 e1, dR L1, drN, gR L1, flN0, filE, ktV, ktW, ktA, ktI, agL⟩
theorem fD_ok (L1 : List Ro) (e1 : Nat) : SummOk Try.prog (sDo (fD L1 e1) L1 e1) := sDo3_ok (sDo2_ok (sDo1_ok L1 e1) L1 e1)
end Go.Proofs.Ytnloobnpgkpbhaa.Wlk
namespace Go.Proofs.Ytnloobnpgkpbhaa.Wlk
open Go Go.Eng Go.Proofs Go.RowKit
theorem rowFacts (L : List Ro) (e : Nat) (h8 : L.length ≤ 8) (h16 : L.length + e ≤ 16) : okK L.length e (cS L e) (cP L e) (cV L e) (cW L e) (cA L e) = true ∧ okK L.length 0 (cS L 0) (cP L 0) (cV L 0) (cW L 0) (cA L 0) = true ∧ Nat.ble L.length 8 = true ∧ Nat.ble L.length 16 = true :=
  ⟨okK_self L e (by omega), okK_self L 0 (by omega), Nat.ble_eq_true_of_le h8, Nat.ble_eq_true_of_le (by omega)⟩
set_option maxHeartbeats 8000000 in
theorem doS0y (ul m c c' i : Nat) (B : Od) (ws : List Int) (L : List Ro) (e : Nat) (b : Bool) (L1 : List Ro) (e1 : Nat) (hB : OdOk B ul) (hm : okM m ws = true) (hw : allW ws = true) (ho : InvW L e) (h1 : i < ul) (h60 : i < 60) (K : HeadK) (c0 : B.ok.getD i 0 = 0) (ho1 : InvW L1 e1) (hc : tC ws L (B.os.getD i 0) (B.od.getD i 0) (B.oa.getD i 0) = true) (hq : tQ L1 e1 ws L e (B.os.getD i 0) (B.od.getD i 0) (B.oa.getD i 0) = true) (hx : xQ L1 ws L (B.os.getD i 0) (B.od.getD i 0) (B.oa.getD i 0) = true) (t : Bool) (ht : tW L (B.os.getD i 0) (B.oa.getD i 0) e = t) :
    bodyR Try.prog (sDo (fD L1 e1) L1 e1) lNil iDo 60 (loopOf Try.prog 5 0) (vDo ul i) [bRw B.zs, bOd B, bM 6 m c, bM 7 m c', bT 8 L.length e, bXs 9 L.length b, bW ws, bW ws, bCL L e, bCL L 0] K = K .normal (vDo ul (i + 1 : Nat)) [bRw B.zs, bOd B, bM 6 m c, bM 7 m c', bT 8 (L1).length e1, bXs 9 (L1).length (toN (B.os.getD i 0) (B.oa.getD i 0) L), bW ws, bW ws, bCL L1 e1, bCL L1 0] := by
  obtain ⟨hD, hA, hZ, hV, l1, l2, l3, l4, l5, l6, l7, l8, l9⟩ := hB
  have iD := getD_allI hD i
  have iA := getD_allI hA i
  have iZ := getD_allI hZ i
  have d1 : decide ((i : Int) < (ul : Int)) = true := decide_eq_true (by omega)
  have d2 : decide ((i : Int) < 60) = true := decide_eq_true (by omega)
  have d3 : decide ((0 : Int) ≤ (i : Int)) = true := decide_eq_true (by omega)
  have b1 : decide (i < B.ok.length) = true := decide_eq_true (by omega)
  have b2 : decide (i < B.os.length) = true := decide_eq_true (by omega)
  have b3 : decide (i < B.od.length) = true := decide_eq_true (by omega)
  have b4 : decide (i < B.oa.length) = true := decide_eq_true (by omega)
  have b5 : decide (i < B.ow.length) = true := decide_eq_true (by omega)
  have b6 : decide (i < B.ov.length) = true := decide_eq_true (by omega)
  have b7 : decide (i < B.oe.length) = true := decide_eq_true (by omega)
  have b8 : decide (i < B.oz.length) = true := decide_eq_true (by omega)
  have b9 : decide (i < B.op.length) = true := decide_eq_true (by omega)
  have i1 : IntKind.wrap IntKind.i64 ((i : Int) + 1) = ((i + 1 : Nat) : Int) := by rw [wrap_i64 (by omega) (by omega)]; omega
  have q0 : (B.ok.getD i 0 == 0) = true := beq_iff_eq.2 c0
  obtain ⟨k1, k0, n8, n16⟩ := rowFacts L e ho.len ho.room
  have r1 := rowsN_cols L e
  have r0 := rowsN_cols L 0
  obtain ⟨kk1, kk0, m8, m16⟩ := rowFacts L1 e1 ho1.len ho1.room
  have rr1 := rowsN_cols L1 e1
  have rr0 := rowsN_cols L1 0
  cases t
  all_goals (
    refine (t_doS (fD L1 e1) L1 e1 ul m c c' L.length e L.length b i B.zs B.ok B.os B.od B.oa B.ow B.ov B.oe B.oz B.op ws _ _ _ _ _ _ _ _ _ _ K).trans ?_
    repeat (first | (refine (ctr ?_).trans ?_; · (simp only [fD, d1, d2, d3, b1, b2, b3, b4, b5, b6, b7, b8, b9, Int.toNat_natCast, Nat.zero_add, Bool.and_self, Bool.and_true, Bool.true_and, bne_self_eq_false, beq_self_eq_true, Bool.not_true, Bool.not_false, hm, hw, iD, iA, iZ, i1, k1, k0, r1, r0, n8, n16, q0, kk1, kk0, rr1, rr0, m16, hc, hq, hx, ht]; done)) | (refine (cfr ?_).trans ?_; · (simp only [fD, d1, d2, d3, b1, b2, b3, b4, b5, b6, b7, b8, b9, Int.toNat_natCast, Nat.zero_add, Bool.and_self, Bool.and_true, Bool.true_and, bne_self_eq_false, beq_self_eq_true, Bool.not_true, Bool.not_false, hm, hw, iD, iA, iZ, i1, k1, k0, r1, r0, n8, n16, q0, kk1, kk0, rr1, rr0, m16, hc, hq, hx, ht]; done)))
    (try rw [Int.toNat_natCast, Nat.zero_add]); (try rw [r0]); rw [i1]; rfl)
set_option maxHeartbeats 8000000 in
theorem doS0n (ul m c c' i : Nat) (B : Od) (ws : List Int) (L : List Ro) (e : Nat) (b : Bool) (L1 : List Ro) (e1 : Nat) (hB : OdOk B ul) (hm : okM m ws = true) (hw : allW ws = true) (ho : InvW L e) (h1 : i < ul) (h60 : i < 60) (K : HeadK) (c0 : B.ok.getD i 0 = 0) (hc : tC ws L (B.os.getD i 0) (B.od.getD i 0) (B.oa.getD i 0) = false) :
    bodyR Try.prog (sDo (fD L1 e1) L1 e1) lNil iDo 60 (loopOf Try.prog 5 0) (vDo ul i) [bRw B.zs, bOd B, bM 6 m c, bM 7 m c', bT 8 L.length e, bXs 9 L.length b, bW ws, bW ws, bCL L e, bCL L 0] K = K .normal (vDo ul (i + 1 : Nat)) [bRw B.zs, bOd B, bM 6 m c, bM 7 m c', bT 8 (L).length e, bXs 9 (L).length b, bW ws, bW ws, bCL L e, bCL L 0] := by
  obtain ⟨hD, hA, hZ, hV, l1, l2, l3, l4, l5, l6, l7, l8, l9⟩ := hB
  have iD := getD_allI hD i
  have iA := getD_allI hA i
  have iZ := getD_allI hZ i
  have d1 : decide ((i : Int) < (ul : Int)) = true := decide_eq_true (by omega)
  have d2 : decide ((i : Int) < 60) = true := decide_eq_true (by omega)
  have d3 : decide ((0 : Int) ≤ (i : Int)) = true := decide_eq_true (by omega)
  have b1 : decide (i < B.ok.length) = true := decide_eq_true (by omega)
  have b2 : decide (i < B.os.length) = true := decide_eq_true (by omega)
  have b3 : decide (i < B.od.length) = true := decide_eq_true (by omega)
  have b4 : decide (i < B.oa.length) = true := decide_eq_true (by omega)
  have b5 : decide (i < B.ow.length) = true := decide_eq_true (by omega)
  have b6 : decide (i < B.ov.length) = true := decide_eq_true (by omega)
  have b7 : decide (i < B.oe.length) = true := decide_eq_true (by omega)
  have b8 : decide (i < B.oz.length) = true := decide_eq_true (by omega)
  have b9 : decide (i < B.op.length) = true := decide_eq_true (by omega)
  have i1 : IntKind.wrap IntKind.i64 ((i : Int) + 1) = ((i + 1 : Nat) : Int) := by rw [wrap_i64 (by omega) (by omega)]; omega
  have q0 : (B.ok.getD i 0 == 0) = true := beq_iff_eq.2 c0
  obtain ⟨k1, k0, n8, n16⟩ := rowFacts L e ho.len ho.room
  have r1 := rowsN_cols L e
  have r0 := rowsN_cols L 0
  refine (t_doS (fD L1 e1) L1 e1 ul m c c' L.length e L.length b i B.zs B.ok B.os B.od B.oa B.ow B.ov B.oe B.oz B.op ws _ _ _ _ _ _ _ _ _ _ K).trans ?_
  repeat (first | (refine (ctr ?_).trans ?_; · (simp only [fD, d1, d2, d3, b1, b2, b3, b4, b5, b6, b7, b8, b9, Int.toNat_natCast, Nat.zero_add, Bool.and_self, Bool.and_true, Bool.true_and, bne_self_eq_false, beq_self_eq_true, Bool.not_true, Bool.not_false, hm, hw, iD, iA, iZ, i1, k1, k0, r1, r0, n8, n16, q0, hc]; done)) | (refine (cfr ?_).trans ?_; · (simp only [fD, d1, d2, d3, b1, b2, b3, b4, b5, b6, b7, b8, b9, Int.toNat_natCast, Nat.zero_add, Bool.and_self, Bool.and_true, Bool.true_and, bne_self_eq_false, beq_self_eq_true, Bool.not_true, Bool.not_false, hm, hw, iD, iA, iZ, i1, k1, k0, r1, r0, n8, n16, q0, hc]; done)))
  (try rw [Int.toNat_natCast, Nat.zero_add]); (try rw [r0]); rw [i1]; rfl
set_option maxHeartbeats 8000000 in
theorem doS1y (ul m c c' i : Nat) (B : Od) (ws : List Int) (L : List Ro) (e : Nat) (b : Bool) (L1 : List Ro) (e1 : Nat) (hB : OdOk B ul) (hm : okM m ws = true) (hw : allW ws = true) (ho : InvW L e) (h1 : i < ul) (h60 : i < 60) (K : HeadK) (c0 : ¬ B.ok.getD i 0 = 0) (c1 : B.ok.getD i 0 = 1) (ho1 : InvW L1 e1) (hc : filE (B.os.getD i 0) (B.oa.getD i 0) (B.ov.getD i false) (B.oe.getD i false) (B.oz.getD i 0) = 0) (hq : fQ L1 e1 (B.os.getD i 0) (B.oa.getD i 0) (B.ov.getD i false) (B.oe.getD i false) (B.oz.getD i 0) L e = true) (hx : yQ L1 (B.os.getD i 0) (B.oa.getD i 0) (B.ov.getD i false) (B.oe.getD i false) (B.oz.getD i 0) L = true) (t : Bool) (ht : fillN (B.os.getD i 0) (B.oa.getD i 0) L e = t) :
    bodyR Try.prog (sDo (fD L1 e1) L1 e1) lNil iDo 60 (loopOf Try.prog 5 0) (vDo ul i) [bRw B.zs, bOd B, bM 6 m c, bM 7 m c', bT 8 L.length e, bXs 9 L.length b, bW ws, bW ws, bCL L e, bCL L 0] K = K .normal (vDo ul (i + 1 : Nat)) [bRw B.zs, bOd B, bM 6 m c, bM 7 m c', bT 8 (L1).length e1, bXs 9 (L1).length (bnF (B.os.getD i 0) (B.oa.getD i 0) L), bW ws, bW ws, bCL L1 e1, bCL L1 0] := by
  obtain ⟨hD, hA, hZ, hV, l1, l2, l3, l4, l5, l6, l7, l8, l9⟩ := hB
  have iD := getD_allI hD i
  have iA := getD_allI hA i
  have iZ := getD_allI hZ i
  have d1 : decide ((i : Int) < (ul : Int)) = true := decide_eq_true (by omega)
  have d2 : decide ((i : Int) < 60) = true := decide_eq_true (by omega)
  have d3 : decide ((0 : Int) ≤ (i : Int)) = true := decide_eq_true (by omega)
  have b1 : decide (i < B.ok.length) = true := decide_eq_true (by omega)
  have b2 : decide (i < B.os.length) = true := decide_eq_true (by omega)
  have b3 : decide (i < B.od.length) = true := decide_eq_true (by omega)
  have b4 : decide (i < B.oa.length) = true := decide_eq_true (by omega)
  have b5 : decide (i < B.ow.length) = true := decide_eq_true (by omega)
  have b6 : decide (i < B.ov.length) = true := decide_eq_true (by omega)
  have b7 : decide (i < B.oe.length) = true := decide_eq_true (by omega)
  have b8 : decide (i < B.oz.length) = true := decide_eq_true (by omega)
  have b9 : decide (i < B.op.length) = true := decide_eq_true (by omega)
  have i1 : IntKind.wrap IntKind.i64 ((i : Int) + 1) = ((i + 1 : Nat) : Int) := by rw [wrap_i64 (by omega) (by omega)]; omega
  have q0 : (B.ok.getD i 0 == 0) = false := beq_eq_false_iff_ne.2 c0
  have q1 : (B.ok.getD i 0 == 1) = true := beq_iff_eq.2 c1
  obtain ⟨k1, k0, n8, n16⟩ := rowFacts L e ho.len ho.room
  have r1 := rowsN_cols L e
  have r0 := rowsN_cols L 0
  obtain ⟨kk1, kk0, m8, m16⟩ := rowFacts L1 e1 ho1.len ho1.room
  have rr1 := rowsN_cols L1 e1
  have rr0 := rowsN_cols L1 0
  have hc2 : decide (filE (B.os.getD i 0) (B.oa.getD i 0) (B.ov.getD i false) (B.oe.getD i false) (B.oz.getD i 0) = 0) = true := decide_eq_true hc
  cases t
  all_goals (
    refine (t_doS (fD L1 e1) L1 e1 ul m c c' L.length e L.length b i B.zs B.ok B.os B.od B.oa B.ow B.ov B.oe B.oz B.op ws _ _ _ _ _ _ _ _ _ _ K).trans ?_
    repeat (first | (refine (ctr ?_).trans ?_; · (simp only [fD, d1, d2, d3, b1, b2, b3, b4, b5, b6, b7, b8, b9, Int.toNat_natCast, Nat.zero_add, Bool.and_self, Bool.and_true, Bool.true_and, bne_self_eq_false, beq_self_eq_true, Bool.not_true, Bool.not_false, hm, hw, iD, iA, iZ, i1, k1, k0, r1, r0, n8, n16, q0, q1, kk1, kk0, rr1, rr0, m16, hc2, hq, hx, ht]; done)) | (refine (cfr ?_).trans ?_; · (simp only [fD, d1, d2, d3, b1, b2, b3, b4, b5, b6, b7, b8, b9, Int.toNat_natCast, Nat.zero_add, Bool.and_self, Bool.and_true, Bool.true_and, bne_self_eq_false, beq_self_eq_true, Bool.not_true, Bool.not_false, hm, hw, iD, iA, iZ, i1, k1, k0, r1, r0, n8, n16, q0, q1, kk1, kk0, rr1, rr0, m16, hc2, hq, hx, ht]; done)))
    (try rw [Int.toNat_natCast, Nat.zero_add]); (try rw [r0]); rw [i1]; rfl)
set_option maxHeartbeats 8000000 in
theorem doS1n (ul m c c' i : Nat) (B : Od) (ws : List Int) (L : List Ro) (e : Nat) (b : Bool) (L1 : List Ro) (e1 : Nat) (hB : OdOk B ul) (hm : okM m ws = true) (hw : allW ws = true) (ho : InvW L e) (h1 : i < ul) (h60 : i < 60) (K : HeadK) (c0 : ¬ B.ok.getD i 0 = 0) (c1 : B.ok.getD i 0 = 1) (hc : ¬ filE (B.os.getD i 0) (B.oa.getD i 0) (B.ov.getD i false) (B.oe.getD i false) (B.oz.getD i 0) = 0) :
    bodyR Try.prog (sDo (fD L1 e1) L1 e1) lNil iDo 60 (loopOf Try.prog 5 0) (vDo ul i) [bRw B.zs, bOd B, bM 6 m c, bM 7 m c', bT 8 L.length e, bXs 9 L.length b, bW ws, bW ws, bCL L e, bCL L 0] K = K .normal (vDo ul (i + 1 : Nat)) [bRw B.zs, bOd B, bM 6 m c, bM 7 m c', bT 8 (L).length e, bXs 9 (L).length b, bW ws, bW ws, bCL L e, bCL L 0] := by
  obtain ⟨hD, hA, hZ, hV, l1, l2, l3, l4, l5, l6, l7, l8, l9⟩ := hB
  have iD := getD_allI hD i
  have iA := getD_allI hA i
  have iZ := getD_allI hZ i
  have d1 : decide ((i : Int) < (ul : Int)) = true := decide_eq_true (by omega)
  have d2 : decide ((i : Int) < 60) = true := decide_eq_true (by omega)
  have d3 : decide ((0 : Int) ≤ (i : Int)) = true := decide_eq_true (by omega)
  have b1 : decide (i < B.ok.length) = true := decide_eq_true (by omega)
  have b2 : decide (i < B.os.length) = true := decide_eq_true (by omega)
  have b3 : decide (i < B.od.length) = true := decide_eq_true (by omega)
  have b4 : decide (i < B.oa.length) = true := decide_eq_true (by omega)
  have b5 : decide (i < B.ow.length) = true := decide_eq_true (by omega)
  have b6 : decide (i < B.ov.length) = true := decide_eq_true (by omega)
  have b7 : decide (i < B.oe.length) = true := decide_eq_true (by omega)
  have b8 : decide (i < B.oz.length) = true := decide_eq_true (by omega)
  have b9 : decide (i < B.op.length) = true := decide_eq_true (by omega)
  have i1 : IntKind.wrap IntKind.i64 ((i : Int) + 1) = ((i + 1 : Nat) : Int) := by rw [wrap_i64 (by omega) (by omega)]; omega
  have q0 : (B.ok.getD i 0 == 0) = false := beq_eq_false_iff_ne.2 c0
  have q1 : (B.ok.getD i 0 == 1) = true := beq_iff_eq.2 c1
  obtain ⟨k1, k0, n8, n16⟩ := rowFacts L e ho.len ho.room
  have r1 := rowsN_cols L e
  have r0 := rowsN_cols L 0
  have hc2 : decide (filE (B.os.getD i 0) (B.oa.getD i 0) (B.ov.getD i false) (B.oe.getD i false) (B.oz.getD i 0) = 0) = false := decide_eq_false hc
  refine (t_doS (fD L1 e1) L1 e1 ul m c c' L.length e L.length b i B.zs B.ok B.os B.od B.oa B.ow B.ov B.oe B.oz B.op ws _ _ _ _ _ _ _ _ _ _ K).trans ?_
  repeat (first | (refine (ctr ?_).trans ?_; · (simp only [fD, d1, d2, d3, b1, b2, b3, b4, b5, b6, b7, b8, b9, Int.toNat_natCast, Nat.zero_add, Bool.and_self, Bool.and_true, Bool.true_and, bne_self_eq_false, beq_self_eq_true, Bool.not_true, Bool.not_false, hm, hw, iD, iA, iZ, i1, k1, k0, r1, r0, n8, n16, q0, q1, hc2]; done)) | (refine (cfr ?_).trans ?_; · (simp only [fD, d1, d2, d3, b1, b2, b3, b4, b5, b6, b7, b8, b9, Int.toNat_natCast, Nat.zero_add, Bool.and_self, Bool.and_true, Bool.true_and, bne_self_eq_false, beq_self_eq_true, Bool.not_true, Bool.not_false, hm, hw, iD, iA, iZ, i1, k1, k0, r1, r0, n8, n16, q0, q1, hc2]; done)))
  (try rw [Int.toNat_natCast, Nat.zero_add]); (try rw [r0]); rw [i1]; rfl
set_option maxHeartbeats 8000000 in
theorem doS2n (ul m c c' i : Nat) (B : Od) (ws : List Int) (L : List Ro) (e : Nat) (b : Bool) (L1 : List Ro) (e1 : Nat) (hB : OdOk B ul) (hm : okM m ws = true) (hw : allW ws = true) (ho : InvW L e) (h1 : i < ul) (h60 : i < 60) (K : HeadK) (c0 : ¬ B.ok.getD i 0 = 0) (c1 : ¬ B.ok.getD i 0 = 1) (c2 : B.ok.getD i 0 = 2) (ho1 : InvW L1 e1) (hq : dQ L1 e1 (B.os.getD i 0) (B.oa.getD i 0) L e = true) (hx : dR L1 (B.os.getD i 0) (B.oa.getD i 0) L = true) (hn : drN (B.os.getD i 0) (B.oa.getD i 0) L = false) :
    bodyR Try.prog (sDo (fD L1 e1) L1 e1) lNil iDo 60 (loopOf Try.prog 5 0) (vDo ul i) [bRw B.zs, bOd B, bM 6 m c, bM 7 m c', bT 8 L.length e, bXs 9 L.length b, bW ws, bW ws, bCL L e, bCL L 0] K = K .normal (vDo ul (i + 1 : Nat)) [bRw B.zs, bOd B, bM 6 m c, bM 7 m c', bT 8 (L1).length e1, bXs 9 (L1).length false, bW ws, bW ws, bCL L1 e1, bCL L1 0] := by
  obtain ⟨hD, hA, hZ, hV, l1, l2, l3, l4, l5, l6, l7, l8, l9⟩ := hB
  have iD := getD_allI hD i
  have iA := getD_allI hA i
  have iZ := getD_allI hZ i
  have d1 : decide ((i : Int) < (ul : Int)) = true := decide_eq_true (by omega)
  have d2 : decide ((i : Int) < 60) = true := decide_eq_true (by omega)
  have d3 : decide ((0 : Int) ≤ (i : Int)) = true := decide_eq_true (by omega)
  have b1 : decide (i < B.ok.length) = true := decide_eq_true (by omega)
  have b2 : decide (i < B.os.length) = true := decide_eq_true (by omega)
  have b3 : decide (i < B.od.length) = true := decide_eq_true (by omega)
  have b4 : decide (i < B.oa.length) = true := decide_eq_true (by omega)
  have b5 : decide (i < B.ow.length) = true := decide_eq_true (by omega)
  have b6 : decide (i < B.ov.length) = true := decide_eq_true (by omega)
  have b7 : decide (i < B.oe.length) = true := decide_eq_true (by omega)
  have b8 : decide (i < B.oz.length) = true := decide_eq_true (by omega)
  have b9 : decide (i < B.op.length) = true := decide_eq_true (by omega)
  have i1 : IntKind.wrap IntKind.i64 ((i : Int) + 1) = ((i + 1 : Nat) : Int) := by rw [wrap_i64 (by omega) (by omega)]; omega
  have q0 : (B.ok.getD i 0 == 0) = false := beq_eq_false_iff_ne.2 c0
  have q1 : (B.ok.getD i 0 == 1) = false := beq_eq_false_iff_ne.2 c1
  have q2 : (B.ok.getD i 0 == 2) = true := beq_iff_eq.2 c2
  obtain ⟨k1, k0, n8, n16⟩ := rowFacts L e ho.len ho.room
  have r1 := rowsN_cols L e
  have r0 := rowsN_cols L 0
  obtain ⟨kk1, kk0, m8, m16⟩ := rowFacts L1 e1 ho1.len ho1.room
  have rr1 := rowsN_cols L1 e1
  have rr0 := rowsN_cols L1 0
  refine (t_doS (fD L1 e1) L1 e1 ul m c c' L.length e L.length b i B.zs B.ok B.os B.od B.oa B.ow B.ov B.oe B.oz B.op ws _ _ _ _ _ _ _ _ _ _ K).trans ?_
  repeat (first | (refine (ctr ?_).trans ?_; · (simp only [fD, d1, d2, d3, b1, b2, b3, b4, b5, b6, b7, b8, b9, Int.toNat_natCast, Nat.zero_add, Bool.and_self, Bool.and_true, Bool.true_and, bne_self_eq_false, beq_self_eq_true, Bool.not_true, Bool.not_false, hm, hw, iD, iA, iZ, i1, k1, k0, r1, r0, n8, n16, q0, q1, q2, kk1, kk0, rr1, rr0, m16, hq, hx, hn]; done)) | (refine (cfr ?_).trans ?_; · (simp only [fD, d1, d2, d3, b1, b2, b3, b4, b5, b6, b7, b8, b9, Int.toNat_natCast, Nat.zero_add, Bool.and_self, Bool.and_true, Bool.true_and, bne_self_eq_false, beq_self_eq_true, Bool.not_true, Bool.not_false, hm, hw, iD, iA, iZ, i1, k1, k0, r1, r0, n8, n16, q0, q1, q2, kk1, kk0, rr1, rr0, m16, hq, hx, hn]; done)))
  (try rw [Int.toNat_natCast, Nat.zero_add]); (try rw [r0]); rw [i1]; rfl
set_option maxHeartbeats 8000000 in
theorem doS2y (ul m c c' i : Nat) (B : Od) (ws : List Int) (L : List Ro) (e : Nat) (b : Bool) (L1 : List Ro) (e1 : Nat) (hB : OdOk B ul) (hm : okM m ws = true) (hw : allW ws = true) (ho : InvW L e) (h1 : i < ul) (h60 : i < 60) (K : HeadK) (c0 : ¬ B.ok.getD i 0 = 0) (c1 : ¬ B.ok.getD i 0 = 1) (c2 : B.ok.getD i 0 = 2) (hL1 : L1 = []) (ho1 : InvW L1 e1) (hq : dQ L1 e1 (B.os.getD i 0) (B.oa.getD i 0) L e = true) (hx : dR L1 (B.os.getD i 0) (B.oa.getD i 0) L = true) (hn : drN (B.os.getD i 0) (B.oa.getD i 0) L = true) :
    bodyR Try.prog (sDo (fD L1 e1) L1 e1) lNil iDo 60 (loopOf Try.prog 5 0) (vDo ul i) [bRw B.zs, bOd B, bM 6 m c, bM 7 m c', bT 8 L.length e, bXs 9 L.length b, bW ws, bW ws, bCL L e, bCL L 0] K = K .normal (vDo ul (i + 1 : Nat)) [bRw B.zs, bOd B, bM 6 m c, bM 7 m c', bT 8 0 e1, bT0, bW ws, bW ws, bCL [] e1] := by
  obtain ⟨hD, hA, hZ, hV, l1, l2, l3, l4, l5, l6, l7, l8, l9⟩ := hB
  have iD := getD_allI hD i
  have iA := getD_allI hA i
  have iZ := getD_allI hZ i
  have d1 : decide ((i : Int) < (ul : Int)) = true := decide_eq_true (by omega)
  have d2 : decide ((i : Int) < 60) = true := decide_eq_true (by omega)
  have d3 : decide ((0 : Int) ≤ (i : Int)) = true := decide_eq_true (by omega)
  have b1 : decide (i < B.ok.length) = true := decide_eq_true (by omega)
  have b2 : decide (i < B.os.length) = true := decide_eq_true (by omega)
  have b3 : decide (i < B.od.length) = true := decide_eq_true (by omega)
  have b4 : decide (i < B.oa.length) = true := decide_eq_true (by omega)
  have b5 : decide (i < B.ow.length) = true := decide_eq_true (by omega)
  have b6 : decide (i < B.ov.length) = true := decide_eq_true (by omega)
  have b7 : decide (i < B.oe.length) = true := decide_eq_true (by omega)
  have b8 : decide (i < B.oz.length) = true := decide_eq_true (by omega)
  have b9 : decide (i < B.op.length) = true := decide_eq_true (by omega)
  have i1 : IntKind.wrap IntKind.i64 ((i : Int) + 1) = ((i + 1 : Nat) : Int) := by rw [wrap_i64 (by omega) (by omega)]; omega
  have q0 : (B.ok.getD i 0 == 0) = false := beq_eq_false_iff_ne.2 c0
  have q1 : (B.ok.getD i 0 == 1) = false := beq_eq_false_iff_ne.2 c1
  have q2 : (B.ok.getD i 0 == 2) = true := beq_iff_eq.2 c2
  obtain ⟨k1, k0, n8, n16⟩ := rowFacts L e ho.len ho.room
  have r1 := rowsN_cols L e
  have r0 := rowsN_cols L 0
  subst hL1
  obtain ⟨kk1, kk0, m8, m16⟩ := rowFacts [] e1 ho1.len ho1.room
  have rr1 := rowsN_cols [] e1
  have rr0 := rowsN_cols [] 0
  have z1 : ktV (B.os.getD i 0) (B.oa.getD i 0) [] = false := rfl
  have z2 : ktW (B.os.getD i 0) (B.oa.getD i 0) [] = false := rfl
  have z3 : ktA (B.os.getD i 0) (B.oa.getD i 0) [] = 0 := rfl
  have z4 : ktI (B.os.getD i 0) (B.oa.getD i 0) [] = false := rfl
  have z5 : agL ws (B.os.getD i 0) (B.od.getD i 0) [] = true := rfl
  have z6 : (((([] : List Ro).length : Nat) : Int) != 0) = false := rfl
  refine (t_doS (fD [] e1) [] e1 ul m c c' L.length e L.length b i B.zs B.ok B.os B.od B.oa B.ow B.ov B.oe B.oz B.op ws _ _ _ _ _ _ _ _ _ _ K).trans ?_
  repeat (first | (refine (ctr ?_).trans ?_; · (simp only [fD, d1, d2, d3, b1, b2, b3, b4, b5, b6, b7, b8, b9, Int.toNat_natCast, Nat.zero_add, Bool.and_self, Bool.and_true, Bool.true_and, bne_self_eq_false, beq_self_eq_true, Bool.not_true, Bool.not_false, hm, hw, iD, iA, iZ, i1, k1, k0, r1, r0, n8, n16, q0, q1, q2, kk1, kk0, rr1, rr0, m16, hq, hx, hn, z1, z2, z3, z4, z5, z6]; done)) | (refine (cfr ?_).trans ?_; · (simp only [fD, d1, d2, d3, b1, b2, b3, b4, b5, b6, b7, b8, b9, Int.toNat_natCast, Nat.zero_add, Bool.and_self, Bool.and_true, Bool.true_and, bne_self_eq_false, beq_self_eq_true, Bool.not_true, Bool.not_false, hm, hw, iD, iA, iZ, i1, k1, k0, r1, r0, n8, n16, q0, q1, q2, kk1, kk0, rr1, rr0, m16, hq, hx, hn, z1, z2, z3, z4, z5, z6]; done)))
  (try rw [Int.toNat_natCast, Nat.zero_add]); (try rw [r0]); rw [i1]; rfl
set_option maxHeartbeats 8000000 in
theorem doS3n (ul m c c' i : Nat) (B : Od) (ws : List Int) (L : List Ro) (e : Nat) (b : Bool) (L1 : List Ro) (e1 : Nat) (hB : OdOk B ul) (hm : okM m ws = true) (hw : allW ws = true) (ho : InvW L e) (h1 : i < ul) (h60 : i < 60) (K : HeadK) (c0 : ¬ B.ok.getD i 0 = 0) (c1 : ¬ B.ok.getD i 0 = 1) (c2 : ¬ B.ok.getD i 0 = 2) (c3 : B.ok.getD i 0 = 3) (ho1 : InvW L1 e1) (hq : gQ L1 e1 (B.os.getD i 0) L e = true) (hx : gR L1 (B.os.getD i 0) L = true) (hn : flN0 (B.os.getD i 0) L = false) :
    bodyR Try.prog (sDo (fD L1 e1) L1 e1) lNil iDo 60 (loopOf Try.prog 5 0) (vDo ul i) [bRw B.zs, bOd B, bM 6 m c, bM 7 m c', bT 8 L.length e, bXs 9 L.length b, bW ws, bW ws, bCL L e, bCL L 0] K = K .normal (vDo ul (i + 1 : Nat)) [bRw B.zs, bOd B, bM 6 m c, bM 7 m c', bT 8 (L1).length e1, bXs 9 (L1).length false, bW ws, bW ws, bCL L1 e1, bCL L1 0] := by
  obtain ⟨hD, hA, hZ, hV, l1, l2, l3, l4, l5, l6, l7, l8, l9⟩ := hB
  have iD := getD_allI hD i
  have iA := getD_allI hA i
  have iZ := getD_allI hZ i
  have d1 : decide ((i : Int) < (ul : Int)) = true := decide_eq_true (by omega)
  have d2 : decide ((i : Int) < 60) = true := decide_eq_true (by omega)
  have d3 : decide ((0 : Int) ≤ (i : Int)) = true := decide_eq_true (by omega)
  have b1 : decide (i < B.ok.length) = true := decide_eq_true (by omega)
  have b2 : decide (i < B.os.length) = true := decide_eq_true (by omega)
  have b3 : decide (i < B.od.length) = true := decide_eq_true (by omega)
  have b4 : decide (i < B.oa.length) = true := decide_eq_true (by omega)
  have b5 : decide (i < B.ow.length) = true := decide_eq_true (by omega)
  have b6 : decide (i < B.ov.length) = true := decide_eq_true (by omega)
  have b7 : decide (i < B.oe.length) = true := decide_eq_true (by omega)
  have b8 : decide (i < B.oz.length) = true := decide_eq_true (by omega)
  have b9 : decide (i < B.op.length) = true := decide_eq_true (by omega)
  have i1 : IntKind.wrap IntKind.i64 ((i : Int) + 1) = ((i + 1 : Nat) : Int) := by rw [wrap_i64 (by omega) (by omega)]; omega
  have q0 : (B.ok.getD i 0 == 0) = false := beq_eq_false_iff_ne.2 c0
  have q1 : (B.ok.getD i 0 == 1) = false := beq_eq_false_iff_ne.2 c1
  have q2 : (B.ok.getD i 0 == 2) = false := beq_eq_false_iff_ne.2 c2
  have q3 : (B.ok.getD i 0 == 3) = true := beq_iff_eq.2 c3
  obtain ⟨k1, k0, n8, n16⟩ := rowFacts L e ho.len ho.room
  have r1 := rowsN_cols L e
  have r0 := rowsN_cols L 0
  obtain ⟨kk1, kk0, m8, m16⟩ := rowFacts L1 e1 ho1.len ho1.room
  have rr1 := rowsN_cols L1 e1
  have rr0 := rowsN_cols L1 0
  refine (t_doS (fD L1 e1) L1 e1 ul m c c' L.length e L.length b i B.zs B.ok B.os B.od B.oa B.ow B.ov B.oe B.oz B.op ws _ _ _ _ _ _ _ _ _ _ K).trans ?_
  repeat (first | (refine (ctr ?_).trans ?_; · (simp only [fD, d1, d2, d3, b1, b2, b3, b4, b5, b6, b7, b8, b9, Int.toNat_natCast, Nat.zero_add, Bool.and_self, Bool.and_true, Bool.true_and, bne_self_eq_false, beq_self_eq_true, Bool.not_true, Bool.not_false, hm, hw, iD, iA, iZ, i1, k1, k0, r1, r0, n8, n16, q0, q1, q2, q3, kk1, kk0, rr1, rr0, m16, hq, hx, hn]; done)) | (refine (cfr ?_).trans ?_; · (simp only [fD, d1, d2, d3, b1, b2, b3, b4, b5, b6, b7, b8, b9, Int.toNat_natCast, Nat.zero_add, Bool.and_self, Bool.and_true, Bool.true_and, bne_self_eq_false, beq_self_eq_true, Bool.not_true, Bool.not_false, hm, hw, iD, iA, iZ, i1, k1, k0, r1, r0, n8, n16, q0, q1, q2, q3, kk1, kk0, rr1, rr0, m16, hq, hx, hn]; done)))
  (try rw [Int.toNat_natCast, Nat.zero_add]); (try rw [r0]); rw [i1]; rfl
set_option maxHeartbeats 8000000 in
theorem doS3y (ul m c c' i : Nat) (B : Od) (ws : List Int) (L : List Ro) (e : Nat) (b : Bool) (L1 : List Ro) (e1 : Nat) (hB : OdOk B ul) (hm : okM m ws = true) (hw : allW ws = true) (ho : InvW L e) (h1 : i < ul) (h60 : i < 60) (K : HeadK) (c0 : ¬ B.ok.getD i 0 = 0) (c1 : ¬ B.ok.getD i 0 = 1) (c2 : ¬ B.ok.getD i 0 = 2) (c3 : B.ok.getD i 0 = 3) (hL1 : L1 = []) (ho1 : InvW L1 e1) (hq : gQ L1 e1 (B.os.getD i 0) L e = true) (hx : gR L1 (B.os.getD i 0) L = true) (hn : flN0 (B.os.getD i 0) L = true) :
    bodyR Try.prog (sDo (fD L1 e1) L1 e1) lNil iDo 60 (loopOf Try.prog 5 0) (vDo ul i) [bRw B.zs, bOd B, bM 6 m c, bM 7 m c', bT 8 L.length e, bXs 9 L.length b, bW ws, bW ws, bCL L e, bCL L 0] K = K .normal (vDo ul (i + 1 : Nat)) [bRw B.zs, bOd B, bM 6 m c, bM 7 m c', bT 8 0 e1, bT0, bW ws, bW ws, bCL [] e1] := by
  obtain ⟨hD, hA, hZ, hV, l1, l2, l3, l4, l5, l6, l7, l8, l9⟩ := hB
  have iD := getD_allI hD i
  have iA := getD_allI hA i
  have iZ := getD_allI hZ i
  have d1 : decide ((i : Int) < (ul : Int)) = true := decide_eq_true (by omega)
  have d2 : decide ((i : Int) < 60) = true := decide_eq_true (by omega)
  have d3 : decide ((0 : Int) ≤ (i : Int)) = true := decide_eq_true (by omega)
  have b1 : decide (i < B.ok.length) = true := decide_eq_true (by omega)
  have b2 : decide (i < B.os.length) = true := decide_eq_true (by omega)
  have b3 : decide (i < B.od.length) = true := decide_eq_true (by omega)
  have b4 : decide (i < B.oa.length) = true := decide_eq_true (by omega)
  have b5 : decide (i < B.ow.length) = true := decide_eq_true (by omega)
  have b6 : decide (i < B.ov.length) = true := decide_eq_true (by omega)
  have b7 : decide (i < B.oe.length) = true := decide_eq_true (by omega)
  have b8 : decide (i < B.oz.length) = true := decide_eq_true (by omega)
  have b9 : decide (i < B.op.length) = true := decide_eq_true (by omega)
  have i1 : IntKind.wrap IntKind.i64 ((i : Int) + 1) = ((i + 1 : Nat) : Int) := by rw [wrap_i64 (by omega) (by omega)]; omega
  have q0 : (B.ok.getD i 0 == 0) = false := beq_eq_false_iff_ne.2 c0
  have q1 : (B.ok.getD i 0 == 1) = false := beq_eq_false_iff_ne.2 c1
  have q2 : (B.ok.getD i 0 == 2) = false := beq_eq_false_iff_ne.2 c2
  have q3 : (B.ok.getD i 0 == 3) = true := beq_iff_eq.2 c3
  obtain ⟨k1, k0, n8, n16⟩ := rowFacts L e ho.len ho.room
  have r1 := rowsN_cols L e
  have r0 := rowsN_cols L 0
  subst hL1
  obtain ⟨kk1, kk0, m8, m16⟩ := rowFacts [] e1 ho1.len ho1.room
  have rr1 := rowsN_cols [] e1
  have rr0 := rowsN_cols [] 0
  have z1 : ktV (B.os.getD i 0) (B.oa.getD i 0) [] = false := rfl
  have z2 : ktW (B.os.getD i 0) (B.oa.getD i 0) [] = false := rfl
  have z3 : ktA (B.os.getD i 0) (B.oa.getD i 0) [] = 0 := rfl
  have z4 : ktI (B.os.getD i 0) (B.oa.getD i 0) [] = false := rfl
  have z5 : agL ws (B.os.getD i 0) (B.od.getD i 0) [] = true := rfl
  have z6 : (((([] : List Ro).length : Nat) : Int) != 0) = false := rfl
  refine (t_doS (fD [] e1) [] e1 ul m c c' L.length e L.length b i B.zs B.ok B.os B.od B.oa B.ow B.ov B.oe B.oz B.op ws _ _ _ _ _ _ _ _ _ _ K).trans ?_
  repeat (first | (refine (ctr ?_).trans ?_; · (simp only [fD, d1, d2, d3, b1, b2, b3, b4, b5, b6, b7, b8, b9, Int.toNat_natCast, Nat.zero_add, Bool.and_self, Bool.and_true, Bool.true_and, bne_self_eq_false, beq_self_eq_true, Bool.not_true, Bool.not_false, hm, hw, iD, iA, iZ, i1, k1, k0, r1, r0, n8, n16, q0, q1, q2, q3, kk1, kk0, rr1, rr0, m16, hq, hx, hn, z1, z2, z3, z4, z5, z6]; done)) | (refine (cfr ?_).trans ?_; · (simp only [fD, d1, d2, d3, b1, b2, b3, b4, b5, b6, b7, b8, b9, Int.toNat_natCast, Nat.zero_add, Bool.and_self, Bool.and_true, Bool.true_and, bne_self_eq_false, beq_self_eq_true, Bool.not_true, Bool.not_false, hm, hw, iD, iA, iZ, i1, k1, k0, r1, r0, n8, n16, q0, q1, q2, q3, kk1, kk0, rr1, rr0, m16, hq, hx, hn, z1, z2, z3, z4, z5, z6]; done)))
  (try rw [Int.toNat_natCast, Nat.zero_add]); (try rw [r0]); rw [i1]; rfl
set_option maxHeartbeats 8000000 in
theorem doS4 (ul m c c' i : Nat) (B : Od) (ws : List Int) (L : List Ro) (e : Nat) (b : Bool) (L1 : List Ro) (e1 : Nat) (hB : OdOk B ul) (hm : okM m ws = true) (hw : allW ws = true) (ho : InvW L e) (h1 : i < ul) (h60 : i < 60) (K : HeadK) (c0 : ¬ B.ok.getD i 0 = 0) (c1 : ¬ B.ok.getD i 0 = 1) (c2 : ¬ B.ok.getD i 0 = 2) (c3 : ¬ B.ok.getD i 0 = 3) (c4 : B.ok.getD i 0 = 4) :
    bodyR Try.prog (sDo (fD L1 e1) L1 e1) lNil iDo 60 (loopOf Try.prog 5 0) (vDo ul i) [bRw B.zs, bOd B, bM 6 m c, bM 7 m c', bT 8 L.length e, bXs 9 L.length b, bW ws, bW ws, bCL L e, bCL L 0] K = K .normal (vDo ul (i + 1 : Nat)) [bRw B.zs, bOd B, bM 6 m c, bM 7 m c', bT 8 (L).length e, bXs 9 (L).length b, bW (putW ws (B.oa.getD i 0) (B.op.getD i 0)), bW (putW ws (B.oa.getD i 0) (B.op.getD i 0)), bCL L e, bCL L 0] := by
  obtain ⟨hD, hA, hZ, hV, l1, l2, l3, l4, l5, l6, l7, l8, l9⟩ := hB
  have iD := getD_allI hD i
  have iA := getD_allI hA i
  have iZ := getD_allI hZ i
  have d1 : decide ((i : Int) < (ul : Int)) = true := decide_eq_true (by omega)
  have d2 : decide ((i : Int) < 60) = true := decide_eq_true (by omega)
  have d3 : decide ((0 : Int) ≤ (i : Int)) = true := decide_eq_true (by omega)
  have b1 : decide (i < B.ok.length) = true := decide_eq_true (by omega)
  have b2 : decide (i < B.os.length) = true := decide_eq_true (by omega)
  have b3 : decide (i < B.od.length) = true := decide_eq_true (by omega)
  have b4 : decide (i < B.oa.length) = true := decide_eq_true (by omega)
  have b5 : decide (i < B.ow.length) = true := decide_eq_true (by omega)
  have b6 : decide (i < B.ov.length) = true := decide_eq_true (by omega)
  have b7 : decide (i < B.oe.length) = true := decide_eq_true (by omega)
  have b8 : decide (i < B.oz.length) = true := decide_eq_true (by omega)
  have b9 : decide (i < B.op.length) = true := decide_eq_true (by omega)
  have i1 : IntKind.wrap IntKind.i64 ((i : Int) + 1) = ((i + 1 : Nat) : Int) := by rw [wrap_i64 (by omega) (by omega)]; omega
  have q0 : (B.ok.getD i 0 == 0) = false := beq_eq_false_iff_ne.2 c0
  have q1 : (B.ok.getD i 0 == 1) = false := beq_eq_false_iff_ne.2 c1
  have q2 : (B.ok.getD i 0 == 2) = false := beq_eq_false_iff_ne.2 c2
  have q3 : (B.ok.getD i 0 == 3) = false := beq_eq_false_iff_ne.2 c3
  have q4 : (B.ok.getD i 0 == 4) = true := beq_iff_eq.2 c4
  obtain ⟨k1, k0, n8, n16⟩ := rowFacts L e ho.len ho.room
  have r1 := rowsN_cols L e
  have r0 := rowsN_cols L 0
  have hm' : okM m (putW ws (B.oa.getD i 0) (B.op.getD i 0)) = true := by
    unfold okM at hm ⊢
    rw [putW_len]; exact hm
  have hw' : allW (putW ws (B.oa.getD i 0) (B.op.getD i 0)) = true := putW_all hw (getD_all hV i)
  refine (t_doS (fD L1 e1) L1 e1 ul m c c' L.length e L.length b i B.zs B.ok B.os B.od B.oa B.ow B.ov B.oe B.oz B.op ws _ _ _ _ _ _ _ _ _ _ K).trans ?_
  repeat (first | (refine (ctr ?_).trans ?_; · (simp only [fD, d1, d2, d3, b1, b2, b3, b4, b5, b6, b7, b8, b9, Int.toNat_natCast, Nat.zero_add, Bool.and_self, Bool.and_true, Bool.true_and, bne_self_eq_false, beq_self_eq_true, Bool.not_true, Bool.not_false, hm, hw, iD, iA, iZ, i1, k1, k0, r1, r0, n8, n16, q0, q1, q2, q3, q4, hm', hw']; done)) | (refine (cfr ?_).trans ?_; · (simp only [fD, d1, d2, d3, b1, b2, b3, b4, b5, b6, b7, b8, b9, Int.toNat_natCast, Nat.zero_add, Bool.and_self, Bool.and_true, Bool.true_and, bne_self_eq_false, beq_self_eq_true, Bool.not_true, Bool.not_false, hm, hw, iD, iA, iZ, i1, k1, k0, r1, r0, n8, n16, q0, q1, q2, q3, q4, hm', hw']; done)))
  (try rw [Int.toNat_natCast, Nat.zero_add]); (try rw [r0]); rw [i1]; rfl
set_option maxHeartbeats 8000000 in
theorem doS5 (ul m c c' i : Nat) (B : Od) (ws : List Int) (L : List Ro) (e : Nat) (b : Bool) (L1 : List Ro) (e1 : Nat) (hB : OdOk B ul) (hm : okM m ws = true) (hw : allW ws = true) (ho : InvW L e) (h1 : i < ul) (h60 : i < 60) (K : HeadK) (c0 : ¬ B.ok.getD i 0 = 0) (c1 : ¬ B.ok.getD i 0 = 1) (c2 : ¬ B.ok.getD i 0 = 2) (c3 : ¬ B.ok.getD i 0 = 3) (c4 : ¬ B.ok.getD i 0 = 4) :
    bodyR Try.prog (sDo (fD L1 e1) L1 e1) lNil iDo 60 (loopOf Try.prog 5 0) (vDo ul i) [bRw B.zs, bOd B, bM 6 m c, bM 7 m c', bT 8 L.length e, bXs 9 L.length b, bW ws, bW ws, bCL L e, bCL L 0] K = K .normal (vDo ul (i + 1 : Nat)) [bRw B.zs, bOd B, bM 6 m c, bM 7 m c', bT 8 (L).length e, bXs 9 (L).length b, bW ws, bW ws, bCL L e, bCL L 0] := by
  obtain ⟨hD, hA, hZ, hV, l1, l2, l3, l4, l5, l6, l7, l8, l9⟩ := hB
  have iD := getD_allI hD i
  have iA := getD_allI hA i
  have iZ := getD_allI hZ i
  have d1 : decide ((i : Int) < (ul : Int)) = true := decide_eq_true (by omega)
  have d2 : decide ((i : Int) < 60) = true := decide_eq_true (by omega)
  have d3 : decide ((0 : Int) ≤ (i : Int)) = true := decide_eq_true (by omega)
  have b1 : decide (i < B.ok.length) = true := decide_eq_true (by omega)
  have b2 : decide (i < B.os.length) = true := decide_eq_true (by omega)
  have b3 : decide (i < B.od.length) = true := decide_eq_true (by omega)
  have b4 : decide (i < B.oa.length) = true := decide_eq_true (by omega)
  have b5 : decide (i < B.ow.length) = true := decide_eq_true (by omega)
  have b6 : decide (i < B.ov.length) = true := decide_eq_true (by omega)
  have b7 : decide (i < B.oe.length) = true := decide_eq_true (by omega)
  have b8 : decide (i < B.oz.length) = true := decide_eq_true (by omega)
  have b9 : decide (i < B.op.length) = true := decide_eq_true (by omega)
  have i1 : IntKind.wrap IntKind.i64 ((i : Int) + 1) = ((i + 1 : Nat) : Int) := by rw [wrap_i64 (by omega) (by omega)]; omega
  have q0 : (B.ok.getD i 0 == 0) = false := beq_eq_false_iff_ne.2 c0
  have q1 : (B.ok.getD i 0 == 1) = false := beq_eq_false_iff_ne.2 c1
  have q2 : (B.ok.getD i 0 == 2) = false := beq_eq_false_iff_ne.2 c2
  have q3 : (B.ok.getD i 0 == 3) = false := beq_eq_false_iff_ne.2 c3
  have q4 : (B.ok.getD i 0 == 4) = false := beq_eq_false_iff_ne.2 c4
  obtain ⟨k1, k0, n8, n16⟩ := rowFacts L e ho.len ho.room
  have r1 := rowsN_cols L e
  have r0 := rowsN_cols L 0
  refine (t_doS (fD L1 e1) L1 e1 ul m c c' L.length e L.length b i B.zs B.ok B.os B.od B.oa B.ow B.ov B.oe B.oz B.op ws _ _ _ _ _ _ _ _ _ _ K).trans ?_
  repeat (first | (refine (ctr ?_).trans ?_; · (simp only [fD, d1, d2, d3, b1, b2, b3, b4, b5, b6, b7, b8, b9, Int.toNat_natCast, Nat.zero_add, Bool.and_self, Bool.and_true, Bool.true_and, bne_self_eq_false, beq_self_eq_true, Bool.not_true, Bool.not_false, hm, hw, iD, iA, iZ, i1, k1, k0, r1, r0, n8, n16, q0, q1, q2, q3, q4]; done)) | (refine (cfr ?_).trans ?_; · (simp only [fD, d1, d2, d3, b1, b2, b3, b4, b5, b6, b7, b8, b9, Int.toNat_natCast, Nat.zero_add, Bool.and_self, Bool.and_true, Bool.true_and, bne_self_eq_false, beq_self_eq_true, Bool.not_true, Bool.not_false, hm, hw, iD, iA, iZ, i1, k1, k0, r1, r0, n8, n16, q0, q1, q2, q3, q4]; done)))
  (try rw [Int.toNat_natCast, Nat.zero_add]); (try rw [r0]); rw [i1]; rfl
end Go.Proofs.Ytnloobnpgkpbhaa.Wlk
namespace Go.Proofs.Ytnloobnpgkpbhaa.Wlk
open Go Go.Eng Go.Proofs Go.RowKit
theorem rowFactsM (L : List Ro) (e : Nat) (h8 : L.length ≤ 8) (h16 : L.length + e ≤ 16) : okK L.length e (cS L e) (cP L e) (cV L e) (cW L e) (cA L e) = true ∧ okK L.length 0 (cS L 0) (cP L 0) (cV L 0) (cW L 0) (cA L 0) = true ∧ Nat.ble L.length 8 = true ∧ Nat.ble L.length 16 = true :=
  ⟨okK_self L e (by omega), okK_self L 0 (by omega), Nat.ble_eq_true_of_le h8, Nat.ble_eq_true_of_le (by omega)⟩
set_option maxHeartbeats 8000000 in
theorem doM0y (ul m c c' i : Nat) (B : Od) (ws : List Int) (L : List Ro) (hL0 : L = []) (e : Nat) (L1 : List Ro) (e1 : Nat) (hB : OdOk B ul) (hm : okM m ws = true) (hw : allW ws = true) (ho : InvW L e) (h1 : i < ul) (h60 : i < 60) (K : HeadK) (c0 : B.ok.getD i 0 = 0) (hl : L1.length = 1) (ho1 : InvW L1 e1) (hc : tC ws [] (B.os.getD i 0) (B.od.getD i 0) (B.oa.getD i 0) = true) (hq : tQ L1 e1 ws [] e (B.os.getD i 0) (B.od.getD i 0) (B.oa.getD i 0) = true) (hx : xQ L1 ws [] (B.os.getD i 0) (B.od.getD i 0) (B.oa.getD i 0) = true) (t : Bool) (ht : tW [] (B.os.getD i 0) (B.oa.getD i 0) e = t) :
    bodyR Try.prog (sDo (fD L1 e1) L1 e1) lNil iDo 60 (loopOf Try.prog 5 0) (vDo ul i) [bRw B.zs, bOd B, bM 6 m c, bM 7 m c', bT 8 ([] : List Ro).length e, bT0, bW ws, bW ws, bCL [] e] K = K .normal (vDo ul (i + 1 : Nat)) [bRw B.zs, bOd B, bM 6 m c, bM 7 m c', bT 8 (L1).length e1, bXs 9 1 false, bW ws, bW ws, bCL L1 e1, bCL L1 0] := by
  subst hL0
  obtain ⟨hD, hA, hZ, hV, l1, l2, l3, l4, l5, l6, l7, l8, l9⟩ := hB
  have iD := getD_allI hD i
  have iA := getD_allI hA i
  have iZ := getD_allI hZ i
  have d1 : decide ((i : Int) < (ul : Int)) = true := decide_eq_true (by omega)
  have d2 : decide ((i : Int) < 60) = true := decide_eq_true (by omega)
  have d3 : decide ((0 : Int) ≤ (i : Int)) = true := decide_eq_true (by omega)
  have b1 : decide (i < B.ok.length) = true := decide_eq_true (by omega)
  have b2 : decide (i < B.os.length) = true := decide_eq_true (by omega)
  have b3 : decide (i < B.od.length) = true := decide_eq_true (by omega)
  have b4 : decide (i < B.oa.length) = true := decide_eq_true (by omega)
  have b5 : decide (i < B.ow.length) = true := decide_eq_true (by omega)
  have b6 : decide (i < B.ov.length) = true := decide_eq_true (by omega)
  have b7 : decide (i < B.oe.length) = true := decide_eq_true (by omega)
  have b8 : decide (i < B.oz.length) = true := decide_eq_true (by omega)
  have b9 : decide (i < B.op.length) = true := decide_eq_true (by omega)
  have i1 : IntKind.wrap IntKind.i64 ((i : Int) + 1) = ((i + 1 : Nat) : Int) := by rw [wrap_i64 (by omega) (by omega)]; omega
  have q0 : (B.ok.getD i 0 == 0) = true := beq_iff_eq.2 c0
  obtain ⟨k1, k0, n8, n16⟩ := rowFactsM [] e ho.len ho.room
  have r1 := rowsN_cols [] e
  have r0 := rowsN_cols [] 0
  obtain ⟨kk1, kk0, m8, m16⟩ := rowFactsM L1 e1 ho1.len ho1.room
  have rr1 := rowsN_cols L1 e1
  have rr0 := rowsN_cols L1 0
  have o1 := okK_self L1 0 (by rw [hl]; decide)
  have o2 := rowsN_cols L1 0
  rw [hl] at o1 o2
  have p3 : Nat.ble 1 16 = true := rfl
  have p5 : (((L1.length : Nat) : Int) != 1) = false := by rw [hl]; rfl
  cases t
  all_goals (
    refine (t_doM (fD L1 e1) L1 e1 ul m c c' ([] : List Ro).length e i B.zs B.ok B.os B.od B.oa B.ow B.ov B.oe B.oz B.op ws _ _ _ _ _ K).trans ?_
    repeat (first | (refine (ctr ?_).trans ?_; · (simp only [fD, d1, d2, d3, b1, b2, b3, b4, b5, b6, b7, b8, b9, Int.toNat_natCast, Nat.zero_add, Bool.and_self, Bool.and_true, Bool.true_and, bne_self_eq_false, beq_self_eq_true, Bool.not_true, Bool.not_false, hm, hw, iD, iA, iZ, i1, k1, k0, r1, r0, n8, n16, q0, kk1, kk0, rr1, rr0, m16, hc, hq, hx, ht, o1, o2, p3, p5]; done)) | (refine (cfr ?_).trans ?_; · (simp only [fD, d1, d2, d3, b1, b2, b3, b4, b5, b6, b7, b8, b9, Int.toNat_natCast, Nat.zero_add, Bool.and_self, Bool.and_true, Bool.true_and, bne_self_eq_false, beq_self_eq_true, Bool.not_true, Bool.not_false, hm, hw, iD, iA, iZ, i1, k1, k0, r1, r0, n8, n16, q0, kk1, kk0, rr1, rr0, m16, hc, hq, hx, ht, o1, o2, p3, p5]; done)))
    (try rw [Int.toNat_natCast, Nat.zero_add]); (try rw [r0]); rw [i1]; rfl)
set_option maxHeartbeats 8000000 in
theorem doM0n (ul m c c' i : Nat) (B : Od) (ws : List Int) (L : List Ro) (hL0 : L = []) (e : Nat) (L1 : List Ro) (e1 : Nat) (hB : OdOk B ul) (hm : okM m ws = true) (hw : allW ws = true) (ho : InvW L e) (h1 : i < ul) (h60 : i < 60) (K : HeadK) (c0 : B.ok.getD i 0 = 0) (hc : tC ws [] (B.os.getD i 0) (B.od.getD i 0) (B.oa.getD i 0) = false) :
    bodyR Try.prog (sDo (fD L1 e1) L1 e1) lNil iDo 60 (loopOf Try.prog 5 0) (vDo ul i) [bRw B.zs, bOd B, bM 6 m c, bM 7 m c', bT 8 ([] : List Ro).length e, bT0, bW ws, bW ws, bCL [] e] K = K .normal (vDo ul (i + 1 : Nat)) [bRw B.zs, bOd B, bM 6 m c, bM 7 m c', bT 8 0 e, bT0, bW ws, bW ws, bCL [] e] := by
  subst hL0
  obtain ⟨hD, hA, hZ, hV, l1, l2, l3, l4, l5, l6, l7, l8, l9⟩ := hB
  have iD := getD_allI hD i
  have iA := getD_allI hA i
  have iZ := getD_allI hZ i
  have d1 : decide ((i : Int) < (ul : Int)) = true := decide_eq_true (by omega)
  have d2 : decide ((i : Int) < 60) = true := decide_eq_true (by omega)
  have d3 : decide ((0 : Int) ≤ (i : Int)) = true := decide_eq_true (by omega)
  have b1 : decide (i < B.ok.length) = true := decide_eq_true (by omega)
  have b2 : decide (i < B.os.length) = true := decide_eq_true (by omega)
  have b3 : decide (i < B.od.length) = true := decide_eq_true (by omega)
  have b4 : decide (i < B.oa.length) = true := decide_eq_true (by omega)
  have b5 : decide (i < B.ow.length) = true := decide_eq_true (by omega)
  have b6 : decide (i < B.ov.length) = true := decide_eq_true (by omega)
  have b7 : decide (i < B.oe.length) = true := decide_eq_true (by omega)
  have b8 : decide (i < B.oz.length) = true := decide_eq_true (by omega)
  have b9 : decide (i < B.op.length) = true := decide_eq_true (by omega)
  have i1 : IntKind.wrap IntKind.i64 ((i : Int) + 1) = ((i + 1 : Nat) : Int) := by rw [wrap_i64 (by omega) (by omega)]; omega
  have q0 : (B.ok.getD i 0 == 0) = true := beq_iff_eq.2 c0
  obtain ⟨k1, k0, n8, n16⟩ := rowFactsM [] e ho.len ho.room
  have r1 := rowsN_cols [] e
  have r0 := rowsN_cols [] 0
  obtain ⟨y1, y2, y3, y4⟩ := rowFactsM [] e ho.len ho.room
  have y5 := rowsN_cols [] e
  have y6 := rowsN_cols [] 0
  have z1 : ktV (B.os.getD i 0) (B.oa.getD i 0) [] = false := rfl
  have z2 : ktW (B.os.getD i 0) (B.oa.getD i 0) [] = false := rfl
  have z3 : ktA (B.os.getD i 0) (B.oa.getD i 0) [] = 0 := rfl
  have z4 : ktI (B.os.getD i 0) (B.oa.getD i 0) [] = false := rfl
  have z5 : agL ws (B.os.getD i 0) (B.od.getD i 0) [] = true := rfl
  have z6 : (((([] : List Ro).length : Nat) : Int) != 0) = false := rfl
  refine (t_doM (fD L1 e1) L1 e1 ul m c c' ([] : List Ro).length e i B.zs B.ok B.os B.od B.oa B.ow B.ov B.oe B.oz B.op ws _ _ _ _ _ K).trans ?_
  repeat (first | (refine (ctr ?_).trans ?_; · (simp only [fD, d1, d2, d3, b1, b2, b3, b4, b5, b6, b7, b8, b9, Int.toNat_natCast, Nat.zero_add, Bool.and_self, Bool.and_true, Bool.true_and, bne_self_eq_false, beq_self_eq_true, Bool.not_true, Bool.not_false, hm, hw, iD, iA, iZ, i1, k1, k0, r1, r0, n8, n16, q0, hc, z1, z2, z3, z4, z5, z6]; done)) | (refine (cfr ?_).trans ?_; · (simp only [fD, d1, d2, d3, b1, b2, b3, b4, b5, b6, b7, b8, b9, Int.toNat_natCast, Nat.zero_add, Bool.and_self, Bool.and_true, Bool.true_and, bne_self_eq_false, beq_self_eq_true, Bool.not_true, Bool.not_false, hm, hw, iD, iA, iZ, i1, k1, k0, r1, r0, n8, n16, q0, hc, z1, z2, z3, z4, z5, z6]; done)))
  (try rw [Int.toNat_natCast, Nat.zero_add]); (try rw [r0]); rw [i1]; rfl
set_option maxHeartbeats 8000000 in
theorem doM1y (ul m c c' i : Nat) (B : Od) (ws : List Int) (L : List Ro) (hL0 : L = []) (e : Nat) (L1 : List Ro) (e1 : Nat) (hB : OdOk B ul) (hm : okM m ws = true) (hw : allW ws = true) (ho : InvW L e) (h1 : i < ul) (h60 : i < 60) (K : HeadK) (c0 : ¬ B.ok.getD i 0 = 0) (c1 : B.ok.getD i 0 = 1) (hl : L1.length = 1) (ho1 : InvW L1 e1) (hc : filE (B.os.getD i 0) (B.oa.getD i 0) (B.ov.getD i false) (B.oe.getD i false) (B.oz.getD i 0) = 0) (hq : fQ L1 e1 (B.os.getD i 0) (B.oa.getD i 0) (B.ov.getD i false) (B.oe.getD i false) (B.oz.getD i 0) [] e = true) (hx : yQ L1 (B.os.getD i 0) (B.oa.getD i 0) (B.ov.getD i false) (B.oe.getD i false) (B.oz.getD i 0) [] = true) (t : Bool) (ht : fillN (B.os.getD i 0) (B.oa.getD i 0) [] e = t) :
    bodyR Try.prog (sDo (fD L1 e1) L1 e1) lNil iDo 60 (loopOf Try.prog 5 0) (vDo ul i) [bRw B.zs, bOd B, bM 6 m c, bM 7 m c', bT 8 ([] : List Ro).length e, bT0, bW ws, bW ws, bCL [] e] K = K .normal (vDo ul (i + 1 : Nat)) [bRw B.zs, bOd B, bM 6 m c, bM 7 m c', bT 8 (L1).length e1, bXs 9 1 false, bW ws, bW ws, bCL L1 e1, bCL L1 0] := by
  subst hL0
  obtain ⟨hD, hA, hZ, hV, l1, l2, l3, l4, l5, l6, l7, l8, l9⟩ := hB
  have iD := getD_allI hD i
  have iA := getD_allI hA i
  have iZ := getD_allI hZ i
  have d1 : decide ((i : Int) < (ul : Int)) = true := decide_eq_true (by omega)
  have d2 : decide ((i : Int) < 60) = true := decide_eq_true (by omega)
  have d3 : decide ((0 : Int) ≤ (i : Int)) = true := decide_eq_true (by omega)
  have b1 : decide (i < B.ok.length) = true := decide_eq_true (by omega)
  have b2 : decide (i < B.os.length) = true := decide_eq_true (by omega)
  have b3 : decide (i < B.od.length) = true := decide_eq_true (by omega)
  have b4 : decide (i < B.oa.length) = true := decide_eq_true (by omega)
  have b5 : decide (i < B.ow.length) = true := decide_eq_true (by omega)
  have b6 : decide (i < B.ov.length) = true := decide_eq_true (by omega)
  have b7 : decide (i < B.oe.length) = true := decide_eq_true (by omega)
  have b8 : decide (i < B.oz.length) = true := decide_eq_true (by omega)
  have b9 : decide (i < B.op.length) = true := decide_eq_true (by omega)
  have i1 : IntKind.wrap IntKind.i64 ((i : Int) + 1) = ((i + 1 : Nat) : Int) := by rw [wrap_i64 (by omega) (by omega)]; omega
  have q0 : (B.ok.getD i 0 == 0) = false := beq_eq_false_iff_ne.2 c0
  have q1 : (B.ok.getD i 0 == 1) = true := beq_iff_eq.2 c1
  obtain ⟨k1, k0, n8, n16⟩ := rowFactsM [] e ho.len ho.room
  have r1 := rowsN_cols [] e
  have r0 := rowsN_cols [] 0
  obtain ⟨kk1, kk0, m8, m16⟩ := rowFactsM L1 e1 ho1.len ho1.room
  have rr1 := rowsN_cols L1 e1
  have rr0 := rowsN_cols L1 0
  have o1 := okK_self L1 0 (by rw [hl]; decide)
  have o2 := rowsN_cols L1 0
  rw [hl] at o1 o2
  have p3 : Nat.ble 1 16 = true := rfl
  have p5 : (((L1.length : Nat) : Int) != 1) = false := by rw [hl]; rfl
  have hc2 : decide (filE (B.os.getD i 0) (B.oa.getD i 0) (B.ov.getD i false) (B.oe.getD i false) (B.oz.getD i 0) = 0) = true := decide_eq_true hc
  cases t
  all_goals (
    refine (t_doM (fD L1 e1) L1 e1 ul m c c' ([] : List Ro).length e i B.zs B.ok B.os B.od B.oa B.ow B.ov B.oe B.oz B.op ws _ _ _ _ _ K).trans ?_
    repeat (first | (refine (ctr ?_).trans ?_; · (simp only [fD, d1, d2, d3, b1, b2, b3, b4, b5, b6, b7, b8, b9, Int.toNat_natCast, Nat.zero_add, Bool.and_self, Bool.and_true, Bool.true_and, bne_self_eq_false, beq_self_eq_true, Bool.not_true, Bool.not_false, hm, hw, iD, iA, iZ, i1, k1, k0, r1, r0, n8, n16, q0, q1, kk1, kk0, rr1, rr0, m16, hc2, hq, hx, ht, o1, o2, p3, p5]; done)) | (refine (cfr ?_).trans ?_; · (simp only [fD, d1, d2, d3, b1, b2, b3, b4, b5, b6, b7, b8, b9, Int.toNat_natCast, Nat.zero_add, Bool.and_self, Bool.and_true, Bool.true_and, bne_self_eq_false, beq_self_eq_true, Bool.not_true, Bool.not_false, hm, hw, iD, iA, iZ, i1, k1, k0, r1, r0, n8, n16, q0, q1, kk1, kk0, rr1, rr0, m16, hc2, hq, hx, ht, o1, o2, p3, p5]; done)))
    (try rw [Int.toNat_natCast, Nat.zero_add]); (try rw [r0]); rw [i1]; rfl)
set_option maxHeartbeats 8000000 in
theorem doM1n (ul m c c' i : Nat) (B : Od) (ws : List Int) (L : List Ro) (hL0 : L = []) (e : Nat) (L1 : List Ro) (e1 : Nat) (hB : OdOk B ul) (hm : okM m ws = true) (hw : allW ws = true) (ho : InvW L e) (h1 : i < ul) (h60 : i < 60) (K : HeadK) (c0 : ¬ B.ok.getD i 0 = 0) (c1 : B.ok.getD i 0 = 1) (hc : ¬ filE (B.os.getD i 0) (B.oa.getD i 0) (B.ov.getD i false) (B.oe.getD i false) (B.oz.getD i 0) = 0) :
    bodyR Try.prog (sDo (fD L1 e1) L1 e1) lNil iDo 60 (loopOf Try.prog 5 0) (vDo ul i) [bRw B.zs, bOd B, bM 6 m c, bM 7 m c', bT 8 ([] : List Ro).length e, bT0, bW ws, bW ws, bCL [] e] K = K .normal (vDo ul (i + 1 : Nat)) [bRw B.zs, bOd B, bM 6 m c, bM 7 m c', bT 8 0 e, bT0, bW ws, bW ws, bCL [] e] := by
  subst hL0
  obtain ⟨hD, hA, hZ, hV, l1, l2, l3, l4, l5, l6, l7, l8, l9⟩ := hB
  have iD := getD_allI hD i
  have iA := getD_allI hA i
  have iZ := getD_allI hZ i
  have d1 : decide ((i : Int) < (ul : Int)) = true := decide_eq_true (by omega)
  have d2 : decide ((i : Int) < 60) = true := decide_eq_true (by omega)
  have d3 : decide ((0 : Int) ≤ (i : Int)) = true := decide_eq_true (by omega)
  have b1 : decide (i < B.ok.length) = true := decide_eq_true (by omega)
  have b2 : decide (i < B.os.length) = true := decide_eq_true (by omega)
  have b3 : decide (i < B.od.length) = true := decide_eq_true (by omega)
  have b4 : decide (i < B.oa.length) = true := decide_eq_true (by omega)
  have b5 : decide (i < B.ow.length) = true := decide_eq_true (by omega)
  have b6 : decide (i < B.ov.length) = true := decide_eq_true (by omega)
  have b7 : decide (i < B.oe.length) = true := decide_eq_true (by omega)
  have b8 : decide (i < B.oz.length) = true := decide_eq_true (by omega)
  have b9 : decide (i < B.op.length) = true := decide_eq_true (by omega)
  have i1 : IntKind.wrap IntKind.i64 ((i : Int) + 1) = ((i + 1 : Nat) : Int) := by rw [wrap_i64 (by omega) (by omega)]; omega
  have q0 : (B.ok.getD i 0 == 0) = false := beq_eq_false_iff_ne.2 c0
  have q1 : (B.ok.getD i 0 == 1) = true := beq_iff_eq.2 c1
  obtain ⟨k1, k0, n8, n16⟩ := rowFactsM [] e ho.len ho.room
  have r1 := rowsN_cols [] e
  have r0 := rowsN_cols [] 0
  obtain ⟨y1, y2, y3, y4⟩ := rowFactsM [] e ho.len ho.room
  have y5 := rowsN_cols [] e
  have y6 := rowsN_cols [] 0
  have z1 : ktV (B.os.getD i 0) (B.oa.getD i 0) [] = false := rfl
  have z2 : ktW (B.os.getD i 0) (B.oa.getD i 0) [] = false := rfl
  have z3 : ktA (B.os.getD i 0) (B.oa.getD i 0) [] = 0 := rfl
  have z4 : ktI (B.os.getD i 0) (B.oa.getD i 0) [] = false := rfl
  have z5 : agL ws (B.os.getD i 0) (B.od.getD i 0) [] = true := rfl
  have z6 : (((([] : List Ro).length : Nat) : Int) != 0) = false := rfl
  have hc2 : decide (filE (B.os.getD i 0) (B.oa.getD i 0) (B.ov.getD i false) (B.oe.getD i false) (B.oz.getD i 0) = 0) = false := decide_eq_false hc
  refine (t_doM (fD L1 e1) L1 e1 ul m c c' ([] : List Ro).length e i B.zs B.ok B.os B.od B.oa B.ow B.ov B.oe B.oz B.op ws _ _ _ _ _ K).trans ?_
  repeat (first | (refine (ctr ?_).trans ?_; · (simp only [fD, d1, d2, d3, b1, b2, b3, b4, b5, b6, b7, b8, b9, Int.toNat_natCast, Nat.zero_add, Bool.and_self, Bool.and_true, Bool.true_and, bne_self_eq_false, beq_self_eq_true, Bool.not_true, Bool.not_false, hm, hw, iD, iA, iZ, i1, k1, k0, r1, r0, n8, n16, q0, q1, hc2, z1, z2, z3, z4, z5, z6]; done)) | (refine (cfr ?_).trans ?_; · (simp only [fD, d1, d2, d3, b1, b2, b3, b4, b5, b6, b7, b8, b9, Int.toNat_natCast, Nat.zero_add, Bool.and_self, Bool.and_true, Bool.true_and, bne_self_eq_false, beq_self_eq_true, Bool.not_true, Bool.not_false, hm, hw, iD, iA, iZ, i1, k1, k0, r1, r0, n8, n16, q0, q1, hc2, z1, z2, z3, z4, z5, z6]; done)))
  (try rw [Int.toNat_natCast, Nat.zero_add]); (try rw [r0]); rw [i1]; rfl
set_option maxHeartbeats 8000000 in
theorem doM2 (ul m c c' i : Nat) (B : Od) (ws : List Int) (L : List Ro) (hL0 : L = []) (e : Nat) (L1 : List Ro) (e1 : Nat) (hB : OdOk B ul) (hm : okM m ws = true) (hw : allW ws = true) (ho : InvW L e) (h1 : i < ul) (h60 : i < 60) (K : HeadK) (c0 : ¬ B.ok.getD i 0 = 0) (c1 : ¬ B.ok.getD i 0 = 1) (c2 : B.ok.getD i 0 = 2) (hL1 : L1 = []) (ho1 : InvW L1 e1) (hq : dQ L1 e1 (B.os.getD i 0) (B.oa.getD i 0) [] e = true) :
    bodyR Try.prog (sDo (fD L1 e1) L1 e1) lNil iDo 60 (loopOf Try.prog 5 0) (vDo ul i) [bRw B.zs, bOd B, bM 6 m c, bM 7 m c', bT 8 ([] : List Ro).length e, bT0, bW ws, bW ws, bCL [] e] K = K .normal (vDo ul (i + 1 : Nat)) [bRw B.zs, bOd B, bM 6 m c, bM 7 m c', bT 8 0 e1, bT0, bW ws, bW ws, bCL [] e1] := by
  subst hL0
  obtain ⟨hD, hA, hZ, hV, l1, l2, l3, l4, l5, l6, l7, l8, l9⟩ := hB
  have iD := getD_allI hD i
  have iA := getD_allI hA i
  have iZ := getD_allI hZ i
  have d1 : decide ((i : Int) < (ul : Int)) = true := decide_eq_true (by omega)
  have d2 : decide ((i : Int) < 60) = true := decide_eq_true (by omega)
  have d3 : decide ((0 : Int) ≤ (i : Int)) = true := decide_eq_true (by omega)
  have b1 : decide (i < B.ok.length) = true := decide_eq_true (by omega)
  have b2 : decide (i < B.os.length) = true := decide_eq_true (by omega)
  have b3 : decide (i < B.od.length) = true := decide_eq_true (by omega)
  have b4 : decide (i < B.oa.length) = true := decide_eq_true (by omega)
  have b5 : decide (i < B.ow.length) = true := decide_eq_true (by omega)
  have b6 : decide (i < B.ov.length) = true := decide_eq_true (by omega)
  have b7 : decide (i < B.oe.length) = true := decide_eq_true (by omega)
  have b8 : decide (i < B.oz.length) = true := decide_eq_true (by omega)
  have b9 : decide (i < B.op.length) = true := decide_eq_true (by omega)
  have i1 : IntKind.wrap IntKind.i64 ((i : Int) + 1) = ((i + 1 : Nat) : Int) := by rw [wrap_i64 (by omega) (by omega)]; omega
  have q0 : (B.ok.getD i 0 == 0) = false := beq_eq_false_iff_ne.2 c0
  have q1 : (B.ok.getD i 0 == 1) = false := beq_eq_false_iff_ne.2 c1
  have q2 : (B.ok.getD i 0 == 2) = true := beq_iff_eq.2 c2
  obtain ⟨k1, k0, n8, n16⟩ := rowFactsM [] e ho.len ho.room
  have r1 := rowsN_cols [] e
  have r0 := rowsN_cols [] 0
  subst hL1
  obtain ⟨kk1, kk0, m8, m16⟩ := rowFactsM [] e1 ho1.len ho1.room
  have rr1 := rowsN_cols [] e1
  have rr0 := rowsN_cols [] 0
  have z1 : ktV (B.os.getD i 0) (B.oa.getD i 0) [] = false := rfl
  have z2 : ktW (B.os.getD i 0) (B.oa.getD i 0) [] = false := rfl
  have z3 : ktA (B.os.getD i 0) (B.oa.getD i 0) [] = 0 := rfl
  have z4 : ktI (B.os.getD i 0) (B.oa.getD i 0) [] = false := rfl
  have z5 : agL ws (B.os.getD i 0) (B.od.getD i 0) [] = true := rfl
  have z6 : (((([] : List Ro).length : Nat) : Int) != 0) = false := rfl
  refine (t_doM (fD [] e1) [] e1 ul m c c' ([] : List Ro).length e i B.zs B.ok B.os B.od B.oa B.ow B.ov B.oe B.oz B.op ws _ _ _ _ _ K).trans ?_
  repeat (first | (refine (ctr ?_).trans ?_; · (simp only [fD, d1, d2, d3, b1, b2, b3, b4, b5, b6, b7, b8, b9, Int.toNat_natCast, Nat.zero_add, Bool.and_self, Bool.and_true, Bool.true_and, bne_self_eq_false, beq_self_eq_true, Bool.not_true, Bool.not_false, hm, hw, iD, iA, iZ, i1, k1, k0, r1, r0, n8, n16, q0, q1, q2, kk1, kk0, rr1, rr0, m16, hq, z1, z2, z3, z4, z5, z6]; done)) | (refine (cfr ?_).trans ?_; · (simp only [fD, d1, d2, d3, b1, b2, b3, b4, b5, b6, b7, b8, b9, Int.toNat_natCast, Nat.zero_add, Bool.and_self, Bool.and_true, Bool.true_and, bne_self_eq_false, beq_self_eq_true, Bool.not_true, Bool.not_false, hm, hw, iD, iA, iZ, i1, k1, k0, r1, r0, n8, n16, q0, q1, q2, kk1, kk0, rr1, rr0, m16, hq, z1, z2, z3, z4, z5, z6]; done)))
  (try rw [Int.toNat_natCast, Nat.zero_add]); (try rw [r0]); rw [i1]; rfl
set_option maxHeartbeats 8000000 in
theorem doM3 (ul m c c' i : Nat) (B : Od) (ws : List Int) (L : List Ro) (hL0 : L = []) (e : Nat) (L1 : List Ro) (e1 : Nat) (hB : OdOk B ul) (hm : okM m ws = true) (hw : allW ws = true) (ho : InvW L e) (h1 : i < ul) (h60 : i < 60) (K : HeadK) (c0 : ¬ B.ok.getD i 0 = 0) (c1 : ¬ B.ok.getD i 0 = 1) (c2 : ¬ B.ok.getD i 0 = 2) (c3 : B.ok.getD i 0 = 3) (hL1 : L1 = []) (ho1 : InvW L1 e1) (hq : gQ L1 e1 (B.os.getD i 0) [] e = true) :
    bodyR Try.prog (sDo (fD L1 e1) L1 e1) lNil iDo 60 (loopOf Try.prog 5 0) (vDo ul i) [bRw B.zs, bOd B, bM 6 m c, bM 7 m c', bT 8 ([] : List Ro).length e, bT0, bW ws, bW ws, bCL [] e] K = K .normal (vDo ul (i + 1 : Nat)) [bRw B.zs, bOd B, bM 6 m c, bM 7 m c', bT 8 0 e1, bT0, bW ws, bW ws, bCL [] e1] := by
  subst hL0
  obtain ⟨hD, hA, hZ, hV, l1, l2, l3, l4, l5, l6, l7, l8, l9⟩ := hB
  have iD := getD_allI hD i
  have iA := getD_allI hA i
  have iZ := getD_allI hZ i
  have d1 : decide ((i : Int) < (ul : Int)) = true := decide_eq_true (by omega)
  have d2 : decide ((i : Int) < 60) = true := decide_eq_true (by omega)
  have d3 : decide ((0 : Int) ≤ (i : Int)) = true := decide_eq_true (by omega)
  have b1 : decide (i < B.ok.length) = true := decide_eq_true (by omega)
  have b2 : decide (i < B.os.length) = true := decide_eq_true (by omega)
  have b3 : decide (i < B.od.length) = true := decide_eq_true (by omega)
  have b4 : decide (i < B.oa.length) = true := decide_eq_true (by omega)
  have b5 : decide (i < B.ow.length) = true := decide_eq_true (by omega)
  have b6 : decide (i < B.ov.length) = true := decide_eq_true (by omega)
  have b7 : decide (i < B.oe.length) = true := decide_eq_true (by omega)
  have b8 : decide (i < B.oz.length) = true := decide_eq_true (by omega)
  have b9 : decide (i < B.op.length) = true := decide_eq_true (by omega)
  have i1 : IntKind.wrap IntKind.i64 ((i : Int) + 1) = ((i + 1 : Nat) : Int) := by rw [wrap_i64 (by omega) (by omega)]; omega
  have q0 : (B.ok.getD i 0 == 0) = false := beq_eq_false_iff_ne.2 c0
  have q1 : (B.ok.getD i 0 == 1) = false := beq_eq_false_iff_ne.2 c1
  have q2 : (B.ok.getD i 0 == 2) = false := beq_eq_false_iff_ne.2 c2
  have q3 : (B.ok.getD i 0 == 3) = true := beq_iff_eq.2 c3
  obtain ⟨k1, k0, n8, n16⟩ := rowFactsM [] e ho.len ho.room
  have r1 := rowsN_cols [] e
  have r0 := rowsN_cols [] 0
  subst hL1
  obtain ⟨kk1, kk0, m8, m16⟩ := rowFactsM [] e1 ho1.len ho1.room
  have rr1 := rowsN_cols [] e1
  have rr0 := rowsN_cols [] 0
  have z1 : ktV (B.os.getD i 0) (B.oa.getD i 0) [] = false := rfl
  have z2 : ktW (B.os.getD i 0) (B.oa.getD i 0) [] = false := rfl
  have z3 : ktA (B.os.getD i 0) (B.oa.getD i 0) [] = 0 := rfl
  have z4 : ktI (B.os.getD i 0) (B.oa.getD i 0) [] = false := rfl
  have z5 : agL ws (B.os.getD i 0) (B.od.getD i 0) [] = true := rfl
  have z6 : (((([] : List Ro).length : Nat) : Int) != 0) = false := rfl
  refine (t_doM (fD [] e1) [] e1 ul m c c' ([] : List Ro).length e i B.zs B.ok B.os B.od B.oa B.ow B.ov B.oe B.oz B.op ws _ _ _ _ _ K).trans ?_
  repeat (first | (refine (ctr ?_).trans ?_; · (simp only [fD, d1, d2, d3, b1, b2, b3, b4, b5, b6, b7, b8, b9, Int.toNat_natCast, Nat.zero_add, Bool.and_self, Bool.and_true, Bool.true_and, bne_self_eq_false, beq_self_eq_true, Bool.not_true, Bool.not_false, hm, hw, iD, iA, iZ, i1, k1, k0, r1, r0, n8, n16, q0, q1, q2, q3, kk1, kk0, rr1, rr0, m16, hq, z1, z2, z3, z4, z5, z6]; done)) | (refine (cfr ?_).trans ?_; · (simp only [fD, d1, d2, d3, b1, b2, b3, b4, b5, b6, b7, b8, b9, Int.toNat_natCast, Nat.zero_add, Bool.and_self, Bool.and_true, Bool.true_and, bne_self_eq_false, beq_self_eq_true, Bool.not_true, Bool.not_false, hm, hw, iD, iA, iZ, i1, k1, k0, r1, r0, n8, n16, q0, q1, q2, q3, kk1, kk0, rr1, rr0, m16, hq, z1, z2, z3, z4, z5, z6]; done)))
  (try rw [Int.toNat_natCast, Nat.zero_add]); (try rw [r0]); rw [i1]; rfl
set_option maxHeartbeats 8000000 in
theorem doM4 (ul m c c' i : Nat) (B : Od) (ws : List Int) (L : List Ro) (hL0 : L = []) (e : Nat) (L1 : List Ro) (e1 : Nat) (hB : OdOk B ul) (hm : okM m ws = true) (hw : allW ws = true) (ho : InvW L e) (h1 : i < ul) (h60 : i < 60) (K : HeadK) (c0 : ¬ B.ok.getD i 0 = 0) (c1 : ¬ B.ok.getD i 0 = 1) (c2 : ¬ B.ok.getD i 0 = 2) (c3 : ¬ B.ok.getD i 0 = 3) (c4 : B.ok.getD i 0 = 4) :
    bodyR Try.prog (sDo (fD L1 e1) L1 e1) lNil iDo 60 (loopOf Try.prog 5 0) (vDo ul i) [bRw B.zs, bOd B, bM 6 m c, bM 7 m c', bT 8 ([] : List Ro).length e, bT0, bW ws, bW ws, bCL [] e] K = K .normal (vDo ul (i + 1 : Nat)) [bRw B.zs, bOd B, bM 6 m c, bM 7 m c', bT 8 0 e, bT0, bW (putW ws (B.oa.getD i 0) (B.op.getD i 0)), bW (putW ws (B.oa.getD i 0) (B.op.getD i 0)), bCL [] e] := by
  subst hL0
  obtain ⟨hD, hA, hZ, hV, l1, l2, l3, l4, l5, l6, l7, l8, l9⟩ := hB
  have iD := getD_allI hD i
  have iA := getD_allI hA i
  have iZ := getD_allI hZ i
  have d1 : decide ((i : Int) < (ul : Int)) = true := decide_eq_true (by omega)
  have d2 : decide ((i : Int) < 60) = true := decide_eq_true (by omega)
  have d3 : decide ((0 : Int) ≤ (i : Int)) = true := decide_eq_true (by omega)
  have b1 : decide (i < B.ok.length) = true := decide_eq_true (by omega)
  have b2 : decide (i < B.os.length) = true := decide_eq_true (by omega)
  have b3 : decide (i < B.od.length) = true := decide_eq_true (by omega)
  have b4 : decide (i < B.oa.length) = true := decide_eq_true (by omega)
  have b5 : decide (i < B.ow.length) = true := decide_eq_true (by omega)
  have b6 : decide (i < B.ov.length) = true := decide_eq_true (by omega)
  have b7 : decide (i < B.oe.length) = true := decide_eq_true (by omega)
  have b8 : decide (i < B.oz.length) = true := decide_eq_true (by omega)
  have b9 : decide (i < B.op.length) = true := decide_eq_true (by omega)
  have i1 : IntKind.wrap IntKind.i64 ((i : Int) + 1) = ((i + 1 : Nat) : Int) := by rw [wrap_i64 (by omega) (by omega)]; omega
  have q0 : (B.ok.getD i 0 == 0) = false := beq_eq_false_iff_ne.2 c0
  have q1 : (B.ok.getD i 0 == 1) = false := beq_eq_false_iff_ne.2 c1
  have q2 : (B.ok.getD i 0 == 2) = false := beq_eq_false_iff_ne.2 c2
  have q3 : (B.ok.getD i 0 == 3) = false := beq_eq_false_iff_ne.2 c3
  have q4 : (B.ok.getD i 0 == 4) = true := beq_iff_eq.2 c4
  obtain ⟨k1, k0, n8, n16⟩ := rowFactsM [] e ho.len ho.room
  have r1 := rowsN_cols [] e
  have r0 := rowsN_cols [] 0
  have hm' : okM m (putW ws (B.oa.getD i 0) (B.op.getD i 0)) = true := by
    unfold okM at hm ⊢
    rw [putW_len]; exact hm
  have hw' : allW (putW ws (B.oa.getD i 0) (B.op.getD i 0)) = true := putW_all hw (getD_all hV i)
  obtain ⟨y1, y2, y3, y4⟩ := rowFactsM [] e ho.len ho.room
  have y5 := rowsN_cols [] e
  have y6 := rowsN_cols [] 0
  have z1 : ktV (B.os.getD i 0) (B.oa.getD i 0) [] = false := rfl
  have z2 : ktW (B.os.getD i 0) (B.oa.getD i 0) [] = false := rfl
  have z3 : ktA (B.os.getD i 0) (B.oa.getD i 0) [] = 0 := rfl
  have z4 : ktI (B.os.getD i 0) (B.oa.getD i 0) [] = false := rfl
  have z5 : agL ws (B.os.getD i 0) (B.od.getD i 0) [] = true := rfl
  have z6 : (((([] : List Ro).length : Nat) : Int) != 0) = false := rfl
  have z7 : agL (putW ws (B.oa.getD i 0) (B.op.getD i 0)) (B.os.getD i 0) (B.od.getD i 0) [] = true := rfl
  refine (t_doM (fD L1 e1) L1 e1 ul m c c' ([] : List Ro).length e i B.zs B.ok B.os B.od B.oa B.ow B.ov B.oe B.oz B.op ws _ _ _ _ _ K).trans ?_
  repeat (first | (refine (ctr ?_).trans ?_; · (simp only [fD, d1, d2, d3, b1, b2, b3, b4, b5, b6, b7, b8, b9, Int.toNat_natCast, Nat.zero_add, Bool.and_self, Bool.and_true, Bool.true_and, bne_self_eq_false, beq_self_eq_true, Bool.not_true, Bool.not_false, hm, hw, iD, iA, iZ, i1, k1, k0, r1, r0, n8, n16, q0, q1, q2, q3, q4, hm', hw', z7, z1, z2, z3, z4, z5, z6]; done)) | (refine (cfr ?_).trans ?_; · (simp only [fD, d1, d2, d3, b1, b2, b3, b4, b5, b6, b7, b8, b9, Int.toNat_natCast, Nat.zero_add, Bool.and_self, Bool.and_true, Bool.true_and, bne_self_eq_false, beq_self_eq_true, Bool.not_true, Bool.not_false, hm, hw, iD, iA, iZ, i1, k1, k0, r1, r0, n8, n16, q0, q1, q2, q3, q4, hm', hw', z7, z1, z2, z3, z4, z5, z6]; done)))
  (try rw [Int.toNat_natCast, Nat.zero_add]); (try rw [r0]); rw [i1]; rfl
set_option maxHeartbeats 8000000 in
theorem doM5 (ul m c c' i : Nat) (B : Od) (ws : List Int) (L : List Ro) (hL0 : L = []) (e : Nat) (L1 : List Ro) (e1 : Nat) (hB : OdOk B ul) (hm : okM m ws = true) (hw : allW ws = true) (ho : InvW L e) (h1 : i < ul) (h60 : i < 60) (K : HeadK) (c0 : ¬ B.ok.getD i 0 = 0) (c1 : ¬ B.ok.getD i 0 = 1) (c2 : ¬ B.ok.getD i 0 = 2) (c3 : ¬ B.ok.getD i 0 = 3) (c4 : ¬ B.ok.getD i 0 = 4) :
    bodyR Try.prog (sDo (fD L1 e1) L1 e1) lNil iDo 60 (loopOf Try.prog 5 0) (vDo ul i) [bRw B.zs, bOd B, bM 6 m c, bM 7 m c', bT 8 ([] : List Ro).length e, bT0, bW ws, bW ws, bCL [] e] K = K .normal (vDo ul (i + 1 : Nat)) [bRw B.zs, bOd B, bM 6 m c, bM 7 m c', bT 8 0 e, bT0, bW ws, bW ws, bCL [] e] := by
  subst hL0
  obtain ⟨hD, hA, hZ, hV, l1, l2, l3, l4, l5, l6, l7, l8, l9⟩ := hB
  have iD := getD_allI hD i
  have iA := getD_allI hA i
  have iZ := getD_allI hZ i
  have d1 : decide ((i : Int) < (ul : Int)) = true := decide_eq_true (by omega)
  have d2 : decide ((i : Int) < 60) = true := decide_eq_true (by omega)
  have d3 : decide ((0 : Int) ≤ (i : Int)) = true := decide_eq_true (by omega)
  have b1 : decide (i < B.ok.length) = true := decide_eq_true (by omega)
  have b2 : decide (i < B.os.length) = true := decide_eq_true (by omega)
  have b3 : decide (i < B.od.length) = true := decide_eq_true (by omega)
  have b4 : decide (i < B.oa.length) = true := decide_eq_true (by omega)
  have b5 : decide (i < B.ow.length) = true := decide_eq_true (by omega)
  have b6 : decide (i < B.ov.length) = true := decide_eq_true (by omega)
  have b7 : decide (i < B.oe.length) = true := decide_eq_true (by omega)
  have b8 : decide (i < B.oz.length) = true := decide_eq_true (by omega)
  have b9 : decide (i < B.op.length) = true := decide_eq_true (by omega)
  have i1 : IntKind.wrap IntKind.i64 ((i : Int) + 1) = ((i + 1 : Nat) : Int) := by rw [wrap_i64 (by omega) (by omega)]; omega
  have q0 : (B.ok.getD i 0 == 0) = false := beq_eq_false_iff_ne.2 c0
  have q1 : (B.ok.getD i 0 == 1) = false := beq_eq_false_iff_ne.2 c1
  have q2 : (B.ok.getD i 0 == 2) = false := beq_eq_false_iff_ne.2 c2
  have q3 : (B.ok.getD i 0 == 3) = false := beq_eq_false_iff_ne.2 c3
  have q4 : (B.ok.getD i 0 == 4) = false := beq_eq_false_iff_ne.2 c4
  obtain ⟨k1, k0, n8, n16⟩ := rowFactsM [] e ho.len ho.room
  have r1 := rowsN_cols [] e
  have r0 := rowsN_cols [] 0
  obtain ⟨y1, y2, y3, y4⟩ := rowFactsM [] e ho.len ho.room
  have y5 := rowsN_cols [] e
  have y6 := rowsN_cols [] 0
  have z1 : ktV (B.os.getD i 0) (B.oa.getD i 0) [] = false := rfl
  have z2 : ktW (B.os.getD i 0) (B.oa.getD i 0) [] = false := rfl
  have z3 : ktA (B.os.getD i 0) (B.oa.getD i 0) [] = 0 := rfl
  have z4 : ktI (B.os.getD i 0) (B.oa.getD i 0) [] = false := rfl
  have z5 : agL ws (B.os.getD i 0) (B.od.getD i 0) [] = true := rfl
  have z6 : (((([] : List Ro).length : Nat) : Int) != 0) = false := rfl
  refine (t_doM (fD L1 e1) L1 e1 ul m c c' ([] : List Ro).length e i B.zs B.ok B.os B.od B.oa B.ow B.ov B.oe B.oz B.op ws _ _ _ _ _ K).trans ?_
  repeat (first | (refine (ctr ?_).trans ?_; · (simp only [fD, d1, d2, d3, b1, b2, b3, b4, b5, b6, b7, b8, b9, Int.toNat_natCast, Nat.zero_add, Bool.and_self, Bool.and_true, Bool.true_and, bne_self_eq_false, beq_self_eq_true, Bool.not_true, Bool.not_false, hm, hw, iD, iA, iZ, i1, k1, k0, r1, r0, n8, n16, q0, q1, q2, q3, q4, z1, z2, z3, z4, z5, z6]; done)) | (refine (cfr ?_).trans ?_; · (simp only [fD, d1, d2, d3, b1, b2, b3, b4, b5, b6, b7, b8, b9, Int.toNat_natCast, Nat.zero_add, Bool.and_self, Bool.and_true, Bool.true_and, bne_self_eq_false, beq_self_eq_true, Bool.not_true, Bool.not_false, hm, hw, iD, iA, iZ, i1, k1, k0, r1, r0, n8, n16, q0, q1, q2, q3, q4, z1, z2, z3, z4, z5, z6]; done)))
  (try rw [Int.toNat_natCast, Nat.zero_add]); (try rw [r0]); rw [i1]; rfl
end Go.Proofs.Ytnloobnpgkpbhaa.Wlk
namespace Go.Proofs.Ytnloobnpgkpbhaa.Wlk
open Go Go.Eng Go.Proofs Go.RowKit
set_option maxHeartbeats 8000000 in
theorem doN0y (ul m c c' i : Nat) (B : Od) (ws : List Int) (hB : OdOk B ul) (hm : okM m ws = true) (hw : allW ws = true) (h1 : i < ul) (h60 : i < 60) (K : HeadK) (c0 : B.ok.getD i 0 = 0) (hc : tC ws [] (B.os.getD i 0) (B.od.getD i 0) (B.oa.getD i 0) = true) :
    bodyR Try.prog (sDo (fD (tL ws [] (B.os.getD i 0) (B.od.getD i 0) (B.oa.getD i 0)) 0) (tL ws [] (B.os.getD i 0) (B.od.getD i 0) (B.oa.getD i 0)) 0) lNil iDo 60 (loopOf Try.prog 5 0) (vDo ul i) [bRw B.zs, bOd B, bM 6 m c, bM 7 m c', bT0, bT0, bW ws, bW ws] K = K .normal (vDo ul (i + 1 : Nat)) [bRw B.zs, bOd B, bM 6 m c, bM 7 m c', bT 8 1 0, bXs 9 1 false, bW ws, bW ws, bCL (tL ws [] (B.os.getD i 0) (B.od.getD i 0) (B.oa.getD i 0)) 0, bCL (tL ws [] (B.os.getD i 0) (B.od.getD i 0) (B.oa.getD i 0)) 0] := by
  obtain ⟨hD, hA, hZ, hV, l1, l2, l3, l4, l5, l6, l7, l8, l9⟩ := hB
  have iD := getD_allI hD i
  have iA := getD_allI hA i
  have iZ := getD_allI hZ i
  have d1 : decide ((i : Int) < (ul : Int)) = true := decide_eq_true (by omega)
  have d2 : decide ((i : Int) < 60) = true := decide_eq_true (by omega)
  have d3 : decide ((0 : Int) ≤ (i : Int)) = true := decide_eq_true (by omega)
  have b1 : decide (i < B.ok.length) = true := decide_eq_true (by omega)
  have b2 : decide (i < B.os.length) = true := decide_eq_true (by omega)
  have b3 : decide (i < B.od.length) = true := decide_eq_true (by omega)
  have b4 : decide (i < B.oa.length) = true := decide_eq_true (by omega)
  have b5 : decide (i < B.ow.length) = true := decide_eq_true (by omega)
  have b6 : decide (i < B.ov.length) = true := decide_eq_true (by omega)
  have b7 : decide (i < B.oe.length) = true := decide_eq_true (by omega)
  have b8 : decide (i < B.oz.length) = true := decide_eq_true (by omega)
  have b9 : decide (i < B.op.length) = true := decide_eq_true (by omega)
  have i1 : IntKind.wrap IntKind.i64 ((i : Int) + 1) = ((i + 1 : Nat) : Int) := by rw [wrap_i64 (by omega) (by omega)]; omega
  have q0 : (B.ok.getD i 0 == 0) = true := beq_iff_eq.2 c0
  have o1 := okK_self [⟨(B.os.getD i 0), pgN (B.oa.getD i 0), pgV ws (B.od.getD i 0) (B.oa.getD i 0), pgW ws (B.od.getD i 0) (B.oa.getD i 0), pgA ws (B.od.getD i 0) (B.oa.getD i 0)⟩] 0 (by simp)
  have o2 := rowsN_cols [⟨(B.os.getD i 0), pgN (B.oa.getD i 0), pgV ws (B.od.getD i 0) (B.oa.getD i 0), pgW ws (B.od.getD i 0) (B.oa.getD i 0), pgA ws (B.od.getD i 0) (B.oa.getD i 0)⟩] 0
  rw [← tL_nil, show (tL ws [] (B.os.getD i 0) (B.od.getD i 0) (B.oa.getD i 0)).length = 1 from rfl] at o1 o2
  have p1 : tQ (tL ws [] (B.os.getD i 0) (B.od.getD i 0) (B.oa.getD i 0)) 0 ws [] 0 (B.os.getD i 0) (B.od.getD i 0) (B.oa.getD i 0) = true := isQ_of rfl
  have p2 : xQ (tL ws [] (B.os.getD i 0) (B.od.getD i 0) (B.oa.getD i 0)) ws [] (B.os.getD i 0) (B.od.getD i 0) (B.oa.getD i 0) = true := isQ_of rfl
  have p3 : Nat.ble 1 16 = true := rfl
  have p4 : True := trivial
  refine (t_doN (fD (tL ws [] (B.os.getD i 0) (B.od.getD i 0) (B.oa.getD i 0)) 0) (tL ws [] (B.os.getD i 0) (B.od.getD i 0) (B.oa.getD i 0)) 0 ul m c c' i B.zs B.ok B.os B.od B.oa B.ow B.ov B.oe B.oz B.op ws K).trans ?_
  repeat (first | (refine (ctr ?_).trans ?_; · (simp only [fD, d1, d2, d3, b1, b2, b3, b4, b5, b6, b7, b8, b9, Int.toNat_natCast, Nat.zero_add, Bool.and_self, Bool.and_true, Bool.true_and, bne_self_eq_false, beq_self_eq_true, Bool.not_true, Bool.not_false, hm, hw, iD, iA, iZ, i1, q0, hc, p1, p2, p3, o1, o2, p4]; done)) | (refine (cfr ?_).trans ?_; · (simp only [fD, d1, d2, d3, b1, b2, b3, b4, b5, b6, b7, b8, b9, Int.toNat_natCast, Nat.zero_add, Bool.and_self, Bool.and_true, Bool.true_and, bne_self_eq_false, beq_self_eq_true, Bool.not_true, Bool.not_false, hm, hw, iD, iA, iZ, i1, q0, hc, p1, p2, p3, o1, o2, p4]; done)))
  (try rw [Int.toNat_natCast, Nat.zero_add]); rw [i1]; rfl
set_option maxHeartbeats 8000000 in
theorem doN0n (ul m c c' i : Nat) (B : Od) (ws : List Int) (hB : OdOk B ul) (hm : okM m ws = true) (hw : allW ws = true) (h1 : i < ul) (h60 : i < 60) (K : HeadK) (c0 : B.ok.getD i 0 = 0) (L1 : List Ro) (e1 : Nat) (hc : tC ws [] (B.os.getD i 0) (B.od.getD i 0) (B.oa.getD i 0) = false) :
    bodyR Try.prog (sDo (fD L1 e1) L1 e1) lNil iDo 60 (loopOf Try.prog 5 0) (vDo ul i) [bRw B.zs, bOd B, bM 6 m c, bM 7 m c', bT0, bT0, bW ws, bW ws] K = K .normal (vDo ul (i + 1 : Nat)) [bRw B.zs, bOd B, bM 6 m c, bM 7 m c', bT0, bT0, bW ws, bW ws] := by
  obtain ⟨hD, hA, hZ, hV, l1, l2, l3, l4, l5, l6, l7, l8, l9⟩ := hB
  have iD := getD_allI hD i
  have iA := getD_allI hA i
  have iZ := getD_allI hZ i
  have d1 : decide ((i : Int) < (ul : Int)) = true := decide_eq_true (by omega)
  have d2 : decide ((i : Int) < 60) = true := decide_eq_true (by omega)
  have d3 : decide ((0 : Int) ≤ (i : Int)) = true := decide_eq_true (by omega)
  have b1 : decide (i < B.ok.length) = true := decide_eq_true (by omega)
  have b2 : decide (i < B.os.length) = true := decide_eq_true (by omega)
  have b3 : decide (i < B.od.length) = true := decide_eq_true (by omega)
  have b4 : decide (i < B.oa.length) = true := decide_eq_true (by omega)
  have b5 : decide (i < B.ow.length) = true := decide_eq_true (by omega)
  have b6 : decide (i < B.ov.length) = true := decide_eq_true (by omega)
  have b7 : decide (i < B.oe.length) = true := decide_eq_true (by omega)
  have b8 : decide (i < B.oz.length) = true := decide_eq_true (by omega)
  have b9 : decide (i < B.op.length) = true := decide_eq_true (by omega)
  have i1 : IntKind.wrap IntKind.i64 ((i : Int) + 1) = ((i + 1 : Nat) : Int) := by rw [wrap_i64 (by omega) (by omega)]; omega
  have q0 : (B.ok.getD i 0 == 0) = true := beq_iff_eq.2 c0
  refine (t_doN (fD L1 e1) L1 e1 ul m c c' i B.zs B.ok B.os B.od B.oa B.ow B.ov B.oe B.oz B.op ws K).trans ?_
  repeat (first | (refine (ctr ?_).trans ?_; · (simp only [fD, d1, d2, d3, b1, b2, b3, b4, b5, b6, b7, b8, b9, Int.toNat_natCast, Nat.zero_add, Bool.and_self, Bool.and_true, Bool.true_and, bne_self_eq_false, beq_self_eq_true, Bool.not_true, Bool.not_false, hm, hw, iD, iA, iZ, i1, q0, hc]; done)) | (refine (cfr ?_).trans ?_; · (simp only [fD, d1, d2, d3, b1, b2, b3, b4, b5, b6, b7, b8, b9, Int.toNat_natCast, Nat.zero_add, Bool.and_self, Bool.and_true, Bool.true_and, bne_self_eq_false, beq_self_eq_true, Bool.not_true, Bool.not_false, hm, hw, iD, iA, iZ, i1, q0, hc]; done)))
  (try rw [Int.toNat_natCast, Nat.zero_add]); rw [i1]; rfl
set_option maxHeartbeats 8000000 in
theorem doN1y (ul m c c' i : Nat) (B : Od) (ws : List Int) (hB : OdOk B ul) (hm : okM m ws = true) (hw : allW ws = true) (h1 : i < ul) (h60 : i < 60) (K : HeadK) (c0 : ¬ B.ok.getD i 0 = 0) (c1 : B.ok.getD i 0 = 1) (hc : filE (B.os.getD i 0) (B.oa.getD i 0) (B.ov.getD i false) (B.oe.getD i false) (B.oz.getD i 0) = 0) :
    bodyR Try.prog (sDo (fD [⟨(B.os.getD i 0), (B.oa.getD i 0), (B.ov.getD i false), (B.oe.getD i false), (B.oz.getD i 0)⟩] 0) [⟨(B.os.getD i 0), (B.oa.getD i 0), (B.ov.getD i false), (B.oe.getD i false), (B.oz.getD i 0)⟩] 0) lNil iDo 60 (loopOf Try.prog 5 0) (vDo ul i) [bRw B.zs, bOd B, bM 6 m c, bM 7 m c', bT0, bT0, bW ws, bW ws] K = K .normal (vDo ul (i + 1 : Nat)) [bRw B.zs, bOd B, bM 6 m c, bM 7 m c', bT 8 1 0, bXs 9 1 false, bW ws, bW ws, bCL [⟨(B.os.getD i 0), (B.oa.getD i 0), (B.ov.getD i false), (B.oe.getD i false), (B.oz.getD i 0)⟩] 0, bCL [⟨(B.os.getD i 0), (B.oa.getD i 0), (B.ov.getD i false), (B.oe.getD i false), (B.oz.getD i 0)⟩] 0] := by
  obtain ⟨hD, hA, hZ, hV, l1, l2, l3, l4, l5, l6, l7, l8, l9⟩ := hB
  have iD := getD_allI hD i
  have iA := getD_allI hA i
  have iZ := getD_allI hZ i
  have d1 : decide ((i : Int) < (ul : Int)) = true := decide_eq_true (by omega)
  have d2 : decide ((i : Int) < 60) = true := decide_eq_true (by omega)
  have d3 : decide ((0 : Int) ≤ (i : Int)) = true := decide_eq_true (by omega)
  have b1 : decide (i < B.ok.length) = true := decide_eq_true (by omega)
  have b2 : decide (i < B.os.length) = true := decide_eq_true (by omega)
  have b3 : decide (i < B.od.length) = true := decide_eq_true (by omega)
  have b4 : decide (i < B.oa.length) = true := decide_eq_true (by omega)
  have b5 : decide (i < B.ow.length) = true := decide_eq_true (by omega)
  have b6 : decide (i < B.ov.length) = true := decide_eq_true (by omega)
  have b7 : decide (i < B.oe.length) = true := decide_eq_true (by omega)
  have b8 : decide (i < B.oz.length) = true := decide_eq_true (by omega)
  have b9 : decide (i < B.op.length) = true := decide_eq_true (by omega)
  have i1 : IntKind.wrap IntKind.i64 ((i : Int) + 1) = ((i + 1 : Nat) : Int) := by rw [wrap_i64 (by omega) (by omega)]; omega
  have q0 : (B.ok.getD i 0 == 0) = false := beq_eq_false_iff_ne.2 c0
  have q1 : (B.ok.getD i 0 == 1) = true := beq_iff_eq.2 c1
  have o1 := okK_self [⟨(B.os.getD i 0), (B.oa.getD i 0), (B.ov.getD i false), (B.oe.getD i false), (B.oz.getD i 0)⟩] 0 (by simp)
  have o2 := rowsN_cols [⟨(B.os.getD i 0), (B.oa.getD i 0), (B.ov.getD i false), (B.oe.getD i false), (B.oz.getD i 0)⟩] 0
  rw [show ([⟨(B.os.getD i 0), (B.oa.getD i 0), (B.ov.getD i false), (B.oe.getD i false), (B.oz.getD i 0)⟩] : List Ro).length = 1 from rfl] at o1 o2
  have hc2 : decide (filE (B.os.getD i 0) (B.oa.getD i 0) (B.ov.getD i false) (B.oe.getD i false) (B.oz.getD i 0) = 0) = true := decide_eq_true hc
  have p1 : fQ [⟨(B.os.getD i 0), (B.oa.getD i 0), (B.ov.getD i false), (B.oe.getD i false), (B.oz.getD i 0)⟩] 0 (B.os.getD i 0) (B.oa.getD i 0) (B.ov.getD i false) (B.oe.getD i false) (B.oz.getD i 0) [] 0 = true := isQ_of rfl
  have p2 : yQ [⟨(B.os.getD i 0), (B.oa.getD i 0), (B.ov.getD i false), (B.oe.getD i false), (B.oz.getD i 0)⟩] (B.os.getD i 0) (B.oa.getD i 0) (B.ov.getD i false) (B.oe.getD i false) (B.oz.getD i 0) [] = true := isQ_of rfl
  have p3 : Nat.ble 1 16 = true := rfl
  refine (t_doN (fD [⟨(B.os.getD i 0), (B.oa.getD i 0), (B.ov.getD i false), (B.oe.getD i false), (B.oz.getD i 0)⟩] 0) [⟨(B.os.getD i 0), (B.oa.getD i 0), (B.ov.getD i false), (B.oe.getD i false), (B.oz.getD i 0)⟩] 0 ul m c c' i B.zs B.ok B.os B.od B.oa B.ow B.ov B.oe B.oz B.op ws K).trans ?_
  repeat (first | (refine (ctr ?_).trans ?_; · (simp only [fD, d1, d2, d3, b1, b2, b3, b4, b5, b6, b7, b8, b9, Int.toNat_natCast, Nat.zero_add, Bool.and_self, Bool.and_true, Bool.true_and, bne_self_eq_false, beq_self_eq_true, Bool.not_true, Bool.not_false, hm, hw, iD, iA, iZ, i1, q0, q1, hc2, p1, p2, p3, o1, o2]; done)) | (refine (cfr ?_).trans ?_; · (simp only [fD, d1, d2, d3, b1, b2, b3, b4, b5, b6, b7, b8, b9, Int.toNat_natCast, Nat.zero_add, Bool.and_self, Bool.and_true, Bool.true_and, bne_self_eq_false, beq_self_eq_true, Bool.not_true, Bool.not_false, hm, hw, iD, iA, iZ, i1, q0, q1, hc2, p1, p2, p3, o1, o2]; done)))
  (try rw [Int.toNat_natCast, Nat.zero_add]); rw [i1]; rfl
set_option maxHeartbeats 8000000 in
theorem doN1n (ul m c c' i : Nat) (B : Od) (ws : List Int) (hB : OdOk B ul) (hm : okM m ws = true) (hw : allW ws = true) (h1 : i < ul) (h60 : i < 60) (K : HeadK) (c0 : ¬ B.ok.getD i 0 = 0) (c1 : B.ok.getD i 0 = 1) (L1 : List Ro) (e1 : Nat) (hc : ¬ filE (B.os.getD i 0) (B.oa.getD i 0) (B.ov.getD i false) (B.oe.getD i false) (B.oz.getD i 0) = 0) :
    bodyR Try.prog (sDo (fD L1 e1) L1 e1) lNil iDo 60 (loopOf Try.prog 5 0) (vDo ul i) [bRw B.zs, bOd B, bM 6 m c, bM 7 m c', bT0, bT0, bW ws, bW ws] K = K .normal (vDo ul (i + 1 : Nat)) [bRw B.zs, bOd B, bM 6 m c, bM 7 m c', bT0, bT0, bW ws, bW ws] := by
  obtain ⟨hD, hA, hZ, hV, l1, l2, l3, l4, l5, l6, l7, l8, l9⟩ := hB
  have iD := getD_allI hD i
  have iA := getD_allI hA i
  have iZ := getD_allI hZ i
  have d1 : decide ((i : Int) < (ul : Int)) = true := decide_eq_true (by omega)
  have d2 : decide ((i : Int) < 60) = true := decide_eq_true (by omega)
  have d3 : decide ((0 : Int) ≤ (i : Int)) = true := decide_eq_true (by omega)
  have b1 : decide (i < B.ok.length) = true := decide_eq_true (by omega)
  have b2 : decide (i < B.os.length) = true := decide_eq_true (by omega)
  have b3 : decide (i < B.od.length) = true := decide_eq_true (by omega)
  have b4 : decide (i < B.oa.length) = true := decide_eq_true (by omega)
  have b5 : decide (i < B.ow.length) = true := decide_eq_true (by omega)
  have b6 : decide (i < B.ov.length) = true := decide_eq_true (by omega)
  have b7 : decide (i < B.oe.length) = true := decide_eq_true (by omega)
  have b8 : decide (i < B.oz.length) = true := decide_eq_true (by omega)
  have b9 : decide (i < B.op.length) = true := decide_eq_true (by omega)
  have i1 : IntKind.wrap IntKind.i64 ((i : Int) + 1) = ((i + 1 : Nat) : Int) := by rw [wrap_i64 (by omega) (by omega)]; omega
  have q0 : (B.ok.getD i 0 == 0) = false := beq_eq_false_iff_ne.2 c0
  have q1 : (B.ok.getD i 0 == 1) = true := beq_iff_eq.2 c1
  have hc2 : decide (filE (B.os.getD i 0) (B.oa.getD i 0) (B.ov.getD i false) (B.oe.getD i false) (B.oz.getD i 0) = 0) = false := decide_eq_false hc
  refine (t_doN (fD L1 e1) L1 e1 ul m c c' i B.zs B.ok B.os B.od B.oa B.ow B.ov B.oe B.oz B.op ws K).trans ?_
  repeat (first | (refine (ctr ?_).trans ?_; · (simp only [fD, d1, d2, d3, b1, b2, b3, b4, b5, b6, b7, b8, b9, Int.toNat_natCast, Nat.zero_add, Bool.and_self, Bool.and_true, Bool.true_and, bne_self_eq_false, beq_self_eq_true, Bool.not_true, Bool.not_false, hm, hw, iD, iA, iZ, i1, q0, q1, hc2]; done)) | (refine (cfr ?_).trans ?_; · (simp only [fD, d1, d2, d3, b1, b2, b3, b4, b5, b6, b7, b8, b9, Int.toNat_natCast, Nat.zero_add, Bool.and_self, Bool.and_true, Bool.true_and, bne_self_eq_false, beq_self_eq_true, Bool.not_true, Bool.not_false, hm, hw, iD, iA, iZ, i1, q0, q1, hc2]; done)))
  (try rw [Int.toNat_natCast, Nat.zero_add]); rw [i1]; rfl
set_option maxHeartbeats 8000000 in
theorem doN2 (ul m c c' i : Nat) (B : Od) (ws : List Int) (hB : OdOk B ul) (hm : okM m ws = true) (hw : allW ws = true) (h1 : i < ul) (h60 : i < 60) (K : HeadK) (c0 : ¬ B.ok.getD i 0 = 0) (c1 : ¬ B.ok.getD i 0 = 1) (c2 : B.ok.getD i 0 = 2) (L1 : List Ro) (e1 : Nat) :
    bodyR Try.prog (sDo (fD L1 e1) L1 e1) lNil iDo 60 (loopOf Try.prog 5 0) (vDo ul i) [bRw B.zs, bOd B, bM 6 m c, bM 7 m c', bT0, bT0, bW ws, bW ws] K = K .normal (vDo ul (i + 1 : Nat)) [bRw B.zs, bOd B, bM 6 m c, bM 7 m c', bT0, bT0, bW ws, bW ws] := by
  obtain ⟨hD, hA, hZ, hV, l1, l2, l3, l4, l5, l6, l7, l8, l9⟩ := hB
  have iD := getD_allI hD i
  have iA := getD_allI hA i
  have iZ := getD_allI hZ i
  have d1 : decide ((i : Int) < (ul : Int)) = true := decide_eq_true (by omega)
  have d2 : decide ((i : Int) < 60) = true := decide_eq_true (by omega)
  have d3 : decide ((0 : Int) ≤ (i : Int)) = true := decide_eq_true (by omega)
  have b1 : decide (i < B.ok.length) = true := decide_eq_true (by omega)
  have b2 : decide (i < B.os.length) = true := decide_eq_true (by omega)
  have b3 : decide (i < B.od.length) = true := decide_eq_true (by omega)
  have b4 : decide (i < B.oa.length) = true := decide_eq_true (by omega)
  have b5 : decide (i < B.ow.length) = true := decide_eq_true (by omega)
  have b6 : decide (i < B.ov.length) = true := decide_eq_true (by omega)
  have b7 : decide (i < B.oe.length) = true := decide_eq_true (by omega)
  have b8 : decide (i < B.oz.length) = true := decide_eq_true (by omega)
  have b9 : decide (i < B.op.length) = true := decide_eq_true (by omega)
  have i1 : IntKind.wrap IntKind.i64 ((i : Int) + 1) = ((i + 1 : Nat) : Int) := by rw [wrap_i64 (by omega) (by omega)]; omega
  have q0 : (B.ok.getD i 0 == 0) = false := beq_eq_false_iff_ne.2 c0
  have q1 : (B.ok.getD i 0 == 1) = false := beq_eq_false_iff_ne.2 c1
  have q2 : (B.ok.getD i 0 == 2) = true := beq_iff_eq.2 c2
  refine (t_doN (fD L1 e1) L1 e1 ul m c c' i B.zs B.ok B.os B.od B.oa B.ow B.ov B.oe B.oz B.op ws K).trans ?_
  repeat (first | (refine (ctr ?_).trans ?_; · (simp only [fD, d1, d2, d3, b1, b2, b3, b4, b5, b6, b7, b8, b9, Int.toNat_natCast, Nat.zero_add, Bool.and_self, Bool.and_true, Bool.true_and, bne_self_eq_false, beq_self_eq_true, Bool.not_true, Bool.not_false, hm, hw, iD, iA, iZ, i1, q0, q1, q2]; done)) | (refine (cfr ?_).trans ?_; · (simp only [fD, d1, d2, d3, b1, b2, b3, b4, b5, b6, b7, b8, b9, Int.toNat_natCast, Nat.zero_add, Bool.and_self, Bool.and_true, Bool.true_and, bne_self_eq_false, beq_self_eq_true, Bool.not_true, Bool.not_false, hm, hw, iD, iA, iZ, i1, q0, q1, q2]; done)))
  (try rw [Int.toNat_natCast, Nat.zero_add]); rw [i1]; rfl
set_option maxHeartbeats 8000000 in
theorem doN3 (ul m c c' i : Nat) (B : Od) (ws : List Int) (hB : OdOk B ul) (hm : okM m ws = true) (hw : allW ws = true) (h1 : i < ul) (h60 : i < 60) (K : HeadK) (c0 : ¬ B.ok.getD i 0 = 0) (c1 : ¬ B.ok.getD i 0 = 1) (c2 : ¬ B.ok.getD i 0 = 2) (c3 : B.ok.getD i 0 = 3) (L1 : List Ro) (e1 : Nat) :
    bodyR Try.prog (sDo (fD L1 e1) L1 e1) lNil iDo 60 (loopOf Try.prog 5 0) (vDo ul i) [bRw B.zs, bOd B, bM 6 m c, bM 7 m c', bT0, bT0, bW ws, bW ws] K = K .normal (vDo ul (i + 1 : Nat)) [bRw B.zs, bOd B, bM 6 m c, bM 7 m c', bT0, bT0, bW ws, bW ws] := by
  obtain ⟨hD, hA, hZ, hV, l1, l2, l3, l4, l5, l6, l7, l8, l9⟩ := hB
  have iD := getD_allI hD i
  have iA := getD_allI hA i
  have iZ := getD_allI hZ i
  have d1 : decide ((i : Int) < (ul : Int)) = true := decide_eq_true (by omega)
  have d2 : decide ((i : Int) < 60) = true := decide_eq_true (by omega)
  have d3 : decide ((0 : Int) ≤ (i : Int)) = true := decide_eq_true (by omega)
  have b1 : decide (i < B.ok.length) = true := decide_eq_true (by omega)
  have b2 : decide (i < B.os.length) = true := decide_eq_true (by omega)
  have b3 : decide (i < B.od.length) = true := decide_eq_true (by omega)
  have b4 : decide (i < B.oa.length) = true := decide_eq_true (by omega)
  have b5 : decide (i < B.ow.length) = true := decide_eq_true (by omega)
  have b6 : decide (i < B.ov.length) = true := decide_eq_true (by omega)
  have b7 : decide (i < B.oe.length) = true := decide_eq_true (by omega)
  have b8 : decide (i < B.oz.length) = true := decide_eq_true (by omega)
  have b9 : decide (i < B.op.length) = true := decide_eq_true (by omega)
  have i1 : IntKind.wrap IntKind.i64 ((i : Int) + 1) = ((i + 1 : Nat) : Int) := by rw [wrap_i64 (by omega) (by omega)]; omega
  have q0 : (B.ok.getD i 0 == 0) = false := beq_eq_false_iff_ne.2 c0
  have q1 : (B.ok.getD i 0 == 1) = false := beq_eq_false_iff_ne.2 c1
  have q2 : (B.ok.getD i 0 == 2) = false := beq_eq_false_iff_ne.2 c2
  have q3 : (B.ok.getD i 0 == 3) = true := beq_iff_eq.2 c3
  refine (t_doN (fD L1 e1) L1 e1 ul m c c' i B.zs B.ok B.os B.od B.oa B.ow B.ov B.oe B.oz B.op ws K).trans ?_
  repeat (first | (refine (ctr ?_).trans ?_; · (simp only [fD, d1, d2, d3, b1, b2, b3, b4, b5, b6, b7, b8, b9, Int.toNat_natCast, Nat.zero_add, Bool.and_self, Bool.and_true, Bool.true_and, bne_self_eq_false, beq_self_eq_true, Bool.not_true, Bool.not_false, hm, hw, iD, iA, iZ, i1, q0, q1, q2, q3]; done)) | (refine (cfr ?_).trans ?_; · (simp only [fD, d1, d2, d3, b1, b2, b3, b4, b5, b6, b7, b8, b9, Int.toNat_natCast, Nat.zero_add, Bool.and_self, Bool.and_true, Bool.true_and, bne_self_eq_false, beq_self_eq_true, Bool.not_true, Bool.not_false, hm, hw, iD, iA, iZ, i1, q0, q1, q2, q3]; done)))
  (try rw [Int.toNat_natCast, Nat.zero_add]); rw [i1]; rfl
set_option maxHeartbeats 8000000 in
theorem doN4 (ul m c c' i : Nat) (B : Od) (ws : List Int) (hB : OdOk B ul) (hm : okM m ws = true) (hw : allW ws = true) (h1 : i < ul) (h60 : i < 60) (K : HeadK) (c0 : ¬ B.ok.getD i 0 = 0) (c1 : ¬ B.ok.getD i 0 = 1) (c2 : ¬ B.ok.getD i 0 = 2) (c3 : ¬ B.ok.getD i 0 = 3) (c4 : B.ok.getD i 0 = 4) (L1 : List Ro) (e1 : Nat) :
    bodyR Try.prog (sDo (fD L1 e1) L1 e1) lNil iDo 60 (loopOf Try.prog 5 0) (vDo ul i) [bRw B.zs, bOd B, bM 6 m c, bM 7 m c', bT0, bT0, bW ws, bW ws] K = K .normal (vDo ul (i + 1 : Nat)) [bRw B.zs, bOd B, bM 6 m c, bM 7 m c', bT0, bT0, bW (putW ws (B.oa.getD i 0) (B.op.getD i 0)), bW (putW ws (B.oa.getD i 0) (B.op.getD i 0))] := by
  obtain ⟨hD, hA, hZ, hV, l1, l2, l3, l4, l5, l6, l7, l8, l9⟩ := hB
  have iD := getD_allI hD i
  have iA := getD_allI hA i
  have iZ := getD_allI hZ i
  have d1 : decide ((i : Int) < (ul : Int)) = true := decide_eq_true (by omega)
  have d2 : decide ((i : Int) < 60) = true := decide_eq_true (by omega)
  have d3 : decide ((0 : Int) ≤ (i : Int)) = true := decide_eq_true (by omega)
  have b1 : decide (i < B.ok.length) = true := decide_eq_true (by omega)
  have b2 : decide (i < B.os.length) = true := decide_eq_true (by omega)
  have b3 : decide (i < B.od.length) = true := decide_eq_true (by omega)
  have b4 : decide (i < B.oa.length) = true := decide_eq_true (by omega)
  have b5 : decide (i < B.ow.length) = true := decide_eq_true (by omega)
  have b6 : decide (i < B.ov.length) = true := decide_eq_true (by omega)
  have b7 : decide (i < B.oe.length) = true := decide_eq_true (by omega)
  have b8 : decide (i < B.oz.length) = true := decide_eq_true (by omega)
  have b9 : decide (i < B.op.length) = true := decide_eq_true (by omega)
  have i1 : IntKind.wrap IntKind.i64 ((i : Int) + 1) = ((i + 1 : Nat) : Int) := by rw [wrap_i64 (by omega) (by omega)]; omega
  have q0 : (B.ok.getD i 0 == 0) = false := beq_eq_false_iff_ne.2 c0
  have q1 : (B.ok.getD i 0 == 1) = false := beq_eq_false_iff_ne.2 c1
  have q2 : (B.ok.getD i 0 == 2) = false := beq_eq_false_iff_ne.2 c2
  have q3 : (B.ok.getD i 0 == 3) = false := beq_eq_false_iff_ne.2 c3
  have q4 : (B.ok.getD i 0 == 4) = true := beq_iff_eq.2 c4
  refine (t_doN (fD L1 e1) L1 e1 ul m c c' i B.zs B.ok B.os B.od B.oa B.ow B.ov B.oe B.oz B.op ws K).trans ?_
  repeat (first | (refine (ctr ?_).trans ?_; · (simp only [fD, d1, d2, d3, b1, b2, b3, b4, b5, b6, b7, b8, b9, Int.toNat_natCast, Nat.zero_add, Bool.and_self, Bool.and_true, Bool.true_and, bne_self_eq_false, beq_self_eq_true, Bool.not_true, Bool.not_false, hm, hw, iD, iA, iZ, i1, q0, q1, q2, q3, q4]; done)) | (refine (cfr ?_).trans ?_; · (simp only [fD, d1, d2, d3, b1, b2, b3, b4, b5, b6, b7, b8, b9, Int.toNat_natCast, Nat.zero_add, Bool.and_self, Bool.and_true, Bool.true_and, bne_self_eq_false, beq_self_eq_true, Bool.not_true, Bool.not_false, hm, hw, iD, iA, iZ, i1, q0, q1, q2, q3, q4]; done)))
  (try rw [Int.toNat_natCast, Nat.zero_add]); rw [i1]; rfl
set_option maxHeartbeats 8000000 in
theorem doN5 (ul m c c' i : Nat) (B : Od) (ws : List Int) (hB : OdOk B ul) (hm : okM m ws = true) (hw : allW ws = true) (h1 : i < ul) (h60 : i < 60) (K : HeadK) (c0 : ¬ B.ok.getD i 0 = 0) (c1 : ¬ B.ok.getD i 0 = 1) (c2 : ¬ B.ok.getD i 0 = 2) (c3 : ¬ B.ok.getD i 0 = 3) (c4 : ¬ B.ok.getD i 0 = 4) (L1 : List Ro) (e1 : Nat) :
    bodyR Try.prog (sDo (fD L1 e1) L1 e1) lNil iDo 60 (loopOf Try.prog 5 0) (vDo ul i) [bRw B.zs, bOd B, bM 6 m c, bM 7 m c', bT0, bT0, bW ws, bW ws] K = K .normal (vDo ul (i + 1 : Nat)) [bRw B.zs, bOd B, bM 6 m c, bM 7 m c', bT0, bT0, bW ws, bW ws] := by
  obtain ⟨hD, hA, hZ, hV, l1, l2, l3, l4, l5, l6, l7, l8, l9⟩ := hB
  have iD := getD_allI hD i
  have iA := getD_allI hA i
  have iZ := getD_allI hZ i
  have d1 : decide ((i : Int) < (ul : Int)) = true := decide_eq_true (by omega)
  have d2 : decide ((i : Int) < 60) = true := decide_eq_true (by omega)
  have d3 : decide ((0 : Int) ≤ (i : Int)) = true := decide_eq_true (by omega)
  have b1 : decide (i < B.ok.length) = true := decide_eq_true (by omega)
  have b2 : decide (i < B.os.length) = true := decide_eq_true (by omega)
  have b3 : decide (i < B.od.length) = true := decide_eq_true (by omega)
  have b4 : decide (i < B.oa.length) = true := decide_eq_true (by omega)
  have b5 : decide (i < B.ow.length) = true := decide_eq_true (by omega)
  have b6 : decide (i < B.ov.length) = true := decide_eq_true (by omega)
  have b7 : decide (i < B.oe.length) = true := decide_eq_true (by omega)
  have b8 : decide (i < B.oz.length) = true := decide_eq_true (by omega)
  have b9 : decide (i < B.op.length) = true := decide_eq_true (by omega)
  have i1 : IntKind.wrap IntKind.i64 ((i : Int) + 1) = ((i + 1 : Nat) : Int) := by rw [wrap_i64 (by omega) (by omega)]; omega
  have q0 : (B.ok.getD i 0 == 0) = false := beq_eq_false_iff_ne.2 c0
  have q1 : (B.ok.getD i 0 == 1) = false := beq_eq_false_iff_ne.2 c1
  have q2 : (B.ok.getD i 0 == 2) = false := beq_eq_false_iff_ne.2 c2
  have q3 : (B.ok.getD i 0 == 3) = false := beq_eq_false_iff_ne.2 c3
  have q4 : (B.ok.getD i 0 == 4) = false := beq_eq_false_iff_ne.2 c4
  refine (t_doN (fD L1 e1) L1 e1 ul m c c' i B.zs B.ok B.os B.od B.oa B.ow B.ov B.oe B.oz B.op ws K).trans ?_
  repeat (first | (refine (ctr ?_).trans ?_; · (simp only [fD, d1, d2, d3, b1, b2, b3, b4, b5, b6, b7, b8, b9, Int.toNat_natCast, Nat.zero_add, Bool.and_self, Bool.and_true, Bool.true_and, bne_self_eq_false, beq_self_eq_true, Bool.not_true, Bool.not_false, hm, hw, iD, iA, iZ, i1, q0, q1, q2, q3, q4]; done)) | (refine (cfr ?_).trans ?_; · (simp only [fD, d1, d2, d3, b1, b2, b3, b4, b5, b6, b7, b8, b9, Int.toNat_natCast, Nat.zero_add, Bool.and_self, Bool.and_true, Bool.true_and, bne_self_eq_false, beq_self_eq_true, Bool.not_true, Bool.not_false, hm, hw, iD, iA, iZ, i1, q0, q1, q2, q3, q4]; done)))
  (try rw [Int.toNat_natCast, Nat.zero_add]); rw [i1]; rfl
end Go.Proofs.Ytnloobnpgkpbhaa.Wlk
namespace Go.Proofs.Ytnloobnpgkpbhaa.Wlk
open Go Go.Eng Go.Proofs Go.RowKit
theorem fill_ne (x y : Int) (v w : Bool) (a : Int) (L : List Ro) : fillL x y v w a L ≠ [] := by
  intro h
  have := fill_len x y v w a L
  rw [h] at this
  split at this
  · rename_i c; simp at this; omega
  · simp at this
theorem tL_ne (ws : List Int) (L : List Ro) (sp d a : Int) : tL ws L sp d a ≠ [] := fill_ne _ _ _ _ _ _
theorem doW_ne {B : Od} {i : Nat} {ws : List Int} (h : ¬ B.ok.getD i 0 = 4) : doW B i ws = ws := by unfold doW; rw [if_neg h]
theorem doW_4 {B : Od} {i : Nat} {ws : List Int} (h : B.ok.getD i 0 = 4) : doW B i ws = putW ws (B.oa.getD i 0) (B.op.getD i 0) := by unfold doW; rw [if_pos h]
theorem doO_0 {B : Od} {i : Nat} {ws : List Int} {o : Ts} (c0 : B.ok.getD i 0 = 0) : doO B i ws o = stTo ws (B.os.getD i 0) (B.od.getD i 0) (B.oa.getD i 0) o := by unfold doO; rw [if_pos c0]
theorem doO_1 {B : Od} {i : Nat} {ws : List Int} {o : Ts} (c0 : ¬ B.ok.getD i 0 = 0) (c1 : B.ok.getD i 0 = 1) : doO B i ws o = fillT (B.os.getD i 0) (B.oa.getD i 0) (B.ov.getD i false) (B.oe.getD i false) (B.oz.getD i 0) o := by unfold doO; rw [if_neg c0, if_pos c1]
theorem doO_2 {B : Od} {i : Nat} {ws : List Int} {o : Ts} (c0 : ¬ B.ok.getD i 0 = 0) (c1 : ¬ B.ok.getD i 0 = 1) (c2 : B.ok.getD i 0 = 2) : doO B i ws o = dropT (B.os.getD i 0) (B.oa.getD i 0) o := by unfold doO; rw [if_neg c0, if_neg c1, if_pos c2]
theorem doO_3 {B : Od} {i : Nat} {ws : List Int} {o : Ts} (c0 : ¬ B.ok.getD i 0 = 0) (c1 : ¬ B.ok.getD i 0 = 1) (c2 : ¬ B.ok.getD i 0 = 2) (c3 : B.ok.getD i 0 = 3) : doO B i ws o = flushT (B.os.getD i 0) o := by unfold doO; rw [if_neg c0, if_neg c1, if_neg c2, if_pos c3]
theorem doO_4 {B : Od} {i : Nat} {ws : List Int} {o : Ts} (c0 : ¬ B.ok.getD i 0 = 0) (c1 : ¬ B.ok.getD i 0 = 1) (c2 : ¬ B.ok.getD i 0 = 2) (c3 : ¬ B.ok.getD i 0 = 3) : doO B i ws o = o := by unfold doO; rw [if_neg c0, if_neg c1, if_neg c2, if_neg c3]
/-- A round does as was said, with some table. -/
def RoundOk (ul m c c' i : Nat) (B : Od) (ws : List Int) (o : Ts) (b : Bool) : Prop :=
  ∃ (L1 : List Ro) (e1 : Nat) (b' : Bool), ∀ K : HeadK, bodyR Try.prog (sDo (fD L1 e1) L1 e1) lNil iDo 60 (loopOf Try.prog 5 0) (vDo ul i) (doH B m c c' b ws o) K = K .normal (vDo ul (i + 1 : Nat)) (doH B m c c' b' (doW B i ws) (doO B i ws o))
theorem roundN (ul m c c' i : Nat) (B : Od) (ws : List Int) (b : Bool) (hB : OdOk B ul) (hm : okM m ws = true) (hw : allW ws = true) (h1 : i < ul) (h60 : i < 60) : RoundOk ul m c c' i B ws none b := by
  by_cases c0 : B.ok.getD i 0 = 0
  · cases hc : tC ws [] (B.os.getD i 0) (B.od.getD i 0) (B.oa.getD i 0) with
    | true =>
      refine ⟨_, 0, false, fun K => (doN0y ul m c c' i B ws hB hm hw h1 h60 K c0 hc).trans ?_⟩
      rw [doW_ne (by omega), doO_0 c0, stTo_none, if_pos hc, doH_ne _ _ _ _ _ _ (tL_ne _ _ _ _ _)]; rfl
    | false =>
      refine ⟨[], 0, b, fun K => (doN0n ul m c c' i B ws hB hm hw h1 h60 K c0 [] 0 hc).trans ?_⟩
      rw [doW_ne (by omega), doO_0 c0, stTo_none, hc, if_neg Bool.false_ne_true]; rfl
  · by_cases c1 : B.ok.getD i 0 = 1
    · by_cases hc : filE (B.os.getD i 0) (B.oa.getD i 0) (B.ov.getD i false) (B.oe.getD i false) (B.oz.getD i 0) = 0
      · refine ⟨_, 0, false, fun K => (doN1y ul m c c' i B ws hB hm hw h1 h60 K c0 c1 hc).trans ?_⟩
        rw [doW_ne (by omega), doO_1 c0 c1, fillT, if_pos hc, doH_ne _ _ _ _ _ _ (fill_ne _ _ _ _ _ _)]; rfl
      · refine ⟨[], 0, b, fun K => (doN1n ul m c c' i B ws hB hm hw h1 h60 K c0 c1 [] 0 hc).trans ?_⟩
        rw [doW_ne (by omega), doO_1 c0 c1, fillT, if_neg hc]; rfl
    · by_cases c2 : B.ok.getD i 0 = 2
      · refine ⟨[], 0, b, fun K => (doN2 ul m c c' i B ws hB hm hw h1 h60 K c0 c1 c2 [] 0).trans ?_⟩
        rw [doW_ne (by omega), doO_2 c0 c1 c2]; rfl
      · by_cases c3 : B.ok.getD i 0 = 3
        · refine ⟨[], 0, b, fun K => (doN3 ul m c c' i B ws hB hm hw h1 h60 K c0 c1 c2 c3 [] 0).trans ?_⟩
          rw [doW_ne (by omega), doO_3 c0 c1 c2 c3]; rfl
        · by_cases c4 : B.ok.getD i 0 = 4
          · refine ⟨[], 0, b, fun K => (doN4 ul m c c' i B ws hB hm hw h1 h60 K c0 c1 c2 c3 c4 [] 0).trans ?_⟩
            rw [doW_4 c4, doO_4 c0 c1 c2 c3]; rfl
          · refine ⟨[], 0, b, fun K => (doN5 ul m c c' i B ws hB hm hw h1 h60 K c0 c1 c2 c3 c4 [] 0).trans ?_⟩
            rw [doW_ne c4, doO_4 c0 c1 c2 c3]; rfl
theorem roundM (ul m c c' i e : Nat) (B : Od) (ws : List Int) (b : Bool) (hB : OdOk B ul) (hm : okM m ws = true) (hw : allW ws = true) (ho : InvW [] e) (h1 : i < ul) (h60 : i < 60) : RoundOk ul m c c' i B ws (some ([], e)) b := by
  by_cases c0 : B.ok.getD i 0 = 0
  · cases hc : tC ws [] (B.os.getD i 0) (B.od.getD i 0) (B.oa.getD i 0) with
    | true =>
      refine ⟨tL ws [] (B.os.getD i 0) (B.od.getD i 0) (B.oa.getD i 0), tX [] (B.os.getD i 0) (B.oa.getD i 0) e, false, fun K => (doM0y ul m c c' i B ws [] rfl e (tL ws [] (B.os.getD i 0) (B.od.getD i 0) (B.oa.getD i 0)) (tX [] (B.os.getD i 0) (B.oa.getD i 0) e) hB hm hw ho h1 h60 K c0 rfl (ho.fill _ _ _ _ _) hc (isQ_of rfl) (isQ_of rfl) _ rfl).trans ?_⟩
      rw [doW_ne (by omega), doO_0 c0, stTo_some, if_pos hc, doH_ne _ _ _ _ _ _ (tL_ne _ _ _ _ _)]; rfl
    | false =>
      refine ⟨[], 0, b, fun K => (doM0n ul m c c' i B ws [] rfl e [] 0 hB hm hw ho h1 h60 K c0 hc).trans ?_⟩
      rw [doW_ne (by omega), doO_0 c0, stTo_some, hc, if_neg Bool.false_ne_true]; rfl
  · by_cases c1 : B.ok.getD i 0 = 1
    · by_cases hc : filE (B.os.getD i 0) (B.oa.getD i 0) (B.ov.getD i false) (B.oe.getD i false) (B.oz.getD i 0) = 0
      · refine ⟨fillL (B.os.getD i 0) (B.oa.getD i 0) (B.ov.getD i false) (B.oe.getD i false) (B.oz.getD i 0) [], fillX (B.os.getD i 0) (B.oa.getD i 0) [] e, false, fun K => (doM1y ul m c c' i B ws [] rfl e _ _ hB hm hw ho h1 h60 K c0 c1 rfl (ho.fill _ _ _ _ _) hc (isQ_of rfl) (isQ_of rfl) _ rfl).trans ?_⟩
        rw [doW_ne (by omega), doO_1 c0 c1, fillT, if_pos hc, doH_ne _ _ _ _ _ _ (fill_ne _ _ _ _ _ _)]; rfl
      · refine ⟨[], 0, b, fun K => (doM1n ul m c c' i B ws [] rfl e [] 0 hB hm hw ho h1 h60 K c0 c1 hc).trans ?_⟩
        rw [doW_ne (by omega), doO_1 c0 c1, fillT, if_neg hc]; rfl
    · by_cases c2 : B.ok.getD i 0 = 2
      · refine ⟨[], e, b, fun K => (doM2 ul m c c' i B ws [] rfl e [] e hB hm hw ho h1 h60 K c0 c1 c2 rfl ho (isQ_of rfl)).trans ?_⟩
        rw [doW_ne (by omega), doO_2 c0 c1 c2]; rfl
      · by_cases c3 : B.ok.getD i 0 = 3
        · refine ⟨[], e, b, fun K => (doM3 ul m c c' i B ws [] rfl e [] e hB hm hw ho h1 h60 K c0 c1 c2 c3 rfl ho (isQ_of rfl)).trans ?_⟩
          rw [doW_ne (by omega), doO_3 c0 c1 c2 c3]; rfl
        · by_cases c4 : B.ok.getD i 0 = 4
          · refine ⟨[], 0, b, fun K => (doM4 ul m c c' i B ws [] rfl e [] 0 hB hm hw ho h1 h60 K c0 c1 c2 c3 c4).trans ?_⟩
            rw [doW_4 c4, doO_4 c0 c1 c2 c3]; rfl
          · refine ⟨[], 0, b, fun K => (doM5 ul m c c' i B ws [] rfl e [] 0 hB hm hw ho h1 h60 K c0 c1 c2 c3 c4).trans ?_⟩
            rw [doW_ne c4, doO_4 c0 c1 c2 c3]; rfl
theorem roundS (ul m c c' i e : Nat) (B : Od) (ws : List Int) (L : List Ro) (hL : L ≠ []) (b : Bool) (hB : OdOk B ul) (hm : okM m ws = true) (hw : allW ws = true) (ho : InvW L e) (h1 : i < ul) (h60 : i < 60) : RoundOk ul m c c' i B ws (some (L, e)) b := by
  unfold RoundOk
  rw [doH_ne _ _ _ _ _ _ hL]
  by_cases c0 : B.ok.getD i 0 = 0
  · cases hc : tC ws L (B.os.getD i 0) (B.od.getD i 0) (B.oa.getD i 0) with
    | true =>
      refine ⟨tL ws L (B.os.getD i 0) (B.od.getD i 0) (B.oa.getD i 0), tX L (B.os.getD i 0) (B.oa.getD i 0) e, toN (B.os.getD i 0) (B.oa.getD i 0) L, fun K => (doS0y ul m c c' i B ws L e b (tL ws L (B.os.getD i 0) (B.od.getD i 0) (B.oa.getD i 0)) (tX L (B.os.getD i 0) (B.oa.getD i 0) e) hB hm hw ho h1 h60 K c0 (ho.fill _ _ _ _ _) hc (isQ_of rfl) (isQ_of rfl) _ rfl).trans ?_⟩
      rw [doW_ne (by omega), doO_0 c0, stTo_some, if_pos hc, doH_ne _ _ _ _ _ _ (tL_ne _ _ _ _ _)]
    | false =>
      refine ⟨[], 0, b, fun K => (doS0n ul m c c' i B ws L e b [] 0 hB hm hw ho h1 h60 K c0 hc).trans ?_⟩
      rw [doW_ne (by omega), doO_0 c0, stTo_some, hc, if_neg Bool.false_ne_true, doH_ne _ _ _ _ _ _ hL]
  · by_cases c1 : B.ok.getD i 0 = 1
    · by_cases hc : filE (B.os.getD i 0) (B.oa.getD i 0) (B.ov.getD i false) (B.oe.getD i false) (B.oz.getD i 0) = 0
      · refine ⟨fillL (B.os.getD i 0) (B.oa.getD i 0) (B.ov.getD i false) (B.oe.getD i false) (B.oz.getD i 0) L, fillX (B.os.getD i 0) (B.oa.getD i 0) L e, bnF (B.os.getD i 0) (B.oa.getD i 0) L, fun K => (doS1y ul m c c' i B ws L e b (fillL (B.os.getD i 0) (B.oa.getD i 0) (B.ov.getD i false) (B.oe.getD i false) (B.oz.getD i 0) L) (fillX (B.os.getD i 0) (B.oa.getD i 0) L e) hB hm hw ho h1 h60 K c0 c1 (ho.fill _ _ _ _ _) hc (isQ_of rfl) (isQ_of rfl) _ rfl).trans ?_⟩
        rw [doW_ne (by omega), doO_1 c0 c1, fillT, if_pos hc, doH_ne _ _ _ _ _ _ (fill_ne _ _ _ _ _ _)]; rfl
      · refine ⟨[], 0, b, fun K => (doS1n ul m c c' i B ws L e b [] 0 hB hm hw ho h1 h60 K c0 c1 hc).trans ?_⟩
        rw [doW_ne (by omega), doO_1 c0 c1, fillT, if_neg hc, doH_ne _ _ _ _ _ _ hL]
    · by_cases c2 : B.ok.getD i 0 = 2
      · by_cases hn : dropL (B.os.getD i 0) (B.oa.getD i 0) L = []
        · refine ⟨[], e + (L.length - (dropL (B.os.getD i 0) (B.oa.getD i 0) L).length), b, fun K => (doS2y ul m c c' i B ws L e b [] _ hB hm hw ho h1 h60 K c0 c1 c2 rfl (hn ▸ ho.drop _ _) (isQ_of (by rw [hn])) (isQ_of hn) (by unfold drN; rw [hn]; rfl)).trans ?_⟩
          rw [doW_ne (by omega), doO_2 c0 c1 c2, dropT, hn]; rfl
        · refine ⟨dropL (B.os.getD i 0) (B.oa.getD i 0) L, e + (L.length - (dropL (B.os.getD i 0) (B.oa.getD i 0) L).length), false, fun K => (doS2n ul m c c' i B ws L e b _ _ hB hm hw ho h1 h60 K c0 c1 c2 (ho.drop _ _) (isQ_of rfl) (isQ_of rfl) (by unfold drN; cases hd : dropL (B.os.getD i 0) (B.oa.getD i 0) L with | nil => exact absurd hd hn | cons q R => rfl)).trans ?_⟩
          rw [doW_ne (by omega), doO_2 c0 c1 c2, dropT, doH_ne _ _ _ _ _ _ hn]
      · by_cases c3 : B.ok.getD i 0 = 3
        · by_cases hn : flushL (B.os.getD i 0) L = []
          · refine ⟨[], e + (L.length - (flushL (B.os.getD i 0) L).length), b, fun K => (doS3y ul m c c' i B ws L e b [] _ hB hm hw ho h1 h60 K c0 c1 c2 c3 rfl (hn ▸ ho.flush _) (isQ_of (by rw [hn])) (isQ_of hn) (by unfold flN0; rw [hn]; rfl)).trans ?_⟩
            rw [doW_ne (by omega), doO_3 c0 c1 c2 c3, flushT, hn]; rfl
          · refine ⟨flushL (B.os.getD i 0) L, e + (L.length - (flushL (B.os.getD i 0) L).length), false, fun K => (doS3n ul m c c' i B ws L e b _ _ hB hm hw ho h1 h60 K c0 c1 c2 c3 (ho.flush _) (isQ_of rfl) (isQ_of rfl) (by unfold flN0; cases hd : flushL (B.os.getD i 0) L with | nil => exact absurd hd hn | cons q R => rfl)).trans ?_⟩
            rw [doW_ne (by omega), doO_3 c0 c1 c2 c3, flushT, doH_ne _ _ _ _ _ _ hn]
        · by_cases c4 : B.ok.getD i 0 = 4
          · refine ⟨[], 0, b, fun K => (doS4 ul m c c' i B ws L e b [] 0 hB hm hw ho h1 h60 K c0 c1 c2 c3 c4).trans ?_⟩
            rw [doW_4 c4, doO_4 c0 c1 c2 c3, doH_ne _ _ _ _ _ _ hL]
          · refine ⟨[], 0, b, fun K => (doS5 ul m c c' i B ws L e b [] 0 hB hm hw ho h1 h60 K c0 c1 c2 c3 c4).trans ?_⟩
            rw [doW_ne c4, doO_4 c0 c1 c2 c3, doH_ne _ _ _ _ _ _ hL]
end Go.Proofs.Ytnloobnpgkpbhaa.Wlk
namespace Go.Proofs.Ytnloobnpgkpbhaa.Wlk
open Go Go.Eng Go.Proofs Go.RowKit
structure InvD (m : Nat) (ws : List Int) (o : Ts) : Prop where
  hm : okM m ws = true
  hw : allW ws = true
  ho : InvO o
theorem InvD.step {B : Od} {ul m : Nat} {ws : List Int} {o : Ts} (hB : OdOk B ul) (h : InvD m ws o) (i : Nat) : InvD m (doW B i ws) (doO B i ws o) := by
  obtain ⟨hm, hw, ho⟩ := h
  have e1 : okM m (doW B i ws) = true ∧ allW (doW B i ws) = true := by
    unfold doW
    split
    · refine ⟨?_, putW_all hw (getD_all hB.hV i)⟩
      unfold okM at hm ⊢
      rw [putW_len]; exact hm
    · exact ⟨hm, hw⟩
  refine ⟨e1.1, e1.2, ?_⟩
  unfold doO
  split
  · exact ho.to _ _ _
  · split
    · unfold fillT
      split
      · cases o with
        | none => exact InvW.fill (L := []) (e := 0) ⟨by simp, by simp⟩ _ _ _ _ _
        | some q => obtain ⟨L, e⟩ := q; exact InvW.fill (L := L) (e := e) ho _ _ _ _ _
      · exact ho
    · split
      · cases o with
        | none => trivial
        | some q => obtain ⟨L, e⟩ := q; exact InvW.drop (L := L) (e := e) ho _ _
      · split
        · cases o with
          | none => trivial
          | some q => obtain ⟨L, e⟩ := q; exact InvW.flush (L := L) (e := e) ho _
        · exact ho
theorem round_any (ul m c c' i : Nat) (B : Od) (ws : List Int) (o : Ts) (b : Bool) (hB : OdOk B ul) (h : InvD m ws o) (h1 : i < ul) (h60 : i < 60) : RoundOk ul m c c' i B ws o b := by
  cases o with
  | none => exact roundN ul m c c' i B ws b hB h.hm h.hw h1 h60
  | some q =>
    obtain ⟨L, e⟩ := q
    by_cases hL : L = []
    · subst hL
      exact roundM ul m c c' i e B ws b hB h.hm h.hw h.ho h1 h60
    · exact roundS ul m c c' i e B ws L hL b hB h.hm h.hw h.ho h1 h60
abbrev eD (B : Od) (m c c' : Nat) (ws : List Int) : Heap := [bRw B.zs, bOd B, bM 4 m c, bM 5 m c', bW ws, bW ws]
theorem stopD (ul m c c' i : Nat) (B : Od) (ws : List Int) (o : Ts) (b : Bool) (K : HeadK) (hs : ¬ (i < ul ∧ i < 60)) :
    bodyR Try.prog (sDo (fD [] 0) [] 0) lNil iDo 60 (loopOf Try.prog 5 0) (vDo ul i) (doH B m c c' b ws o) K = K (.exit 0) [vPt 2, vPt 3] (eD B m c c' ws) := by
  cases o with
  | none =>
    refine (t_doN (fD [] 0) [] 0 ul m c c' i B.zs B.ok B.os B.od B.oa B.ow B.ov B.oe B.oz B.op ws K).trans ?_
    by_cases a1 : i < ul
    · rw [decide_eq_true (show (i : Int) < (ul : Int) by omega), cT, decide_eq_false (show ¬ (i : Int) < 60 by omega), cF] <;> rfl
    · rw [decide_eq_false (show ¬ (i : Int) < (ul : Int) by omega), cF] <;> rfl
  | some q =>
    obtain ⟨L, e⟩ := q
    by_cases hL : L = []
    · subst hL
      refine (t_doM (fD [] 0) [] 0 ul m c c' 0 e i B.zs B.ok B.os B.od B.oa B.ow B.ov B.oe B.oz B.op ws _ _ _ _ _ K).trans ?_
      by_cases a1 : i < ul
      · rw [decide_eq_true (show (i : Int) < (ul : Int) by omega), cT, decide_eq_false (show ¬ (i : Int) < 60 by omega), cF] <;> rfl
      · rw [decide_eq_false (show ¬ (i : Int) < (ul : Int) by omega), cF] <;> rfl
    · rw [doH_ne _ _ _ _ _ _ hL]
      refine (t_doS (fD [] 0) [] 0 ul m c c' L.length e L.length b i B.zs B.ok B.os B.od B.oa B.ow B.ov B.oe B.oz B.op ws _ _ _ _ _ _ _ _ _ _ K).trans ?_
      by_cases a1 : i < ul
      · rw [decide_eq_true (show (i : Int) < (ul : Int) by omega), cT, decide_eq_false (show ¬ (i : Int) < 60 by omega), cF] <;> rfl
      · rw [decide_eq_false (show ¬ (i : Int) < (ul : Int) by omega), cF] <;> rfl
def doS (B : Od) (ul : Nat) : Nat → Nat → List Int → List Int
  | 0, _, ws => ws
  | j + 1, i, ws => if i < ul then doS B ul j (i + 1) (doW B i ws) else ws
theorem noneH : HeadSound Try.prog iDo (loopOf Try.prog 5 0) (fun _ _ _ => none) := fun vs h K r hn e => by cases e
theorem loopDo (ul m c c' : Nat) (B : Od) (hB : OdOk B ul) (j : Nat) : ∀ (i : Nat) (ws : List Int) (o : Ts) (b : Bool), InvD m ws o → i + j = 60 →
    ∃ H : HeadO, HeadSound Try.prog iDo (loopOf Try.prog 5 0) H ∧ ∀ K : HeadK, H (vDo ul i) (doH B m c c' b ws o) K = K (.exit 0) [vPt 2, vPt 3] (eD B m c c' (doS B ul j i ws)) := by
  induction j with
  | zero =>
    intro i ws o b h hi
    refine ⟨stepR Try.prog (sDo (fD [] 0) [] 0) lNil iDo 60 (loopOf Try.prog 5 0) (fun _ _ _ => none), stepR_sound (fD_ok [] 0) mix lNil_ok noneH, fun K => ?_⟩
    exact stopD ul m c c' i B ws o b _ (by omega)
  | succ j ih =>
    intro i ws o b h hi
    by_cases hs : i < ul
    · obtain ⟨L1, e1, b', hr⟩ := round_any ul m c c' i B ws o b hB h hs (by omega)
      obtain ⟨H, hH, hK⟩ := ih (i + 1) (doW B i ws) (doO B i ws o) b' (h.step hB i) (by omega)
      refine ⟨stepR Try.prog (sDo (fD L1 e1) L1 e1) lNil iDo 60 (loopOf Try.prog 5 0) H, stepR_sound (fD_ok L1 e1) mix lNil_ok hH, fun K => ?_⟩
      rw [doS, if_pos hs]
      exact (hr _).trans (hK K)
    · refine ⟨stepR Try.prog (sDo (fD [] 0) [] 0) lNil iDo 60 (loopOf Try.prog 5 0) (fun _ _ _ => none), stepR_sound (fD_ok [] 0) mix lNil_ok noneH, fun K => ?_⟩
      rw [doS, if_neg hs]
      exact stopD ul m c c' i B ws o b _ (by omega)
theorem doS_ok {B : Od} {ul m : Nat} (hB : OdOk B ul) : ∀ (j i : Nat) (ws : List Int), okM m ws = true → allW ws = true → okM m (doS B ul j i ws) = true ∧ allW (doS B ul j i ws) = true
  | 0, _, _, h1, h2 => ⟨h1, h2⟩
  | j + 1, i, ws, h1, h2 => by
    rw [doS]
    split
    · have := InvD.step (o := none) hB ⟨h1, h2, trivial⟩ i
      exact doS_ok hB j (i + 1) _ this.hm this.hw
    · exact ⟨h1, h2⟩
def odB (B : Od) (ul : Nat) : Bool := allI B.od && allI B.oa && allI B.oz && allW B.op && decide (ul = B.ok.length) && decide (ul = B.os.length) && decide (ul = B.od.length) && decide (ul = B.oa.length) && decide (ul = B.ow.length) && decide (ul = B.ov.length) && decide (ul = B.oe.length) && decide (ul = B.oz.length) && decide (ul = B.op.length)
theorem odB_iff (B : Od) (ul : Nat) : odB B ul = true ↔ OdOk B ul := by
  unfold odB
  simp only [Bool.and_eq_true, decide_eq_true_eq]
  constructor
  · rintro ⟨⟨⟨⟨⟨⟨⟨⟨⟨⟨⟨⟨h1, h2⟩, h3⟩, h4⟩, h5⟩, h6⟩, h7⟩, h8⟩, h9⟩, h10⟩, h11⟩, h12⟩, h13⟩
    exact ⟨h1, h2, h3, h4, h5, h6, h7, h8, h9, h10, h11, h12, h13⟩
  · rintro ⟨h1, h2, h3, h4, h5, h6, h7, h8, h9, h10, h11, h12, h13⟩
    exact ⟨⟨⟨⟨⟨⟨⟨⟨⟨⟨⟨⟨h1, h2⟩, h3⟩, h4⟩, h5⟩, h6⟩, h7⟩, h8⟩, h9⟩, h10⟩, h11⟩, h12⟩, h13⟩
abbrev DBf := Od → Nat → Bool
abbrev DWf := Od → Nat → List Int → List Int
def doT (B : Od) (ul : Nat) (ws : List Int) : List Int := doS B ul 60 0 ws
set_option maxHeartbeats 4000000 in
noncomputable def cDo (OB : DBf) (WF : DWf) : HeadO := fun vs h K => match vs, h with
  | [.e (.c (.slice ⟨1, 0, 9, 0, 0, 0, 0⟩ 9 ul 0 false)), .e (.c (.ptr ⟨2, 0, 0, 0, 0, 0, 0⟩)), .e (.c (.ptr ⟨3, 0, 0, 0, 0, 0, 0⟩)), .e (.c (.ptr ⟨4, 0, 0, 0, 0, 0, 0⟩)), .e (.c (.ptr ⟨5, 0, 0, 0, 0, 0, 0⟩)), .e (.c (.int .i64 i))],
    [(false, some ⟨true, .rows [.ints .u64 zs]⟩), (false, some ⟨true, .rows [.ints .i64 ok, .ints .i64 os, .ints .i64 od, .ints .i64 oa, .bools ow, .bools ov, .bools oe, .ints .i64 oz, .ints .u64 op]⟩), (true, some ⟨false, .mix [.slice ⟨6, 0, 1, 0, 0, 0, 0⟩ 1 m c true]⟩), (true, some ⟨false, .mix [.slice ⟨7, 0, 1, 0, 0, 0, 0⟩ 1 m' c' true]⟩), (true, some ⟨false, .mix [.nils]⟩), (true, some ⟨false, .mix [.nils]⟩), (true, some ⟨false, .rows [.ints .u64 ws]⟩), (true, some ⟨false, .rows [.ints .u64 wt]⟩)] =>
    match decide (i = 0) && OB ⟨zs, ok, os, od, oa, ow, ov, oe, oz, op⟩ ul && okM m ws && allW ws && decide (m' = m) && decide (wt = ws) with
    | true => K (.exit 0) [vPt 2, vPt 3] [bRw zs, bOp ok os od oa ow ov oe oz op, bM 4 m c, bM 5 m c', bW (WF ⟨zs, ok, os, od, oa, ow, ov, oe, oz, op⟩ ul ws), bW (WF ⟨zs, ok, os, od, oa, ow, ov, oe, oz, op⟩ ul ws)]
    | false => none
  | _, _ => none
set_option maxHeartbeats 4000000 in
theorem cDo_sound : HeadSound Try.prog iDo (loopOf Try.prog 5 0) (cDo odB doT) := by
  refine HeadSound.any fun vs h K r ee => ?_
  unfold cDo at ee
  split at ee
  · rename_i ul i zs ok os od oa ow ov oe oz op m c m' c' ws wt
    split at ee
    · rename_i hc
      simp only [Bool.and_eq_true, decide_eq_true_eq] at hc
      obtain ⟨⟨⟨⟨⟨rfl, c1⟩, c2⟩, c3⟩, rfl⟩, rfl⟩ := hc
      obtain ⟨H, hH, hK⟩ := loopDo ul m' c c' ⟨zs, ok, os, od, oa, ow, ov, oe, oz, op⟩ ((odB_iff _ _).1 c1) 60 0 wt none false ⟨c2, c3, trivial⟩ rfl
      exact ⟨H, hH, (hK K).trans ee⟩
    · cases ee
  · cases ee
noncomputable def lDo (OB : DBf) (WF : DWf) : Nat → Option Orc := lAdd lNil 0 (wrapO iDo 0 (cDo OB WF))
theorem lDo_for : LFor 2 Try.prog 5 (lDo odB doT) := lAdd_for (I := iDo) lNil_for (by kernel_rfl) cDo_sound
theorem do_dis : Go.Eng.distinct (blockIds (codeOf Try.prog 5)) = true := by kernel_rfl
noncomputable def sDz (N : Int → Nat) (M : Int → List Int → List Int) : Summ := sAdd (sAdd (sAdd (sAdd sNil 14 (gMadeV N M)) 9 gNewT) 29 gWords) 28 gSame
theorem sDz_ok : SummOk Try.prog (sDz mdN mdW) := sAdd_ok (sAdd_ok (sAdd_ok (sAdd_ok sNil_ok gMade_sound (enters Try.func14 rfl (by kernel_rfl))) gNewT_sound (enters Try.func9 rfl (by kernel_rfl))) gWords_sound (enters Try.func29 rfl (by kernel_rfl))) gSame_sound (enters Try.func28 rfl (by kernel_rfl))
theorem t_does (N : Int → Nat) (M : Int → List Int → List Int) (OB : DBf) (WF : DWf) (vl ul : Nat) (n : Int) (zs : List Int) (ok os od oa : List Int) (ow ov oe : List Bool) (oz op : List Int) (k : Res → Option Res) : runLG Try.prog (sDz N M) (lDo OB WF) 2 200 5 [aint .i64 n, vS0 vl, vOp1 ul] [some ⟨true, .rows [.ints .u64 zs]⟩, some ⟨true, .rows [.ints .i64 ok, .ints .i64 os, .ints .i64 od, .ints .i64 oa, .bools ow, .bools ov, .bools oe, .ints .i64 oz, .ints .u64 op]⟩] k = (cond (Nat.beq vl (List.length zs) && decide (List.length zs < 4611686018427387904)) (cond (true && OB { zs := zs, ok := ok, os := os, od := od, oa := oa, ow := ow, ov := ov, oe := oe, oz := oz, op := op } ul && Go.Proofs.Ytnloobnpgkpbhaa.Wlk.okM (N n) (M n zs) && Go.Proofs.Ytnloobnpgkpbhaa.Wlk.allW (M n zs) && decide (N n = N n) && decide (M n zs = M n zs)) (cond (Go.Proofs.Ytnloobnpgkpbhaa.Wlk.okM (N n) (WF { zs := zs, ok := ok, os := os, od := od, oa := oa, ow := ow, ov := ov, oe := oe, oz := oz, op := op } ul (M n zs))) (cond (Nat.beq (N n) (List.length (WF { zs := zs, ok := ok, os := os, od := od, oa := oa, ow := ow, ov := ov, oe := oe, oz := oz, op := op } ul (M n zs))) && Nat.beq (N n) (List.length (WF { zs := zs, ok := ok, os := os, od := od, oa := oa, ow := ow, ov := ov, oe := oe, oz := oz, op := op } ul (M n zs))) && decide (List.length (WF { zs := zs, ok := ok, os := os, od := od, oa := oa, ow := ow, ov := ov, oe := oe, oz := oz, op := op } ul (M n zs)) < 4611686018427387904) && decide (List.length (WF { zs := zs, ok := ok, os := os, od := od, oa := oa, ow := ow, ov := ov, oe := oe, oz := oz, op := op } ul (M n zs)) < 4611686018427387904)) (k (Res.mk (AV.e (AE.c (AC.bool (decide (WF { zs := zs, ok := ok, os := os, od := od, oa := oa, ow := ow, ov := ov, oe := oe, oz := oz, op := op } ul (M n zs) = WF { zs := zs, ok := ok, os := os, od := od, oa := oa, ow := ow, ov := ov, oe := oe, oz := oz, op := op } ul (M n zs)))))) [(none), (none)])) none) none) none) none) := by kernel_rfl
end Go.Proofs.Ytnloobnpgkpbhaa.Wlk
namespace Go.Proofs.Ytnloobnpgkpbhaa.Wlk
open Go Go.Eng Go.Proofs Go.RowKit
theorem ok2' {w : World} {s t : SlArg} (h : SlOk w s) (g : SlOk w t) : ∀ (i : Nat) (s' : SlArg), [s, t][i]? = some s' → SlOk w s' := by
  intro i s' hs
  match i, hs with
  | 0, hs => simp at hs; subst hs; exact h
  | 1, hs => simp at hs; subst hs; exact g
  | i + 2, hs => simp at hs
theorem okM_d {m : Nat} {l : List Int} (h : okM m l = true) : m = l.length ∧ m ≤ 65536 := by
  unfold okM at h
  simp only [Bool.and_eq_true, decide_eq_true_eq] at h
  obtain ⟨h1, h2⟩ := h
  have h1 := Nat.eq_of_beq_eq_true h1
  omega
theorem does_tree (n : Int) (vl ul : Nat) (zs : List Int) (B : Od) (hz0 : B.zs = zs) (hv : vl = zs.length) (hz : zs.length < 4611686018427387904) (hW : allW zs = true) (hB : OdOk B ul) :
    runLG Try.prog (sDz mdN mdW) (lDo odB doT) 2 200 5 [aint .i64 n, vS0 vl, vOp1 ul] [some ⟨true, .rows [.ints .u64 zs]⟩, some ⟨true, .rows [.ints .i64 B.ok, .ints .i64 B.os, .ints .i64 B.od, .ints .i64 B.oa, .bools B.ow, .bools B.ov, .bools B.oe, .ints .i64 B.oz, .ints .u64 B.op]⟩] some = some ⟨wr_ true, [none, none]⟩ := by
  subst hz0
  obtain ⟨q1, q2⟩ := md_facts n hW
  obtain ⟨p1, p2⟩ := doS_ok hB 60 0 _ q1 q2
  obtain ⟨l1, l2⟩ := okM_d q1
  obtain ⟨m1, m2⟩ := okM_d p1
  obtain ⟨zs, ok, os, od, oa, ow, ov, oe, oz, op⟩ := B
  refine (t_does mdN mdW odB doT vl ul n zs ok os od oa ow ov oe oz op some).trans ?_
  have p1' : okM (mdN n) (doT ⟨zs, ok, os, od, oa, ow, ov, oe, oz, op⟩ ul (mdW n zs)) = true := p1
  have m1' : mdN n = (doT ⟨zs, ok, os, od, oa, ow, ov, oe, oz, op⟩ ul (mdW n zs)).length := m1
  rw [hv, Nat.beq_refl, decide_eq_true hz, (odB_iff _ _).2 hB, q1, q2, p1']
  rw [decide_eq_true (rfl : mdN n = mdN n), decide_eq_true (rfl : mdW n zs = mdW n zs)]
  rw [← m1', Nat.beq_refl, decide_eq_true (show mdN n < 4611686018427387904 by omega)]
  repeat rw [Bool.and_self]
  repeat rw [cT]
  rw [decide_eq_true (rfl : doT ⟨zs, ok, os, od, oa, ow, ov, oe, oz, op⟩ ul (mdW n zs) = _)]
theorem does_walk (n : Int) (x : Option Addr) (len cap : Nat) (zs : List Int) (x2 : Option Addr) (len2 cap2 : Nat) (W : World)
    (h0 : (Lit.int .i64 n).wf = true) (hr : IsRow .u64 W x len cap zs) (hs : len * 8 ≤ 140737488351232) (hg : IsGrid ksOp W x2 len2 cap2) (hs2 : len2 * 64 ≤ 140737488351232) :
    Calls Try.prog 5 #[.int .i64 n, .slice x len cap, .slice x2 len2 cap2] W fun e w' => e = .returned (.bool true) ∧ Below W.heap.size W w' := by
  obtain ⟨ok, hl, hb⟩ := hr.ok
  obtain ⟨k, s, d, a, w, v, e, z, p, ok2, lk, ls, ld, la, lw, lv, le, lz, lp, fk, fs, fd, fa, fz, fp⟩ := ops_of hg
  refine of_rows (sl := [intArg .u64 x len cap zs, ⟨x2, len2, cap2, [.ints .i64 k, .ints .i64 s, .ints .i64 d, .ints .i64 a, .bools w, .bools v, .bools e, .ints .i64 z, .ints .u64 p]⟩]) (args := [aint .i64 n, vS0 len, vOp1 len2])
    (blks := [none, none]) (runL_sound sDz_ok mix 200 5 do_dis lDo_for).gc (ok2' ok ok2) ?_
    (does_tree n len len2 (zs.take len) ⟨zs.take len, k, s, d, a, w, v, e, z, p⟩ rfl hl.symm (by omega) (allW_of hb) ⟨fd, fa, fz, fp, lk.symm, ls.symm, ld.symm, la.symm, lw.symm, lv.symm, le.symm, lz.symm, lp.symm⟩)
  exact LR.cons rfl (LR.cons (args_slice (i := 0) rfl ok rfl) (LR.cons (args_slice (i := 1) rfl ok2 rfl) LR.nil))
end Go.Proofs.Ytnloobnpgkpbhaa.Wlk
