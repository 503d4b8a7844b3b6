/- One page's entry dropped: the law. -/
import Derived.Test.YtnloobnpgkpbhaaTdE
set_option linter.unusedVariables false
set_option linter.unusedSimpArgs false
set_option maxRecDepth 100000
namespace Go.Proofs.Ytnloobnpgkpbhaa.Wlk
open Go Go.Eng Go.Proofs Go.RowKit
def dropO (pp : Int) : Ts → Ts
  | none => none
  | some (L, e) => some (dropL 5 pp L, e + (L.length - (dropL 5 pp L).length))
theorem ok1 {w : World} {s : SlArg} (h : SlOk w s) : ∀ (i : Nat) (s' : SlArg), [s][i]? = some s' → SlOk w s' := by
  intro i s' hs
  match i, hs with
  | 0, hs => simp at hs; subst hs; exact h
  | i + 1, hs => simp at hs
theorem dW_okM : okM 400 dW = true := by
  unfold okM
  rw [dW_len]; decide
def vvI (y : Int) (wr : Bool) : Int := match wr with
  | true => IntKind.wrap IntKind.u64 (IntKind.wrap IntKind.u64 (IntKind.wrap IntKind.u64 (16 * IntKind.wrap IntKind.u64 (2 + Int.tmod (IntKind.wrap IntKind.u64 y) 20)) + 1) + 2)
  | false => IntKind.wrap IntKind.u64 (IntKind.wrap IntKind.u64 (16 * IntKind.wrap IntKind.u64 (2 + Int.tmod (IntKind.wrap IntKind.u64 y) 20)) + 1)
theorem wrap_word (x : Int) : word (IntKind.wrap IntKind.u64 x) = true := by
  rw [wrap_u64_emod]
  simp only [word, Bool.and_eq_true, decide_eq_true_eq]
  omega
theorem vv_word (y : Int) (wr : Bool) : word (vvI y wr) = true := by
  cases wr <;> exact wrap_word _
theorem rows_none {o : Ts} (h : o = none) : o.isNone = true := by rw [h]; rfl
set_option maxHeartbeats 2000000 in
theorem drops_tree (u : Nat) (x y : Int) (wr : Bool) (l : List Int) (hu : u = l.length) (pp : Int) (hpp : IntKind.wrap IntKind.i64 (Int.tmod (IntKind.wrap IntKind.u64 x) 16) = pp) (hp : 0 ≤ pp ∧ pp < 16) (Z : List Int) (hZ : putW dW (16 + pp) (vvI y wr) = Z) (o2 o4 : Ts) (h2 : d2S dW l 30 0 none = o2) (h4 : d4S Z 16 0 (dropO pp o2) = o4) :
    runLG Try.prog (sDl dropL agL) (lD dW0 dW d2N (d2Q (rowsO o2) (roomO o2)) (rowsO o2) (roomO o2) d4N agL (d4Q (rowsO o4) (roomO o4)) (rowsO o4) (roomO o4)) 1 300 7 [vS0 u, aint .i64 x, aint .i64 y, wr_ wr] [some ⟨true, .rows [.ints .i64 l]⟩] some = some ⟨wr_ true, [none]⟩ := by
  have Zl : Z.length = 400 := by rw [← hZ, putW_len, dW_len]
  have Zm : okM 400 Z = true := by unfold okM; rw [Zl]; decide
  have Za : allW Z = true := by rw [← hZ]; exact putW_all dW_all (vv_word y wr)
  have i1 : inI (16 + pp) = true := inI_of (by omega) (by omega)
  have i0 : inI 0 = true := rfl
  have ew : IntKind.wrap IntKind.i64 (16 + pp) = 16 + pp := wrap_i64 (by omega) (by omega)
  obtain ⟨I2, G2, F2⟩ := d2_inv dW l 30 0 none trivial rfl (fun r hr => by cases hr)
  rw [h2] at I2 G2 F2
  have e0 : decide (putW (List.replicate 400 (0 : Int)) 0 17 = dW0) = true := decide_eq_true rfl
  have z1 : wr = true → putW dW (16 + pp) (IntKind.wrap IntKind.u64 (IntKind.wrap IntKind.u64 (IntKind.wrap IntKind.u64 (16 * IntKind.wrap IntKind.u64 (2 + Int.tmod (IntKind.wrap IntKind.u64 y) 20)) + 1) + 2)) = Z := fun c => by rw [c] at hZ; exact hZ
  have z2 : wr = false → putW dW (16 + pp) (IntKind.wrap IntKind.u64 (IntKind.wrap IntKind.u64 (16 * IntKind.wrap IntKind.u64 (2 + Int.tmod (IntKind.wrap IntKind.u64 y) 20)) + 1)) = Z := fun c => by rw [c] at hZ; exact hZ
  cases o2 with
  | none =>
    have n2 : d2N dW l = true := by unfold d2N; rw [h2]; rfl
    obtain ⟨I4, G4⟩ := d4_inv Z 16 0 none trivial rfl
    have h4' : d4S Z 16 0 none = o4 := h4
    rw [h4'] at I4 G4
    have main : cond (okM 400 dW && inI (16 + pp)) (cond (true && okM 400 Z && allW Z) (cond (d4N Z) (some (⟨wr_ true, [none]⟩ : Res)) (cond (d4Q (rowsO o4) (roomO o4) Z none) (cond (okK (rowsO o4).length (roomO o4) (cS (rowsO o4) (roomO o4)) (cP (rowsO o4) (roomO o4)) (cV (rowsO o4) (roomO o4)) (cW (rowsO o4) (roomO o4)) (cA (rowsO o4) (roomO o4)) && (okM 400 Z && inI 0 && allW Z)) (some ⟨wr_ (agL Z 5 0 (rowsN (rowsO o4).length (cS (rowsO o4) (roomO o4)) (cP (rowsO o4) (roomO o4)) (cV (rowsO o4) (roomO o4)) (cW (rowsO o4) (roomO o4)) (cA (rowsO o4) (roomO o4)))), [none]⟩) none) none)) none) none = some ⟨wr_ true, [none]⟩ := by
      rw [dW_okM, i1, Zm, Za, i0]
      repeat rw [Bool.and_self]
      rw [cT, cT]
      cases o4 with
      | none =>
        have n4 : d4N Z = true := by unfold d4N; rw [h4']; rfl
        rw [n4, cT]
      | some q =>
        obtain ⟨L4, X4⟩ := q
        have n4 : d4N Z = false := by unfold d4N; rw [h4']; rfl
        have r1 := InvW.len I4
        have r2 := InvW.room I4
        have q4 : d4Q (rowsO (some (L4, X4))) (roomO (some (L4, X4))) Z none = true := d4Q_of h4'
        have G4' : agL Z 5 0 L4 = true := G4
        rw [n4, cF, q4, cT]
        show cond (okK L4.length X4 (cS L4 X4) (cP L4 X4) (cV L4 X4) (cW L4 X4) (cA L4 X4) && true) (some (⟨wr_ (agL Z 5 0 (rowsN L4.length (cS L4 X4) (cP L4 X4) (cV L4 X4) (cW L4 X4) (cA L4 X4))), [none]⟩ : Res)) none = _
        rw [okK_self L4 X4 (by omega), rowsN_cols, G4', Bool.and_self, cT]
    refine (t_drops dW0 dW d2N (d2Q (rowsO none) (roomO none)) (rowsO none) (roomO none) d4N agL (d4Q (rowsO o4) (roomO o4)) (rowsO o4) (roomO o4) dropL u x y wr l some).trans ?_
    rw [e0, decide_eq_true hu, dW_okM, dW_all, n2, hpp, ew]
    repeat rw [Bool.and_self]
    rw [cT, cT, cT]
    cases wr with
    | true => rw [cT, z1 rfl]; rw [dW_okM] at main; exact main
    | false => rw [cF, z2 rfl]; rw [dW_okM] at main; exact main
  | some q =>
    obtain ⟨L2, X2⟩ := q
    have n2 : d2N dW l = false := by unfold d2N; rw [h2]; rfl
    have q2 : d2Q L2 X2 dW l = true := d2Q_of h2
    have l1 := InvW.len I2
    have l2 := InvW.room I2
    have J := InvW.drop I2 5 pp
    have j1 := J.len
    have j2 := J.room
    have AD : agL Z 5 0 (dropL 5 pp L2) = true := by rw [← hZ]; exact ag_dropped hp G2 F2
    obtain ⟨I4, G4⟩ := d4_inv Z 16 0 (some (dropL 5 pp L2, X2 + (L2.length - (dropL 5 pp L2).length))) J AD
    have h4' : d4S Z 16 0 (some (dropL 5 pp L2, X2 + (L2.length - (dropL 5 pp L2).length))) = o4 := h4
    rw [h4'] at I4 G4
    obtain ⟨L4, X4, hs⟩ := d4_some Z 16 0 (dropL 5 pp L2) (X2 + (L2.length - (dropL 5 pp L2).length))
    have ho : o4 = some (L4, X4) := h4'.symm.trans hs
    subst ho
    have r1 := InvW.len I4
    have r2 := InvW.room I4
    have q4 := d4Q_of h4'
    have G4' : agL Z 5 0 L4 = true := G4
    refine (t_drops dW0 dW d2N (d2Q L2 X2) L2 X2 d4N agL (d4Q L4 X4) L4 X4 dropL u x y wr l some).trans ?_
    rw [e0, decide_eq_true hu, dW_okM, dW_all, n2, hpp, ew, q2, i1, i0, okK_self L2 X2 (by omega), rowsN_cols L2 X2, okK_self (dropL 5 pp L2) (X2 + (L2.length - (dropL 5 pp L2).length)) (by omega), Nat.ble_eq_true_of_le j1, Nat.ble_eq_true_of_le j2, rowsN_cols (dropL 5 pp L2) (X2 + (L2.length - (dropL 5 pp L2).length)), okK_self L4 X4 (by omega), rowsN_cols L4 X4]
    repeat rw [Bool.and_self]
    rw [cT, cT, cF, cT]
    cases wr with
    | true =>
      rw [cT, z1 rfl, Zm, Za, AD, q4, G4']
      repeat rw [Bool.and_self]
      rw [cT, cT, cT, cT]
    | false =>
      rw [cF, z2 rfl, Zm, Za, AD, q4, G4']
      repeat rw [Bool.and_self]
      rw [cT, cT, cT, cT]
theorem drops_walk (a0 : Option Addr) (len cap : Nat) (zs : List Int) (x y : Int) (wr : Bool) (W : World)
    (hr : IsRow .i64 W a0 len cap zs) (h0 : (Lit.int .i64 x).wf = true) (h1 : (Lit.int .i64 y).wf = true) :
    Calls Try.prog 7 #[.slice a0 len cap, .int .i64 x, .int .i64 y, .bool wr] W fun e w' => e = .returned (.bool true) ∧ Below W.heap.size W w' := by
  obtain ⟨ok, hl, hb⟩ := hr.ok
  have hp : 0 ≤ IntKind.wrap IntKind.i64 (Int.tmod (IntKind.wrap IntKind.u64 x) 16) ∧ IntKind.wrap IntKind.i64 (Int.tmod (IntKind.wrap IntKind.u64 x) 16) < 16 := kx_in [x] 0 (m := 16) (by omega) (by omega)
  refine of_rows (sl := [intArg .i64 a0 len cap zs]) (args := [vS0 len, aint .i64 x, aint .i64 y, wr_ wr]) (blks := [none])
    (runL_sound sDl_ok mix 300 7 d_dis (lD_for _ _ _ _)).gc (ok1 ok) ?_ (drops_tree len x y wr (zs.take len) hl.symm _ rfl hp _ rfl _ _ rfl rfl)
  exact LR.cons (args_slice (i := 0) rfl ok rfl) (LR.cons rfl (LR.cons rfl (LR.cons rfl LR.nil)))
end Go.Proofs.Ytnloobnpgkpbhaa.Wlk
