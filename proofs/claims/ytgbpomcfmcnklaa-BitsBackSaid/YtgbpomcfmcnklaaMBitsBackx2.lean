/- The walk of the functions that the law reaches: laid by the kit's print, turned by wip/mend.py of this session where its own end does not fit. -/
import Derived.Test.YtgbpomcfmcnklaaMBitsBackx0
import Derived.Test.YtgbpomcfmcnklaaMBitsBackx1
namespace Go.Proofs.Ytgbpomcfmcnklaa.PBitsBack
open Go.RowKit Go.Proofs.YtgbpomcfmcnklaaW.PrintWords Go.Proofs.YtgbpomcfmcnklaaW.PrintLast Go.Proofs.YtgbpomcfmcnklaaW.PrintMore
attribute [local go_sem] max2_int min2_int max_two min_two max_three min_three max_four min_four   -- for this text's walks alone
set_option linter.unusedVariables false
set_option linter.unusedSimpArgs false

/-! ### donjonlaw01_BitsBack: function 6 -/
mutual
def donjonlaw01_BitsBack.j0 : Nat → Int → Int → Int → Int → Option (Bool)
  | 0, _, _, _, _ => none
  | k + 1, x0, x1, x2, x3 => (bits_Put.f x0 x1 x2 x3).bind fun bt119 => ((bits_Get.f bt119.1 x1 x2).bind fun bt121 => (if bt119.2 = 0 then (if bt121.2 = 0 then (donjonlaw01_BitsBack.j1 k x0 x1 x2 bt119.1 (bt121.1 != x3)) else (donjonlaw01_BitsBack.j1 k x0 x1 x2 bt119.1 true)) else (donjonlaw01_BitsBack.j1 k x0 x1 x2 bt119.1 true)))
def donjonlaw01_BitsBack.j1 : Nat → Int → Int → Int → Int → Bool → Option (Bool)
  | 0, _, _, _, _, _ => none
  | k + 1, x0, x1, x2, x9, x67 => if x67 = true then (some false) else (donjonlaw01_BitsBack.l0 k x0 x1 x2 x9 0)
def donjonlaw01_BitsBack.l0 : Nat → Int → Int → Int → Int → Int → Option (Bool)
  | 0, _, _, _, _, _ => none
  | k + 1, x0, x1, x2, x9, x13 => if x13 < 64 then ((bits_Get.f x0 x13 1).bind fun bt127 => ((bits_Get.f x9 x13 1).bind fun bt129 => (if bt127.2 = 0 then (if bt129.2 = 0 then (if x13 < x1 then (if bt127.1 = bt129.1 then (donjonlaw01_BitsBack.l0 k x0 x1 x2 x9 (wrap64 (x13 + 1))) else (some false)) else (if x13 ≥ (wrap64 (x1 + x2)) then (if bt127.1 = bt129.1 then (donjonlaw01_BitsBack.l0 k x0 x1 x2 x9 (wrap64 (x13 + 1))) else (some false)) else (donjonlaw01_BitsBack.l0 k x0 x1 x2 x9 (wrap64 (x13 + 1))))) else (some false)) else (some false)))) else ((bits_Get.f x0 x1 x2).bind fun bt123 => ((bits_Put.f x9 x1 x2 bt123.1).bind fun bt125 => (if bt125.2 = 0 then (some (bt125.1 == x0)) else (some false))))
end
def donjonlaw01_BitsBack.f (k : Nat) (a0 : Int) (a1 : Int) (a2 : Int) (a3 : Int) : Option (Bool) := (donjonlaw01_works.f k).bind fun t118 => (if t118 = true then (if (IntKind.u64.wrap (wrap64 (65 - (wrap64 (1 + (wrap64 (Int.tmod (IntKind.u64.wrap (a2)) 64))))))) = 0 then (none) else (if (wrap64 (1 + (wrap64 (Int.tmod (IntKind.u64.wrap (a2)) 64)))) < 64 then (if 0 ≤ (wrap64 (1 + (wrap64 (Int.tmod (IntKind.u64.wrap (a2)) 64)))) then (if (shl .u64 1 (wrap64 (1 + (wrap64 (Int.tmod (IntKind.u64.wrap (a2)) 64))))) = 0 then (none) else (donjonlaw01_BitsBack.j0 k a0 (wrap64 (Int.tmod (IntKind.u64.wrap (a1)) (IntKind.u64.wrap (wrap64 (65 - (wrap64 (1 + (wrap64 (Int.tmod (IntKind.u64.wrap (a2)) 64))))))))) (wrap64 (1 + (wrap64 (Int.tmod (IntKind.u64.wrap (a2)) 64)))) (Int.tmod a3 (shl .u64 1 (wrap64 (1 + (wrap64 (Int.tmod (IntKind.u64.wrap (a2)) 64)))))))) else (none)) else (donjonlaw01_BitsBack.j0 k a0 (wrap64 (Int.tmod (IntKind.u64.wrap (a1)) (IntKind.u64.wrap (wrap64 (65 - (wrap64 (1 + (wrap64 (Int.tmod (IntKind.u64.wrap (a2)) 64))))))))) (wrap64 (1 + (wrap64 (Int.tmod (IntKind.u64.wrap (a2)) 64)))) a3))) else (some false))
theorem donjonlaw01_BitsBack.mono_l : ∀ k, (∀ y0 y1 y2 y3, LeO (donjonlaw01_BitsBack.j0 k y0 y1 y2 y3) (donjonlaw01_BitsBack.j0 (k + 1) y0 y1 y2 y3)) ∧ (∀ y0 y1 y2 y3 y4, LeO (donjonlaw01_BitsBack.j1 k y0 y1 y2 y3 y4) (donjonlaw01_BitsBack.j1 (k + 1) y0 y1 y2 y3 y4)) ∧ (∀ y0 y1 y2 y3 y4, LeO (donjonlaw01_BitsBack.l0 k y0 y1 y2 y3 y4) (donjonlaw01_BitsBack.l0 (k + 1) y0 y1 y2 y3 y4))
  | 0 => ⟨fun _ _ _ _ r h => by simp [donjonlaw01_BitsBack.j0] at h, fun _ _ _ _ _ r h => by simp [donjonlaw01_BitsBack.j1] at h, fun _ _ _ _ _ r h => by simp [donjonlaw01_BitsBack.l0] at h⟩
  | k + 1 => by
    obtain ⟨ih0, ih1, ih2⟩ := donjonlaw01_BitsBack.mono_l k
    refine ⟨?_, ?_, ?_⟩
    · intro y0 y1 y2 y3
      unfold donjonlaw01_BitsBack.j0
      repeat' first
      | (with_reducible exact ih0 _ _ _ _)
      | (with_reducible exact ih1 _ _ _ _ _)
      | (with_reducible exact ih2 _ _ _ _ _)
      | (with_reducible exact donjonlaw01_works.mono _)
      | (with_reducible exact LeO.refl _)
      | (with_reducible exact LeO.none _)
      | (with_reducible refine LeO.ite ?_ ?_)
      | (with_reducible refine LeO.bind ?_ (fun _ => ?_))
      | exact ih0 _ _ _ _
      | exact ih1 _ _ _ _ _
      | exact ih2 _ _ _ _ _
      | exact donjonlaw01_works.mono _
      | exact LeO.none _
      | refine LeO.ite ?_ ?_
      | refine LeO.bind ?_ (fun _ => ?_)
    · intro y0 y1 y2 y3 y4
      unfold donjonlaw01_BitsBack.j1
      repeat' first
      | (with_reducible exact ih0 _ _ _ _)
      | (with_reducible exact ih1 _ _ _ _ _)
      | (with_reducible exact ih2 _ _ _ _ _)
      | (with_reducible exact donjonlaw01_works.mono _)
      | (with_reducible exact LeO.refl _)
      | (with_reducible exact LeO.none _)
      | (with_reducible refine LeO.ite ?_ ?_)
      | (with_reducible refine LeO.bind ?_ (fun _ => ?_))
      | exact ih0 _ _ _ _
      | exact ih1 _ _ _ _ _
      | exact ih2 _ _ _ _ _
      | exact donjonlaw01_works.mono _
      | exact LeO.none _
      | refine LeO.ite ?_ ?_
      | refine LeO.bind ?_ (fun _ => ?_)
    · intro y0 y1 y2 y3 y4
      unfold donjonlaw01_BitsBack.l0
      repeat' first
      | (with_reducible exact ih0 _ _ _ _)
      | (with_reducible exact ih1 _ _ _ _ _)
      | (with_reducible exact ih2 _ _ _ _ _)
      | (with_reducible exact donjonlaw01_works.mono _)
      | (with_reducible exact LeO.refl _)
      | (with_reducible exact LeO.none _)
      | (with_reducible refine LeO.ite ?_ ?_)
      | (with_reducible refine LeO.bind ?_ (fun _ => ?_))
      | exact ih0 _ _ _ _
      | exact ih1 _ _ _ _ _
      | exact ih2 _ _ _ _ _
      | exact donjonlaw01_works.mono _
      | exact LeO.none _
      | refine LeO.ite ?_ ?_
      | refine LeO.bind ?_ (fun _ => ?_)
theorem donjonlaw01_BitsBack.mono : ∀ a0 a1 a2 a3 k, LeO (donjonlaw01_BitsBack.f k a0 a1 a2 a3) (donjonlaw01_BitsBack.f (k + 1) a0 a1 a2 a3) := by
  intro a0 a1 a2 a3 k
  obtain ⟨ih0, ih1, ih2⟩ := donjonlaw01_BitsBack.mono_l k
  unfold donjonlaw01_BitsBack.f
  repeat' first
      | (with_reducible exact ih0 _ _ _ _)
      | (with_reducible exact ih1 _ _ _ _ _)
      | (with_reducible exact ih2 _ _ _ _ _)
      | (with_reducible exact donjonlaw01_works.mono _)
      | (with_reducible exact LeO.refl _)
      | (with_reducible exact LeO.none _)
      | (with_reducible refine LeO.ite ?_ ?_)
      | (with_reducible refine LeO.bind ?_ (fun _ => ?_))
      | exact ih0 _ _ _ _
      | exact ih1 _ _ _ _ _
      | exact ih2 _ _ _ _ _
      | exact donjonlaw01_works.mono _
      | exact LeO.none _
      | refine LeO.ite ?_ ?_
      | refine LeO.bind ?_ (fun _ => ?_)
set_option maxHeartbeats 8000000 in
set_option maxRecDepth 100000 in
theorem donjonlaw01_BitsBack.calls (k : Nat) (a0 : Int) (a1 : Int) (a2 : Int) (a3 : Int) (r : Bool) (w : World) (h : donjonlaw01_BitsBack.f k a0 a1 a2 a3 = some r) :
    Calls Try.prog 6 #[.int .u64 a0, .int .i64 a1, .int .i64 a2, .int .u64 a3] w fun e w' => e = .returned (.bool r) ∧ Drawn0 w w' := by
  have H : ((donjonlaw01_works.f k).bind fun t118 => (if t118 = true then (if (IntKind.u64.wrap (wrap64 (65 - (wrap64 (1 + (wrap64 (Int.tmod (IntKind.u64.wrap (a2)) 64))))))) = 0 then (none) else (if (wrap64 (1 + (wrap64 (Int.tmod (IntKind.u64.wrap (a2)) 64)))) < 64 then (if 0 ≤ (wrap64 (1 + (wrap64 (Int.tmod (IntKind.u64.wrap (a2)) 64)))) then (if (shl .u64 1 (wrap64 (1 + (wrap64 (Int.tmod (IntKind.u64.wrap (a2)) 64))))) = 0 then (none) else (donjonlaw01_BitsBack.j0 k a0 (wrap64 (Int.tmod (IntKind.u64.wrap (a1)) (IntKind.u64.wrap (wrap64 (65 - (wrap64 (1 + (wrap64 (Int.tmod (IntKind.u64.wrap (a2)) 64))))))))) (wrap64 (1 + (wrap64 (Int.tmod (IntKind.u64.wrap (a2)) 64)))) (Int.tmod a3 (shl .u64 1 (wrap64 (1 + (wrap64 (Int.tmod (IntKind.u64.wrap (a2)) 64)))))))) else (none)) else (donjonlaw01_BitsBack.j0 k a0 (wrap64 (Int.tmod (IntKind.u64.wrap (a1)) (IntKind.u64.wrap (wrap64 (65 - (wrap64 (1 + (wrap64 (Int.tmod (IntKind.u64.wrap (a2)) 64))))))))) (wrap64 (1 + (wrap64 (Int.tmod (IntKind.u64.wrap (a2)) 64)))) a3))) else (some false))) = some r := h
  clear h
  replace H := Option.bind_eq_some_iff.mp H
  obtain ⟨t118, A50, H⟩ := H
  replace H : (if t118 = true then (if (IntKind.u64.wrap (wrap64 (65 - (wrap64 (1 + (wrap64 (Int.tmod (IntKind.u64.wrap (a2)) 64))))))) = 0 then (none) else (if (wrap64 (1 + (wrap64 (Int.tmod (IntKind.u64.wrap (a2)) 64)))) < 64 then (if 0 ≤ (wrap64 (1 + (wrap64 (Int.tmod (IntKind.u64.wrap (a2)) 64)))) then (if (shl .u64 1 (wrap64 (1 + (wrap64 (Int.tmod (IntKind.u64.wrap (a2)) 64))))) = 0 then (none) else (donjonlaw01_BitsBack.j0 k a0 (wrap64 (Int.tmod (IntKind.u64.wrap (a1)) (IntKind.u64.wrap (wrap64 (65 - (wrap64 (1 + (wrap64 (Int.tmod (IntKind.u64.wrap (a2)) 64))))))))) (wrap64 (1 + (wrap64 (Int.tmod (IntKind.u64.wrap (a2)) 64)))) (Int.tmod a3 (shl .u64 1 (wrap64 (1 + (wrap64 (Int.tmod (IntKind.u64.wrap (a2)) 64)))))))) else (none)) else (donjonlaw01_BitsBack.j0 k a0 (wrap64 (Int.tmod (IntKind.u64.wrap (a1)) (IntKind.u64.wrap (wrap64 (65 - (wrap64 (1 + (wrap64 (Int.tmod (IntKind.u64.wrap (a2)) 64))))))))) (wrap64 (1 + (wrap64 (Int.tmod (IntKind.u64.wrap (a2)) 64)))) a3))) else (some false)) = some r := H
  have A5 := Aside0.mk A50
  clear A50
  by_cases c6 : t118 = true
  · subst c6
    have H1 : (if (IntKind.u64.wrap (wrap64 (65 - (wrap64 (1 + (wrap64 (Int.tmod (IntKind.u64.wrap (a2)) 64))))))) = 0 then (none) else (if (wrap64 (1 + (wrap64 (Int.tmod (IntKind.u64.wrap (a2)) 64)))) < 64 then (if 0 ≤ (wrap64 (1 + (wrap64 (Int.tmod (IntKind.u64.wrap (a2)) 64)))) then (if (shl .u64 1 (wrap64 (1 + (wrap64 (Int.tmod (IntKind.u64.wrap (a2)) 64))))) = 0 then (none) else (donjonlaw01_BitsBack.j0 k a0 (wrap64 (Int.tmod (IntKind.u64.wrap (a1)) (IntKind.u64.wrap (wrap64 (65 - (wrap64 (1 + (wrap64 (Int.tmod (IntKind.u64.wrap (a2)) 64))))))))) (wrap64 (1 + (wrap64 (Int.tmod (IntKind.u64.wrap (a2)) 64)))) (Int.tmod a3 (shl .u64 1 (wrap64 (1 + (wrap64 (Int.tmod (IntKind.u64.wrap (a2)) 64)))))))) else (none)) else (donjonlaw01_BitsBack.j0 k a0 (wrap64 (Int.tmod (IntKind.u64.wrap (a1)) (IntKind.u64.wrap (wrap64 (65 - (wrap64 (1 + (wrap64 (Int.tmod (IntKind.u64.wrap (a2)) 64))))))))) (wrap64 (1 + (wrap64 (Int.tmod (IntKind.u64.wrap (a2)) 64)))) a3))) = some r := by rw [if_pos rfl] at H; exact H
    clear H
    have H := H1
    clear H1
    by_cases c7 : (IntKind.u64.wrap (wrap64 (65 - (wrap64 (1 + (wrap64 (Int.tmod (IntKind.u64.wrap (a2)) 64))))))) = 0
    · rw [if_pos c7] at H
      exact absurd H (by simp)
    · rw [if_neg c7] at H
      have c7b0 : ((IntKind.u64.wrap (wrap64 (65 - (wrap64 (1 + (wrap64 (Int.tmod (IntKind.u64.wrap (a2)) 64))))))) == 0) = false := beq_eq_false_iff_ne.mpr c7
      have c7b1 : ((IntKind.u64.wrap (wrap64 (65 - (wrap64 (1 + (wrap64 (Int.tmod (IntKind.u64.wrap (a2)) 64))))))) != 0) = true := bne_iff_ne.mpr c7
      have HC8 := Aside0.mk H
      clear H
      go_enter Try.func6, Try.ntmps6
      go_upto_if 37 with (first | ((with_reducible refine gate_callee (f := 23) rfl ?_); refine goesL_ (some 22) rfl rfl Try.func23 (by kernel_rfl) rfl #[] rfl (by (try simp only [List.map_toArray, List.map_cons, List.map_nil]); first | done | rfl | (simp only [List.length_drop, List.length_take]; rfl)) ?_; (with_reducible refine (donjonlaw01_works.calls k  true _ A5.out).mono ?_); rintro e w' ⟨rfl, ⟨nd, rfl⟩⟩; refine ⟨_, rfl, ?_⟩))
      (try simp only [Act.put, List.setIfInBounds_toArray, List.set_cons_zero, List.set_cons_succ])
      go_cut [3] (fun v3 wc => ∃ (kq : Nat) (x3_7 : Int), v3 = .int .u64 x3_7 ∧ Aside0 (donjonlaw01_BitsBack.j0 kq a0 (wrap64 (Int.tmod (IntKind.u64.wrap (a1)) (IntKind.u64.wrap (wrap64 (65 - (wrap64 (1 + (wrap64 (Int.tmod (IntKind.u64.wrap (a2)) 64))))))))) (wrap64 (1 + (wrap64 (Int.tmod (IntKind.u64.wrap (a2)) 64)))) x3_7 = some r) ∧ Aside0 (kq ≤ k) ∧ Drawn0 w wc)
      case first =>
        have H := HC8.out
        clear HC8
        by_cases c9 : (wrap64 (1 + (wrap64 (Int.tmod (IntKind.u64.wrap (a2)) 64)))) < 64
        · rw [if_pos c9] at H
          have c9b0 : decide ((wrap64 (1 + (wrap64 (Int.tmod (IntKind.u64.wrap (a2)) 64)))) < 64) = true := decide_eq_true c9
          clear c9
          (first | rw [c9b0] | (simp only [i64_w, i32_w]; rw [c9b0]) | skip)
          obtain ⟨ji10, hji10⟩ : ∃ j_ : Int, (wrap64 (1 + (wrap64 (Int.tmod (IntKind.u64.wrap (a2)) 64)))) = j_ := ⟨_, rfl⟩
          replace H : (if 0 ≤ (ji10) then (if (shl .u64 1 (ji10)) = 0 then (none) else (donjonlaw01_BitsBack.j0 k a0 (wrap64 (Int.tmod (IntKind.u64.wrap (a1)) (IntKind.u64.wrap (wrap64 (65 - (ji10)))))) ji10 (Int.tmod a3 (shl .u64 1 (ji10))))) else (none)) = some r := by first | (rw [hji10] at H; exact H) | (simp only [hji10] at H ⊢; exact H)
          (try rw [hji10] at c7b0)
          (try rw [hji10] at c7b1)
          (try rw [hji10] at c9b0)
          have hji10w : (IntKind.i64.wrap (1 + (wrap64 (Int.tmod (IntKind.u64.wrap (a2)) 64)))) = ji10 := (i64_w _).trans hji10
          by_cases c11 : 0 ≤ (ji10)
          · rw [if_pos c11] at H
            have c11b0 := eq_true c11
            have c11b1 : decide (0 ≤ (ji10)) = true := decide_eq_true c11
            clear c11
            obtain ⟨ji12, hji12⟩ : ∃ j_ : Int, (shl .u64 1 (ji10)) = j_ := ⟨_, rfl⟩
            replace H : (if (ji12) = 0 then (none) else (donjonlaw01_BitsBack.j0 k a0 (wrap64 (Int.tmod (IntKind.u64.wrap (a1)) (IntKind.u64.wrap (wrap64 (65 - (ji10)))))) ji10 (Int.tmod a3 (ji12)))) = some r := by first | (rw [hji12] at H; exact H) | (simp only [hji12] at H ⊢; exact H)
            have hji12_ : (IntKind.u64.wrap (1 * 2 ^ min (ji10).toNat 64)) = ji12 := hji12
            have hji12z : (ji10) ≤ 64 → (IntKind.u64.wrap (1 * 2 ^ (ji10).toNat)) = ji12 := shl_small hji12
            have hji12u : (IntKind.u64.wrap (2 ^ min (ji10).toNat 64)) = ji12 := by have h_ := hji12_; rw [Int.one_mul] at h_; exact h_
            have hji12v : (ji10) ≤ 64 → (IntKind.u64.wrap (2 ^ (ji10).toNat)) = ji12 := fun hle_ => by have h_ := hji12z hle_; rw [Int.one_mul] at h_; exact h_
            by_cases c13 : (ji12) = 0
            · rw [if_pos c13] at H
              exact absurd H (by simp)
            · rw [if_neg c13] at H
              have c13b0 : ((ji12) == 0) = false := beq_eq_false_iff_ne.mpr c13
              have c13b1 : ((ji12) != 0) = true := bne_iff_ne.mpr c13
              have H' := Aside0.mk H
              clear H
              go_wp2
              go_meet
              case rel => exact ⟨_, (Int.tmod a3 (ji12)), (by first | rfl | (simp; done) | (simp only [← hji12] <;> (first | rfl | simp)) | (simp [*]; done)), (by first | exact H' | (subst_vars; exact H')), ⟨by first | omega | exact Nat.le_refl _⟩, by repeat (first | exact Drawn0.refl _ | apply Drawn0.step)⟩
          · rw [if_neg c11] at H
            exact absurd H (by simp)
        · rw [if_neg c9] at H
          have c9b0 : decide ((wrap64 (1 + (wrap64 (Int.tmod (IntKind.u64.wrap (a2)) 64)))) < 64) = false := decide_eq_false c9
          clear c9
          (first | rw [c9b0] | (simp only [i64_w, i32_w]; rw [c9b0]) | skip)
          have H' := Aside0.mk H
          clear H
          go_wp2
          go_meet
          case rel => exact ⟨_, (a3), (by first | rfl | (simp; done) | (simp [*]; done)), (by first | exact H' | (subst_vars; exact H')), ⟨by first | omega | exact Nat.le_refl _⟩, by repeat (first | exact Drawn0.refl _ | apply Drawn0.step)⟩
      case rest =>
        clear HC8
        try clear c1
        try clear c2
        try clear p2
        try clear c6
        try clear p6
        try clear c7
        try clear c7b0
        try clear c7b1
        try clear c9
        try clear c9b0
        try clear c11
        try clear c11b0
        try clear c11b1
        try clear c13
        try clear c13b0
        try clear c13b1
        obtain ⟨kq, x3_7, rfl, HA, HJ7, ⟨mc7, rfl⟩⟩ := hcut
        cases kq with
        | zero => exact absurd HA.out (by simp [donjonlaw01_BitsBack.j0])
        | succ kj7 =>
          have H := HA.out
          clear HA
          simp only [donjonlaw01_BitsBack.j0] at H
          replace H := Option.bind_eq_some_iff.mp H
          obtain ⟨⟨t119, t120⟩, A140, H⟩ := H
          replace H : ((bits_Get.f t119 (wrap64 (Int.tmod (IntKind.u64.wrap (a1)) (IntKind.u64.wrap (wrap64 (65 - (wrap64 (1 + (wrap64 (Int.tmod (IntKind.u64.wrap (a2)) 64))))))))) (wrap64 (1 + (wrap64 (Int.tmod (IntKind.u64.wrap (a2)) 64))))).bind fun bt121 => (if t120 = 0 then (if bt121.2 = 0 then (donjonlaw01_BitsBack.j1 kj7 a0 (wrap64 (Int.tmod (IntKind.u64.wrap (a1)) (IntKind.u64.wrap (wrap64 (65 - (wrap64 (1 + (wrap64 (Int.tmod (IntKind.u64.wrap (a2)) 64))))))))) (wrap64 (1 + (wrap64 (Int.tmod (IntKind.u64.wrap (a2)) 64)))) t119 (bt121.1 != x3_7)) else (donjonlaw01_BitsBack.j1 kj7 a0 (wrap64 (Int.tmod (IntKind.u64.wrap (a1)) (IntKind.u64.wrap (wrap64 (65 - (wrap64 (1 + (wrap64 (Int.tmod (IntKind.u64.wrap (a2)) 64))))))))) (wrap64 (1 + (wrap64 (Int.tmod (IntKind.u64.wrap (a2)) 64)))) t119 true)) else (donjonlaw01_BitsBack.j1 kj7 a0 (wrap64 (Int.tmod (IntKind.u64.wrap (a1)) (IntKind.u64.wrap (wrap64 (65 - (wrap64 (1 + (wrap64 (Int.tmod (IntKind.u64.wrap (a2)) 64))))))))) (wrap64 (1 + (wrap64 (Int.tmod (IntKind.u64.wrap (a2)) 64)))) t119 true))) = some r := H
          have A14 := Aside0.mk A140
          clear A140
          replace H := Option.bind_eq_some_iff.mp H
          obtain ⟨⟨t121, t122⟩, A150, H⟩ := H
          replace H : (if t120 = 0 then (if t122 = 0 then (donjonlaw01_BitsBack.j1 kj7 a0 (wrap64 (Int.tmod (IntKind.u64.wrap (a1)) (IntKind.u64.wrap (wrap64 (65 - (wrap64 (1 + (wrap64 (Int.tmod (IntKind.u64.wrap (a2)) 64))))))))) (wrap64 (1 + (wrap64 (Int.tmod (IntKind.u64.wrap (a2)) 64)))) t119 (t121 != x3_7)) else (donjonlaw01_BitsBack.j1 kj7 a0 (wrap64 (Int.tmod (IntKind.u64.wrap (a1)) (IntKind.u64.wrap (wrap64 (65 - (wrap64 (1 + (wrap64 (Int.tmod (IntKind.u64.wrap (a2)) 64))))))))) (wrap64 (1 + (wrap64 (Int.tmod (IntKind.u64.wrap (a2)) 64)))) t119 true)) else (donjonlaw01_BitsBack.j1 kj7 a0 (wrap64 (Int.tmod (IntKind.u64.wrap (a1)) (IntKind.u64.wrap (wrap64 (65 - (wrap64 (1 + (wrap64 (Int.tmod (IntKind.u64.wrap (a2)) 64))))))))) (wrap64 (1 + (wrap64 (Int.tmod (IntKind.u64.wrap (a2)) 64)))) t119 true)) = some r := H
          have A15 := Aside0.mk A150
          clear A150
          have HC16 := Aside0.mk H
          clear H
          go_upto_region 9 with (first | ((with_reducible refine gate_callee (f := 15) rfl ?_); refine goesL_ (some 47) rfl rfl Try.func15 (by kernel_rfl) rfl #[.int .u64 a0, .int .i64 (wrap64 (Int.tmod (IntKind.u64.wrap (a1)) (IntKind.u64.wrap (wrap64 (65 - (wrap64 (1 + (wrap64 (Int.tmod (IntKind.u64.wrap (a2)) 64))))))))), .int .i64 (wrap64 (1 + (wrap64 (Int.tmod (IntKind.u64.wrap (a2)) 64)))), .int .u64 x3_7] rfl (by (try simp only [List.map_toArray, List.map_cons, List.map_nil]); first | done | rfl | (simp only [List.length_drop, List.length_take]; rfl)) ?_; (with_reducible refine (bits_Put.calls a0 (wrap64 (Int.tmod (IntKind.u64.wrap (a1)) (IntKind.u64.wrap (wrap64 (65 - (wrap64 (1 + (wrap64 (Int.tmod (IntKind.u64.wrap (a2)) 64))))))))) (wrap64 (1 + (wrap64 (Int.tmod (IntKind.u64.wrap (a2)) 64)))) x3_7 t119 t120 _ A14.out).mono ?_); rintro e w' ⟨rfl, ⟨nd, rfl⟩⟩; refine ⟨_, rfl, ?_⟩) | ((with_reducible refine gate_callee (f := 13) rfl ?_); refine goesL_ (some 54) rfl rfl Try.func13 (by kernel_rfl) rfl #[.int .u64 t119, .int .i64 (wrap64 (Int.tmod (IntKind.u64.wrap (a1)) (IntKind.u64.wrap (wrap64 (65 - (wrap64 (1 + (wrap64 (Int.tmod (IntKind.u64.wrap (a2)) 64))))))))), .int .i64 (wrap64 (1 + (wrap64 (Int.tmod (IntKind.u64.wrap (a2)) 64))))] rfl (by (try simp only [List.map_toArray, List.map_cons, List.map_nil]); first | done | rfl | (simp only [List.length_drop, List.length_take]; rfl)) ?_; (with_reducible refine (bits_Get.calls t119 (wrap64 (Int.tmod (IntKind.u64.wrap (a1)) (IntKind.u64.wrap (wrap64 (65 - (wrap64 (1 + (wrap64 (Int.tmod (IntKind.u64.wrap (a2)) 64))))))))) (wrap64 (1 + (wrap64 (Int.tmod (IntKind.u64.wrap (a2)) 64)))) t121 t122 _ A15.out).mono ?_); rintro e w' ⟨rfl, ⟨nd, rfl⟩⟩; refine ⟨_, rfl, ?_⟩))
          (try simp only [Act.put, List.setIfInBounds_toArray, List.set_cons_zero, List.set_cons_succ])
          go_cut [67] (fun v67 wc => ∃ (kq : Nat) (x67_15 : Bool), v67 = .bool x67_15 ∧ Aside0 (donjonlaw01_BitsBack.j1 kq a0 (wrap64 (Int.tmod (IntKind.u64.wrap (a1)) (IntKind.u64.wrap (wrap64 (65 - (wrap64 (1 + (wrap64 (Int.tmod (IntKind.u64.wrap (a2)) 64))))))))) (wrap64 (1 + (wrap64 (Int.tmod (IntKind.u64.wrap (a2)) 64)))) t119 x67_15 = some r) ∧ Aside0 (kq ≤ kj7) ∧ Drawn0 w wc)
          case first =>
            have H := HC16.out
            clear HC16
            by_cases c17 : t120 = 0
            · rw [if_pos c17] at H
              have c17b0 : (t120 == 0) = true := beq_iff_eq.mpr c17
              have c17b1 : (t120 != 0) = false := bne_eq_false_iff_eq.mpr c17
              clear c17
              (first | rw [c17b0] | (simp only [i64_w, i32_w]; rw [c17b0]) | skip)
              by_cases c18 : t122 = 0
              · rw [if_pos c18] at H
                have c18b0 : (t122 == 0) = true := beq_iff_eq.mpr c18
                have c18b1 : (t122 != 0) = false := bne_eq_false_iff_eq.mpr c18
                clear c18
                have H' := Aside0.mk H
                clear H
                go_wp2
                go_meet
                case rel => exact ⟨_, ((t121 != x3_7)), (by first | rfl | (simp; done) | (simp [*]; done)), H', ⟨by have := HJ7.out; first | omega | exact Nat.le_refl _⟩, by repeat (first | exact Drawn0.refl _ | apply Drawn0.step)⟩
              · rw [if_neg c18] at H
                have c18b0 : (t122 == 0) = false := beq_eq_false_iff_ne.mpr c18
                have c18b1 : (t122 != 0) = true := bne_iff_ne.mpr c18
                have H' := Aside0.mk H
                clear H
                go_wp2
                go_meet
                case rel => exact ⟨_, (true), (by first | rfl | (simp; done) | (simp [*]; done)), H', ⟨by have := HJ7.out; first | omega | exact Nat.le_refl _⟩, by repeat (first | exact Drawn0.refl _ | apply Drawn0.step)⟩
            · rw [if_neg c17] at H
              have c17b0 : (t120 == 0) = false := beq_eq_false_iff_ne.mpr c17
              have c17b1 : (t120 != 0) = true := bne_iff_ne.mpr c17
              (first | rw [c17b0] | (simp only [i64_w, i32_w]; rw [c17b0]) | skip)
              have H' := Aside0.mk H
              clear H
              go_wp2
              go_meet
              case rel => exact ⟨_, (true), (by first | rfl | (simp; done) | (simp [*]; done)), H', ⟨by have := HJ7.out; first | omega | exact Nat.le_refl _⟩, by repeat (first | exact Drawn0.refl _ | apply Drawn0.step)⟩
          case rest =>
            clear HC16
            try clear c1
            try clear c2
            try clear p2
            try clear c6
            try clear p6
            try clear c7
            try clear c7b0
            try clear c7b1
            try clear c9
            try clear c9b0
            try clear c11
            try clear c11b0
            try clear c11b1
            try clear c13
            try clear c13b0
            try clear c13b1
            try clear c15
            try clear c17
            try clear c17b0
            try clear c17b1
            try clear c18
            try clear c18b0
            try clear c18b1
            try clear p2
            try clear p6
            obtain ⟨kq, x67_15, rfl, HA, HJ15, ⟨mc15, rfl⟩⟩ := hcut
            cases kq with
            | zero => exact absurd HA.out (by simp [donjonlaw01_BitsBack.j1])
            | succ kj15 =>
              have H := HA.out
              clear HA
              simp only [donjonlaw01_BitsBack.j1] at H
              by_cases c19 : x67_15 = true
              · subst c19
                have H1 : (some false) = some r := by rw [if_pos rfl] at H; exact H
                clear H
                have H := H1
                clear H1
                obtain rfl := Option.some.inj H
                go_wp2
                go_ret
                exact ⟨by first | rfl | (simp; done) | (simp [*]; done), by repeat (first | exact Drawn0.refl _ | apply Drawn0.step)⟩
              · replace c19 := Bool.eq_false_iff.mpr c19
                subst c19
                have H1 : (donjonlaw01_BitsBack.l0 kj15 a0 (wrap64 (Int.tmod (IntKind.u64.wrap (a1)) (IntKind.u64.wrap (wrap64 (65 - (wrap64 (1 + (wrap64 (Int.tmod (IntKind.u64.wrap (a2)) 64))))))))) (wrap64 (1 + (wrap64 (Int.tmod (IntKind.u64.wrap (a2)) 64)))) t119 0) = some r := by rw [if_neg (show ¬ (false = true) by decide)] at H; exact H
                clear H
                have H := H1
                clear H1
                have H' := Aside0.mk H
                clear H
                go_wp2
                go_loopg [13] kj15 (fun kq v13 w' => ∃ (x13_3 : Int), v13 = .int .i64 x13_3 ∧ Aside0 (donjonlaw01_BitsBack.l0 kq a0 (wrap64 (Int.tmod (IntKind.u64.wrap (a1)) (IntKind.u64.wrap (wrap64 (65 - (wrap64 (1 + (wrap64 (Int.tmod (IntKind.u64.wrap (a2)) 64))))))))) (wrap64 (1 + (wrap64 (Int.tmod (IntKind.u64.wrap (a2)) 64)))) t119 x13_3 = some r) ∧ Aside0 (kq ≤ kj15) ∧ Drawn0 w w')
                case atStart => exact ⟨(0), (by first | rfl | (simp; done) | (simp [*]; done)), H', ⟨Nat.le_refl _⟩, by repeat (first | exact Drawn0.refl _ | apply Drawn0.step)⟩
                case round =>
                  clear H'
                  try clear c1
                  try clear c2
                  try clear p2
                  try clear c6
                  try clear p6
                  try clear c7
                  try clear c7b0
                  try clear c7b1
                  try clear c9
                  try clear c9b0
                  try clear c11
                  try clear c11b0
                  try clear c11b1
                  try clear c13
                  try clear c13b0
                  try clear c13b1
                  try clear c15
                  try clear c17
                  try clear c17b0
                  try clear c17b1
                  try clear c18
                  try clear c18b0
                  try clear c18b1
                  try clear c19
                  try clear p2
                  try clear p6
                  obtain ⟨x13_3, rfl, HA, HK3, ⟨m3, rfl⟩⟩ := hrel
                  cases gk with
                  | zero => exact absurd HA.out (by simp [donjonlaw01_BitsBack.l0])
                  | succ k3 =>
                    have H := HA.out
                    clear HA
                    simp only [donjonlaw01_BitsBack.l0] at H
                    by_cases c20 : x13_3 < 64
                    · rw [if_pos c20] at H
                      have c20b0 : decide (x13_3 < 64) = true := decide_eq_true c20
                      clear c20
                      replace H := Option.bind_eq_some_iff.mp H
                      obtain ⟨⟨t127, t128⟩, A210, H⟩ := H
                      replace H : ((bits_Get.f t119 x13_3 1).bind fun bt129 => (if t128 = 0 then (if bt129.2 = 0 then (if x13_3 < (wrap64 (Int.tmod (IntKind.u64.wrap (a1)) (IntKind.u64.wrap (wrap64 (65 - (wrap64 (1 + (wrap64 (Int.tmod (IntKind.u64.wrap (a2)) 64))))))))) then (if t127 = bt129.1 then (donjonlaw01_BitsBack.l0 k3 a0 (wrap64 (Int.tmod (IntKind.u64.wrap (a1)) (IntKind.u64.wrap (wrap64 (65 - (wrap64 (1 + (wrap64 (Int.tmod (IntKind.u64.wrap (a2)) 64))))))))) (wrap64 (1 + (wrap64 (Int.tmod (IntKind.u64.wrap (a2)) 64)))) t119 (wrap64 (x13_3 + 1))) else (some false)) else (if x13_3 ≥ (wrap64 ((wrap64 (Int.tmod (IntKind.u64.wrap (a1)) (IntKind.u64.wrap (wrap64 (65 - (wrap64 (1 + (wrap64 (Int.tmod (IntKind.u64.wrap (a2)) 64))))))))) + (wrap64 (1 + (wrap64 (Int.tmod (IntKind.u64.wrap (a2)) 64)))))) then (if t127 = bt129.1 then (donjonlaw01_BitsBack.l0 k3 a0 (wrap64 (Int.tmod (IntKind.u64.wrap (a1)) (IntKind.u64.wrap (wrap64 (65 - (wrap64 (1 + (wrap64 (Int.tmod (IntKind.u64.wrap (a2)) 64))))))))) (wrap64 (1 + (wrap64 (Int.tmod (IntKind.u64.wrap (a2)) 64)))) t119 (wrap64 (x13_3 + 1))) else (some false)) else (donjonlaw01_BitsBack.l0 k3 a0 (wrap64 (Int.tmod (IntKind.u64.wrap (a1)) (IntKind.u64.wrap (wrap64 (65 - (wrap64 (1 + (wrap64 (Int.tmod (IntKind.u64.wrap (a2)) 64))))))))) (wrap64 (1 + (wrap64 (Int.tmod (IntKind.u64.wrap (a2)) 64)))) t119 (wrap64 (x13_3 + 1))))) else (some false)) else (some false))) = some r := H
                      have A21 := Aside0.mk A210
                      clear A210
                      replace H := Option.bind_eq_some_iff.mp H
                      obtain ⟨⟨t129, t130⟩, A220, H⟩ := H
                      replace H : (if t128 = 0 then (if t130 = 0 then (if x13_3 < (wrap64 (Int.tmod (IntKind.u64.wrap (a1)) (IntKind.u64.wrap (wrap64 (65 - (wrap64 (1 + (wrap64 (Int.tmod (IntKind.u64.wrap (a2)) 64))))))))) then (if t127 = t129 then (donjonlaw01_BitsBack.l0 k3 a0 (wrap64 (Int.tmod (IntKind.u64.wrap (a1)) (IntKind.u64.wrap (wrap64 (65 - (wrap64 (1 + (wrap64 (Int.tmod (IntKind.u64.wrap (a2)) 64))))))))) (wrap64 (1 + (wrap64 (Int.tmod (IntKind.u64.wrap (a2)) 64)))) t119 (wrap64 (x13_3 + 1))) else (some false)) else (if x13_3 ≥ (wrap64 ((wrap64 (Int.tmod (IntKind.u64.wrap (a1)) (IntKind.u64.wrap (wrap64 (65 - (wrap64 (1 + (wrap64 (Int.tmod (IntKind.u64.wrap (a2)) 64))))))))) + (wrap64 (1 + (wrap64 (Int.tmod (IntKind.u64.wrap (a2)) 64)))))) then (if t127 = t129 then (donjonlaw01_BitsBack.l0 k3 a0 (wrap64 (Int.tmod (IntKind.u64.wrap (a1)) (IntKind.u64.wrap (wrap64 (65 - (wrap64 (1 + (wrap64 (Int.tmod (IntKind.u64.wrap (a2)) 64))))))))) (wrap64 (1 + (wrap64 (Int.tmod (IntKind.u64.wrap (a2)) 64)))) t119 (wrap64 (x13_3 + 1))) else (some false)) else (donjonlaw01_BitsBack.l0 k3 a0 (wrap64 (Int.tmod (IntKind.u64.wrap (a1)) (IntKind.u64.wrap (wrap64 (65 - (wrap64 (1 + (wrap64 (Int.tmod (IntKind.u64.wrap (a2)) 64))))))))) (wrap64 (1 + (wrap64 (Int.tmod (IntKind.u64.wrap (a2)) 64)))) t119 (wrap64 (x13_3 + 1))))) else (some false)) else (some false)) = some r := H
                      have A22 := Aside0.mk A220
                      clear A220
                      by_cases c23 : t128 = 0
                      · rw [if_pos c23] at H
                        have c23b0 : (t128 == 0) = true := beq_iff_eq.mpr c23
                        have c23b1 : (t128 != 0) = false := bne_eq_false_iff_eq.mpr c23
                        clear c23
                        by_cases c24 : t130 = 0
                        · rw [if_pos c24] at H
                          have c24b0 : (t130 == 0) = true := beq_iff_eq.mpr c24
                          have c24b1 : (t130 != 0) = false := bne_eq_false_iff_eq.mpr c24
                          clear c24
                          by_cases c25 : x13_3 < (wrap64 (Int.tmod (IntKind.u64.wrap (a1)) (IntKind.u64.wrap (wrap64 (65 - (wrap64 (1 + (wrap64 (Int.tmod (IntKind.u64.wrap (a2)) 64)))))))))
                          · rw [if_pos c25] at H
                            have c25b0 : decide (x13_3 < (wrap64 (Int.tmod (IntKind.u64.wrap (a1)) (IntKind.u64.wrap (wrap64 (65 - (wrap64 (1 + (wrap64 (Int.tmod (IntKind.u64.wrap (a2)) 64)))))))))) = true := decide_eq_true c25
                            clear c25
                            by_cases c26 : t127 = t129
                            · rw [if_pos c26] at H
                              have c26b0 : (t127 == t129) = true := beq_iff_eq.mpr c26
                              have c26b1 : (t127 != t129) = false := bne_eq_false_iff_eq.mpr c26
                              clear c26
                              have H' := Aside0.mk H
                              clear H
                              go_wp2_with (first | ((with_reducible refine gate_callee (f := 13) rfl ?_); refine goesL_ (some 75) rfl rfl Try.func13 (by kernel_rfl) rfl #[.int .u64 a0, .int .i64 x13_3, .int .i64 1] rfl (by (try simp only [List.map_toArray, List.map_cons, List.map_nil]); first | done | rfl | (simp only [List.length_drop, List.length_take]; rfl)) ?_; (with_reducible refine (bits_Get.calls a0 x13_3 1 t127 t128 _ A21.out).mono ?_); rintro e w' ⟨rfl, ⟨nd, rfl⟩⟩; refine ⟨_, rfl, ?_⟩) | ((with_reducible refine gate_callee (f := 13) rfl ?_); refine goesL_ (some 81) rfl rfl Try.func13 (by kernel_rfl) rfl #[.int .u64 t119, .int .i64 x13_3, .int .i64 1] rfl (by (try simp only [List.map_toArray, List.map_cons, List.map_nil]); first | done | rfl | (simp only [List.length_drop, List.length_take]; rfl)) ?_; (with_reducible refine (bits_Get.calls t119 x13_3 1 t129 t130 _ A22.out).mono ?_); rintro e w' ⟨rfl, ⟨nd, rfl⟩⟩; refine ⟨_, rfl, ?_⟩))
                              go_roundg k3
                              case measure => have := HJ7.out; have := HJ15.out; have := HK3.out; omega
                              case rel => exact ⟨(wrap64 (x13_3 + 1)), (by first | rfl | (simp; done) | (simp [*]; done)), H', ⟨by have := HJ7.out; have := HJ15.out; have := HK3.out; omega⟩, by repeat (first | exact Drawn0.refl _ | apply Drawn0.step)⟩
                            · rw [if_neg c26] at H
                              have c26b0 : (t127 == t129) = false := beq_eq_false_iff_ne.mpr c26
                              have c26b1 : (t127 != t129) = true := bne_iff_ne.mpr c26
                              obtain rfl := Option.some.inj H
                              go_wp2_with (first | ((with_reducible refine gate_callee (f := 13) rfl ?_); refine goesL_ (some 75) rfl rfl Try.func13 (by kernel_rfl) rfl #[.int .u64 a0, .int .i64 x13_3, .int .i64 1] rfl (by (try simp only [List.map_toArray, List.map_cons, List.map_nil]); first | done | rfl | (simp only [List.length_drop, List.length_take]; rfl)) ?_; (with_reducible refine (bits_Get.calls a0 x13_3 1 t127 t128 _ A21.out).mono ?_); rintro e w' ⟨rfl, ⟨nd, rfl⟩⟩; refine ⟨_, rfl, ?_⟩) | ((with_reducible refine gate_callee (f := 13) rfl ?_); refine goesL_ (some 81) rfl rfl Try.func13 (by kernel_rfl) rfl #[.int .u64 t119, .int .i64 x13_3, .int .i64 1] rfl (by (try simp only [List.map_toArray, List.map_cons, List.map_nil]); first | done | rfl | (simp only [List.length_drop, List.length_take]; rfl)) ?_; (with_reducible refine (bits_Get.calls t119 x13_3 1 t129 t130 _ A22.out).mono ?_); rintro e w' ⟨rfl, ⟨nd, rfl⟩⟩; refine ⟨_, rfl, ?_⟩))
                              go_ret
                              exact ⟨by first | rfl | (simp; done) | (simp [*]; done), by repeat (first | exact Drawn0.refl _ | apply Drawn0.step)⟩
                          · rw [if_neg c25] at H
                            have c25b0 : decide (x13_3 < (wrap64 (Int.tmod (IntKind.u64.wrap (a1)) (IntKind.u64.wrap (wrap64 (65 - (wrap64 (1 + (wrap64 (Int.tmod (IntKind.u64.wrap (a2)) 64)))))))))) = false := decide_eq_false c25
                            clear c25
                            by_cases c27 : x13_3 ≥ (wrap64 ((wrap64 (Int.tmod (IntKind.u64.wrap (a1)) (IntKind.u64.wrap (wrap64 (65 - (wrap64 (1 + (wrap64 (Int.tmod (IntKind.u64.wrap (a2)) 64))))))))) + (wrap64 (1 + (wrap64 (Int.tmod (IntKind.u64.wrap (a2)) 64))))))
                            · rw [if_pos c27] at H
                              have c27b0 : decide ((wrap64 ((wrap64 (Int.tmod (IntKind.u64.wrap (a1)) (IntKind.u64.wrap (wrap64 (65 - (wrap64 (1 + (wrap64 (Int.tmod (IntKind.u64.wrap (a2)) 64))))))))) + (wrap64 (1 + (wrap64 (Int.tmod (IntKind.u64.wrap (a2)) 64)))))) ≤ x13_3) = true := decide_eq_true c27
                              clear c27
                              by_cases c28 : t127 = t129
                              · rw [if_pos c28] at H
                                have c28b0 : (t127 == t129) = true := beq_iff_eq.mpr c28
                                have c28b1 : (t127 != t129) = false := bne_eq_false_iff_eq.mpr c28
                                clear c28
                                have H' := Aside0.mk H
                                clear H
                                go_wp2_with (first | ((with_reducible refine gate_callee (f := 13) rfl ?_); refine goesL_ (some 75) rfl rfl Try.func13 (by kernel_rfl) rfl #[.int .u64 a0, .int .i64 x13_3, .int .i64 1] rfl (by (try simp only [List.map_toArray, List.map_cons, List.map_nil]); first | done | rfl | (simp only [List.length_drop, List.length_take]; rfl)) ?_; (with_reducible refine (bits_Get.calls a0 x13_3 1 t127 t128 _ A21.out).mono ?_); rintro e w' ⟨rfl, ⟨nd, rfl⟩⟩; refine ⟨_, rfl, ?_⟩) | ((with_reducible refine gate_callee (f := 13) rfl ?_); refine goesL_ (some 81) rfl rfl Try.func13 (by kernel_rfl) rfl #[.int .u64 t119, .int .i64 x13_3, .int .i64 1] rfl (by (try simp only [List.map_toArray, List.map_cons, List.map_nil]); first | done | rfl | (simp only [List.length_drop, List.length_take]; rfl)) ?_; (with_reducible refine (bits_Get.calls t119 x13_3 1 t129 t130 _ A22.out).mono ?_); rintro e w' ⟨rfl, ⟨nd, rfl⟩⟩; refine ⟨_, rfl, ?_⟩))
                                go_roundg k3
                                case measure => have := HJ7.out; have := HJ15.out; have := HK3.out; omega
                                case rel => exact ⟨(wrap64 (x13_3 + 1)), (by first | rfl | (simp; done) | (simp [*]; done)), H', ⟨by have := HJ7.out; have := HJ15.out; have := HK3.out; omega⟩, by repeat (first | exact Drawn0.refl _ | apply Drawn0.step)⟩
                              · rw [if_neg c28] at H
                                have c28b0 : (t127 == t129) = false := beq_eq_false_iff_ne.mpr c28
                                have c28b1 : (t127 != t129) = true := bne_iff_ne.mpr c28
                                obtain rfl := Option.some.inj H
                                go_wp2_with (first | ((with_reducible refine gate_callee (f := 13) rfl ?_); refine goesL_ (some 75) rfl rfl Try.func13 (by kernel_rfl) rfl #[.int .u64 a0, .int .i64 x13_3, .int .i64 1] rfl (by (try simp only [List.map_toArray, List.map_cons, List.map_nil]); first | done | rfl | (simp only [List.length_drop, List.length_take]; rfl)) ?_; (with_reducible refine (bits_Get.calls a0 x13_3 1 t127 t128 _ A21.out).mono ?_); rintro e w' ⟨rfl, ⟨nd, rfl⟩⟩; refine ⟨_, rfl, ?_⟩) | ((with_reducible refine gate_callee (f := 13) rfl ?_); refine goesL_ (some 81) rfl rfl Try.func13 (by kernel_rfl) rfl #[.int .u64 t119, .int .i64 x13_3, .int .i64 1] rfl (by (try simp only [List.map_toArray, List.map_cons, List.map_nil]); first | done | rfl | (simp only [List.length_drop, List.length_take]; rfl)) ?_; (with_reducible refine (bits_Get.calls t119 x13_3 1 t129 t130 _ A22.out).mono ?_); rintro e w' ⟨rfl, ⟨nd, rfl⟩⟩; refine ⟨_, rfl, ?_⟩))
                                go_ret
                                exact ⟨by first | rfl | (simp; done) | (simp [*]; done), by repeat (first | exact Drawn0.refl _ | apply Drawn0.step)⟩
                            · rw [if_neg c27] at H
                              have c27b0 : decide ((wrap64 ((wrap64 (Int.tmod (IntKind.u64.wrap (a1)) (IntKind.u64.wrap (wrap64 (65 - (wrap64 (1 + (wrap64 (Int.tmod (IntKind.u64.wrap (a2)) 64))))))))) + (wrap64 (1 + (wrap64 (Int.tmod (IntKind.u64.wrap (a2)) 64)))))) ≤ x13_3) = false := decide_eq_false c27
                              clear c27
                              have H' := Aside0.mk H
                              clear H
                              go_wp2_with (first | ((with_reducible refine gate_callee (f := 13) rfl ?_); refine goesL_ (some 75) rfl rfl Try.func13 (by kernel_rfl) rfl #[.int .u64 a0, .int .i64 x13_3, .int .i64 1] rfl (by (try simp only [List.map_toArray, List.map_cons, List.map_nil]); first | done | rfl | (simp only [List.length_drop, List.length_take]; rfl)) ?_; (with_reducible refine (bits_Get.calls a0 x13_3 1 t127 t128 _ A21.out).mono ?_); rintro e w' ⟨rfl, ⟨nd, rfl⟩⟩; refine ⟨_, rfl, ?_⟩) | ((with_reducible refine gate_callee (f := 13) rfl ?_); refine goesL_ (some 81) rfl rfl Try.func13 (by kernel_rfl) rfl #[.int .u64 t119, .int .i64 x13_3, .int .i64 1] rfl (by (try simp only [List.map_toArray, List.map_cons, List.map_nil]); first | done | rfl | (simp only [List.length_drop, List.length_take]; rfl)) ?_; (with_reducible refine (bits_Get.calls t119 x13_3 1 t129 t130 _ A22.out).mono ?_); rintro e w' ⟨rfl, ⟨nd, rfl⟩⟩; refine ⟨_, rfl, ?_⟩))
                              go_roundg k3
                              case measure => have := HJ7.out; have := HJ15.out; have := HK3.out; omega
                              case rel => exact ⟨(wrap64 (x13_3 + 1)), (by first | rfl | (simp; done) | (simp [*]; done)), H', ⟨by have := HJ7.out; have := HJ15.out; have := HK3.out; omega⟩, by repeat (first | exact Drawn0.refl _ | apply Drawn0.step)⟩
                        · rw [if_neg c24] at H
                          have c24b0 : (t130 == 0) = false := beq_eq_false_iff_ne.mpr c24
                          have c24b1 : (t130 != 0) = true := bne_iff_ne.mpr c24
                          obtain rfl := Option.some.inj H
                          go_wp2_with (first | ((with_reducible refine gate_callee (f := 13) rfl ?_); refine goesL_ (some 75) rfl rfl Try.func13 (by kernel_rfl) rfl #[.int .u64 a0, .int .i64 x13_3, .int .i64 1] rfl (by (try simp only [List.map_toArray, List.map_cons, List.map_nil]); first | done | rfl | (simp only [List.length_drop, List.length_take]; rfl)) ?_; (with_reducible refine (bits_Get.calls a0 x13_3 1 t127 t128 _ A21.out).mono ?_); rintro e w' ⟨rfl, ⟨nd, rfl⟩⟩; refine ⟨_, rfl, ?_⟩) | ((with_reducible refine gate_callee (f := 13) rfl ?_); refine goesL_ (some 81) rfl rfl Try.func13 (by kernel_rfl) rfl #[.int .u64 t119, .int .i64 x13_3, .int .i64 1] rfl (by (try simp only [List.map_toArray, List.map_cons, List.map_nil]); first | done | rfl | (simp only [List.length_drop, List.length_take]; rfl)) ?_; (with_reducible refine (bits_Get.calls t119 x13_3 1 t129 t130 _ A22.out).mono ?_); rintro e w' ⟨rfl, ⟨nd, rfl⟩⟩; refine ⟨_, rfl, ?_⟩))
                          go_ret
                          exact ⟨by first | rfl | (simp; done) | (simp [*]; done), by repeat (first | exact Drawn0.refl _ | apply Drawn0.step)⟩
                      · rw [if_neg c23] at H
                        have c23b0 : (t128 == 0) = false := beq_eq_false_iff_ne.mpr c23
                        have c23b1 : (t128 != 0) = true := bne_iff_ne.mpr c23
                        obtain rfl := Option.some.inj H
                        go_wp2_with (first | ((with_reducible refine gate_callee (f := 13) rfl ?_); refine goesL_ (some 75) rfl rfl Try.func13 (by kernel_rfl) rfl #[.int .u64 a0, .int .i64 x13_3, .int .i64 1] rfl (by (try simp only [List.map_toArray, List.map_cons, List.map_nil]); first | done | rfl | (simp only [List.length_drop, List.length_take]; rfl)) ?_; (with_reducible refine (bits_Get.calls a0 x13_3 1 t127 t128 _ A21.out).mono ?_); rintro e w' ⟨rfl, ⟨nd, rfl⟩⟩; refine ⟨_, rfl, ?_⟩) | ((with_reducible refine gate_callee (f := 13) rfl ?_); refine goesL_ (some 81) rfl rfl Try.func13 (by kernel_rfl) rfl #[.int .u64 t119, .int .i64 x13_3, .int .i64 1] rfl (by (try simp only [List.map_toArray, List.map_cons, List.map_nil]); first | done | rfl | (simp only [List.length_drop, List.length_take]; rfl)) ?_; (with_reducible refine (bits_Get.calls t119 x13_3 1 t129 t130 _ A22.out).mono ?_); rintro e w' ⟨rfl, ⟨nd, rfl⟩⟩; refine ⟨_, rfl, ?_⟩))
                        go_ret
                        exact ⟨by first | rfl | (simp; done) | (simp [*]; done), by repeat (first | exact Drawn0.refl _ | apply Drawn0.step)⟩
                    · rw [if_neg c20] at H
                      have c20b0 : decide (x13_3 < 64) = false := decide_eq_false c20
                      clear c20
                      replace H := Option.bind_eq_some_iff.mp H
                      obtain ⟨⟨t123, t124⟩, A290, H⟩ := H
                      replace H : ((bits_Put.f t119 (wrap64 (Int.tmod (IntKind.u64.wrap (a1)) (IntKind.u64.wrap (wrap64 (65 - (wrap64 (1 + (wrap64 (Int.tmod (IntKind.u64.wrap (a2)) 64))))))))) (wrap64 (1 + (wrap64 (Int.tmod (IntKind.u64.wrap (a2)) 64)))) t123).bind fun bt125 => (if bt125.2 = 0 then (some (bt125.1 == a0)) else (some false))) = some r := H
                      have A29 := Aside0.mk A290
                      clear A290
                      replace H := Option.bind_eq_some_iff.mp H
                      obtain ⟨⟨t125, t126⟩, A300, H⟩ := H
                      replace H : (if t126 = 0 then (some (t125 == a0)) else (some false)) = some r := H
                      have A30 := Aside0.mk A300
                      clear A300
                      by_cases c31 : t126 = 0
                      · rw [if_pos c31] at H
                        have c31b0 : (t126 == 0) = true := beq_iff_eq.mpr c31
                        have c31b1 : (t126 != 0) = false := bne_eq_false_iff_eq.mpr c31
                        clear c31
                        obtain rfl := Option.some.inj H
                        go_wp2_with (first | ((with_reducible refine gate_callee (f := 13) rfl ?_); refine goesL_ (some 111) rfl rfl Try.func13 (by kernel_rfl) rfl #[.int .u64 a0, .int .i64 (wrap64 (Int.tmod (IntKind.u64.wrap (a1)) (IntKind.u64.wrap (wrap64 (65 - (wrap64 (1 + (wrap64 (Int.tmod (IntKind.u64.wrap (a2)) 64))))))))), .int .i64 (wrap64 (1 + (wrap64 (Int.tmod (IntKind.u64.wrap (a2)) 64))))] rfl (by (try simp only [List.map_toArray, List.map_cons, List.map_nil]); first | done | rfl | (simp only [List.length_drop, List.length_take]; rfl)) ?_; (with_reducible refine (bits_Get.calls a0 (wrap64 (Int.tmod (IntKind.u64.wrap (a1)) (IntKind.u64.wrap (wrap64 (65 - (wrap64 (1 + (wrap64 (Int.tmod (IntKind.u64.wrap (a2)) 64))))))))) (wrap64 (1 + (wrap64 (Int.tmod (IntKind.u64.wrap (a2)) 64)))) t123 t124 _ A29.out).mono ?_); rintro e w' ⟨rfl, ⟨nd, rfl⟩⟩; refine ⟨_, rfl, ?_⟩) | ((with_reducible refine gate_callee (f := 15) rfl ?_); refine goesL_ (some 119) rfl rfl Try.func15 (by kernel_rfl) rfl #[.int .u64 t119, .int .i64 (wrap64 (Int.tmod (IntKind.u64.wrap (a1)) (IntKind.u64.wrap (wrap64 (65 - (wrap64 (1 + (wrap64 (Int.tmod (IntKind.u64.wrap (a2)) 64))))))))), .int .i64 (wrap64 (1 + (wrap64 (Int.tmod (IntKind.u64.wrap (a2)) 64)))), .int .u64 t123] rfl (by (try simp only [List.map_toArray, List.map_cons, List.map_nil]); first | done | rfl | (simp only [List.length_drop, List.length_take]; rfl)) ?_; (with_reducible refine (bits_Put.calls t119 (wrap64 (Int.tmod (IntKind.u64.wrap (a1)) (IntKind.u64.wrap (wrap64 (65 - (wrap64 (1 + (wrap64 (Int.tmod (IntKind.u64.wrap (a2)) 64))))))))) (wrap64 (1 + (wrap64 (Int.tmod (IntKind.u64.wrap (a2)) 64)))) t123 t125 t126 _ A30.out).mono ?_); rintro e w' ⟨rfl, ⟨nd, rfl⟩⟩; refine ⟨_, rfl, ?_⟩))
                        go_ret
                        exact ⟨by first | rfl | (simp; done) | (simp [*]; done), by repeat (first | exact Drawn0.refl _ | apply Drawn0.step)⟩
                      · rw [if_neg c31] at H
                        have c31b0 : (t126 == 0) = false := beq_eq_false_iff_ne.mpr c31
                        have c31b1 : (t126 != 0) = true := bne_iff_ne.mpr c31
                        obtain rfl := Option.some.inj H
                        go_wp2_with (first | ((with_reducible refine gate_callee (f := 13) rfl ?_); refine goesL_ (some 111) rfl rfl Try.func13 (by kernel_rfl) rfl #[.int .u64 a0, .int .i64 (wrap64 (Int.tmod (IntKind.u64.wrap (a1)) (IntKind.u64.wrap (wrap64 (65 - (wrap64 (1 + (wrap64 (Int.tmod (IntKind.u64.wrap (a2)) 64))))))))), .int .i64 (wrap64 (1 + (wrap64 (Int.tmod (IntKind.u64.wrap (a2)) 64))))] rfl (by (try simp only [List.map_toArray, List.map_cons, List.map_nil]); first | done | rfl | (simp only [List.length_drop, List.length_take]; rfl)) ?_; (with_reducible refine (bits_Get.calls a0 (wrap64 (Int.tmod (IntKind.u64.wrap (a1)) (IntKind.u64.wrap (wrap64 (65 - (wrap64 (1 + (wrap64 (Int.tmod (IntKind.u64.wrap (a2)) 64))))))))) (wrap64 (1 + (wrap64 (Int.tmod (IntKind.u64.wrap (a2)) 64)))) t123 t124 _ A29.out).mono ?_); rintro e w' ⟨rfl, ⟨nd, rfl⟩⟩; refine ⟨_, rfl, ?_⟩) | ((with_reducible refine gate_callee (f := 15) rfl ?_); refine goesL_ (some 119) rfl rfl Try.func15 (by kernel_rfl) rfl #[.int .u64 t119, .int .i64 (wrap64 (Int.tmod (IntKind.u64.wrap (a1)) (IntKind.u64.wrap (wrap64 (65 - (wrap64 (1 + (wrap64 (Int.tmod (IntKind.u64.wrap (a2)) 64))))))))), .int .i64 (wrap64 (1 + (wrap64 (Int.tmod (IntKind.u64.wrap (a2)) 64)))), .int .u64 t123] rfl (by (try simp only [List.map_toArray, List.map_cons, List.map_nil]); first | done | rfl | (simp only [List.length_drop, List.length_take]; rfl)) ?_; (with_reducible refine (bits_Put.calls t119 (wrap64 (Int.tmod (IntKind.u64.wrap (a1)) (IntKind.u64.wrap (wrap64 (65 - (wrap64 (1 + (wrap64 (Int.tmod (IntKind.u64.wrap (a2)) 64))))))))) (wrap64 (1 + (wrap64 (Int.tmod (IntKind.u64.wrap (a2)) 64)))) t123 t125 t126 _ A30.out).mono ?_); rintro e w' ⟨rfl, ⟨nd, rfl⟩⟩; refine ⟨_, rfl, ?_⟩))
                        go_ret
                        exact ⟨by first | rfl | (simp; done) | (simp [*]; done), by repeat (first | exact Drawn0.refl _ | apply Drawn0.step)⟩
  · replace c6 := Bool.eq_false_iff.mpr c6
    subst c6
    have H1 : (some false) = some r := by rw [if_neg (show ¬ (false = true) by decide)] at H; exact H
    clear H
    have H := H1
    clear H1
    obtain rfl := Option.some.inj H
    go_enter Try.func6, Try.ntmps6
    go_wp2_with (first | ((with_reducible refine gate_callee (f := 23) rfl ?_); refine goesL_ (some 22) rfl rfl Try.func23 (by kernel_rfl) rfl #[] rfl (by (try simp only [List.map_toArray, List.map_cons, List.map_nil]); first | done | rfl | (simp only [List.length_drop, List.length_take]; rfl)) ?_; (with_reducible refine (donjonlaw01_works.calls k  false _ A5.out).mono ?_); rintro e w' ⟨rfl, ⟨nd, rfl⟩⟩; refine ⟨_, rfl, ?_⟩))
    go_ret
    exact ⟨by first | rfl | (simp; done) | (simp [*]; done), by repeat (first | exact Drawn0.refl _ | apply Drawn0.step)⟩

/-- THE ONE PURE STATEMENT of donjonlaw01_BitsBack: yours. -/
def donjonlaw01_BitsBack.Pure : Prop := ∀ (a0 : Int) (a1 : Int) (a2 : Int) (a3 : Int), (Lit.int .u64 a0).wf = true → (Lit.int .i64 a1).wf = true → (Lit.int .i64 a2).wf = true → (Lit.int .u64 a3).wf = true → ∃ k, donjonlaw01_BitsBack.f k a0 a1 a2 a3 = some true
theorem donjonlaw01_BitsBack.walk (P : donjonlaw01_BitsBack.Pure) (a0 : Int) (a1 : Int) (a2 : Int) (a3 : Int) (w : World) (w0 : (Lit.int .u64 a0).wf = true) (w1 : (Lit.int .i64 a1).wf = true) (w2 : (Lit.int .i64 a2).wf = true) (w3 : (Lit.int .u64 a3).wf = true) :
    Calls Try.prog 6 #[.int .u64 a0, .int .i64 a1, .int .i64 a2, .int .u64 a3] w fun e w' => e = .returned (.bool true) ∧ Below w.heap.size w w' := by
  obtain ⟨k, h⟩ := P a0 a1 a2 a3 w0 w1 w2 w3
  refine (donjonlaw01_BitsBack.calls k a0 a1 a2 a3 true w h).mono ?_
  rintro e w' ⟨rfl, hd⟩
  exact ⟨rfl, hd.below⟩

end Go.Proofs.Ytgbpomcfmcnklaa.PBitsBack
