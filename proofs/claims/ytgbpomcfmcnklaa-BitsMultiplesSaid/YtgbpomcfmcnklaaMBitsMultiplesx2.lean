/- The walk of the functions that the law reaches: laid by the kit's print, turned by wip/mend.py of this session where its own end does not fit. -/
import Derived.Test.YtgbpomcfmcnklaaMBitsMultiplesx0
import Derived.Test.YtgbpomcfmcnklaaMBitsMultiplesx1
namespace Go.Proofs.Ytgbpomcfmcnklaa.PBitsMultiples
open Go.RowKit Go.Proofs.YtgbpomcfmcnklaaW.PrintWords Go.Proofs.YtgbpomcfmcnklaaW.PrintLast Go.Proofs.YtgbpomcfmcnklaaW.PrintMore
attribute [local go_sem] max2_int min2_int max_two min_two max_three min_three max_four min_four   -- for this text's walks alone
set_option linter.unusedVariables false
set_option linter.unusedSimpArgs false

/-! ### donjonlaw01_BitsMultiples: function 7 -/
def donjonlaw01_BitsMultiples.f (k : Nat) (a0 : Int) (a1 : Int) : Option (Bool) := (donjonlaw01_works.f k).bind fun t118 => (if t118 = true then ((bits_Up.f (wrap64 (Int.tmod (IntKind.u64.wrap (a0)) 1099511627776)) (wrap64 (Int.tmod (IntKind.u64.wrap (a1)) 41))).bind fun bt119 => ((bits_Up.f bt119.1 (wrap64 (Int.tmod (IntKind.u64.wrap (a1)) 41))).bind fun bt121 => (if bt119.2 = 0 then (if 0 ≤ (wrap64 (Int.tmod (IntKind.u64.wrap (a1)) 41)) then (if (shl .i64 1 (wrap64 (Int.tmod (IntKind.u64.wrap (a1)) 41))) = 0 then (none) else (if (Int.tmod bt119.1 (shl .i64 1 (wrap64 (Int.tmod (IntKind.u64.wrap (a1)) 41)))) = 0 then (if bt119.1 ≥ (wrap64 (Int.tmod (IntKind.u64.wrap (a0)) 1099511627776)) then (if (wrap64 (bt119.1 - (wrap64 (Int.tmod (IntKind.u64.wrap (a0)) 1099511627776)))) < (shl .i64 1 (wrap64 (Int.tmod (IntKind.u64.wrap (a1)) 41))) then (if bt119.1 > 1099511627776 then (some true) else (if bt121.2 = 0 then (some (bt121.1 == bt119.1)) else (some false))) else (some false)) else (some false)) else (some false))) else (none)) else (some false)))) else (some false))
theorem donjonlaw01_BitsMultiples.mono : ∀ a0 a1 k, LeO (donjonlaw01_BitsMultiples.f k a0 a1) (donjonlaw01_BitsMultiples.f (k + 1) a0 a1) := by
  intro a0 a1 k
  unfold donjonlaw01_BitsMultiples.f
  repeat' first
      | (with_reducible exact donjonlaw01_works.mono _)
      | (with_reducible exact LeO.refl _)
      | (with_reducible exact LeO.none _)
      | (with_reducible refine LeO.ite ?_ ?_)
      | (with_reducible refine LeO.bind ?_ (fun _ => ?_))
      | exact donjonlaw01_works.mono _
      | exact LeO.none _
      | refine LeO.ite ?_ ?_
      | refine LeO.bind ?_ (fun _ => ?_)
set_option maxHeartbeats 8000000 in
set_option maxRecDepth 100000 in
theorem donjonlaw01_BitsMultiples.calls (k : Nat) (a0 : Int) (a1 : Int) (r : Bool) (w : World) (h : donjonlaw01_BitsMultiples.f k a0 a1 = some r) :
    Calls Try.prog 7 #[.int .i64 a0, .int .i64 a1] w fun e w' => e = .returned (.bool r) ∧ Drawn0 w w' := by
  have H : ((donjonlaw01_works.f k).bind fun t118 => (if t118 = true then ((bits_Up.f (wrap64 (Int.tmod (IntKind.u64.wrap (a0)) 1099511627776)) (wrap64 (Int.tmod (IntKind.u64.wrap (a1)) 41))).bind fun bt119 => ((bits_Up.f bt119.1 (wrap64 (Int.tmod (IntKind.u64.wrap (a1)) 41))).bind fun bt121 => (if bt119.2 = 0 then (if 0 ≤ (wrap64 (Int.tmod (IntKind.u64.wrap (a1)) 41)) then (if (shl .i64 1 (wrap64 (Int.tmod (IntKind.u64.wrap (a1)) 41))) = 0 then (none) else (if (Int.tmod bt119.1 (shl .i64 1 (wrap64 (Int.tmod (IntKind.u64.wrap (a1)) 41)))) = 0 then (if bt119.1 ≥ (wrap64 (Int.tmod (IntKind.u64.wrap (a0)) 1099511627776)) then (if (wrap64 (bt119.1 - (wrap64 (Int.tmod (IntKind.u64.wrap (a0)) 1099511627776)))) < (shl .i64 1 (wrap64 (Int.tmod (IntKind.u64.wrap (a1)) 41))) then (if bt119.1 > 1099511627776 then (some true) else (if bt121.2 = 0 then (some (bt121.1 == bt119.1)) else (some false))) else (some false)) else (some false)) else (some false))) else (none)) else (some false)))) else (some false))) = some r := h
  clear h
  replace H := Option.bind_eq_some_iff.mp H
  obtain ⟨t118, A30, H⟩ := H
  replace H : (if t118 = true then ((bits_Up.f (wrap64 (Int.tmod (IntKind.u64.wrap (a0)) 1099511627776)) (wrap64 (Int.tmod (IntKind.u64.wrap (a1)) 41))).bind fun bt119 => ((bits_Up.f bt119.1 (wrap64 (Int.tmod (IntKind.u64.wrap (a1)) 41))).bind fun bt121 => (if bt119.2 = 0 then (if 0 ≤ (wrap64 (Int.tmod (IntKind.u64.wrap (a1)) 41)) then (if (shl .i64 1 (wrap64 (Int.tmod (IntKind.u64.wrap (a1)) 41))) = 0 then (none) else (if (Int.tmod bt119.1 (shl .i64 1 (wrap64 (Int.tmod (IntKind.u64.wrap (a1)) 41)))) = 0 then (if bt119.1 ≥ (wrap64 (Int.tmod (IntKind.u64.wrap (a0)) 1099511627776)) then (if (wrap64 (bt119.1 - (wrap64 (Int.tmod (IntKind.u64.wrap (a0)) 1099511627776)))) < (shl .i64 1 (wrap64 (Int.tmod (IntKind.u64.wrap (a1)) 41))) then (if bt119.1 > 1099511627776 then (some true) else (if bt121.2 = 0 then (some (bt121.1 == bt119.1)) else (some false))) else (some false)) else (some false)) else (some false))) else (none)) else (some false)))) else (some false)) = some r := H
  have A3 := Aside0.mk A30
  clear A30
  by_cases c4 : t118 = true
  · subst c4
    have H1 : ((bits_Up.f (wrap64 (Int.tmod (IntKind.u64.wrap (a0)) 1099511627776)) (wrap64 (Int.tmod (IntKind.u64.wrap (a1)) 41))).bind fun bt119 => ((bits_Up.f bt119.1 (wrap64 (Int.tmod (IntKind.u64.wrap (a1)) 41))).bind fun bt121 => (if bt119.2 = 0 then (if 0 ≤ (wrap64 (Int.tmod (IntKind.u64.wrap (a1)) 41)) then (if (shl .i64 1 (wrap64 (Int.tmod (IntKind.u64.wrap (a1)) 41))) = 0 then (none) else (if (Int.tmod bt119.1 (shl .i64 1 (wrap64 (Int.tmod (IntKind.u64.wrap (a1)) 41)))) = 0 then (if bt119.1 ≥ (wrap64 (Int.tmod (IntKind.u64.wrap (a0)) 1099511627776)) then (if (wrap64 (bt119.1 - (wrap64 (Int.tmod (IntKind.u64.wrap (a0)) 1099511627776)))) < (shl .i64 1 (wrap64 (Int.tmod (IntKind.u64.wrap (a1)) 41))) then (if bt119.1 > 1099511627776 then (some true) else (if bt121.2 = 0 then (some (bt121.1 == bt119.1)) else (some false))) else (some false)) else (some false)) else (some false))) else (none)) else (some false)))) = some r := by rw [if_pos rfl] at H; exact H
    clear H
    have H := H1
    clear H1
    replace H := Option.bind_eq_some_iff.mp H
    obtain ⟨⟨t119, t120⟩, A50, H⟩ := H
    replace H : ((bits_Up.f t119 (wrap64 (Int.tmod (IntKind.u64.wrap (a1)) 41))).bind fun bt121 => (if t120 = 0 then (if 0 ≤ (wrap64 (Int.tmod (IntKind.u64.wrap (a1)) 41)) then (if (shl .i64 1 (wrap64 (Int.tmod (IntKind.u64.wrap (a1)) 41))) = 0 then (none) else (if (Int.tmod t119 (shl .i64 1 (wrap64 (Int.tmod (IntKind.u64.wrap (a1)) 41)))) = 0 then (if t119 ≥ (wrap64 (Int.tmod (IntKind.u64.wrap (a0)) 1099511627776)) then (if (wrap64 (t119 - (wrap64 (Int.tmod (IntKind.u64.wrap (a0)) 1099511627776)))) < (shl .i64 1 (wrap64 (Int.tmod (IntKind.u64.wrap (a1)) 41))) then (if t119 > 1099511627776 then (some true) else (if bt121.2 = 0 then (some (bt121.1 == t119)) else (some false))) else (some false)) else (some false)) else (some false))) else (none)) else (some false))) = some r := H
    have A5 := Aside0.mk A50
    clear A50
    replace H := Option.bind_eq_some_iff.mp H
    obtain ⟨⟨t121, t122⟩, A60, H⟩ := H
    replace H : (if t120 = 0 then (if 0 ≤ (wrap64 (Int.tmod (IntKind.u64.wrap (a1)) 41)) then (if (shl .i64 1 (wrap64 (Int.tmod (IntKind.u64.wrap (a1)) 41))) = 0 then (none) else (if (Int.tmod t119 (shl .i64 1 (wrap64 (Int.tmod (IntKind.u64.wrap (a1)) 41)))) = 0 then (if t119 ≥ (wrap64 (Int.tmod (IntKind.u64.wrap (a0)) 1099511627776)) then (if (wrap64 (t119 - (wrap64 (Int.tmod (IntKind.u64.wrap (a0)) 1099511627776)))) < (shl .i64 1 (wrap64 (Int.tmod (IntKind.u64.wrap (a1)) 41))) then (if t119 > 1099511627776 then (some true) else (if t122 = 0 then (some (t121 == t119)) else (some false))) else (some false)) else (some false)) else (some false))) else (none)) else (some false)) = some r := H
    have A6 := Aside0.mk A60
    clear A60
    by_cases c7 : t120 = 0
    · rw [if_pos c7] at H
      have c7b0 : (t120 == 0) = true := beq_iff_eq.mpr c7
      have c7b1 : (t120 != 0) = false := bne_eq_false_iff_eq.mpr c7
      clear c7
      obtain ⟨ji8, hji8⟩ : ∃ j_ : Int, (wrap64 (Int.tmod (IntKind.u64.wrap (a1)) 41)) = j_ := ⟨_, rfl⟩
      replace H : (if 0 ≤ (ji8) then (if (shl .i64 1 (ji8)) = 0 then (none) else (if (Int.tmod t119 (shl .i64 1 (ji8))) = 0 then (if t119 ≥ (wrap64 (Int.tmod (IntKind.u64.wrap (a0)) 1099511627776)) then (if (wrap64 (t119 - (wrap64 (Int.tmod (IntKind.u64.wrap (a0)) 1099511627776)))) < (shl .i64 1 (ji8)) then (if t119 > 1099511627776 then (some true) else (if t122 = 0 then (some (t121 == t119)) else (some false))) else (some false)) else (some false)) else (some false))) else (none)) = some r := by first | (rw [hji8] at H; exact H) | (simp only [hji8] at H ⊢; exact H)
      (try rw [hji8] at A3)
      (try rw [hji8] at A5)
      (try rw [hji8] at A6)
      have hji8w : (IntKind.i64.wrap (Int.tmod (IntKind.u64.wrap (a1)) 41)) = ji8 := (i64_w _).trans hji8
      by_cases c9 : 0 ≤ (ji8)
      · rw [if_pos c9] at H
        have c9b0 := eq_true c9
        have c9b1 : decide (0 ≤ (ji8)) = true := decide_eq_true c9
        clear c9
        obtain ⟨ji10, hji10⟩ : ∃ j_ : Int, (shl .i64 1 (ji8)) = j_ := ⟨_, rfl⟩
        replace H : (if (ji10) = 0 then (none) else (if (Int.tmod t119 (ji10)) = 0 then (if t119 ≥ (wrap64 (Int.tmod (IntKind.u64.wrap (a0)) 1099511627776)) then (if (wrap64 (t119 - (wrap64 (Int.tmod (IntKind.u64.wrap (a0)) 1099511627776)))) < (ji10) then (if t119 > 1099511627776 then (some true) else (if t122 = 0 then (some (t121 == t119)) else (some false))) else (some false)) else (some false)) else (some false))) = some r := by first | (rw [hji10] at H; exact H) | (simp only [hji10] at H ⊢; exact H)
        (try rw [hji10] at A3)
        (try rw [hji10] at A5)
        (try rw [hji10] at A6)
        have hji10_ : (IntKind.i64.wrap (1 * 2 ^ min (ji8).toNat 64)) = ji10 := hji10
        have hji10z : (ji8) ≤ 64 → (IntKind.i64.wrap (1 * 2 ^ (ji8).toNat)) = ji10 := shl_small hji10
        have hji10u : (IntKind.i64.wrap (2 ^ min (ji8).toNat 64)) = ji10 := by have h_ := hji10_; rw [Int.one_mul] at h_; exact h_
        have hji10v : (ji8) ≤ 64 → (IntKind.i64.wrap (2 ^ (ji8).toNat)) = ji10 := fun hle_ => by have h_ := hji10z hle_; rw [Int.one_mul] at h_; exact h_
        have hji10y : (wrap64 (1 * 2 ^ min (ji8).toNat 64)) = ji10 := (i64_w _).symm.trans hji10_
        have hji10x : (ji8) ≤ 64 → (wrap64 (1 * 2 ^ (ji8).toNat)) = ji10 := fun h_ => (i64_w _).symm.trans (hji10z h_)
        by_cases c11 : (ji10) = 0
        · rw [if_pos c11] at H
          exact absurd H (by simp)
        · rw [if_neg c11] at H
          have c11b0 : ((ji10) == 0) = false := beq_eq_false_iff_ne.mpr c11
          have c11b1 : ((ji10) != 0) = true := bne_iff_ne.mpr c11
          by_cases c12 : (Int.tmod t119 (ji10)) = 0
          · rw [if_pos c12] at H
            have c12b0 : ((Int.tmod t119 (ji10)) == 0) = true := beq_iff_eq.mpr c12
            have c12b1 : ((Int.tmod t119 (ji10)) != 0) = false := bne_eq_false_iff_eq.mpr c12
            clear c12
            by_cases c13 : t119 ≥ (wrap64 (Int.tmod (IntKind.u64.wrap (a0)) 1099511627776))
            · rw [if_pos c13] at H
              have c13b0 : decide ((wrap64 (Int.tmod (IntKind.u64.wrap (a0)) 1099511627776)) ≤ t119) = true := decide_eq_true c13
              clear c13
              have c14b0 := eq_true (of_decide_eq_true (by first | (with_reducible assumption) | assumption) : 0 ≤ (ji8))
              by_cases c16 : (wrap64 (t119 - (wrap64 (Int.tmod (IntKind.u64.wrap (a0)) 1099511627776)))) < (ji10)
              · rw [if_pos c16] at H
                have c16b0 : decide ((wrap64 (t119 - (wrap64 (Int.tmod (IntKind.u64.wrap (a0)) 1099511627776)))) < (ji10)) = true := decide_eq_true c16
                clear c16
                by_cases c17 : t119 > 1099511627776
                · rw [if_pos c17] at H
                  have c17b0 : decide (1099511627776 < t119) = true := decide_eq_true c17
                  clear c17
                  obtain rfl := Option.some.inj H
                  go_enter Try.func7, Try.ntmps7
                  go_wp2_with (first | ((with_reducible refine gate_callee (f := 23) rfl ?_); refine goesL_ (some 9) rfl rfl Try.func23 (by kernel_rfl) rfl #[] rfl (by (try simp only [List.map_toArray, List.map_cons, List.map_nil]); first | done | rfl | (simp only [List.length_drop, List.length_take]; rfl)) ?_; (with_reducible refine (donjonlaw01_works.calls k  true _ A3.out).mono ?_); rintro e w' ⟨rfl, ⟨nd, rfl⟩⟩; refine ⟨_, rfl, ?_⟩) | ((with_reducible refine gate_callee (f := 11) rfl ?_); refine goesL_ (some 22) rfl rfl Try.func11 (by kernel_rfl) rfl #[.int .i64 (wrap64 (Int.tmod (IntKind.u64.wrap (a0)) 1099511627776)), .int .i64 ji8] rfl (by (try simp only [List.map_toArray, List.map_cons, List.map_nil]); first | done | (simp only [hji8]; rfl) | rfl | (simp only [List.length_drop, List.length_take]; rfl)) ?_; (with_reducible refine (bits_Up.calls (wrap64 (Int.tmod (IntKind.u64.wrap (a0)) 1099511627776)) ji8 t119 t120 _ A5.out).mono ?_); rintro e w' ⟨rfl, ⟨nd, rfl⟩⟩; refine ⟨_, rfl, ?_⟩) | ((with_reducible refine gate_callee (f := 11) rfl ?_); refine goesL_ (some 28) rfl rfl Try.func11 (by kernel_rfl) rfl #[.int .i64 t119, .int .i64 ji8] rfl (by (try simp only [List.map_toArray, List.map_cons, List.map_nil]); first | done | (simp only [hji8]; rfl) | rfl | (simp only [List.length_drop, List.length_take]; rfl)) ?_; (with_reducible refine (bits_Up.calls t119 ji8 t121 t122 _ A6.out).mono ?_); rintro e w' ⟨rfl, ⟨nd, rfl⟩⟩; refine ⟨_, rfl, ?_⟩))
                  go_ret
                  exact ⟨by first | rfl | (simp; done) | (simp only [← hji8, ← hji10] <;> (first | rfl | simp)) | (simp [*]; done), by repeat (first | exact Drawn0.refl _ | apply Drawn0.step)⟩
                · rw [if_neg c17] at H
                  have c17b0 : decide (1099511627776 < t119) = false := decide_eq_false c17
                  clear c17
                  by_cases c18 : t122 = 0
                  · rw [if_pos c18] at H
                    have c18b0 : (t122 == 0) = true := beq_iff_eq.mpr c18
                    have c18b1 : (t122 != 0) = false := bne_eq_false_iff_eq.mpr c18
                    clear c18
                    obtain rfl := Option.some.inj H
                    go_enter Try.func7, Try.ntmps7
                    go_wp2_with (first | ((with_reducible refine gate_callee (f := 23) rfl ?_); refine goesL_ (some 9) rfl rfl Try.func23 (by kernel_rfl) rfl #[] rfl (by (try simp only [List.map_toArray, List.map_cons, List.map_nil]); first | done | rfl | (simp only [List.length_drop, List.length_take]; rfl)) ?_; (with_reducible refine (donjonlaw01_works.calls k  true _ A3.out).mono ?_); rintro e w' ⟨rfl, ⟨nd, rfl⟩⟩; refine ⟨_, rfl, ?_⟩) | ((with_reducible refine gate_callee (f := 11) rfl ?_); refine goesL_ (some 22) rfl rfl Try.func11 (by kernel_rfl) rfl #[.int .i64 (wrap64 (Int.tmod (IntKind.u64.wrap (a0)) 1099511627776)), .int .i64 ji8] rfl (by (try simp only [List.map_toArray, List.map_cons, List.map_nil]); first | done | (simp only [hji8]; rfl) | rfl | (simp only [List.length_drop, List.length_take]; rfl)) ?_; (with_reducible refine (bits_Up.calls (wrap64 (Int.tmod (IntKind.u64.wrap (a0)) 1099511627776)) ji8 t119 t120 _ A5.out).mono ?_); rintro e w' ⟨rfl, ⟨nd, rfl⟩⟩; refine ⟨_, rfl, ?_⟩) | ((with_reducible refine gate_callee (f := 11) rfl ?_); refine goesL_ (some 28) rfl rfl Try.func11 (by kernel_rfl) rfl #[.int .i64 t119, .int .i64 ji8] rfl (by (try simp only [List.map_toArray, List.map_cons, List.map_nil]); first | done | (simp only [hji8]; rfl) | rfl | (simp only [List.length_drop, List.length_take]; rfl)) ?_; (with_reducible refine (bits_Up.calls t119 ji8 t121 t122 _ A6.out).mono ?_); rintro e w' ⟨rfl, ⟨nd, rfl⟩⟩; refine ⟨_, rfl, ?_⟩))
                    go_ret
                    exact ⟨by first | rfl | (simp; done) | (simp only [← hji8, ← hji10] <;> (first | rfl | simp)) | (simp [*]; done), by repeat (first | exact Drawn0.refl _ | apply Drawn0.step)⟩
                  · rw [if_neg c18] at H
                    have c18b0 : (t122 == 0) = false := beq_eq_false_iff_ne.mpr c18
                    have c18b1 : (t122 != 0) = true := bne_iff_ne.mpr c18
                    obtain rfl := Option.some.inj H
                    go_enter Try.func7, Try.ntmps7
                    go_wp2_with (first | ((with_reducible refine gate_callee (f := 23) rfl ?_); refine goesL_ (some 9) rfl rfl Try.func23 (by kernel_rfl) rfl #[] rfl (by (try simp only [List.map_toArray, List.map_cons, List.map_nil]); first | done | rfl | (simp only [List.length_drop, List.length_take]; rfl)) ?_; (with_reducible refine (donjonlaw01_works.calls k  true _ A3.out).mono ?_); rintro e w' ⟨rfl, ⟨nd, rfl⟩⟩; refine ⟨_, rfl, ?_⟩) | ((with_reducible refine gate_callee (f := 11) rfl ?_); refine goesL_ (some 22) rfl rfl Try.func11 (by kernel_rfl) rfl #[.int .i64 (wrap64 (Int.tmod (IntKind.u64.wrap (a0)) 1099511627776)), .int .i64 ji8] rfl (by (try simp only [List.map_toArray, List.map_cons, List.map_nil]); first | done | (simp only [hji8]; rfl) | rfl | (simp only [List.length_drop, List.length_take]; rfl)) ?_; (with_reducible refine (bits_Up.calls (wrap64 (Int.tmod (IntKind.u64.wrap (a0)) 1099511627776)) ji8 t119 t120 _ A5.out).mono ?_); rintro e w' ⟨rfl, ⟨nd, rfl⟩⟩; refine ⟨_, rfl, ?_⟩) | ((with_reducible refine gate_callee (f := 11) rfl ?_); refine goesL_ (some 28) rfl rfl Try.func11 (by kernel_rfl) rfl #[.int .i64 t119, .int .i64 ji8] rfl (by (try simp only [List.map_toArray, List.map_cons, List.map_nil]); first | done | (simp only [hji8]; rfl) | rfl | (simp only [List.length_drop, List.length_take]; rfl)) ?_; (with_reducible refine (bits_Up.calls t119 ji8 t121 t122 _ A6.out).mono ?_); rintro e w' ⟨rfl, ⟨nd, rfl⟩⟩; refine ⟨_, rfl, ?_⟩))
                    go_ret
                    exact ⟨by first | rfl | (simp; done) | (simp only [← hji8, ← hji10] <;> (first | rfl | simp)) | (simp [*]; done), by repeat (first | exact Drawn0.refl _ | apply Drawn0.step)⟩
              · rw [if_neg c16] at H
                have c16b0 : decide ((wrap64 (t119 - (wrap64 (Int.tmod (IntKind.u64.wrap (a0)) 1099511627776)))) < (ji10)) = false := decide_eq_false c16
                clear c16
                obtain rfl := Option.some.inj H
                go_enter Try.func7, Try.ntmps7
                go_wp2_with (first | ((with_reducible refine gate_callee (f := 23) rfl ?_); refine goesL_ (some 9) rfl rfl Try.func23 (by kernel_rfl) rfl #[] rfl (by (try simp only [List.map_toArray, List.map_cons, List.map_nil]); first | done | rfl | (simp only [List.length_drop, List.length_take]; rfl)) ?_; (with_reducible refine (donjonlaw01_works.calls k  true _ A3.out).mono ?_); rintro e w' ⟨rfl, ⟨nd, rfl⟩⟩; refine ⟨_, rfl, ?_⟩) | ((with_reducible refine gate_callee (f := 11) rfl ?_); refine goesL_ (some 22) rfl rfl Try.func11 (by kernel_rfl) rfl #[.int .i64 (wrap64 (Int.tmod (IntKind.u64.wrap (a0)) 1099511627776)), .int .i64 ji8] rfl (by (try simp only [List.map_toArray, List.map_cons, List.map_nil]); first | done | (simp only [hji8]; rfl) | rfl | (simp only [List.length_drop, List.length_take]; rfl)) ?_; (with_reducible refine (bits_Up.calls (wrap64 (Int.tmod (IntKind.u64.wrap (a0)) 1099511627776)) ji8 t119 t120 _ A5.out).mono ?_); rintro e w' ⟨rfl, ⟨nd, rfl⟩⟩; refine ⟨_, rfl, ?_⟩) | ((with_reducible refine gate_callee (f := 11) rfl ?_); refine goesL_ (some 28) rfl rfl Try.func11 (by kernel_rfl) rfl #[.int .i64 t119, .int .i64 ji8] rfl (by (try simp only [List.map_toArray, List.map_cons, List.map_nil]); first | done | (simp only [hji8]; rfl) | rfl | (simp only [List.length_drop, List.length_take]; rfl)) ?_; (with_reducible refine (bits_Up.calls t119 ji8 t121 t122 _ A6.out).mono ?_); rintro e w' ⟨rfl, ⟨nd, rfl⟩⟩; refine ⟨_, rfl, ?_⟩))
                go_ret
                exact ⟨by first | rfl | (simp; done) | (simp only [← hji8, ← hji10] <;> (first | rfl | simp)) | (simp [*]; done), by repeat (first | exact Drawn0.refl _ | apply Drawn0.step)⟩
            · rw [if_neg c13] at H
              have c13b0 : decide ((wrap64 (Int.tmod (IntKind.u64.wrap (a0)) 1099511627776)) ≤ t119) = false := decide_eq_false c13
              clear c13
              obtain rfl := Option.some.inj H
              go_enter Try.func7, Try.ntmps7
              go_wp2_with (first | ((with_reducible refine gate_callee (f := 23) rfl ?_); refine goesL_ (some 9) rfl rfl Try.func23 (by kernel_rfl) rfl #[] rfl (by (try simp only [List.map_toArray, List.map_cons, List.map_nil]); first | done | rfl | (simp only [List.length_drop, List.length_take]; rfl)) ?_; (with_reducible refine (donjonlaw01_works.calls k  true _ A3.out).mono ?_); rintro e w' ⟨rfl, ⟨nd, rfl⟩⟩; refine ⟨_, rfl, ?_⟩) | ((with_reducible refine gate_callee (f := 11) rfl ?_); refine goesL_ (some 22) rfl rfl Try.func11 (by kernel_rfl) rfl #[.int .i64 (wrap64 (Int.tmod (IntKind.u64.wrap (a0)) 1099511627776)), .int .i64 ji8] rfl (by (try simp only [List.map_toArray, List.map_cons, List.map_nil]); first | done | (simp only [hji8]; rfl) | rfl | (simp only [List.length_drop, List.length_take]; rfl)) ?_; (with_reducible refine (bits_Up.calls (wrap64 (Int.tmod (IntKind.u64.wrap (a0)) 1099511627776)) ji8 t119 t120 _ A5.out).mono ?_); rintro e w' ⟨rfl, ⟨nd, rfl⟩⟩; refine ⟨_, rfl, ?_⟩) | ((with_reducible refine gate_callee (f := 11) rfl ?_); refine goesL_ (some 28) rfl rfl Try.func11 (by kernel_rfl) rfl #[.int .i64 t119, .int .i64 ji8] rfl (by (try simp only [List.map_toArray, List.map_cons, List.map_nil]); first | done | (simp only [hji8]; rfl) | rfl | (simp only [List.length_drop, List.length_take]; rfl)) ?_; (with_reducible refine (bits_Up.calls t119 ji8 t121 t122 _ A6.out).mono ?_); rintro e w' ⟨rfl, ⟨nd, rfl⟩⟩; refine ⟨_, rfl, ?_⟩))
              go_ret
              exact ⟨by first | rfl | (simp; done) | (simp only [← hji8, ← hji10] <;> (first | rfl | simp)) | (simp [*]; done), by repeat (first | exact Drawn0.refl _ | apply Drawn0.step)⟩
          · rw [if_neg c12] at H
            have c12b0 : ((Int.tmod t119 (ji10)) == 0) = false := beq_eq_false_iff_ne.mpr c12
            have c12b1 : ((Int.tmod t119 (ji10)) != 0) = true := bne_iff_ne.mpr c12
            obtain rfl := Option.some.inj H
            go_enter Try.func7, Try.ntmps7
            go_wp2_with (first | ((with_reducible refine gate_callee (f := 23) rfl ?_); refine goesL_ (some 9) rfl rfl Try.func23 (by kernel_rfl) rfl #[] rfl (by (try simp only [List.map_toArray, List.map_cons, List.map_nil]); first | done | rfl | (simp only [List.length_drop, List.length_take]; rfl)) ?_; (with_reducible refine (donjonlaw01_works.calls k  true _ A3.out).mono ?_); rintro e w' ⟨rfl, ⟨nd, rfl⟩⟩; refine ⟨_, rfl, ?_⟩) | ((with_reducible refine gate_callee (f := 11) rfl ?_); refine goesL_ (some 22) rfl rfl Try.func11 (by kernel_rfl) rfl #[.int .i64 (wrap64 (Int.tmod (IntKind.u64.wrap (a0)) 1099511627776)), .int .i64 ji8] rfl (by (try simp only [List.map_toArray, List.map_cons, List.map_nil]); first | done | (simp only [hji8]; rfl) | rfl | (simp only [List.length_drop, List.length_take]; rfl)) ?_; (with_reducible refine (bits_Up.calls (wrap64 (Int.tmod (IntKind.u64.wrap (a0)) 1099511627776)) ji8 t119 t120 _ A5.out).mono ?_); rintro e w' ⟨rfl, ⟨nd, rfl⟩⟩; refine ⟨_, rfl, ?_⟩) | ((with_reducible refine gate_callee (f := 11) rfl ?_); refine goesL_ (some 28) rfl rfl Try.func11 (by kernel_rfl) rfl #[.int .i64 t119, .int .i64 ji8] rfl (by (try simp only [List.map_toArray, List.map_cons, List.map_nil]); first | done | (simp only [hji8]; rfl) | rfl | (simp only [List.length_drop, List.length_take]; rfl)) ?_; (with_reducible refine (bits_Up.calls t119 ji8 t121 t122 _ A6.out).mono ?_); rintro e w' ⟨rfl, ⟨nd, rfl⟩⟩; refine ⟨_, rfl, ?_⟩))
            go_ret
            exact ⟨by first | rfl | (simp; done) | (simp only [← hji8, ← hji10] <;> (first | rfl | simp)) | (simp [*]; done), by repeat (first | exact Drawn0.refl _ | apply Drawn0.step)⟩
      · rw [if_neg c9] at H
        exact absurd H (by simp)
    · rw [if_neg c7] at H
      have c7b0 : (t120 == 0) = false := beq_eq_false_iff_ne.mpr c7
      have c7b1 : (t120 != 0) = true := bne_iff_ne.mpr c7
      obtain rfl := Option.some.inj H
      go_enter Try.func7, Try.ntmps7
      go_wp2_with (first | ((with_reducible refine gate_callee (f := 23) rfl ?_); refine goesL_ (some 9) rfl rfl Try.func23 (by kernel_rfl) rfl #[] rfl (by (try simp only [List.map_toArray, List.map_cons, List.map_nil]); first | done | rfl | (simp only [List.length_drop, List.length_take]; rfl)) ?_; (with_reducible refine (donjonlaw01_works.calls k  true _ A3.out).mono ?_); rintro e w' ⟨rfl, ⟨nd, rfl⟩⟩; refine ⟨_, rfl, ?_⟩) | ((with_reducible refine gate_callee (f := 11) rfl ?_); refine goesL_ (some 22) rfl rfl Try.func11 (by kernel_rfl) rfl #[.int .i64 (wrap64 (Int.tmod (IntKind.u64.wrap (a0)) 1099511627776)), .int .i64 (wrap64 (Int.tmod (IntKind.u64.wrap (a1)) 41))] rfl (by (try simp only [List.map_toArray, List.map_cons, List.map_nil]); first | done | rfl | (simp only [List.length_drop, List.length_take]; rfl)) ?_; (with_reducible refine (bits_Up.calls (wrap64 (Int.tmod (IntKind.u64.wrap (a0)) 1099511627776)) (wrap64 (Int.tmod (IntKind.u64.wrap (a1)) 41)) t119 t120 _ A5.out).mono ?_); rintro e w' ⟨rfl, ⟨nd, rfl⟩⟩; refine ⟨_, rfl, ?_⟩) | ((with_reducible refine gate_callee (f := 11) rfl ?_); refine goesL_ (some 28) rfl rfl Try.func11 (by kernel_rfl) rfl #[.int .i64 t119, .int .i64 (wrap64 (Int.tmod (IntKind.u64.wrap (a1)) 41))] rfl (by (try simp only [List.map_toArray, List.map_cons, List.map_nil]); first | done | rfl | (simp only [List.length_drop, List.length_take]; rfl)) ?_; (with_reducible refine (bits_Up.calls t119 (wrap64 (Int.tmod (IntKind.u64.wrap (a1)) 41)) t121 t122 _ A6.out).mono ?_); rintro e w' ⟨rfl, ⟨nd, rfl⟩⟩; refine ⟨_, rfl, ?_⟩))
      go_ret
      exact ⟨by first | rfl | (simp; done) | (simp [*]; done), by repeat (first | exact Drawn0.refl _ | apply Drawn0.step)⟩
  · replace c4 := Bool.eq_false_iff.mpr c4
    subst c4
    have H1 : (some false) = some r := by rw [if_neg (show ¬ (false = true) by decide)] at H; exact H
    clear H
    have H := H1
    clear H1
    obtain rfl := Option.some.inj H
    go_enter Try.func7, Try.ntmps7
    go_wp2_with (first | ((with_reducible refine gate_callee (f := 23) rfl ?_); refine goesL_ (some 9) rfl rfl Try.func23 (by kernel_rfl) rfl #[] rfl (by (try simp only [List.map_toArray, List.map_cons, List.map_nil]); first | done | rfl | (simp only [List.length_drop, List.length_take]; rfl)) ?_; (with_reducible refine (donjonlaw01_works.calls k  false _ A3.out).mono ?_); rintro e w' ⟨rfl, ⟨nd, rfl⟩⟩; refine ⟨_, rfl, ?_⟩))
    go_ret
    exact ⟨by first | rfl | (simp; done) | (simp [*]; done), by repeat (first | exact Drawn0.refl _ | apply Drawn0.step)⟩

/-- THE ONE PURE STATEMENT of donjonlaw01_BitsMultiples: yours. -/
def donjonlaw01_BitsMultiples.Pure : Prop := ∀ (a0 : Int) (a1 : Int), (Lit.int .i64 a0).wf = true → (Lit.int .i64 a1).wf = true → ∃ k, donjonlaw01_BitsMultiples.f k a0 a1 = some true
theorem donjonlaw01_BitsMultiples.walk (P : donjonlaw01_BitsMultiples.Pure) (a0 : Int) (a1 : Int) (w : World) (w0 : (Lit.int .i64 a0).wf = true) (w1 : (Lit.int .i64 a1).wf = true) :
    Calls Try.prog 7 #[.int .i64 a0, .int .i64 a1] w fun e w' => e = .returned (.bool true) ∧ Below w.heap.size w w' := by
  obtain ⟨k, h⟩ := P a0 a1 w0 w1
  refine (donjonlaw01_BitsMultiples.calls k a0 a1 true w h).mono ?_
  rintro e w' ⟨rfl, hd⟩
  exact ⟨rfl, hd.below⟩

end Go.Proofs.Ytgbpomcfmcnklaa.PBitsMultiples
