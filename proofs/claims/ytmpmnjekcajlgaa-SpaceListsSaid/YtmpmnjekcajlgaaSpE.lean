/- An act on a memory, told in short. -/
import Derived.Test.YtmpmnjekcajlgaaSpC
set_option linter.unusedVariables false
set_option linter.unusedSimpArgs false
set_option maxRecDepth 100000
namespace Go.Proofs.Ytmpmnjekcajlgaa.Wlk
open Go Go.Eng Go.Proofs Go.RowKit
theorem cT {α : Type} (a b : α) : cond true a b = a := by
  have h : ∀ c : Bool, c = true → cond c a b = a := fun c hc => by rw [hc, cond_true]
  exact h true rfl
theorem cF {α : Type} (a b : α) : cond false a b = b := by
  have h : ∀ c : Bool, c = false → cond c a b = b := fun c hc => by rw [hc, cond_false]
  exact h false rfl
abbrev EF3 := List Int → Int → Int → Int → Int
abbrev EF2 := List Int → Int → Int → Int
noncomputable def sAc (TE : EF3) (TM : List Int → Int → Int → Int → List Int) (UE : EF2) (UM : List Int → Int → Int → List Int) (ME : EF3) (MM : List Int → Int → Int → Int → Bool → List Int) (NE : EF2) (NM : List Int → Int → Int → List Int) (RE : EF2) (RM : List Int → Int → Int → Bool → List Int) : Summ :=
  sAdd (sAdd (sAdd (sAdd (sAdd (sAdd (sAdd (sAdd (sAdd (sAdd sNil 10 (gTableV TE TM)) 16 (gUntableV UE UM)) 11 (gMapV ME MM)) 14 (gUnmapV NE NM)) 18 (gRemapV RE RM)) 40 (gTableV TE TM)) 41 (gUntableV UE UM)) 42 (gMapV ME MM)) 43 (gUnmapV NE NM)) 44 (gRemapV RE RM)
theorem sAc_ok : SummOk Try.prog (sAc opTE opTW opUE opUW opME opMW opNE opNW opRE opRW) :=
  sAdd_ok (sAdd_ok (sAdd_ok (sAdd_ok (sAdd_ok (sAdd_ok (sAdd_ok (sAdd_ok (sAdd_ok (sAdd_ok sNil_ok gTable_sound (enters Try.func10 rfl (by kernel_rfl))) gUntable_sound (enters Try.func16 rfl (by kernel_rfl))) gMap_sound (enters Try.func11 rfl (by kernel_rfl))) gUnmap_sound (enters Try.func14 rfl (by kernel_rfl))) gRemap_sound (enters Try.func18 rfl (by kernel_rfl))) gRefTable_sound (enters Try.func40 rfl (by kernel_rfl))) gRefUntable_sound (enters Try.func41 rfl (by kernel_rfl))) gRefMap_sound (enters Try.func42 rfl (by kernel_rfl))) gRefUnmap_sound (enters Try.func43 rfl (by kernel_rfl))) gRefRemap_sound (enters Try.func44 rfl (by kernel_rfl))
def actE (ws : List Int) (k d a t : Int) (wr : Bool) : Int := if k = 0 then opTE ws d a t else if k = 1 then opUE ws d a else if k = 2 then opME ws d a t else if k = 3 then opNE ws d a else opRE ws d a
def actW (ws : List Int) (k d a t : Int) (wr : Bool) : List Int := if k = 0 then opTW ws d a t else if k = 1 then opUW ws d a else if k = 2 then opMW ws d a t wr else if k = 3 then opNW ws d a else opRW ws d a wr
def gActV (E : List Int → Int → Int → Int → Int → Bool → Int) (M : List Int → Int → Int → Int → Int → Bool → List Int) : Fun := fun args sub κ => match args, sub with
  | [.e (.c (.ptr ⟨0, 0, 0, 0, 0, 0, 0⟩)), .e (.agg [.int .i64 k, .int .i64 d, .int .i64 a, .int .i64 t, .bool wr])], [some ⟨false, .mix [.slice ⟨1, 0, 1, 0, 0, 0, 0⟩ 1 n x true]⟩, some ⟨false, .rows [.ints .u64 ws]⟩] => match okM n ws && inI d && inI a && inI t && allW ws with
    | true => κ ⟨.e (.c (.int .i64 (E ws k d a t wr))), [some (some ⟨false, .mix [.slice ⟨1, 0, 1, 0, 0, 0, 0⟩ 1 n x true]⟩), some (some ⟨false, .rows [.ints .u64 (M ws k d a t wr)]⟩)]⟩
    | false => none
  | _, _ => none
theorem t_act (TE : EF3) (TM : List Int → Int → Int → Int → List Int) (UE : EF2) (UM : List Int → Int → Int → List Int) (ME : EF3) (MM : List Int → Int → Int → Int → Bool → List Int) (NE : EF2) (NM : List Int → Int → Int → List Int) (RE : EF2) (RM : List Int → Int → Int → Bool → List Int) (k d a t : Int) (wr : Bool) (n x : Nat) (ws : List Int) (K : Res → Option Res) : runG Try.prog (sAc TE TM UE UM ME MM NE NM RE RM) 100 20 [mP, .e (.agg [.int .i64 k, .int .i64 d, .int .i64 a, .int .i64 t, .bool wr])] (mB n x ws) K = (cond (k == 0) (cond (Go.Proofs.Ytmpmnjekcajlgaa.Wlk.okM n ws && inI d && inI a && inI t && Go.Proofs.Ytmpmnjekcajlgaa.Wlk.allW ws) (K (Res.mk (AV.e (AE.c (AC.int (IntKind.i64) (TE ws d a t)))) [(some (some (Block.mk false (Data.mix [(AC.slice (Loc.mk 1 0 1 0 0 0 0) 1 (n) (x) true)])))), (some (some (Block.mk false (Data.rows [(Col.ints (IntKind.u64) (TM ws d a t))]))))])) none) (cond (k == 1) (cond (Go.Proofs.Ytmpmnjekcajlgaa.Wlk.okM n ws && inI d && inI a && inI d && Go.Proofs.Ytmpmnjekcajlgaa.Wlk.allW ws) (K (Res.mk (AV.e (AE.c (AC.int (IntKind.i64) (UE ws d a)))) [(some (some (Block.mk false (Data.mix [(AC.slice (Loc.mk 1 0 1 0 0 0 0) 1 (n) (x) true)])))), (some (some (Block.mk false (Data.rows [(Col.ints (IntKind.u64) (UM ws d a))]))))])) none) (cond (k == 2) (cond (Go.Proofs.Ytmpmnjekcajlgaa.Wlk.okM n ws && inI d && inI a && inI t && Go.Proofs.Ytmpmnjekcajlgaa.Wlk.allW ws) (K (Res.mk (AV.e (AE.c (AC.int (IntKind.i64) (ME ws d a t)))) [(some (some (Block.mk false (Data.mix [(AC.slice (Loc.mk 1 0 1 0 0 0 0) 1 (n) (x) true)])))), (some (some (Block.mk false (Data.rows [(Col.ints (IntKind.u64) (MM ws d a t wr))]))))])) none) (cond (k == 3) (cond (Go.Proofs.Ytmpmnjekcajlgaa.Wlk.okM n ws && inI d && inI a && inI d && Go.Proofs.Ytmpmnjekcajlgaa.Wlk.allW ws) (K (Res.mk (AV.e (AE.c (AC.int (IntKind.i64) (NE ws d a)))) [(some (some (Block.mk false (Data.mix [(AC.slice (Loc.mk 1 0 1 0 0 0 0) 1 (n) (x) true)])))), (some (some (Block.mk false (Data.rows [(Col.ints (IntKind.u64) (NM ws d a))]))))])) none) (cond (Go.Proofs.Ytmpmnjekcajlgaa.Wlk.okM n ws && inI d && inI a && inI d && Go.Proofs.Ytmpmnjekcajlgaa.Wlk.allW ws) (K (Res.mk (AV.e (AE.c (AC.int (IntKind.i64) (RE ws d a)))) [(some (some (Block.mk false (Data.mix [(AC.slice (Loc.mk 1 0 1 0 0 0 0) 1 (n) (x) true)])))), (some (some (Block.mk false (Data.rows [(Col.ints (IntKind.u64) (RM ws d a wr))]))))])) none))))) := by kernel_rfl
theorem t_ract (TE : EF3) (TM : List Int → Int → Int → Int → List Int) (UE : EF2) (UM : List Int → Int → Int → List Int) (ME : EF3) (MM : List Int → Int → Int → Int → Bool → List Int) (NE : EF2) (NM : List Int → Int → Int → List Int) (RE : EF2) (RM : List Int → Int → Int → Bool → List Int) (k d a t : Int) (wr : Bool) (n x : Nat) (ws : List Int) (K : Res → Option Res) : runG Try.prog (sAc TE TM UE UM ME MM NE NM RE RM) 100 21 [mP, .e (.agg [.int .i64 k, .int .i64 d, .int .i64 a, .int .i64 t, .bool wr])] (mB n x ws) K = (cond (k == 0) (cond (Go.Proofs.Ytmpmnjekcajlgaa.Wlk.okM n ws && inI d && inI a && inI t && Go.Proofs.Ytmpmnjekcajlgaa.Wlk.allW ws) (K (Res.mk (AV.e (AE.c (AC.int (IntKind.i64) (TE ws d a t)))) [(some (some (Block.mk false (Data.mix [(AC.slice (Loc.mk 1 0 1 0 0 0 0) 1 (n) (x) true)])))), (some (some (Block.mk false (Data.rows [(Col.ints (IntKind.u64) (TM ws d a t))]))))])) none) (cond (k == 1) (cond (Go.Proofs.Ytmpmnjekcajlgaa.Wlk.okM n ws && inI d && inI a && inI d && Go.Proofs.Ytmpmnjekcajlgaa.Wlk.allW ws) (K (Res.mk (AV.e (AE.c (AC.int (IntKind.i64) (UE ws d a)))) [(some (some (Block.mk false (Data.mix [(AC.slice (Loc.mk 1 0 1 0 0 0 0) 1 (n) (x) true)])))), (some (some (Block.mk false (Data.rows [(Col.ints (IntKind.u64) (UM ws d a))]))))])) none) (cond (k == 2) (cond (Go.Proofs.Ytmpmnjekcajlgaa.Wlk.okM n ws && inI d && inI a && inI t && Go.Proofs.Ytmpmnjekcajlgaa.Wlk.allW ws) (K (Res.mk (AV.e (AE.c (AC.int (IntKind.i64) (ME ws d a t)))) [(some (some (Block.mk false (Data.mix [(AC.slice (Loc.mk 1 0 1 0 0 0 0) 1 (n) (x) true)])))), (some (some (Block.mk false (Data.rows [(Col.ints (IntKind.u64) (MM ws d a t wr))]))))])) none) (cond (k == 3) (cond (Go.Proofs.Ytmpmnjekcajlgaa.Wlk.okM n ws && inI d && inI a && inI d && Go.Proofs.Ytmpmnjekcajlgaa.Wlk.allW ws) (K (Res.mk (AV.e (AE.c (AC.int (IntKind.i64) (NE ws d a)))) [(some (some (Block.mk false (Data.mix [(AC.slice (Loc.mk 1 0 1 0 0 0 0) 1 (n) (x) true)])))), (some (some (Block.mk false (Data.rows [(Col.ints (IntKind.u64) (NM ws d a))]))))])) none) (cond (Go.Proofs.Ytmpmnjekcajlgaa.Wlk.okM n ws && inI d && inI a && inI d && Go.Proofs.Ytmpmnjekcajlgaa.Wlk.allW ws) (K (Res.mk (AV.e (AE.c (AC.int (IntKind.i64) (RE ws d a)))) [(some (some (Block.mk false (Data.mix [(AC.slice (Loc.mk 1 0 1 0 0 0 0) 1 (n) (x) true)])))), (some (some (Block.mk false (Data.rows [(Col.ints (IntKind.u64) (RM ws d a wr))]))))])) none))))) := by kernel_rfl
theorem gAct_sound : FunSound Try.prog 20 (gActV actE actW) := by
  refine (runG_sound sAc_ok mix 100 20).fill.short fun args sub κ r h => ?_
  unfold gActV at h
  split at h
  · rename_i k d a t wr n x ws
    split at h
    · rename_i hc
      have hc' := hc
      simp only [Bool.and_eq_true] at hc
      obtain ⟨⟨⟨⟨ho, hd⟩, ha⟩, ht⟩, hw⟩ := hc
      have hcd : (okM n ws && inI d && inI a && inI d && allW ws) = true := by rw [ho, hd, ha, hw]; rfl
      refine (t_act opTE opTW opUE opUW opME opMW opNE opNW opRE opRW k d a t wr n x ws _).trans ?_
      by_cases k0 : k = 0
      · have e1 : actE ws k d a t wr = opTE ws d a t := by unfold actE; rw [if_pos k0]
        have e2 : actW ws k d a t wr = opTW ws d a t := by unfold actW; rw [if_pos k0]
        rw [show (k == 0) = true from by simpa using k0, cond_true, hc', cond_true]
        rw [e1, e2] at h; exact h
      rw [show (k == 0) = false from by simpa using k0, cond_false]
      by_cases k1 : k = 1
      · have e1 : actE ws k d a t wr = opUE ws d a := by unfold actE; rw [if_neg k0, if_pos k1]
        have e2 : actW ws k d a t wr = opUW ws d a := by unfold actW; rw [if_neg k0, if_pos k1]
        rw [show (k == 1) = true from by simpa using k1, cond_true, hcd, cond_true]
        rw [e1, e2] at h; exact h
      rw [show (k == 1) = false from by simpa using k1, cond_false]
      by_cases k2 : k = 2
      · have e1 : actE ws k d a t wr = opME ws d a t := by unfold actE; rw [if_neg k0, if_neg k1, if_pos k2]
        have e2 : actW ws k d a t wr = opMW ws d a t wr := by unfold actW; rw [if_neg k0, if_neg k1, if_pos k2]
        rw [show (k == 2) = true from by simpa using k2, cond_true, hc', cond_true]
        rw [e1, e2] at h; exact h
      rw [show (k == 2) = false from by simpa using k2, cond_false]
      by_cases k3 : k = 3
      · have e1 : actE ws k d a t wr = opNE ws d a := by unfold actE; rw [if_neg k0, if_neg k1, if_neg k2, if_pos k3]
        have e2 : actW ws k d a t wr = opNW ws d a := by unfold actW; rw [if_neg k0, if_neg k1, if_neg k2, if_pos k3]
        rw [show (k == 3) = true from by simpa using k3, cond_true, hcd, cond_true]
        rw [e1, e2] at h; exact h
      have e1 : actE ws k d a t wr = opRE ws d a := by unfold actE; rw [if_neg k0, if_neg k1, if_neg k2, if_neg k3]
      have e2 : actW ws k d a t wr = opRW ws d a wr := by unfold actW; rw [if_neg k0, if_neg k1, if_neg k2, if_neg k3]
      rw [show (k == 3) = false from by simpa using k3, cond_false, hcd, cond_true]
      rw [e1, e2] at h; exact h
    · cases h
  · cases h
theorem gRact_sound : FunSound Try.prog 21 (gActV actE actW) := by
  refine (runG_sound sAc_ok mix 100 21).fill.short fun args sub κ r h => ?_
  unfold gActV at h
  split at h
  · rename_i k d a t wr n x ws
    split at h
    · rename_i hc
      have hc' := hc
      simp only [Bool.and_eq_true] at hc
      obtain ⟨⟨⟨⟨ho, hd⟩, ha⟩, ht⟩, hw⟩ := hc
      have hcd : (okM n ws && inI d && inI a && inI d && allW ws) = true := by rw [ho, hd, ha, hw]; rfl
      refine (t_ract opTE opTW opUE opUW opME opMW opNE opNW opRE opRW k d a t wr n x ws _).trans ?_
      by_cases k0 : k = 0
      · have e1 : actE ws k d a t wr = opTE ws d a t := by unfold actE; rw [if_pos k0]
        have e2 : actW ws k d a t wr = opTW ws d a t := by unfold actW; rw [if_pos k0]
        rw [show (k == 0) = true from by simpa using k0, cond_true, hc', cond_true]
        rw [e1, e2] at h; exact h
      rw [show (k == 0) = false from by simpa using k0, cond_false]
      by_cases k1 : k = 1
      · have e1 : actE ws k d a t wr = opUE ws d a := by unfold actE; rw [if_neg k0, if_pos k1]
        have e2 : actW ws k d a t wr = opUW ws d a := by unfold actW; rw [if_neg k0, if_pos k1]
        rw [show (k == 1) = true from by simpa using k1, cond_true, hcd, cond_true]
        rw [e1, e2] at h; exact h
      rw [show (k == 1) = false from by simpa using k1, cond_false]
      by_cases k2 : k = 2
      · have e1 : actE ws k d a t wr = opME ws d a t := by unfold actE; rw [if_neg k0, if_neg k1, if_pos k2]
        have e2 : actW ws k d a t wr = opMW ws d a t wr := by unfold actW; rw [if_neg k0, if_neg k1, if_pos k2]
        rw [show (k == 2) = true from by simpa using k2, cond_true, hc', cond_true]
        rw [e1, e2] at h; exact h
      rw [show (k == 2) = false from by simpa using k2, cond_false]
      by_cases k3 : k = 3
      · have e1 : actE ws k d a t wr = opNE ws d a := by unfold actE; rw [if_neg k0, if_neg k1, if_neg k2, if_pos k3]
        have e2 : actW ws k d a t wr = opNW ws d a := by unfold actW; rw [if_neg k0, if_neg k1, if_neg k2, if_pos k3]
        rw [show (k == 3) = true from by simpa using k3, cond_true, hcd, cond_true]
        rw [e1, e2] at h; exact h
      have e1 : actE ws k d a t wr = opRE ws d a := by unfold actE; rw [if_neg k0, if_neg k1, if_neg k2, if_neg k3]
      have e2 : actW ws k d a t wr = opRW ws d a wr := by unfold actW; rw [if_neg k0, if_neg k1, if_neg k2, if_neg k3]
      rw [show (k == 3) = false from by simpa using k3, cond_false, hcd, cond_true]
      rw [e1, e2] at h; exact h
    · cases h
  · cases h
theorem epW_word (w : Bool) (a : Int) : word (epW true w a) = true := by
  unfold epW
  rw [if_pos rfl]
  split
  · rename_i h
    have : 0 ≤ a + 1 + (if w = true then 2 else 0) ∧ a + 1 + (if w = true then 2 else 0) < 18446744073709551616 := by split <;> omega
    simp only [word, decide_eq_true this.1, decide_eq_true this.2]; rfl
  · rfl
/-- What an act makes: the words as they were, or one set. -/
theorem act_one (ws : List Int) (k d a t : Int) (wr : Bool) : (actW ws k d a t wr = ws ∨ ∃ i v, word v = true ∧ actW ws k d a t wr = putW ws i v) ∧ (actE ws k d a t wr ≠ 0 → actW ws k d a t wr = ws) := by
  unfold actW actE
  by_cases k0 : k = 0
  · rw [if_pos k0, if_pos k0]; unfold opTW opTE setWs setE
    split
    · split
      · exact ⟨.inr ⟨_, _, epW_word _ _, rfl⟩, fun h => absurd rfl h⟩
      · exact ⟨.inl rfl, fun _ => rfl⟩
    · exact ⟨.inl rfl, fun _ => rfl⟩
  rw [if_neg k0, if_neg k0]
  by_cases k1 : k = 1
  · rw [if_pos k1, if_pos k1]; unfold opUW opUE goneWs goneE
    split
    · split
      · exact ⟨.inl rfl, fun _ => rfl⟩
      · exact ⟨.inr ⟨_, 0, rfl, rfl⟩, fun h => absurd rfl h⟩
    · exact ⟨.inl rfl, fun _ => rfl⟩
  rw [if_neg k1, if_neg k1]
  by_cases k2 : k = 2
  · rw [if_pos k2, if_pos k2]; unfold opMW opME setWs setE
    split
    · split
      · exact ⟨.inr ⟨_, _, epW_word _ _, rfl⟩, fun h => absurd rfl h⟩
      · exact ⟨.inl rfl, fun _ => rfl⟩
    · exact ⟨.inl rfl, fun _ => rfl⟩
  rw [if_neg k2, if_neg k2]
  by_cases k3 : k = 3
  · rw [if_pos k3, if_pos k3]; unfold opNW opNE goneWs goneE
    split
    · split
      · exact ⟨.inl rfl, fun _ => rfl⟩
      · exact ⟨.inr ⟨_, 0, rfl, rfl⟩, fun h => absurd rfl h⟩
    · exact ⟨.inl rfl, fun _ => rfl⟩
  rw [if_neg k3, if_neg k3]; unfold opRW opRE remWs remE
  split
  · split
    · exact ⟨.inl rfl, fun _ => rfl⟩
    · split
      · exact ⟨.inr ⟨_, _, epW_word _ _, rfl⟩, fun h => absurd rfl h⟩
      · exact ⟨.inl rfl, fun _ => rfl⟩
  · exact ⟨.inl rfl, fun _ => rfl⟩
theorem actW_len (ws : List Int) (k d a t : Int) (wr : Bool) : (actW ws k d a t wr).length = ws.length := by
  rcases (act_one ws k d a t wr).1 with h | ⟨i, v, _, h⟩
  · rw [h]
  · rw [h, putW_len]
theorem actW_all {ws : List Int} (hw : allW ws = true) (k d a t : Int) (wr : Bool) : allW (actW ws k d a t wr) = true := by
  rcases (act_one ws k d a t wr).1 with h | ⟨i, v, hv, h⟩
  · rw [h]; exact hw
  · rw [h]; exact putW_all hw hv
def cntL : List Int → List Int → Nat
  | x :: xs, y :: ys => (if x = y then 0 else 1) + cntL xs ys
  | _, _ => 0
theorem cntL_self : ∀ l : List Int, cntL l l = 0
  | [] => rfl
  | x :: r => by simp [cntL, cntL_self r]
theorem cntL_set : ∀ (l : List Int) (i : Nat) (v : Int), cntL l (l.set i v) ≤ 1
  | [], _, _ => by simp [cntL]
  | x :: r, 0, v => by
    simp only [List.set_cons_zero, cntL, cntL_self]
    split <;> omega
  | x :: r, i + 1, v => by
    have := cntL_set r i v
    simp only [List.set_cons_succ, cntL, if_true]; omega
theorem act_cnt (ws : List Int) (k d a t : Int) (wr : Bool) : cntL ws (actW ws k d a t wr) ≤ 1 ∧ (actE ws k d a t wr ≠ 0 → cntL ws (actW ws k d a t wr) = 0) := by
  obtain ⟨h1, h2⟩ := act_one ws k d a t wr
  refine ⟨?_, fun h => by rw [h2 h, cntL_self]⟩
  rcases h1 with h | ⟨i, v, _, h⟩
  · rw [h, cntL_self]; omega
  · rw [h]; unfold putW
    split
    · exact cntL_set _ _ _
    · rw [cntL_self]; omega
end Go.Proofs.Ytmpmnjekcajlgaa.Wlk
