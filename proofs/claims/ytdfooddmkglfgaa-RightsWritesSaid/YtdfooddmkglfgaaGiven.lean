/- Rights in letters, and the rights of letters: the walks of the two functions (each ranges over a constant string), by hand. -/
import Derived.Test.YtdfooddmkglfgaaBase1
import Derived.Laws.RangeString
import Derived.Laws.RangeAny
import Derived.WalkLawsBesides
import Derived.WalkSpells
import Derived.LoopN
import Derived.Outline
namespace Go.Proofs.Ytdfooddmkglfgaa.Given
open Go Go.RowKit Go.Proofs.Ytdfooddmkglfgaa.Base Go.Proofs.YtdfooddmkglfgaaW.PrintWords Go.Proofs.YtdfooddmkglfgaaW.PrintLast Go.Proofs.YtdfooddmkglfgaaW.PrintMore
set_option linter.unusedVariables false
set_option linter.unusedSimpArgs false

abbrev rwg : ByteArray := ⟨#[114, 119, 103]⟩
theorem nx0 (W : World) (ty : TypeId) : (Instr.next (.pointer (some ⟨W.heap.size, 0, none⟩)) true ty).run Try.prog (W.iter rwg 0) = .ok (.tuple #[.bool true, .int .i64 0, .int .i32 114]) (W.iter rwg 1) := run_next_any W rwg 0 ty (by decide)
theorem nx1 (W : World) (ty : TypeId) : (Instr.next (.pointer (some ⟨W.heap.size, 0, none⟩)) true ty).run Try.prog (W.iter rwg 1) = .ok (.tuple #[.bool true, .int .i64 1, .int .i32 119]) (W.iter rwg 2) := run_next_any W rwg 1 ty (by decide)
theorem nx2 (W : World) (ty : TypeId) : (Instr.next (.pointer (some ⟨W.heap.size, 0, none⟩)) true ty).run Try.prog (W.iter rwg 2) = .ok (.tuple #[.bool true, .int .i64 2, .int .i32 103]) (W.iter rwg 3) := run_next_any W rwg 2 ty (by decide)
theorem nx3 (W : World) (ty : TypeId) : (Instr.next (.pointer (some ⟨W.heap.size, 0, none⟩)) true ty).run Try.prog (W.iter rwg 3) = .ok (.tuple #[.bool false]) (W.iter rwg 3) := run_next_end W rwg 3 ty (by decide)
/-- rights in letters -/
def addB (s : ByteArray) (b : Bool) (c : Int) : ByteArray := if b then s ++ Utf8.encode c else s
def textB (b0 b1 b2 : Bool) : ByteArray := addB (addB (addB ⟨#[]⟩ b0 114) b1 119) b2 103
theorem size_rwg : (Utf8.encode 114).size = 1 ∧ (Utf8.encode 119).size = 1 ∧ (Utf8.encode 103).size = 1 := by decide +kernel
set_option maxHeartbeats 4000000 in
theorem text_walk (r : Int) (w : World) (b0 b1 b2 : Bool) (hc : rights_Check.f r = some true) (h0 : (r == 0) = false)
    (f0 : (bits BinOp.and IntKind.i64 r 1 == 1) = b0) (f1 : (bits BinOp.and IntKind.i64 (r / 2) 1 == 1) = b1) (f2 : (bits BinOp.and IntKind.i64 (r / 4) 1 == 1) = b2) :
    Calls Try.prog 14 #[.int .i64 r] w fun e w' => e = .returned (.tuple #[.string (textB b0 b1 b2), .int .i64 0]) ∧ Below w.heap.size w w' := by
  have A := Aside0.mk hc
  obtain ⟨z0, z1, z2⟩ := size_rwg
  clear hc
  cases b0 <;> cases b1 <;> cases b2
  all_goals
    go_enter Try.func14, Try.ntmps14
    go_wp2_with (go_at_call 8; (with_reducible refine (rights_Check.calls r true _ A.out).mono ?_); rintro e w' ⟨rfl, ⟨nd, rfl⟩⟩)
    refine wp_loop_rounds 4 ?_
    rw [rounds_succ]
    have n0 : ∀ ty, (Instr.next (.pointer (some ⟨w.heap.size, 0, none⟩)) true ty).run Try.prog ((w.drewN nd).iter ⟨#[114, 119, 103]⟩ 0) = _ := nx0 (w.drewN nd)
    have n1 : ∀ ty, (Instr.next (.pointer (some ⟨w.heap.size, 0, none⟩)) true ty).run Try.prog ((w.drewN nd).iter ⟨#[114, 119, 103]⟩ 1) = _ := nx1 (w.drewN nd)
    have n2 : ∀ ty, (Instr.next (.pointer (some ⟨w.heap.size, 0, none⟩)) true ty).run Try.prog ((w.drewN nd).iter ⟨#[114, 119, 103]⟩ 2) = _ := nx2 (w.drewN nd)
    have n3 : ∀ ty, (Instr.next (.pointer (some ⟨w.heap.size, 0, none⟩)) true ty).run Try.prog ((w.drewN nd).iter ⟨#[114, 119, 103]⟩ 3) = _ := nx3 (w.drewN nd)
    go_wp2
    rw [rounds_succ]
    go_wp2
    rw [rounds_succ]
    go_wp2
    rw [rounds_succ]
    go_wp2
    go_ret2
    exact ⟨by rfl, below_alloc (pw_below_drewN (Below.refl _ _) _) _⟩
theorem parse_dash (s : ByteArray) (w : World) (hd : (s.toList == [45]) = true) :
    Calls Try.prog 16 #[.string s] w fun e w' => e = .returned (.tuple #[.int .i64 0, .int .i64 0]) ∧ Below w.heap.size w w' := by
  go_enter Try.func16, Try.ntmps16
  go_wp2
  go_ret2
  exact ⟨rfl, Below.refl _ _⟩
/-- one letter of the three, if it comes next -/
def eat (c : Nat) (bit : Int) (st : Int × ByteArray) : Int × ByteArray :=
  if h : 0 < st.2.size then (if (st.2[0]'h).toNat = c then (st.1 + bit, st.2.extract 1 st.2.size) else st) else st
def ate (s : ByteArray) : Nat → Int × ByteArray
  | 0 => (0, s)
  | 1 => eat 114 1 (0, s)
  | 2 => eat 119 2 (eat 114 1 (0, s))
  | _ => eat 103 4 (eat 119 2 (eat 114 1 (0, s)))
theorem eat_le (c : Nat) (bit : Int) (st : Int × ByteArray) : (eat c bit st).2.size ≤ st.2.size := by
  unfold eat
  split
  · split
    · simp [ByteArray.size_extract]
    · exact Nat.le_refl _
  · exact Nat.le_refl _
theorem eat_num (c : Nat) (bit : Int) (st : Int × ByteArray) : (eat c bit st).1 = st.1 ∨ (eat c bit st).1 = st.1 + bit := by
  unfold eat
  split
  · split
    · exact .inr rfl
    · exact .inl rfl
  · exact .inl rfl
theorem ate_1 (s : ByteArray) : (ate s 1).1 = 0 ∨ (ate s 1).1 = 1 := by
  have := eat_num 114 1 (0, s)
  simpa [ate] using this
theorem ate_2 (s : ByteArray) : (ate s 2).1 = 0 ∨ (ate s 2).1 = 1 ∨ (ate s 2).1 = 2 ∨ (ate s 2).1 = 3 := by
  have h1 := eat_num 114 1 (0, s)
  have h2 := eat_num 119 2 (eat 114 1 (0, s))
  have e : ate s 2 = eat 119 2 (eat 114 1 (0, s)) := rfl
  rw [e]
  simp only at h1
  omega
theorem or_1 : bits BinOp.or IntKind.i64 0 1 = 1 := by decide +kernel
theorem or_2 : bits BinOp.or IntKind.i64 0 2 = 2 ∧ bits BinOp.or IntKind.i64 1 2 = 3 := by decide +kernel
theorem or_4 : bits BinOp.or IntKind.i64 0 4 = 4 ∧ bits BinOp.or IntKind.i64 1 4 = 5 ∧ bits BinOp.or IntKind.i64 2 4 = 6 ∧ bits BinOp.or IntKind.i64 3 4 = 7 := by decide +kernel
theorem empty_no {t : ByteArray} (h : 0 < t.size) : t.toList.isEmpty = false := by
  rw [List.isEmpty_eq_false_iff]
  intro c
  have h2 : t.toList.length = t.size := by rw [Go.ByteArray.toList_eq, Array.length_toList]; rfl
  rw [c] at h2
  have h3 : (0 : Nat) = t.size := h2
  omega
theorem empty_yes {t : ByteArray} (h : ¬ 0 < t.size) : t.toList.isEmpty = true := by
  rw [List.isEmpty_iff]
  have h2 : t.toList.length = t.size := by rw [Go.ByteArray.toList_eq, Array.length_toList]; rfl
  exact List.eq_nil_of_length_eq_zero (by omega)
theorem eat_yes {c : Nat} {bit : Int} {r : Int} {t : ByteArray} (h : 0 < t.size) (e : (((t[0]'h).toNat : Int) == (c : Int)) = true) : eat c bit (r, t) = (r + bit, t.extract 1 t.size) := by
  unfold eat
  rw [dif_pos h, if_pos (Int.ofNat.inj (beq_iff_eq.mp e))]
theorem eat_no {c : Nat} {bit : Int} {r : Int} {t : ByteArray} (h : 0 < t.size) (e : (((t[0]'h).toNat : Int) == (c : Int)) = false) : eat c bit (r, t) = (r, t) := by
  unfold eat
  rw [dif_pos h, if_neg (fun k => beq_eq_false_iff_ne.mp e (congrArg Int.ofNat k))]
theorem eat_none {c : Nat} {bit : Int} {r : Int} {t : ByteArray} (h : ¬ 0 < t.size) : eat c bit (r, t) = (r, t) := by
  unfold eat
  rw [dif_neg h]
theorem cut_le (t : ByteArray) : (t.extract 1 t.size).size ≤ t.size := by simp [ByteArray.size_extract]
/-- the rights of letters -/
def parseS (s : ByteArray) : Int × Int :=
  if s.toList = [45] then (0, 0) else if (ate s 3).2.toList ≠ [] ∨ s.toList = [] then (0, 10) else ((ate s 3).1, 0)
set_option maxHeartbeats 8000000 in
theorem parse_walk (s : ByteArray) (w : World) (hs : s.size ≤ 140737488351232) (hd : (s.toList == [45]) = false) :
    Calls Try.prog 16 #[.string s] w fun e w' => e = .returned (.tuple #[.int .i64 (parseS s).1, .int .i64 (parseS s).2]) ∧ Below w.heap.size w w' := by
  have HD := Aside0.mk hd
  go_enter Try.func16, Try.ntmps16
  go_wp2
  go_loopw [4, 5] (fun r l w' => ∃ (pos : Nat) (st : Int × ByteArray), pos ≤ 3 ∧ w' = w.iter ⟨#[114, 119, 103]⟩ pos ∧ r = .int .i64 st.1 ∧ l = .string st.2 ∧ st = ate s pos ∧ st.2.size ≤ s.size) (fun _ _ w' => 3 - w'.iterPos w.heap.size)
  case atStart => exact ⟨0, _, by omega, rfl, rfl, rfl, rfl, Nat.le_refl _⟩
  case round =>
    obtain ⟨pos, ⟨r, t⟩, hp, rfl, rfl, rfl, hst, hz⟩ := hrel
    simp only at hz
    have Hst := Aside0.mk hst
    clear hst
    have n0 : ∀ ty, (Instr.next (.pointer (some ⟨w.heap.size, 0, none⟩)) true ty).run Try.prog (w.iter ⟨#[114, 119, 103]⟩ 0) = _ := nx0 w
    have n1 : ∀ ty, (Instr.next (.pointer (some ⟨w.heap.size, 0, none⟩)) true ty).run Try.prog (w.iter ⟨#[114, 119, 103]⟩ 1) = _ := nx1 w
    have n2 : ∀ ty, (Instr.next (.pointer (some ⟨w.heap.size, 0, none⟩)) true ty).run Try.prog (w.iter ⟨#[114, 119, 103]⟩ 2) = _ := nx2 w
    have n3 : ∀ ty, (Instr.next (.pointer (some ⟨w.heap.size, 0, none⟩)) true ty).run Try.prog (w.iter ⟨#[114, 119, 103]⟩ 3) = _ := nx3 w
    match pos, hp with
    | 0, _ =>
      have er : r = 0 := congrArg Prod.fst Hst.out
      have O : bits BinOp.or IntKind.i64 r 1 = r + 1 := by rw [er]; exact or_1
      have O' := Aside0.mk O
      clear O er
      by_cases h : 0 < t.size
      · have e := empty_no h
        go_wp2
        · refine ⟨⟨1, (r + 1, t.extract 1 t.size), by omega, rfl, by rw [O'.out], rfl, ?_, Nat.le_trans (cut_le t) hz⟩, by rw [World.iterPos_iter, World.iterPos_iter]; omega⟩
          have := eat_yes (c := 114) (bit := 1) (r := r) h (by assumption)
          show _ = eat 114 1 (ate s 0); rw [← Hst.out]; exact this.symm
        · refine ⟨⟨1, (r, t), by omega, rfl, rfl, rfl, ?_, hz⟩, by rw [World.iterPos_iter, World.iterPos_iter]; omega⟩
          have := eat_no (c := 114) (bit := 1) (r := r) h (by assumption)
          show _ = eat 114 1 (ate s 0); rw [← Hst.out]; exact this.symm
      · have e := empty_yes h
        go_wp2
        refine ⟨⟨1, (r, t), by omega, rfl, rfl, rfl, ?_, hz⟩, by rw [World.iterPos_iter, World.iterPos_iter]; omega⟩
        have := eat_none (c := 114) (bit := 1) (r := r) h
        show _ = eat 114 1 (ate s 0); rw [← Hst.out]; exact this.symm
    | 1, _ =>
      have er := ate_1 s
      rw [← Hst.out] at er
      have O : bits BinOp.or IntKind.i64 r 2 = r + 2 := by
        rcases er with er | er <;> simp only at er <;> rw [er]
        · exact or_2.1
        · exact or_2.2
      have O' := Aside0.mk O
      clear O er
      by_cases h : 0 < t.size
      · have e := empty_no h
        go_wp2
        · refine ⟨⟨2, (r + 2, t.extract 1 t.size), by omega, rfl, by rw [O'.out], rfl, ?_, Nat.le_trans (cut_le t) hz⟩, by rw [World.iterPos_iter, World.iterPos_iter]; omega⟩
          have := eat_yes (c := 119) (bit := 2) (r := r) h (by assumption)
          show _ = eat 119 2 (ate s 1); rw [← Hst.out]; exact this.symm
        · refine ⟨⟨2, (r, t), by omega, rfl, rfl, rfl, ?_, hz⟩, by rw [World.iterPos_iter, World.iterPos_iter]; omega⟩
          have := eat_no (c := 119) (bit := 2) (r := r) h (by assumption)
          show _ = eat 119 2 (ate s 1); rw [← Hst.out]; exact this.symm
      · have e := empty_yes h
        go_wp2
        refine ⟨⟨2, (r, t), by omega, rfl, rfl, rfl, ?_, hz⟩, by rw [World.iterPos_iter, World.iterPos_iter]; omega⟩
        have := eat_none (c := 119) (bit := 2) (r := r) h
        show _ = eat 119 2 (ate s 1); rw [← Hst.out]; exact this.symm
    | 2, _ =>
      have er := ate_2 s
      rw [← Hst.out] at er
      have O : bits BinOp.or IntKind.i64 r 4 = r + 4 := by
        rcases er with er | er | er | er <;> simp only at er <;> rw [er]
        · exact or_4.1
        · exact or_4.2.1
        · exact or_4.2.2.1
        · exact or_4.2.2.2
      have O' := Aside0.mk O
      clear O er
      by_cases h : 0 < t.size
      · have e := empty_no h
        go_wp2
        · refine ⟨⟨3, (r + 4, t.extract 1 t.size), by omega, rfl, by rw [O'.out], rfl, ?_, Nat.le_trans (cut_le t) hz⟩, by rw [World.iterPos_iter, World.iterPos_iter]; omega⟩
          have := eat_yes (c := 103) (bit := 4) (r := r) h (by assumption)
          show _ = eat 103 4 (ate s 2); rw [← Hst.out]; exact this.symm
        · refine ⟨⟨3, (r, t), by omega, rfl, rfl, rfl, ?_, hz⟩, by rw [World.iterPos_iter, World.iterPos_iter]; omega⟩
          have := eat_no (c := 103) (bit := 4) (r := r) h (by assumption)
          show _ = eat 103 4 (ate s 2); rw [← Hst.out]; exact this.symm
      · have e := empty_yes h
        go_wp2
        refine ⟨⟨3, (r, t), by omega, rfl, rfl, rfl, ?_, hz⟩, by rw [World.iterPos_iter, World.iterPos_iter]; omega⟩
        have := eat_none (c := 103) (bit := 4) (r := r) h
        show _ = eat 103 4 (ate s 2); rw [← Hst.out]; exact this.symm
    | 3, _ =>
      have P : parseS s = if t.toList ≠ [] ∨ s.toList = [] then (0, 10) else (r, 0) := by
        unfold parseS
        rw [if_neg (by have := HD.out; simpa using this), ← Hst.out]
      have P' := Aside0.mk P
      clear P
      go_wp2
      · go_ret2
        rw [P'.out, if_pos (Or.inr (by simpa [List.isEmpty_iff] using ‹s.toList.isEmpty = true›))]
        exact ⟨rfl, below_alloc (Below.refl _ _) _⟩
      · go_ret2
        have h1 : t.toList = [] := by assumption
        have h2 : s.toList.isEmpty = false := by assumption
        rw [P'.out, if_neg (fun h => h.elim (fun k => k h1) (fun k => by rw [k] at h2; cases h2))]
        exact ⟨rfl, below_alloc (Below.refl _ _) _⟩
      · go_ret2
        rw [P'.out, if_pos (Or.inl (by assumption))]
        exact ⟨rfl, below_alloc (Below.refl _ _) _⟩
def rights_Parse.f (s : ByteArray) : Option (Int × Int) := if s.size ≤ 140737488351232 then some (parseS s) else none
theorem rights_Parse.calls (s : ByteArray) (r1 r2 : Int) (w : World) (h : rights_Parse.f s = some (r1, r2)) :
    Calls Try.prog 16 #[.string s] w fun e w' => e = .returned (.tuple #[.int .i64 r1, .int .i64 r2]) ∧ Below w.heap.size w w' := by
  unfold rights_Parse.f at h
  split at h
  · rename_i hs
    simp only [Option.some.injEq] at h
    by_cases hd : (s.toList == [45]) = true
    · have e : parseS s = (0, 0) := by unfold parseS; rw [if_pos (by simpa using hd)]
      rw [e] at h
      simp only [Prod.mk.injEq] at h
      obtain ⟨rfl, rfl⟩ := h
      exact parse_dash s w hd
    · have := parse_walk s w hs (by simpa using hd)
      rw [h] at this; exact this
  · cases h
def rights_Text.f (r : Int) : Option (ByteArray × Int) :=
  (rights_Check.f r).bind fun b => if b = true then (if r = 0 then some (⟨#[45]⟩, 0) else some (textB (bits BinOp.and IntKind.i64 r 1 == 1) (bits BinOp.and IntKind.i64 (r / 2) 1 == 1) (bits BinOp.and IntKind.i64 (r / 4) 1 == 1), 0)) else some (⟨#[]⟩, 1)
theorem text_no (r : Int) (w : World) (hc : rights_Check.f r = some false) :
    Calls Try.prog 14 #[.int .i64 r] w fun e w' => e = .returned (.tuple #[.string ⟨#[]⟩, .int .i64 1]) ∧ Below w.heap.size w w' := by
  have A := Aside0.mk hc
  clear hc
  go_enter Try.func14, Try.ntmps14
  go_wp2_with (go_at_call 8; (with_reducible refine (rights_Check.calls r false _ A.out).mono ?_); rintro e w' ⟨rfl, ⟨nd, rfl⟩⟩)
  go_ret2
  exact ⟨rfl, pw_below_drewN (Below.refl _ _) _⟩
theorem text_0 (w : World) (hc : rights_Check.f 0 = some true) :
    Calls Try.prog 14 #[.int .i64 0] w fun e w' => e = .returned (.tuple #[.string ⟨#[45]⟩, .int .i64 0]) ∧ Below w.heap.size w w' := by
  have A := Aside0.mk hc
  clear hc
  go_enter Try.func14, Try.ntmps14
  go_wp2_with (go_at_call 8; (with_reducible refine (rights_Check.calls 0 true _ A.out).mono ?_); rintro e w' ⟨rfl, ⟨nd, rfl⟩⟩)
  go_ret2
  exact ⟨rfl, pw_below_drewN (Below.refl _ _) _⟩
theorem rights_Text.calls (r : Int) (r1 : ByteArray) (r2 : Int) (w : World) (h : rights_Text.f r = some (r1, r2)) :
    Calls Try.prog 14 #[.int .i64 r] w fun e w' => e = .returned (.tuple #[.string r1, .int .i64 r2]) ∧ Below w.heap.size w w' := by
  unfold rights_Text.f at h
  obtain ⟨b, hb, h⟩ := Option.bind_eq_some_iff.mp h
  cases b
  · rw [if_neg (by decide)] at h
    simp only [Option.some.injEq, Prod.mk.injEq] at h
    obtain ⟨rfl, rfl⟩ := h
    exact text_no r w hb
  · rw [if_pos rfl] at h
    by_cases h0 : r = 0
    · subst h0
      rw [if_pos rfl] at h
      simp only [Option.some.injEq, Prod.mk.injEq] at h
      obtain ⟨rfl, rfl⟩ := h
      exact text_0 w hb
    · rw [if_neg h0] at h
      simp only [Option.some.injEq, Prod.mk.injEq] at h
      obtain ⟨rfl, rfl⟩ := h
      exact text_walk r w _ _ _ hb (by simpa using h0) rfl rfl rfl
end Go.Proofs.Ytdfooddmkglfgaa.Given
