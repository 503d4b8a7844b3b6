/- Lines of interrupts: what each act makes of them, told in short. -/
import Derived.Test.YtanchmbopllimaaIqB
set_option linter.unusedVariables false
set_option linter.unusedSimpArgs false
set_option maxRecDepth 100000
namespace Go.Proofs.Ytanchmbopllimaa.Wlk
open Go Go.Eng Go.Proofs Go.RowKit
def unOld : Heap → Option (List (Option Block))
  | [] => some []
  | (false, b) :: r => match unOld r with
    | some l => some (b :: l)
    | none => none
  | _ => none
theorem unOld_spec : ∀ {h : Heap} {l : List (Option Block)}, unOld h = some l → h = olds l
  | [], l, e => by simp only [unOld, Option.some.injEq] at e; subst e; rfl
  | (false, b) :: r, l, e => by
    simp only [unOld] at e
    split at e
    · rename_i l1 h1
      simp only [Option.some.injEq] at e
      subst e
      rw [unOld_spec h1]; rfl
    · cases e
  | (true, b) :: r, l, e => by simp [unOld] at e
def unH (h : Heap) : Option (List Int × List Bool × List Nat) := match unOld h with
  | some l => unQ l
  | none => none
theorem unH_spec {h : Heap} {os : List Int} {ms : List Bool} {ts : List Nat} (e : unH h = some (os, ms, ts)) : h = qHeap os ms ts ∧ os.length = 8 ∧ ms.length = 8 ∧ ts.length = 8 := by
  unfold unH at e
  split at e
  · rename_i l hl
    obtain ⟨rfl, h1⟩ := unQ_spec e
    exact ⟨unOld_spec hl, h1⟩
  · cases e
/- raised, owned, told of, acked -/
theorem inL_f1 {n : Int} (h : n < 0) : inL n = false := by simp [inL]; omega
theorem inL_f2 {n : Int} (h : n ≥ 8) : inL n = false := by simp [inL]; omega
theorem inL_t {n : Int} (h1 : ¬ n < 0) (h2 : ¬ n ≥ 8) : inL n = true := by simp [inL]; omega
def gOwn : Fun := fun args sub κ => match args with
  | [.e (.c (.ptr ⟨0, 0, 0, 0, 0, 0, 0⟩)), .e (.c (.int .i64 n)), .e (.c (.int .i64 d))] => match unQ sub with
    | some (os, ms, ts) => κ ⟨aint .i64 (ownE n d os), somes (qSub (setN (ownIx n d os) d 0 os) (setN (ownIx n d os) false 0 ms) ts)⟩
    | none => none
  | _ => none
theorem gOwn_sound : FunSound Try.prog 9 gOwn := by
  refine ((runF_sound sLine_ok mix 60 9).fill).short fun args sub κ r h => ?_
  unfold gOwn at h
  split at h
  · rename_i n d
    split at h
    · rename_i os ms ts hq
      obtain ⟨rfl, l1, l2, l3⟩ := unQ_spec hq
      obtain ⟨o0, o1, o2, o3, o4, o5, o6, o7, rfl⟩ := len8 l1
      obtain ⟨m0, m1, m2, m3, m4, m5, m6, m7, rfl⟩ := len8 l2
      obtain ⟨t0, t1, t2, t3, t4, t5, t6, t7, rfl⟩ := len8 l3
      refine (t_own n d o0 o1 o2 o3 o4 o5 o6 o7 m0 m1 m2 m3 m4 m5 m6 m7 t0 t1 t2 t3 t4 t5 t6 t7 κ).trans ?_
      by_cases c1 : n < 0
      · rw [decide_eq_true c1, cT]
        have e1 : ownE n d [o0, o1, o2, o3, o4, o5, o6, o7] = 1 := by unfold ownE; rw [if_neg (fun h => by rw [inL_f1 c1] at h; exact Bool.noConfusion h.1)]
        have e2 : ownIx n d [o0, o1, o2, o3, o4, o5, o6, o7] = 8 := by unfold ownIx; rw [e1]; rfl
        rw [e1, e2] at h; exact h
      rw [decide_eq_false c1, cF]
      by_cases c2 : n ≥ 8
      · rw [decide_eq_true c2, cT]
        have e1 : ownE n d [o0, o1, o2, o3, o4, o5, o6, o7] = 1 := by unfold ownE; rw [if_neg (fun h => by rw [inL_f2 c2] at h; exact Bool.noConfusion h.1)]
        have e2 : ownIx n d [o0, o1, o2, o3, o4, o5, o6, o7] = 8 := by unfold ownIx; rw [e1]; rfl
        rw [e1, e2] at h; exact h
      have hin := inL_t c1 c2
      rw [decide_eq_false c2, cF, decide_eq_true (show 0 ≤ n by omega), decide_eq_true (show n < 8 by omega), Bool.and_self, cT]
      by_cases c3 : d < 0
      · rw [decide_eq_true c3, cT]
        have e1 : ownE n d [o0, o1, o2, o3, o4, o5, o6, o7] = 1 := by unfold ownE; rw [if_neg (fun h => by omega)]
        have e2 : ownIx n d [o0, o1, o2, o3, o4, o5, o6, o7] = 8 := by unfold ownIx; rw [e1]; rfl
        rw [e1, e2] at h; exact h
      rw [decide_eq_false c3, cF]
      by_cases c4 : d ≥ 4
      · rw [decide_eq_true c4, cT]
        have e1 : ownE n d [o0, o1, o2, o3, o4, o5, o6, o7] = 1 := by unfold ownE; rw [if_neg (fun h => by omega)]
        have e2 : ownIx n d [o0, o1, o2, o3, o4, o5, o6, o7] = 8 := by unfold ownIx; rw [e1]; rfl
        rw [e1, e2] at h; exact h
      have hl : n.toNat < 8 := by omega
      rw [decide_eq_false c4, cF, decide_eq_true (show n.toNat < List.length [o0, o1, o2, o3, o4, o5, o6, o7] from hl), cT]
      by_cases c5 : List.getD [o0, o1, o2, o3, o4, o5, o6, o7] n.toNat 0 = -1
      · rw [show (List.getD [o0, o1, o2, o3, o4, o5, o6, o7] n.toNat 0 != -1) = false from by rw [c5]; rfl, cF, Bool.and_self, cT, decide_eq_true (show n.toNat < List.length [m0, m1, m2, m3, m4, m5, m6, m7] from hl), Bool.and_self, cT]
        have e1 : ownE n d [o0, o1, o2, o3, o4, o5, o6, o7] = 0 := by unfold ownE; rw [if_pos ⟨hin, by omega, by omega⟩, if_pos c5]
        have e2 : ownIx n d [o0, o1, o2, o3, o4, o5, o6, o7] = n.toNat := by unfold ownIx; rw [e1]; rfl
        rw [e1, e2] at h; exact h
      · rw [show (List.getD [o0, o1, o2, o3, o4, o5, o6, o7] n.toNat 0 != -1) = true from by simpa using c5, cT]
        have e1 : ownE n d [o0, o1, o2, o3, o4, o5, o6, o7] = 4 := by unfold ownE; rw [if_pos ⟨hin, by omega, by omega⟩, if_neg c5]
        have e2 : ownIx n d [o0, o1, o2, o3, o4, o5, o6, o7] = 8 := by unfold ownIx; rw [e1]; rfl
        rw [e1, e2] at h; exact h
    · cases h
  · cases h
def gAck : Fun := fun args sub κ => match args with
  | [.e (.c (.ptr ⟨0, 0, 0, 0, 0, 0, 0⟩)), .e (.c (.int .i64 n))] => match unQ sub with
    | some (os, ms, ts) => κ ⟨aint .i64 (ackE n os ms), somes (qSub os (setN (ackIx n os ms) false 0 ms) ts)⟩
    | none => none
  | _ => none
theorem gAck_sound : FunSound Try.prog 12 gAck := by
  refine ((runF_sound sLine_ok mix 60 12).fill).short fun args sub κ r h => ?_
  unfold gAck at h
  split at h
  · rename_i n
    split at h
    · rename_i os ms ts hq
      obtain ⟨rfl, l1, l2, l3⟩ := unQ_spec hq
      obtain ⟨o0, o1, o2, o3, o4, o5, o6, o7, rfl⟩ := len8 l1
      obtain ⟨m0, m1, m2, m3, m4, m5, m6, m7, rfl⟩ := len8 l2
      obtain ⟨t0, t1, t2, t3, t4, t5, t6, t7, rfl⟩ := len8 l3
      have fin : ∀ {e : Int} {i : Nat}, ackE n [o0, o1, o2, o3, o4, o5, o6, o7] [m0, m1, m2, m3, m4, m5, m6, m7] = e → (if e = 0 then n.toNat else 8) = i → κ ⟨aint .i64 e, somes (qSub [o0, o1, o2, o3, o4, o5, o6, o7] (setN i false 0 [m0, m1, m2, m3, m4, m5, m6, m7]) [t0, t1, t2, t3, t4, t5, t6, t7])⟩ = some r := by
        intro e i h1 h2
        have : ackIx n [o0, o1, o2, o3, o4, o5, o6, o7] [m0, m1, m2, m3, m4, m5, m6, m7] = i := by unfold ackIx; rw [h1]; exact h2
        rw [h1, this] at h; exact h
      refine (t_ack n o0 o1 o2 o3 o4 o5 o6 o7 m0 m1 m2 m3 m4 m5 m6 m7 t0 t1 t2 t3 t4 t5 t6 t7 κ).trans ?_
      by_cases c1 : n < 0
      · rw [decide_eq_true c1, cT]
        exact fin (e := 1) (i := 8) (by unfold ackE; rw [if_neg (by rw [inL_f1 c1]; exact Bool.noConfusion)]) rfl
      rw [decide_eq_false c1, cF]
      by_cases c2 : n ≥ 8
      · rw [decide_eq_true c2, cT]
        exact fin (e := 1) (i := 8) (by unfold ackE; rw [if_neg (by rw [inL_f2 c2]; exact Bool.noConfusion)]) rfl
      have hin := inL_t c1 c2
      have hl : n.toNat < 8 := by omega
      rw [decide_eq_false c2, cF, decide_eq_true (show 0 ≤ n by omega), decide_eq_true (show n < 8 by omega), Bool.and_self, cT, decide_eq_true (show n.toNat < List.length [o0, o1, o2, o3, o4, o5, o6, o7] from hl), cT]
      by_cases c5 : List.getD [o0, o1, o2, o3, o4, o5, o6, o7] n.toNat 0 = -1
      · rw [show (List.getD [o0, o1, o2, o3, o4, o5, o6, o7] n.toNat 0 == -1) = true from by rw [c5]; rfl, cT]
        exact fin (e := 8) (i := 8) (by unfold ackE; rw [if_pos hin, if_pos (.inl c5)]) rfl
      rw [show (List.getD [o0, o1, o2, o3, o4, o5, o6, o7] n.toNat 0 == -1) = false from by simpa using c5, cF, decide_eq_true (show n.toNat < List.length [m0, m1, m2, m3, m4, m5, m6, m7] from hl), cT]
      by_cases c6 : List.getD [m0, m1, m2, m3, m4, m5, m6, m7] n.toNat false = false
      · rw [show (!List.getD [m0, m1, m2, m3, m4, m5, m6, m7] n.toNat false) = true from by rw [c6]; rfl, cT]
        exact fin (e := 8) (i := 8) (by unfold ackE; rw [if_pos hin, if_pos (.inr c6)]) rfl
      · rw [show (!List.getD [m0, m1, m2, m3, m4, m5, m6, m7] n.toNat false) = false from by simpa using c6, cF, Bool.and_self, cT]
        exact fin (e := 0) (i := n.toNat) (by unfold ackE; rw [if_pos hin, if_neg (by rintro (h | h); exact c5 h; exact c6 h)]) rfl
    · cases h
  · cases h
def gOwner : Fun := fun args sub κ => match args with
  | [.e (.c (.ptr ⟨0, 0, 0, 0, 0, 0, 0⟩)), .e (.c (.int .i64 n))] => match unQ sub with
    | some (os, ms, ts) => κ ⟨.tup [.c (.int .i64 (owV n os)), .c (.bool (owB n os))], somes (qSub os ms ts)⟩
    | none => none
  | _ => none
theorem gOwner_sound : FunSound Try.prog 20 gOwner := by
  refine ((runF_sound sLine_ok mix 60 20).fill).short fun args sub κ r h => ?_
  unfold gOwner at h
  split at h
  · rename_i n
    split at h
    · rename_i os ms ts hq
      obtain ⟨rfl, l1, l2, l3⟩ := unQ_spec hq
      obtain ⟨o0, o1, o2, o3, o4, o5, o6, o7, rfl⟩ := len8 l1
      obtain ⟨m0, m1, m2, m3, m4, m5, m6, m7, rfl⟩ := len8 l2
      obtain ⟨t0, t1, t2, t3, t4, t5, t6, t7, rfl⟩ := len8 l3
      have no : ¬ (inL n = true ∧ List.getD [o0, o1, o2, o3, o4, o5, o6, o7] n.toNat 0 ≠ -1) → κ ⟨.tup [.c (.int .i64 0), .c (.bool false)], somes (qSub [o0, o1, o2, o3, o4, o5, o6, o7] [m0, m1, m2, m3, m4, m5, m6, m7] [t0, t1, t2, t3, t4, t5, t6, t7])⟩ = some r := by
        intro c
        unfold owV owB at h
        rw [if_neg c, decide_eq_false c] at h; exact h
      refine (t_owner n o0 o1 o2 o3 o4 o5 o6 o7 m0 m1 m2 m3 m4 m5 m6 m7 t0 t1 t2 t3 t4 t5 t6 t7 κ).trans ?_
      by_cases c1 : n < 0
      · rw [decide_eq_true c1, cT]
        exact no (fun h => by rw [inL_f1 c1] at h; exact Bool.noConfusion h.1)
      rw [decide_eq_false c1, cF]
      by_cases c2 : n ≥ 8
      · rw [decide_eq_true c2, cT]
        exact no (fun h => by rw [inL_f2 c2] at h; exact Bool.noConfusion h.1)
      have hin := inL_t c1 c2
      have hl : n.toNat < 8 := by omega
      rw [decide_eq_false c2, cF, decide_eq_true (show 0 ≤ n by omega), decide_eq_true (show n < 8 by omega), Bool.and_self, cT, decide_eq_true (show n.toNat < List.length [o0, o1, o2, o3, o4, o5, o6, o7] from hl), cT]
      by_cases c5 : List.getD [o0, o1, o2, o3, o4, o5, o6, o7] n.toNat 0 = -1
      · rw [show (List.getD [o0, o1, o2, o3, o4, o5, o6, o7] n.toNat 0 != -1) = false from by rw [c5]; rfl, cF]
        exact no (fun h => h.2 c5)
      · rw [show (List.getD [o0, o1, o2, o3, o4, o5, o6, o7] n.toNat 0 != -1) = true from by simpa using c5, cT, cT]
        unfold owV owB at h
        rw [if_pos ⟨hin, c5⟩, decide_eq_true ⟨hin, c5⟩] at h; exact h
    · cases h
  · cases h
def gRaise : Fun := fun args sub κ => match args with
  | [.e (.c (.ptr ⟨0, 0, 0, 0, 0, 0, 0⟩)), .e (.c (.int .i64 n))] => match unQ sub with
    | some (os, ms, ts) => κ ⟨aint .i64 (upE n), somes (qSub os ms (upT (upIx n) 0 ts))⟩
    | none => none
  | _ => none
def gNoLine : Fun := fun args sub κ => match args with
  | [.e (.c (.ptr ⟨0, 0, 0, 0, 0, 0, 0⟩)), .e (.c (.int .i64 n))] => match unQ sub with
    | some _ => match inL n with
      | true => none
      | false => κ ⟨.e (.c .nilp), [none, none, none, none, none, none, none, none, none]⟩
    | none => none
  | _ => none
theorem gNoLine_sound : FunSound Try.prog 24 gNoLine := by
  refine (runF_sound sNil_ok mix 50 24).short fun args sub κ r h => ?_
  unfold gNoLine at h
  split at h
  · rename_i n
    split at h
    · rename_i q hq
      obtain ⟨os, ms, ts⟩ := q
      obtain ⟨rfl, l1, l2, l3⟩ := unQ_spec hq
      obtain ⟨o0, o1, o2, o3, o4, o5, o6, o7, rfl⟩ := len8 l1
      obtain ⟨m0, m1, m2, m3, m4, m5, m6, m7, rfl⟩ := len8 l2
      obtain ⟨t0, t1, t2, t3, t4, t5, t6, t7, rfl⟩ := len8 l3
      split at h
      · cases h
      · rename_i hn
        refine (t_line n o0 o1 o2 o3 o4 o5 o6 o7 m0 m1 m2 m3 m4 m5 m6 m7 t0 t1 t2 t3 t4 t5 t6 t7 κ).trans ?_
        by_cases c1 : n < 0
        · rw [decide_eq_true c1, cT]; exact h
        by_cases c2 : n ≥ 8
        · rw [decide_eq_false c1, cF, decide_eq_true c2, cT]; exact h
        rw [inL_t c1 c2] at hn; cases hn
    · cases h
  · cases h
noncomputable def sNo : Summ := sAdd sNil 24 gNoLine
theorem sNo_ok : SummOk Try.prog sNo := sAdd_ok sNil_ok gNoLine_sound (enters Try.func24 rfl (by kernel_rfl))
theorem t_upNo (n : Int) (o0 o1 o2 o3 o4 o5 o6 o7 : Int) (m0 m1 m2 m3 m4 m5 m6 m7 : Bool) (t0 t1 t2 t3 t4 t5 t6 t7 : Nat) (k : Res → Option Res) : fillF (runF Try.prog sNo 60 10) [pq, aint .i64 n] (qSub [o0, o1, o2, o3, o4, o5, o6, o7] [m0, m1, m2, m3, m4, m5, m6, m7] [t0, t1, t2, t3, t4, t5, t6, t7]) k = (cond (Go.Proofs.Ytanchmbopllimaa.Wlk.inL n) none (k (Res.mk (AV.e (AE.c (AC.int (IntKind.i64) (1)))) [(some (some (Block.mk false (Data.mix [(AC.chan (Loc.mk 1 0 0 0 0 0 0)), (AC.int (IntKind.i64) (o0)), (AC.bool (m0)), (AC.chan (Loc.mk 2 0 0 0 0 0 0)), (AC.int (IntKind.i64) (o1)), (AC.bool (m1)), (AC.chan (Loc.mk 3 0 0 0 0 0 0)), (AC.int (IntKind.i64) (o2)), (AC.bool (m2)), (AC.chan (Loc.mk 4 0 0 0 0 0 0)), (AC.int (IntKind.i64) (o3)), (AC.bool (m3)), (AC.chan (Loc.mk 5 0 0 0 0 0 0)), (AC.int (IntKind.i64) (o4)), (AC.bool (m4)), (AC.chan (Loc.mk 6 0 0 0 0 0 0)), (AC.int (IntKind.i64) (o5)), (AC.bool (m5)), (AC.chan (Loc.mk 7 0 0 0 0 0 0)), (AC.int (IntKind.i64) (o6)), (AC.bool (m6)), (AC.chan (Loc.mk 8 0 0 0 0 0 0)), (AC.int (IntKind.i64) (o7)), (AC.bool (m7))])))), (some (some (Block.mk false (Data.chan 1 (t0))))), (some (some (Block.mk false (Data.chan 1 (t1))))), (some (some (Block.mk false (Data.chan 1 (t2))))), (some (some (Block.mk false (Data.chan 1 (t3))))), (some (some (Block.mk false (Data.chan 1 (t4))))), (some (some (Block.mk false (Data.chan 1 (t5))))), (some (some (Block.mk false (Data.chan 1 (t6))))), (some (some (Block.mk false (Data.chan 1 (t7)))))]))) := by kernel_rfl
end Go.Proofs.Ytanchmbopllimaa.Wlk
