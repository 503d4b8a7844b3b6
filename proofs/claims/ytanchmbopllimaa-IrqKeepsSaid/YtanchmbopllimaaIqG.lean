/- Lines of interrupts: the reference told in short. -/
import Derived.Test.YtanchmbopllimaaIqF
set_option linter.unusedVariables false
set_option linter.unusedSimpArgs false
set_option maxRecDepth 100000
namespace Go.Proofs.Ytanchmbopllimaa.Wlk
open Go Go.Eng Go.Proofs Go.RowKit
def gROwn : Fun := fun args sub κ => match args with
  | [.e (.c (.ptr ⟨0, 0, 0, 0, 0, 0, 0⟩)), .e (.c (.int .i64 n)), .e (.c (.int .i64 d))] => match unR sub with
    | some (is, mk, hs, ow) => κ ⟨aint .i64 (rOwnE n d hs), somes (rSub is (setN (rOwnIx n d hs) false 0 mk) (setN (rOwnIx n d hs) true 0 hs) (setN (rOwnIx n d hs) d 0 ow))⟩
    | none => none
  | _ => none
theorem gROwn_sound : FunSound Try.prog 16 gROwn := by
  refine ((runF_sound sRl_ok mix 60 16).fill).short fun args sub κ r h => ?_
  unfold gROwn at h
  split at h
  · rename_i n d
    split at h
    · rename_i is mk hs ow hq
      obtain ⟨rfl, l1, l2, l3, l4⟩ := unR_spec hq
      obtain ⟨i0, i1, i2, i3, i4, i5, i6, i7, rfl⟩ := len8 l1
      obtain ⟨k0, k1, k2, k3, k4, k5, k6, k7, rfl⟩ := len8 l2
      obtain ⟨h0, h1, h2, h3, h4, h5, h6, h7, rfl⟩ := len8 l3
      obtain ⟨w0, w1, w2, w3, w4, w5, w6, w7, rfl⟩ := len8 l4
      have fin : ∀ {e : Int} {i : Nat}, rOwnE n d [h0, h1, h2, h3, h4, h5, h6, h7] = e → (if e = 0 then n.toNat else 8) = i → κ ⟨aint .i64 e, somes (rSub [i0, i1, i2, i3, i4, i5, i6, i7] (setN i false 0 [k0, k1, k2, k3, k4, k5, k6, k7]) (setN i true 0 [h0, h1, h2, h3, h4, h5, h6, h7]) (setN i d 0 [w0, w1, w2, w3, w4, w5, w6, w7]))⟩ = some r := by
        intro e i q1 q2
        have : rOwnIx n d [h0, h1, h2, h3, h4, h5, h6, h7] = i := by unfold rOwnIx; rw [q1]; exact q2
        rw [q1, this] at h; exact h
      refine (t_rown n d i0 i1 i2 i3 i4 i5 i6 i7 k0 k1 k2 k3 k4 k5 k6 k7 h0 h1 h2 h3 h4 h5 h6 h7 w0 w1 w2 w3 w4 w5 w6 w7 κ).trans ?_
      have out : inL n = false → κ ⟨aint .i64 1, somes (rSub [i0, i1, i2, i3, i4, i5, i6, i7] (setN 8 false 0 [k0, k1, k2, k3, k4, k5, k6, k7]) (setN 8 true 0 [h0, h1, h2, h3, h4, h5, h6, h7]) (setN 8 d 0 [w0, w1, w2, w3, w4, w5, w6, w7]))⟩ = some r := fun c => fin (e := 1) (i := 8) (by unfold rOwnE; rw [if_neg (fun h => by rw [c] at h; exact Bool.noConfusion h.1)]) rfl
      by_cases c0 : n ≥ 0
      case neg =>
        rw [decide_eq_false c0, cF]
        exact out (inL_f1 (show n < 0 by omega))
      rw [decide_eq_true c0, cT]
      by_cases c2 : n < 8
      case neg =>
        rw [decide_eq_false c2, show (!false) = true from rfl, cT]
        exact out (inL_f2 (show n ≥ 8 by omega))
      rw [decide_eq_true c2, show (!true) = false from rfl, cF]
      have hin : inL n = true := inL_t (by omega) (by omega)
      have hl : n.toNat < 8 := by omega
      by_cases c3 : d < 0
      · rw [decide_eq_true c3, cT]
        exact fin (e := 1) (i := 8) (by unfold rOwnE; rw [if_neg (fun h => by omega)]) rfl
      rw [decide_eq_false c3, cF]
      by_cases c4 : d > 3
      · rw [decide_eq_true c4, cT]
        exact fin (e := 1) (i := 8) (by unfold rOwnE; rw [if_neg (fun h => by omega)]) rfl
      rw [decide_eq_false c4, cF, Bool.and_self, cT, decide_eq_true (show n.toNat < List.length [h0, h1, h2, h3, h4, h5, h6, h7] from hl), cT]
      by_cases c5 : List.getD [h0, h1, h2, h3, h4, h5, h6, h7] n.toNat false = true
      · rw [c5, cT]
        exact fin (e := 4) (i := 8) (by unfold rOwnE; rw [if_pos ⟨hin, by omega, by omega⟩, if_pos c5]) rfl
      · have c6 : List.getD [h0, h1, h2, h3, h4, h5, h6, h7] n.toNat false = false := by simpa using c5
        rw [c6, cF, cT, Bool.and_self, cT, cT, decide_eq_true (show n.toNat < List.length [w0, w1, w2, w3, w4, w5, w6, w7] from hl), Bool.and_self, cT, cT, decide_eq_true (show n.toNat < List.length [k0, k1, k2, k3, k4, k5, k6, k7] from hl), Bool.and_self, cT]
        exact fin (e := 0) (i := n.toNat) (by unfold rOwnE; rw [if_pos ⟨hin, by omega, by omega⟩, if_neg c5]) rfl
    · cases h
  · cases h
def gRRaise : Fun := fun args sub κ => match args with
  | [.e (.c (.ptr ⟨0, 0, 0, 0, 0, 0, 0⟩)), .e (.c (.int .i64 n))] => match unR sub with
    | some (is, mk, hs, ow) => κ ⟨aint .i64 (upE n), somes (rSub (setN (upIx n) true 0 is) mk hs ow)⟩
    | none => none
  | _ => none
theorem gRRaise_sound : FunSound Try.prog 17 gRRaise := by
  refine ((runF_sound sRl_ok mix 60 17).fill).short fun args sub κ r h => ?_
  unfold gRRaise at h
  split at h
  · rename_i n
    split at h
    · rename_i is mk hs ow hq
      obtain ⟨rfl, l1, l2, l3, l4⟩ := unR_spec hq
      obtain ⟨i0, i1, i2, i3, i4, i5, i6, i7, rfl⟩ := len8 l1
      obtain ⟨k0, k1, k2, k3, k4, k5, k6, k7, rfl⟩ := len8 l2
      obtain ⟨h0, h1, h2, h3, h4, h5, h6, h7, rfl⟩ := len8 l3
      obtain ⟨w0, w1, w2, w3, w4, w5, w6, w7, rfl⟩ := len8 l4
      refine (t_rraise n i0 i1 i2 i3 i4 i5 i6 i7 k0 k1 k2 k3 k4 k5 k6 k7 h0 h1 h2 h3 h4 h5 h6 h7 w0 w1 w2 w3 w4 w5 w6 w7 κ).trans ?_
      have out : inL n = false → κ ⟨aint .i64 1, somes (rSub (setN 8 true 0 [i0, i1, i2, i3, i4, i5, i6, i7]) [k0, k1, k2, k3, k4, k5, k6, k7] [h0, h1, h2, h3, h4, h5, h6, h7] [w0, w1, w2, w3, w4, w5, w6, w7])⟩ = some r := by
        intro c
        have e2 : upIx n = 8 := by unfold upIx; rw [c]; rfl
        have e1 : upE n = 1 := by unfold upE; rw [c]; rfl
        rw [e1, e2] at h; exact h
      by_cases c0 : n ≥ 0
      case neg =>
        rw [decide_eq_false c0, cF]
        exact out (inL_f1 (show n < 0 by omega))
      rw [decide_eq_true c0, cT]
      by_cases c2 : n < 8
      case neg =>
        rw [decide_eq_false c2, show (!false) = true from rfl, cT]
        exact out (inL_f2 (show n ≥ 8 by omega))
      rw [decide_eq_true c2, show (!true) = false from rfl, cF]
      have hin : inL n = true := inL_t (by omega) (by omega)
      have hl : n.toNat < 8 := by omega
      rw [Bool.and_self, cT, decide_eq_true (show n.toNat < List.length [i0, i1, i2, i3, i4, i5, i6, i7] from hl), Bool.and_self, cT]
      have e2 : upIx n = n.toNat := by unfold upIx; rw [hin]; rfl
      have e1 : upE n = 0 := by unfold upE; rw [hin]; rfl
      rw [e1, e2] at h; exact h
    · cases h
  · cases h
def gRAck : Fun := fun args sub κ => match args with
  | [.e (.c (.ptr ⟨0, 0, 0, 0, 0, 0, 0⟩)), .e (.c (.int .i64 n))] => match unR sub with
    | some (is, mk, hs, ow) => κ ⟨aint .i64 (rAckE n hs mk), somes (rSub is (setN (rAckIx n hs mk) false 0 mk) hs ow)⟩
    | none => none
  | _ => none
theorem gRAck_sound : FunSound Try.prog 19 gRAck := by
  refine ((runF_sound sRl_ok mix 60 19).fill).short fun args sub κ r h => ?_
  unfold gRAck at h
  split at h
  · rename_i n
    split at h
    · rename_i is mk hs ow hq
      obtain ⟨rfl, l1, l2, l3, l4⟩ := unR_spec hq
      obtain ⟨i0, i1, i2, i3, i4, i5, i6, i7, rfl⟩ := len8 l1
      obtain ⟨k0, k1, k2, k3, k4, k5, k6, k7, rfl⟩ := len8 l2
      obtain ⟨h0, h1, h2, h3, h4, h5, h6, h7, rfl⟩ := len8 l3
      obtain ⟨w0, w1, w2, w3, w4, w5, w6, w7, rfl⟩ := len8 l4
      have fin : ∀ {e : Int} {i : Nat}, rAckE n [h0, h1, h2, h3, h4, h5, h6, h7] [k0, k1, k2, k3, k4, k5, k6, k7] = e → (if e = 0 then n.toNat else 8) = i → κ ⟨aint .i64 e, somes (rSub [i0, i1, i2, i3, i4, i5, i6, i7] (setN i false 0 [k0, k1, k2, k3, k4, k5, k6, k7]) [h0, h1, h2, h3, h4, h5, h6, h7] [w0, w1, w2, w3, w4, w5, w6, w7])⟩ = some r := by
        intro e i q1 q2
        have : rAckIx n [h0, h1, h2, h3, h4, h5, h6, h7] [k0, k1, k2, k3, k4, k5, k6, k7] = i := by unfold rAckIx; rw [q1]; exact q2
        rw [q1, this] at h; exact h
      refine (t_rack n i0 i1 i2 i3 i4 i5 i6 i7 k0 k1 k2 k3 k4 k5 k6 k7 h0 h1 h2 h3 h4 h5 h6 h7 w0 w1 w2 w3 w4 w5 w6 w7 κ).trans ?_
      have out : inL n = false → κ ⟨aint .i64 1, somes (rSub [i0, i1, i2, i3, i4, i5, i6, i7] (setN 8 false 0 [k0, k1, k2, k3, k4, k5, k6, k7]) [h0, h1, h2, h3, h4, h5, h6, h7] [w0, w1, w2, w3, w4, w5, w6, w7])⟩ = some r := fun c => fin (e := 1) (i := 8) (by unfold rAckE; rw [if_neg (by rw [c]; exact Bool.noConfusion)]) rfl
      by_cases c0 : n ≥ 0
      case neg =>
        rw [decide_eq_false c0, cF]
        exact out (inL_f1 (show n < 0 by omega))
      rw [decide_eq_true c0, cT]
      by_cases c2 : n < 8
      case neg =>
        rw [decide_eq_false c2, show (!false) = true from rfl, cT]
        exact out (inL_f2 (show n ≥ 8 by omega))
      rw [decide_eq_true c2, show (!true) = false from rfl, cF]
      have hin : inL n = true := inL_t (by omega) (by omega)
      have hl : n.toNat < 8 := by omega
      rw [Bool.and_self, cT, decide_eq_true (show n.toNat < List.length [h0, h1, h2, h3, h4, h5, h6, h7] from hl), cT]
      by_cases c5 : List.getD [h0, h1, h2, h3, h4, h5, h6, h7] n.toNat false = false
      · rw [c5, show (!false) = true from rfl, cT]
        exact fin (e := 8) (i := 8) (by unfold rAckE; rw [if_pos hin, if_pos (.inl c5)]) rfl
      have c6 : List.getD [h0, h1, h2, h3, h4, h5, h6, h7] n.toNat false = true := by simpa using c5
      rw [c6, show (!true) = false from rfl, cF, cT, decide_eq_true (show n.toNat < List.length [k0, k1, k2, k3, k4, k5, k6, k7] from hl), cT]
      by_cases c7 : List.getD [k0, k1, k2, k3, k4, k5, k6, k7] n.toNat false = false
      · rw [c7, show (!false) = true from rfl, cT]
        exact fin (e := 8) (i := 8) (by unfold rAckE; rw [if_pos hin, if_pos (.inr c7)]) rfl
      have c8 : List.getD [k0, k1, k2, k3, k4, k5, k6, k7] n.toNat false = true := by simpa using c7
      rw [c8, show (!true) = false from rfl, cF, cT, Bool.and_self, cT]
      exact fin (e := 0) (i := n.toNat) (by unfold rAckE; rw [if_pos hin, if_neg (by rintro (h | h); exact c5 h; exact c7 h)]) rfl
    · cases h
  · cases h
def gROwner : Fun := fun args sub κ => match args with
  | [.e (.c (.ptr ⟨0, 0, 0, 0, 0, 0, 0⟩)), .e (.c (.int .i64 n))] => match unR sub with
    | some (is, mk, hs, ow) => κ ⟨.tup [.c (.int .i64 (rowV n hs ow)), .c (.bool (rowB n hs))], somes (rSub is mk hs ow)⟩
    | none => none
  | _ => none
theorem gROwner_sound : FunSound Try.prog 21 gROwner := by
  refine ((runF_sound sRl_ok mix 60 21).fill).short fun args sub κ r h => ?_
  unfold gROwner at h
  split at h
  · rename_i n
    split at h
    · rename_i is mk hs ow hq
      obtain ⟨rfl, l1, l2, l3, l4⟩ := unR_spec hq
      obtain ⟨i0, i1, i2, i3, i4, i5, i6, i7, rfl⟩ := len8 l1
      obtain ⟨k0, k1, k2, k3, k4, k5, k6, k7, rfl⟩ := len8 l2
      obtain ⟨h0, h1, h2, h3, h4, h5, h6, h7, rfl⟩ := len8 l3
      obtain ⟨w0, w1, w2, w3, w4, w5, w6, w7, rfl⟩ := len8 l4
      refine (t_rowner n i0 i1 i2 i3 i4 i5 i6 i7 k0 k1 k2 k3 k4 k5 k6 k7 h0 h1 h2 h3 h4 h5 h6 h7 w0 w1 w2 w3 w4 w5 w6 w7 κ).trans ?_
      have no : ¬ (inL n = true ∧ List.getD [h0, h1, h2, h3, h4, h5, h6, h7] n.toNat false = true) → κ ⟨.tup [.c (.int .i64 0), .c (.bool false)], somes (rSub [i0, i1, i2, i3, i4, i5, i6, i7] [k0, k1, k2, k3, k4, k5, k6, k7] [h0, h1, h2, h3, h4, h5, h6, h7] [w0, w1, w2, w3, w4, w5, w6, w7])⟩ = some r := by
        intro c
        unfold rowV rowB at h
        rw [if_neg c, decide_eq_false c] at h; exact h
      have out : inL n = false → κ ⟨.tup [.c (.int .i64 0), .c (.bool false)], somes (rSub [i0, i1, i2, i3, i4, i5, i6, i7] [k0, k1, k2, k3, k4, k5, k6, k7] [h0, h1, h2, h3, h4, h5, h6, h7] [w0, w1, w2, w3, w4, w5, w6, w7])⟩ = some r := fun c => no (fun h => by rw [c] at h; exact Bool.noConfusion h.1)
      by_cases c0 : n ≥ 0
      case neg =>
        rw [decide_eq_false c0, cF]
        exact out (inL_f1 (show n < 0 by omega))
      rw [decide_eq_true c0, cT]
      by_cases c2 : n < 8
      case neg =>
        rw [decide_eq_false c2, show (!false) = true from rfl, cT]
        exact out (inL_f2 (show n ≥ 8 by omega))
      rw [decide_eq_true c2, show (!true) = false from rfl, cF]
      have hin : inL n = true := inL_t (by omega) (by omega)
      have hl : n.toNat < 8 := by omega
      rw [Bool.and_self, cT, decide_eq_true (show n.toNat < List.length [h0, h1, h2, h3, h4, h5, h6, h7] from hl), cT]
      by_cases c5 : List.getD [h0, h1, h2, h3, h4, h5, h6, h7] n.toNat false = true
      · rw [c5, show (!true) = false from rfl, cF, cT, decide_eq_true (show n.toNat < List.length [w0, w1, w2, w3, w4, w5, w6, w7] from hl), cT]
        unfold rowV rowB at h
        rw [if_pos ⟨hin, c5⟩, decide_eq_true ⟨hin, c5⟩] at h; exact h
      · have c6 : List.getD [h0, h1, h2, h3, h4, h5, h6, h7] n.toNat false = false := by simpa using c5
        rw [c6, show (!false) = true from rfl, cT]
        exact no (fun h => c5 h.2)
    · cases h
  · cases h
def gRNew : Fun := fun args sub κ => match args, sub with
  | [], [] => κ ⟨pq, somes (rSub [false, false, false, false, false, false, false, false] [true, true, true, true, true, true, true, true] [false, false, false, false, false, false, false, false] [0, 0, 0, 0, 0, 0, 0, 0])⟩
  | _, _ => none
theorem gRNew_sound : FunSound Try.prog 15 gRNew := by
  refine (runF_sound sNil_ok mix 60 15).short fun args sub κ r h => ?_
  unfold gRNew at h
  split at h
  · exact (t_rnew κ).trans h
  · cases h
def gRWord : Fun := fun args sub κ => match args, sub with
  | [.e (.agg cs)], [] => match unB 8 cs with
    | some (l, []) => κ ⟨aint .u64 (wd 0 0 l), []⟩
    | _ => none
  | _, _ => none
theorem gRWord_sound : FunSound Try.prog 29 gRWord := by
  refine (runF_sound sNil_ok mix 60 29).gc.short fun args sub κ r h => ?_
  unfold gRWord at h
  split at h
  · split at h
    · rename_i l hu
      obtain ⟨rfl, l1⟩ := unB_spec hu
      obtain ⟨i0, i1, i2, i3, i4, i5, i6, i7, rfl⟩ := len8 l1
      refine (t_rword i0 i1 i2 i3 i4 i5 i6 i7 κ).trans ?_
      cases i0 <;> cases i1 <;> cases i2 <;> cases i3 <;> cases i4 <;> cases i5 <;> cases i6 <;> cases i7 <;> exact h
    · cases h
  · cases h
def rnR (is mk hs : List Bool) (ow : List Int) (K : HeadK) (ix : Nat) : Option Res := match Nat.ble (ix + 1) 8 with
  | true => K .ret [aint .i64 (ix : Int), .e (.c (.bool true))] [(true, some ⟨false, .mix (bC (setN ix false 0 is) (bC (setN ix true 0 mk) (bC hs (iC ow))))⟩)]
  | false => K (.exit 0) [] (olds (rSub is mk hs ow))
theorem rn_go8 (d : Int) (i0 i1 i2 i3 i4 i5 i6 i7 k0 k1 k2 k3 k4 k5 k6 k7 h0 h1 h2 h3 h4 h5 h6 h7 : Bool) (w0 w1 w2 w3 w4 w5 w6 w7 : Int) (K : HeadK) : iterR Try.prog sNil lNil iRn 60 (loopOf Try.prog 18 0) 1 [pq, aint .i64 d, aint .i64 8] (olds (rSub [i0, i1, i2, i3, i4, i5, i6, i7] [k0, k1, k2, k3, k4, k5, k6, k7] [h0, h1, h2, h3, h4, h5, h6, h7] [w0, w1, w2, w3, w4, w5, w6, w7])) K = rnR [i0, i1, i2, i3, i4, i5, i6, i7] [k0, k1, k2, k3, k4, k5, k6, k7] [h0, h1, h2, h3, h4, h5, h6, h7] [w0, w1, w2, w3, w4, w5, w6, w7] K (rnI d 8 [] [] [] []) := by
  rw [iterR]
  refine (t_rn8 d i0 i1 i2 i3 i4 i5 i6 i7 k0 k1 k2 k3 k4 k5 k6 k7 h0 h1 h2 h3 h4 h5 h6 h7 w0 w1 w2 w3 w4 w5 w6 w7 _).trans ?_
  rfl
theorem rn_go7 (d : Int) (i0 i1 i2 i3 i4 i5 i6 i7 k0 k1 k2 k3 k4 k5 k6 k7 h0 h1 h2 h3 h4 h5 h6 h7 : Bool) (w0 w1 w2 w3 w4 w5 w6 w7 : Int) (K : HeadK) : iterR Try.prog sNil lNil iRn 60 (loopOf Try.prog 18 0) 2 [pq, aint .i64 d, aint .i64 7] (olds (rSub [i0, i1, i2, i3, i4, i5, i6, i7] [k0, k1, k2, k3, k4, k5, k6, k7] [h0, h1, h2, h3, h4, h5, h6, h7] [w0, w1, w2, w3, w4, w5, w6, w7])) K = rnR [i0, i1, i2, i3, i4, i5, i6, i7] [k0, k1, k2, k3, k4, k5, k6, k7] [h0, h1, h2, h3, h4, h5, h6, h7] [w0, w1, w2, w3, w4, w5, w6, w7] K (rnI d 7 [h7] [w7] [i7] [k7]) := by
  rw [iterR]
  refine (t_rn7 d i0 i1 i2 i3 i4 i5 i6 i7 k0 k1 k2 k3 k4 k5 k6 k7 h0 h1 h2 h3 h4 h5 h6 h7 w0 w1 w2 w3 w4 w5 w6 w7 _).trans ?_
  have no : ¬ (h7 = true ∧ w7 = d ∧ i7 = true ∧ k7 = false) → iterR Try.prog sNil lNil iRn 60 (loopOf Try.prog 18 0) 1 [pq, aint .i64 d, aint .i64 (8 : Int)] (olds (rSub [i0, i1, i2, i3, i4, i5, i6, i7] [k0, k1, k2, k3, k4, k5, k6, k7] [h0, h1, h2, h3, h4, h5, h6, h7] [w0, w1, w2, w3, w4, w5, w6, w7])) K = rnR [i0, i1, i2, i3, i4, i5, i6, i7] [k0, k1, k2, k3, k4, k5, k6, k7] [h0, h1, h2, h3, h4, h5, h6, h7] [w0, w1, w2, w3, w4, w5, w6, w7] K (rnI d 7 [h7] [w7] [i7] [k7]) := by
    intro c
    rw [rnI, if_neg c]
    exact rn_go8 d i0 i1 i2 i3 i4 i5 i6 i7 k0 k1 k2 k3 k4 k5 k6 k7 h0 h1 h2 h3 h4 h5 h6 h7 w0 w1 w2 w3 w4 w5 w6 w7 K
  cases h7 with
  | false => exact (cF _ _).trans (no (fun h => Bool.noConfusion h.1))
  | true =>
    refine (cT _ _).trans ?_
    by_cases c2 : w7 = d
    case neg => rw [show (w7 == d) = false from by simpa using c2, cF]; exact no (fun h => c2 h.2.1)
    rw [show (w7 == d) = true from by simpa using c2, cT]
    cases i7 with
    | false => exact (cF _ _).trans (no (fun h => Bool.noConfusion h.2.2.1))
    | true =>
      refine (cT _ _).trans ?_
      cases k7 with
      | true => exact (cF _ _).trans (no (fun h => Bool.noConfusion h.2.2.2))
      | false =>
        refine (cT _ _).trans ?_
        rw [rnI, if_pos ⟨rfl, c2, rfl, rfl⟩]
        rfl
theorem rn_go6 (d : Int) (i0 i1 i2 i3 i4 i5 i6 i7 k0 k1 k2 k3 k4 k5 k6 k7 h0 h1 h2 h3 h4 h5 h6 h7 : Bool) (w0 w1 w2 w3 w4 w5 w6 w7 : Int) (K : HeadK) : iterR Try.prog sNil lNil iRn 60 (loopOf Try.prog 18 0) 3 [pq, aint .i64 d, aint .i64 6] (olds (rSub [i0, i1, i2, i3, i4, i5, i6, i7] [k0, k1, k2, k3, k4, k5, k6, k7] [h0, h1, h2, h3, h4, h5, h6, h7] [w0, w1, w2, w3, w4, w5, w6, w7])) K = rnR [i0, i1, i2, i3, i4, i5, i6, i7] [k0, k1, k2, k3, k4, k5, k6, k7] [h0, h1, h2, h3, h4, h5, h6, h7] [w0, w1, w2, w3, w4, w5, w6, w7] K (rnI d 6 [h6, h7] [w6, w7] [i6, i7] [k6, k7]) := by
  rw [iterR]
  refine (t_rn6 d i0 i1 i2 i3 i4 i5 i6 i7 k0 k1 k2 k3 k4 k5 k6 k7 h0 h1 h2 h3 h4 h5 h6 h7 w0 w1 w2 w3 w4 w5 w6 w7 _).trans ?_
  have no : ¬ (h6 = true ∧ w6 = d ∧ i6 = true ∧ k6 = false) → iterR Try.prog sNil lNil iRn 60 (loopOf Try.prog 18 0) 2 [pq, aint .i64 d, aint .i64 (7 : Int)] (olds (rSub [i0, i1, i2, i3, i4, i5, i6, i7] [k0, k1, k2, k3, k4, k5, k6, k7] [h0, h1, h2, h3, h4, h5, h6, h7] [w0, w1, w2, w3, w4, w5, w6, w7])) K = rnR [i0, i1, i2, i3, i4, i5, i6, i7] [k0, k1, k2, k3, k4, k5, k6, k7] [h0, h1, h2, h3, h4, h5, h6, h7] [w0, w1, w2, w3, w4, w5, w6, w7] K (rnI d 6 [h6, h7] [w6, w7] [i6, i7] [k6, k7]) := by
    intro c
    rw [rnI, if_neg c]
    exact rn_go7 d i0 i1 i2 i3 i4 i5 i6 i7 k0 k1 k2 k3 k4 k5 k6 k7 h0 h1 h2 h3 h4 h5 h6 h7 w0 w1 w2 w3 w4 w5 w6 w7 K
  cases h6 with
  | false => exact (cF _ _).trans (no (fun h => Bool.noConfusion h.1))
  | true =>
    refine (cT _ _).trans ?_
    by_cases c2 : w6 = d
    case neg => rw [show (w6 == d) = false from by simpa using c2, cF]; exact no (fun h => c2 h.2.1)
    rw [show (w6 == d) = true from by simpa using c2, cT]
    cases i6 with
    | false => exact (cF _ _).trans (no (fun h => Bool.noConfusion h.2.2.1))
    | true =>
      refine (cT _ _).trans ?_
      cases k6 with
      | true => exact (cF _ _).trans (no (fun h => Bool.noConfusion h.2.2.2))
      | false =>
        refine (cT _ _).trans ?_
        rw [rnI, if_pos ⟨rfl, c2, rfl, rfl⟩]
        rfl
theorem rn_go5 (d : Int) (i0 i1 i2 i3 i4 i5 i6 i7 k0 k1 k2 k3 k4 k5 k6 k7 h0 h1 h2 h3 h4 h5 h6 h7 : Bool) (w0 w1 w2 w3 w4 w5 w6 w7 : Int) (K : HeadK) : iterR Try.prog sNil lNil iRn 60 (loopOf Try.prog 18 0) 4 [pq, aint .i64 d, aint .i64 5] (olds (rSub [i0, i1, i2, i3, i4, i5, i6, i7] [k0, k1, k2, k3, k4, k5, k6, k7] [h0, h1, h2, h3, h4, h5, h6, h7] [w0, w1, w2, w3, w4, w5, w6, w7])) K = rnR [i0, i1, i2, i3, i4, i5, i6, i7] [k0, k1, k2, k3, k4, k5, k6, k7] [h0, h1, h2, h3, h4, h5, h6, h7] [w0, w1, w2, w3, w4, w5, w6, w7] K (rnI d 5 [h5, h6, h7] [w5, w6, w7] [i5, i6, i7] [k5, k6, k7]) := by
  rw [iterR]
  refine (t_rn5 d i0 i1 i2 i3 i4 i5 i6 i7 k0 k1 k2 k3 k4 k5 k6 k7 h0 h1 h2 h3 h4 h5 h6 h7 w0 w1 w2 w3 w4 w5 w6 w7 _).trans ?_
  have no : ¬ (h5 = true ∧ w5 = d ∧ i5 = true ∧ k5 = false) → iterR Try.prog sNil lNil iRn 60 (loopOf Try.prog 18 0) 3 [pq, aint .i64 d, aint .i64 (6 : Int)] (olds (rSub [i0, i1, i2, i3, i4, i5, i6, i7] [k0, k1, k2, k3, k4, k5, k6, k7] [h0, h1, h2, h3, h4, h5, h6, h7] [w0, w1, w2, w3, w4, w5, w6, w7])) K = rnR [i0, i1, i2, i3, i4, i5, i6, i7] [k0, k1, k2, k3, k4, k5, k6, k7] [h0, h1, h2, h3, h4, h5, h6, h7] [w0, w1, w2, w3, w4, w5, w6, w7] K (rnI d 5 [h5, h6, h7] [w5, w6, w7] [i5, i6, i7] [k5, k6, k7]) := by
    intro c
    rw [rnI, if_neg c]
    exact rn_go6 d i0 i1 i2 i3 i4 i5 i6 i7 k0 k1 k2 k3 k4 k5 k6 k7 h0 h1 h2 h3 h4 h5 h6 h7 w0 w1 w2 w3 w4 w5 w6 w7 K
  cases h5 with
  | false => exact (cF _ _).trans (no (fun h => Bool.noConfusion h.1))
  | true =>
    refine (cT _ _).trans ?_
    by_cases c2 : w5 = d
    case neg => rw [show (w5 == d) = false from by simpa using c2, cF]; exact no (fun h => c2 h.2.1)
    rw [show (w5 == d) = true from by simpa using c2, cT]
    cases i5 with
    | false => exact (cF _ _).trans (no (fun h => Bool.noConfusion h.2.2.1))
    | true =>
      refine (cT _ _).trans ?_
      cases k5 with
      | true => exact (cF _ _).trans (no (fun h => Bool.noConfusion h.2.2.2))
      | false =>
        refine (cT _ _).trans ?_
        rw [rnI, if_pos ⟨rfl, c2, rfl, rfl⟩]
        rfl
theorem rn_go4 (d : Int) (i0 i1 i2 i3 i4 i5 i6 i7 k0 k1 k2 k3 k4 k5 k6 k7 h0 h1 h2 h3 h4 h5 h6 h7 : Bool) (w0 w1 w2 w3 w4 w5 w6 w7 : Int) (K : HeadK) : iterR Try.prog sNil lNil iRn 60 (loopOf Try.prog 18 0) 5 [pq, aint .i64 d, aint .i64 4] (olds (rSub [i0, i1, i2, i3, i4, i5, i6, i7] [k0, k1, k2, k3, k4, k5, k6, k7] [h0, h1, h2, h3, h4, h5, h6, h7] [w0, w1, w2, w3, w4, w5, w6, w7])) K = rnR [i0, i1, i2, i3, i4, i5, i6, i7] [k0, k1, k2, k3, k4, k5, k6, k7] [h0, h1, h2, h3, h4, h5, h6, h7] [w0, w1, w2, w3, w4, w5, w6, w7] K (rnI d 4 [h4, h5, h6, h7] [w4, w5, w6, w7] [i4, i5, i6, i7] [k4, k5, k6, k7]) := by
  rw [iterR]
  refine (t_rn4 d i0 i1 i2 i3 i4 i5 i6 i7 k0 k1 k2 k3 k4 k5 k6 k7 h0 h1 h2 h3 h4 h5 h6 h7 w0 w1 w2 w3 w4 w5 w6 w7 _).trans ?_
  have no : ¬ (h4 = true ∧ w4 = d ∧ i4 = true ∧ k4 = false) → iterR Try.prog sNil lNil iRn 60 (loopOf Try.prog 18 0) 4 [pq, aint .i64 d, aint .i64 (5 : Int)] (olds (rSub [i0, i1, i2, i3, i4, i5, i6, i7] [k0, k1, k2, k3, k4, k5, k6, k7] [h0, h1, h2, h3, h4, h5, h6, h7] [w0, w1, w2, w3, w4, w5, w6, w7])) K = rnR [i0, i1, i2, i3, i4, i5, i6, i7] [k0, k1, k2, k3, k4, k5, k6, k7] [h0, h1, h2, h3, h4, h5, h6, h7] [w0, w1, w2, w3, w4, w5, w6, w7] K (rnI d 4 [h4, h5, h6, h7] [w4, w5, w6, w7] [i4, i5, i6, i7] [k4, k5, k6, k7]) := by
    intro c
    rw [rnI, if_neg c]
    exact rn_go5 d i0 i1 i2 i3 i4 i5 i6 i7 k0 k1 k2 k3 k4 k5 k6 k7 h0 h1 h2 h3 h4 h5 h6 h7 w0 w1 w2 w3 w4 w5 w6 w7 K
  cases h4 with
  | false => exact (cF _ _).trans (no (fun h => Bool.noConfusion h.1))
  | true =>
    refine (cT _ _).trans ?_
    by_cases c2 : w4 = d
    case neg => rw [show (w4 == d) = false from by simpa using c2, cF]; exact no (fun h => c2 h.2.1)
    rw [show (w4 == d) = true from by simpa using c2, cT]
    cases i4 with
    | false => exact (cF _ _).trans (no (fun h => Bool.noConfusion h.2.2.1))
    | true =>
      refine (cT _ _).trans ?_
      cases k4 with
      | true => exact (cF _ _).trans (no (fun h => Bool.noConfusion h.2.2.2))
      | false =>
        refine (cT _ _).trans ?_
        rw [rnI, if_pos ⟨rfl, c2, rfl, rfl⟩]
        rfl
theorem rn_go3 (d : Int) (i0 i1 i2 i3 i4 i5 i6 i7 k0 k1 k2 k3 k4 k5 k6 k7 h0 h1 h2 h3 h4 h5 h6 h7 : Bool) (w0 w1 w2 w3 w4 w5 w6 w7 : Int) (K : HeadK) : iterR Try.prog sNil lNil iRn 60 (loopOf Try.prog 18 0) 6 [pq, aint .i64 d, aint .i64 3] (olds (rSub [i0, i1, i2, i3, i4, i5, i6, i7] [k0, k1, k2, k3, k4, k5, k6, k7] [h0, h1, h2, h3, h4, h5, h6, h7] [w0, w1, w2, w3, w4, w5, w6, w7])) K = rnR [i0, i1, i2, i3, i4, i5, i6, i7] [k0, k1, k2, k3, k4, k5, k6, k7] [h0, h1, h2, h3, h4, h5, h6, h7] [w0, w1, w2, w3, w4, w5, w6, w7] K (rnI d 3 [h3, h4, h5, h6, h7] [w3, w4, w5, w6, w7] [i3, i4, i5, i6, i7] [k3, k4, k5, k6, k7]) := by
  rw [iterR]
  refine (t_rn3 d i0 i1 i2 i3 i4 i5 i6 i7 k0 k1 k2 k3 k4 k5 k6 k7 h0 h1 h2 h3 h4 h5 h6 h7 w0 w1 w2 w3 w4 w5 w6 w7 _).trans ?_
  have no : ¬ (h3 = true ∧ w3 = d ∧ i3 = true ∧ k3 = false) → iterR Try.prog sNil lNil iRn 60 (loopOf Try.prog 18 0) 5 [pq, aint .i64 d, aint .i64 (4 : Int)] (olds (rSub [i0, i1, i2, i3, i4, i5, i6, i7] [k0, k1, k2, k3, k4, k5, k6, k7] [h0, h1, h2, h3, h4, h5, h6, h7] [w0, w1, w2, w3, w4, w5, w6, w7])) K = rnR [i0, i1, i2, i3, i4, i5, i6, i7] [k0, k1, k2, k3, k4, k5, k6, k7] [h0, h1, h2, h3, h4, h5, h6, h7] [w0, w1, w2, w3, w4, w5, w6, w7] K (rnI d 3 [h3, h4, h5, h6, h7] [w3, w4, w5, w6, w7] [i3, i4, i5, i6, i7] [k3, k4, k5, k6, k7]) := by
    intro c
    rw [rnI, if_neg c]
    exact rn_go4 d i0 i1 i2 i3 i4 i5 i6 i7 k0 k1 k2 k3 k4 k5 k6 k7 h0 h1 h2 h3 h4 h5 h6 h7 w0 w1 w2 w3 w4 w5 w6 w7 K
  cases h3 with
  | false => exact (cF _ _).trans (no (fun h => Bool.noConfusion h.1))
  | true =>
    refine (cT _ _).trans ?_
    by_cases c2 : w3 = d
    case neg => rw [show (w3 == d) = false from by simpa using c2, cF]; exact no (fun h => c2 h.2.1)
    rw [show (w3 == d) = true from by simpa using c2, cT]
    cases i3 with
    | false => exact (cF _ _).trans (no (fun h => Bool.noConfusion h.2.2.1))
    | true =>
      refine (cT _ _).trans ?_
      cases k3 with
      | true => exact (cF _ _).trans (no (fun h => Bool.noConfusion h.2.2.2))
      | false =>
        refine (cT _ _).trans ?_
        rw [rnI, if_pos ⟨rfl, c2, rfl, rfl⟩]
        rfl
theorem rn_go2 (d : Int) (i0 i1 i2 i3 i4 i5 i6 i7 k0 k1 k2 k3 k4 k5 k6 k7 h0 h1 h2 h3 h4 h5 h6 h7 : Bool) (w0 w1 w2 w3 w4 w5 w6 w7 : Int) (K : HeadK) : iterR Try.prog sNil lNil iRn 60 (loopOf Try.prog 18 0) 7 [pq, aint .i64 d, aint .i64 2] (olds (rSub [i0, i1, i2, i3, i4, i5, i6, i7] [k0, k1, k2, k3, k4, k5, k6, k7] [h0, h1, h2, h3, h4, h5, h6, h7] [w0, w1, w2, w3, w4, w5, w6, w7])) K = rnR [i0, i1, i2, i3, i4, i5, i6, i7] [k0, k1, k2, k3, k4, k5, k6, k7] [h0, h1, h2, h3, h4, h5, h6, h7] [w0, w1, w2, w3, w4, w5, w6, w7] K (rnI d 2 [h2, h3, h4, h5, h6, h7] [w2, w3, w4, w5, w6, w7] [i2, i3, i4, i5, i6, i7] [k2, k3, k4, k5, k6, k7]) := by
  rw [iterR]
  refine (t_rn2 d i0 i1 i2 i3 i4 i5 i6 i7 k0 k1 k2 k3 k4 k5 k6 k7 h0 h1 h2 h3 h4 h5 h6 h7 w0 w1 w2 w3 w4 w5 w6 w7 _).trans ?_
  have no : ¬ (h2 = true ∧ w2 = d ∧ i2 = true ∧ k2 = false) → iterR Try.prog sNil lNil iRn 60 (loopOf Try.prog 18 0) 6 [pq, aint .i64 d, aint .i64 (3 : Int)] (olds (rSub [i0, i1, i2, i3, i4, i5, i6, i7] [k0, k1, k2, k3, k4, k5, k6, k7] [h0, h1, h2, h3, h4, h5, h6, h7] [w0, w1, w2, w3, w4, w5, w6, w7])) K = rnR [i0, i1, i2, i3, i4, i5, i6, i7] [k0, k1, k2, k3, k4, k5, k6, k7] [h0, h1, h2, h3, h4, h5, h6, h7] [w0, w1, w2, w3, w4, w5, w6, w7] K (rnI d 2 [h2, h3, h4, h5, h6, h7] [w2, w3, w4, w5, w6, w7] [i2, i3, i4, i5, i6, i7] [k2, k3, k4, k5, k6, k7]) := by
    intro c
    rw [rnI, if_neg c]
    exact rn_go3 d i0 i1 i2 i3 i4 i5 i6 i7 k0 k1 k2 k3 k4 k5 k6 k7 h0 h1 h2 h3 h4 h5 h6 h7 w0 w1 w2 w3 w4 w5 w6 w7 K
  cases h2 with
  | false => exact (cF _ _).trans (no (fun h => Bool.noConfusion h.1))
  | true =>
    refine (cT _ _).trans ?_
    by_cases c2 : w2 = d
    case neg => rw [show (w2 == d) = false from by simpa using c2, cF]; exact no (fun h => c2 h.2.1)
    rw [show (w2 == d) = true from by simpa using c2, cT]
    cases i2 with
    | false => exact (cF _ _).trans (no (fun h => Bool.noConfusion h.2.2.1))
    | true =>
      refine (cT _ _).trans ?_
      cases k2 with
      | true => exact (cF _ _).trans (no (fun h => Bool.noConfusion h.2.2.2))
      | false =>
        refine (cT _ _).trans ?_
        rw [rnI, if_pos ⟨rfl, c2, rfl, rfl⟩]
        rfl
theorem rn_go1 (d : Int) (i0 i1 i2 i3 i4 i5 i6 i7 k0 k1 k2 k3 k4 k5 k6 k7 h0 h1 h2 h3 h4 h5 h6 h7 : Bool) (w0 w1 w2 w3 w4 w5 w6 w7 : Int) (K : HeadK) : iterR Try.prog sNil lNil iRn 60 (loopOf Try.prog 18 0) 8 [pq, aint .i64 d, aint .i64 1] (olds (rSub [i0, i1, i2, i3, i4, i5, i6, i7] [k0, k1, k2, k3, k4, k5, k6, k7] [h0, h1, h2, h3, h4, h5, h6, h7] [w0, w1, w2, w3, w4, w5, w6, w7])) K = rnR [i0, i1, i2, i3, i4, i5, i6, i7] [k0, k1, k2, k3, k4, k5, k6, k7] [h0, h1, h2, h3, h4, h5, h6, h7] [w0, w1, w2, w3, w4, w5, w6, w7] K (rnI d 1 [h1, h2, h3, h4, h5, h6, h7] [w1, w2, w3, w4, w5, w6, w7] [i1, i2, i3, i4, i5, i6, i7] [k1, k2, k3, k4, k5, k6, k7]) := by
  rw [iterR]
  refine (t_rn1 d i0 i1 i2 i3 i4 i5 i6 i7 k0 k1 k2 k3 k4 k5 k6 k7 h0 h1 h2 h3 h4 h5 h6 h7 w0 w1 w2 w3 w4 w5 w6 w7 _).trans ?_
  have no : ¬ (h1 = true ∧ w1 = d ∧ i1 = true ∧ k1 = false) → iterR Try.prog sNil lNil iRn 60 (loopOf Try.prog 18 0) 7 [pq, aint .i64 d, aint .i64 (2 : Int)] (olds (rSub [i0, i1, i2, i3, i4, i5, i6, i7] [k0, k1, k2, k3, k4, k5, k6, k7] [h0, h1, h2, h3, h4, h5, h6, h7] [w0, w1, w2, w3, w4, w5, w6, w7])) K = rnR [i0, i1, i2, i3, i4, i5, i6, i7] [k0, k1, k2, k3, k4, k5, k6, k7] [h0, h1, h2, h3, h4, h5, h6, h7] [w0, w1, w2, w3, w4, w5, w6, w7] K (rnI d 1 [h1, h2, h3, h4, h5, h6, h7] [w1, w2, w3, w4, w5, w6, w7] [i1, i2, i3, i4, i5, i6, i7] [k1, k2, k3, k4, k5, k6, k7]) := by
    intro c
    rw [rnI, if_neg c]
    exact rn_go2 d i0 i1 i2 i3 i4 i5 i6 i7 k0 k1 k2 k3 k4 k5 k6 k7 h0 h1 h2 h3 h4 h5 h6 h7 w0 w1 w2 w3 w4 w5 w6 w7 K
  cases h1 with
  | false => exact (cF _ _).trans (no (fun h => Bool.noConfusion h.1))
  | true =>
    refine (cT _ _).trans ?_
    by_cases c2 : w1 = d
    case neg => rw [show (w1 == d) = false from by simpa using c2, cF]; exact no (fun h => c2 h.2.1)
    rw [show (w1 == d) = true from by simpa using c2, cT]
    cases i1 with
    | false => exact (cF _ _).trans (no (fun h => Bool.noConfusion h.2.2.1))
    | true =>
      refine (cT _ _).trans ?_
      cases k1 with
      | true => exact (cF _ _).trans (no (fun h => Bool.noConfusion h.2.2.2))
      | false =>
        refine (cT _ _).trans ?_
        rw [rnI, if_pos ⟨rfl, c2, rfl, rfl⟩]
        rfl
theorem rn_go0 (d : Int) (i0 i1 i2 i3 i4 i5 i6 i7 k0 k1 k2 k3 k4 k5 k6 k7 h0 h1 h2 h3 h4 h5 h6 h7 : Bool) (w0 w1 w2 w3 w4 w5 w6 w7 : Int) (K : HeadK) : iterR Try.prog sNil lNil iRn 60 (loopOf Try.prog 18 0) 9 [pq, aint .i64 d, aint .i64 0] (olds (rSub [i0, i1, i2, i3, i4, i5, i6, i7] [k0, k1, k2, k3, k4, k5, k6, k7] [h0, h1, h2, h3, h4, h5, h6, h7] [w0, w1, w2, w3, w4, w5, w6, w7])) K = rnR [i0, i1, i2, i3, i4, i5, i6, i7] [k0, k1, k2, k3, k4, k5, k6, k7] [h0, h1, h2, h3, h4, h5, h6, h7] [w0, w1, w2, w3, w4, w5, w6, w7] K (rnI d 0 [h0, h1, h2, h3, h4, h5, h6, h7] [w0, w1, w2, w3, w4, w5, w6, w7] [i0, i1, i2, i3, i4, i5, i6, i7] [k0, k1, k2, k3, k4, k5, k6, k7]) := by
  rw [iterR]
  refine (t_rn0 d i0 i1 i2 i3 i4 i5 i6 i7 k0 k1 k2 k3 k4 k5 k6 k7 h0 h1 h2 h3 h4 h5 h6 h7 w0 w1 w2 w3 w4 w5 w6 w7 _).trans ?_
  have no : ¬ (h0 = true ∧ w0 = d ∧ i0 = true ∧ k0 = false) → iterR Try.prog sNil lNil iRn 60 (loopOf Try.prog 18 0) 8 [pq, aint .i64 d, aint .i64 (1 : Int)] (olds (rSub [i0, i1, i2, i3, i4, i5, i6, i7] [k0, k1, k2, k3, k4, k5, k6, k7] [h0, h1, h2, h3, h4, h5, h6, h7] [w0, w1, w2, w3, w4, w5, w6, w7])) K = rnR [i0, i1, i2, i3, i4, i5, i6, i7] [k0, k1, k2, k3, k4, k5, k6, k7] [h0, h1, h2, h3, h4, h5, h6, h7] [w0, w1, w2, w3, w4, w5, w6, w7] K (rnI d 0 [h0, h1, h2, h3, h4, h5, h6, h7] [w0, w1, w2, w3, w4, w5, w6, w7] [i0, i1, i2, i3, i4, i5, i6, i7] [k0, k1, k2, k3, k4, k5, k6, k7]) := by
    intro c
    rw [rnI, if_neg c]
    exact rn_go1 d i0 i1 i2 i3 i4 i5 i6 i7 k0 k1 k2 k3 k4 k5 k6 k7 h0 h1 h2 h3 h4 h5 h6 h7 w0 w1 w2 w3 w4 w5 w6 w7 K
  cases h0 with
  | false => exact (cF _ _).trans (no (fun h => Bool.noConfusion h.1))
  | true =>
    refine (cT _ _).trans ?_
    by_cases c2 : w0 = d
    case neg => rw [show (w0 == d) = false from by simpa using c2, cF]; exact no (fun h => c2 h.2.1)
    rw [show (w0 == d) = true from by simpa using c2, cT]
    cases i0 with
    | false => exact (cF _ _).trans (no (fun h => Bool.noConfusion h.2.2.1))
    | true =>
      refine (cT _ _).trans ?_
      cases k0 with
      | true => exact (cF _ _).trans (no (fun h => Bool.noConfusion h.2.2.2))
      | false =>
        refine (cT _ _).trans ?_
        rw [rnI, if_pos ⟨rfl, c2, rfl, rfl⟩]
        rfl
def cRn (X : Nat) : HeadO := fun vs h K => match vs, unOld h with
  | [.e (.c (.ptr ⟨0, 0, 0, 0, 0, 0, 0⟩)), .e (.c (.int .i64 d)), .e (.c (.int .i64 i))], some l => match unR l with
    | some (is, mk, hs, ow) => match decide (i = 0) && decide (rnI d 0 hs ow is mk = X) with
      | true => rnR is mk hs ow K X
      | false => none
    | none => none
  | _, _ => none
theorem cRn_sound (X : Nat) : HeadSound Try.prog iRn (loopOf Try.prog 18 0) (cRn X) := by
  refine HeadSound.short (iterR_sound (F := 60) sNil_ok mix lNil_ok) fun vs h K r e => ?_
  unfold cRn at e
  split at e
  · rename_i d i l hl
    split at e
    · rename_i is mk hs ow hq
      split at e
      · rename_i hc
        simp only [Bool.and_eq_true, decide_eq_true_eq] at hc
        obtain ⟨rfl, rfl⟩ := hc
        have hl := unOld_spec hl
        subst hl
        obtain ⟨rfl, l1, l2, l3, l4⟩ := unR_spec hq
        obtain ⟨i0, i1, i2, i3, i4, i5, i6, i7, rfl⟩ := len8 l1
        obtain ⟨k0, k1, k2, k3, k4, k5, k6, k7, rfl⟩ := len8 l2
        obtain ⟨h0, h1, h2, h3, h4, h5, h6, h7, rfl⟩ := len8 l3
        obtain ⟨w0, w1, w2, w3, w4, w5, w6, w7, rfl⟩ := len8 l4
        exact ⟨9, (rn_go0 d i0 i1 i2 i3 i4 i5 i6 i7 k0 k1 k2 k3 k4 k5 k6 k7 h0 h1 h2 h3 h4 h5 h6 h7 w0 w1 w2 w3 w4 w5 w6 w7 K).trans e⟩
      · cases e
    · cases e
  · cases e
noncomputable def lRn (X : Nat) : Nat → Option Orc := lAdd lNil 0 (wrapO iRn 0 (cRn X))
theorem lRn_for (X : Nat) : LFor 1 Try.prog 18 (lRn X) := lAdd_for lNil_for (by kernel_rfl) (cRn_sound X)
theorem rn_dis : Go.Eng.distinct (blockIds (codeOf Try.prog 18)) = true := by kernel_rfl
theorem t_rnx0 (d : Int) (i0 i1 i2 i3 i4 i5 i6 i7 k0 k1 k2 k3 k4 k5 k6 k7 h0 h1 h2 h3 h4 h5 h6 h7 : Bool) (w0 w1 w2 w3 w4 w5 w6 w7 : Int) (k : Res → Option Res) : fillF (runL Try.prog sNil (lRn 0) 1 60 18) [pq, aint .i64 d] (rSub [i0, i1, i2, i3, i4, i5, i6, i7] [k0, k1, k2, k3, k4, k5, k6, k7] [h0, h1, h2, h3, h4, h5, h6, h7] [w0, w1, w2, w3, w4, w5, w6, w7]) k = (cond (true && decide (Go.Proofs.Ytanchmbopllimaa.Wlk.rnI d 0 [h0, h1, h2, h3, h4, h5, h6, h7] [w0, w1, w2, w3, w4, w5, w6, w7] [i0, i1, i2, i3, i4, i5, i6, i7] [k0, k1, k2, k3, k4, k5, k6, k7] = 0)) (k (Res.mk (AV.tup [(AE.c (AC.int (IntKind.i64) (0))), (AE.c (AC.bool true))]) [(some (some (Block.mk false (Data.mix [(AC.bool false), (AC.bool (i1)), (AC.bool (i2)), (AC.bool (i3)), (AC.bool (i4)), (AC.bool (i5)), (AC.bool (i6)), (AC.bool (i7)), (AC.bool true), (AC.bool (k1)), (AC.bool (k2)), (AC.bool (k3)), (AC.bool (k4)), (AC.bool (k5)), (AC.bool (k6)), (AC.bool (k7)), (AC.bool (h0)), (AC.bool (h1)), (AC.bool (h2)), (AC.bool (h3)), (AC.bool (h4)), (AC.bool (h5)), (AC.bool (h6)), (AC.bool (h7)), (AC.int (IntKind.i64) (w0)), (AC.int (IntKind.i64) (w1)), (AC.int (IntKind.i64) (w2)), (AC.int (IntKind.i64) (w3)), (AC.int (IntKind.i64) (w4)), (AC.int (IntKind.i64) (w5)), (AC.int (IntKind.i64) (w6)), (AC.int (IntKind.i64) (w7))]))))])) none) := by kernel_rfl
theorem t_rnx1 (d : Int) (i0 i1 i2 i3 i4 i5 i6 i7 k0 k1 k2 k3 k4 k5 k6 k7 h0 h1 h2 h3 h4 h5 h6 h7 : Bool) (w0 w1 w2 w3 w4 w5 w6 w7 : Int) (k : Res → Option Res) : fillF (runL Try.prog sNil (lRn 1) 1 60 18) [pq, aint .i64 d] (rSub [i0, i1, i2, i3, i4, i5, i6, i7] [k0, k1, k2, k3, k4, k5, k6, k7] [h0, h1, h2, h3, h4, h5, h6, h7] [w0, w1, w2, w3, w4, w5, w6, w7]) k = (cond (true && decide (Go.Proofs.Ytanchmbopllimaa.Wlk.rnI d 0 [h0, h1, h2, h3, h4, h5, h6, h7] [w0, w1, w2, w3, w4, w5, w6, w7] [i0, i1, i2, i3, i4, i5, i6, i7] [k0, k1, k2, k3, k4, k5, k6, k7] = 1)) (k (Res.mk (AV.tup [(AE.c (AC.int (IntKind.i64) (1))), (AE.c (AC.bool true))]) [(some (some (Block.mk false (Data.mix [(AC.bool (i0)), (AC.bool false), (AC.bool (i2)), (AC.bool (i3)), (AC.bool (i4)), (AC.bool (i5)), (AC.bool (i6)), (AC.bool (i7)), (AC.bool (k0)), (AC.bool true), (AC.bool (k2)), (AC.bool (k3)), (AC.bool (k4)), (AC.bool (k5)), (AC.bool (k6)), (AC.bool (k7)), (AC.bool (h0)), (AC.bool (h1)), (AC.bool (h2)), (AC.bool (h3)), (AC.bool (h4)), (AC.bool (h5)), (AC.bool (h6)), (AC.bool (h7)), (AC.int (IntKind.i64) (w0)), (AC.int (IntKind.i64) (w1)), (AC.int (IntKind.i64) (w2)), (AC.int (IntKind.i64) (w3)), (AC.int (IntKind.i64) (w4)), (AC.int (IntKind.i64) (w5)), (AC.int (IntKind.i64) (w6)), (AC.int (IntKind.i64) (w7))]))))])) none) := by kernel_rfl
theorem t_rnx2 (d : Int) (i0 i1 i2 i3 i4 i5 i6 i7 k0 k1 k2 k3 k4 k5 k6 k7 h0 h1 h2 h3 h4 h5 h6 h7 : Bool) (w0 w1 w2 w3 w4 w5 w6 w7 : Int) (k : Res → Option Res) : fillF (runL Try.prog sNil (lRn 2) 1 60 18) [pq, aint .i64 d] (rSub [i0, i1, i2, i3, i4, i5, i6, i7] [k0, k1, k2, k3, k4, k5, k6, k7] [h0, h1, h2, h3, h4, h5, h6, h7] [w0, w1, w2, w3, w4, w5, w6, w7]) k = (cond (true && decide (Go.Proofs.Ytanchmbopllimaa.Wlk.rnI d 0 [h0, h1, h2, h3, h4, h5, h6, h7] [w0, w1, w2, w3, w4, w5, w6, w7] [i0, i1, i2, i3, i4, i5, i6, i7] [k0, k1, k2, k3, k4, k5, k6, k7] = 2)) (k (Res.mk (AV.tup [(AE.c (AC.int (IntKind.i64) (2))), (AE.c (AC.bool true))]) [(some (some (Block.mk false (Data.mix [(AC.bool (i0)), (AC.bool (i1)), (AC.bool false), (AC.bool (i3)), (AC.bool (i4)), (AC.bool (i5)), (AC.bool (i6)), (AC.bool (i7)), (AC.bool (k0)), (AC.bool (k1)), (AC.bool true), (AC.bool (k3)), (AC.bool (k4)), (AC.bool (k5)), (AC.bool (k6)), (AC.bool (k7)), (AC.bool (h0)), (AC.bool (h1)), (AC.bool (h2)), (AC.bool (h3)), (AC.bool (h4)), (AC.bool (h5)), (AC.bool (h6)), (AC.bool (h7)), (AC.int (IntKind.i64) (w0)), (AC.int (IntKind.i64) (w1)), (AC.int (IntKind.i64) (w2)), (AC.int (IntKind.i64) (w3)), (AC.int (IntKind.i64) (w4)), (AC.int (IntKind.i64) (w5)), (AC.int (IntKind.i64) (w6)), (AC.int (IntKind.i64) (w7))]))))])) none) := by kernel_rfl
theorem t_rnx3 (d : Int) (i0 i1 i2 i3 i4 i5 i6 i7 k0 k1 k2 k3 k4 k5 k6 k7 h0 h1 h2 h3 h4 h5 h6 h7 : Bool) (w0 w1 w2 w3 w4 w5 w6 w7 : Int) (k : Res → Option Res) : fillF (runL Try.prog sNil (lRn 3) 1 60 18) [pq, aint .i64 d] (rSub [i0, i1, i2, i3, i4, i5, i6, i7] [k0, k1, k2, k3, k4, k5, k6, k7] [h0, h1, h2, h3, h4, h5, h6, h7] [w0, w1, w2, w3, w4, w5, w6, w7]) k = (cond (true && decide (Go.Proofs.Ytanchmbopllimaa.Wlk.rnI d 0 [h0, h1, h2, h3, h4, h5, h6, h7] [w0, w1, w2, w3, w4, w5, w6, w7] [i0, i1, i2, i3, i4, i5, i6, i7] [k0, k1, k2, k3, k4, k5, k6, k7] = 3)) (k (Res.mk (AV.tup [(AE.c (AC.int (IntKind.i64) (3))), (AE.c (AC.bool true))]) [(some (some (Block.mk false (Data.mix [(AC.bool (i0)), (AC.bool (i1)), (AC.bool (i2)), (AC.bool false), (AC.bool (i4)), (AC.bool (i5)), (AC.bool (i6)), (AC.bool (i7)), (AC.bool (k0)), (AC.bool (k1)), (AC.bool (k2)), (AC.bool true), (AC.bool (k4)), (AC.bool (k5)), (AC.bool (k6)), (AC.bool (k7)), (AC.bool (h0)), (AC.bool (h1)), (AC.bool (h2)), (AC.bool (h3)), (AC.bool (h4)), (AC.bool (h5)), (AC.bool (h6)), (AC.bool (h7)), (AC.int (IntKind.i64) (w0)), (AC.int (IntKind.i64) (w1)), (AC.int (IntKind.i64) (w2)), (AC.int (IntKind.i64) (w3)), (AC.int (IntKind.i64) (w4)), (AC.int (IntKind.i64) (w5)), (AC.int (IntKind.i64) (w6)), (AC.int (IntKind.i64) (w7))]))))])) none) := by kernel_rfl
theorem t_rnx4 (d : Int) (i0 i1 i2 i3 i4 i5 i6 i7 k0 k1 k2 k3 k4 k5 k6 k7 h0 h1 h2 h3 h4 h5 h6 h7 : Bool) (w0 w1 w2 w3 w4 w5 w6 w7 : Int) (k : Res → Option Res) : fillF (runL Try.prog sNil (lRn 4) 1 60 18) [pq, aint .i64 d] (rSub [i0, i1, i2, i3, i4, i5, i6, i7] [k0, k1, k2, k3, k4, k5, k6, k7] [h0, h1, h2, h3, h4, h5, h6, h7] [w0, w1, w2, w3, w4, w5, w6, w7]) k = (cond (true && decide (Go.Proofs.Ytanchmbopllimaa.Wlk.rnI d 0 [h0, h1, h2, h3, h4, h5, h6, h7] [w0, w1, w2, w3, w4, w5, w6, w7] [i0, i1, i2, i3, i4, i5, i6, i7] [k0, k1, k2, k3, k4, k5, k6, k7] = 4)) (k (Res.mk (AV.tup [(AE.c (AC.int (IntKind.i64) (4))), (AE.c (AC.bool true))]) [(some (some (Block.mk false (Data.mix [(AC.bool (i0)), (AC.bool (i1)), (AC.bool (i2)), (AC.bool (i3)), (AC.bool false), (AC.bool (i5)), (AC.bool (i6)), (AC.bool (i7)), (AC.bool (k0)), (AC.bool (k1)), (AC.bool (k2)), (AC.bool (k3)), (AC.bool true), (AC.bool (k5)), (AC.bool (k6)), (AC.bool (k7)), (AC.bool (h0)), (AC.bool (h1)), (AC.bool (h2)), (AC.bool (h3)), (AC.bool (h4)), (AC.bool (h5)), (AC.bool (h6)), (AC.bool (h7)), (AC.int (IntKind.i64) (w0)), (AC.int (IntKind.i64) (w1)), (AC.int (IntKind.i64) (w2)), (AC.int (IntKind.i64) (w3)), (AC.int (IntKind.i64) (w4)), (AC.int (IntKind.i64) (w5)), (AC.int (IntKind.i64) (w6)), (AC.int (IntKind.i64) (w7))]))))])) none) := by kernel_rfl
theorem t_rnx5 (d : Int) (i0 i1 i2 i3 i4 i5 i6 i7 k0 k1 k2 k3 k4 k5 k6 k7 h0 h1 h2 h3 h4 h5 h6 h7 : Bool) (w0 w1 w2 w3 w4 w5 w6 w7 : Int) (k : Res → Option Res) : fillF (runL Try.prog sNil (lRn 5) 1 60 18) [pq, aint .i64 d] (rSub [i0, i1, i2, i3, i4, i5, i6, i7] [k0, k1, k2, k3, k4, k5, k6, k7] [h0, h1, h2, h3, h4, h5, h6, h7] [w0, w1, w2, w3, w4, w5, w6, w7]) k = (cond (true && decide (Go.Proofs.Ytanchmbopllimaa.Wlk.rnI d 0 [h0, h1, h2, h3, h4, h5, h6, h7] [w0, w1, w2, w3, w4, w5, w6, w7] [i0, i1, i2, i3, i4, i5, i6, i7] [k0, k1, k2, k3, k4, k5, k6, k7] = 5)) (k (Res.mk (AV.tup [(AE.c (AC.int (IntKind.i64) (5))), (AE.c (AC.bool true))]) [(some (some (Block.mk false (Data.mix [(AC.bool (i0)), (AC.bool (i1)), (AC.bool (i2)), (AC.bool (i3)), (AC.bool (i4)), (AC.bool false), (AC.bool (i6)), (AC.bool (i7)), (AC.bool (k0)), (AC.bool (k1)), (AC.bool (k2)), (AC.bool (k3)), (AC.bool (k4)), (AC.bool true), (AC.bool (k6)), (AC.bool (k7)), (AC.bool (h0)), (AC.bool (h1)), (AC.bool (h2)), (AC.bool (h3)), (AC.bool (h4)), (AC.bool (h5)), (AC.bool (h6)), (AC.bool (h7)), (AC.int (IntKind.i64) (w0)), (AC.int (IntKind.i64) (w1)), (AC.int (IntKind.i64) (w2)), (AC.int (IntKind.i64) (w3)), (AC.int (IntKind.i64) (w4)), (AC.int (IntKind.i64) (w5)), (AC.int (IntKind.i64) (w6)), (AC.int (IntKind.i64) (w7))]))))])) none) := by kernel_rfl
theorem t_rnx6 (d : Int) (i0 i1 i2 i3 i4 i5 i6 i7 k0 k1 k2 k3 k4 k5 k6 k7 h0 h1 h2 h3 h4 h5 h6 h7 : Bool) (w0 w1 w2 w3 w4 w5 w6 w7 : Int) (k : Res → Option Res) : fillF (runL Try.prog sNil (lRn 6) 1 60 18) [pq, aint .i64 d] (rSub [i0, i1, i2, i3, i4, i5, i6, i7] [k0, k1, k2, k3, k4, k5, k6, k7] [h0, h1, h2, h3, h4, h5, h6, h7] [w0, w1, w2, w3, w4, w5, w6, w7]) k = (cond (true && decide (Go.Proofs.Ytanchmbopllimaa.Wlk.rnI d 0 [h0, h1, h2, h3, h4, h5, h6, h7] [w0, w1, w2, w3, w4, w5, w6, w7] [i0, i1, i2, i3, i4, i5, i6, i7] [k0, k1, k2, k3, k4, k5, k6, k7] = 6)) (k (Res.mk (AV.tup [(AE.c (AC.int (IntKind.i64) (6))), (AE.c (AC.bool true))]) [(some (some (Block.mk false (Data.mix [(AC.bool (i0)), (AC.bool (i1)), (AC.bool (i2)), (AC.bool (i3)), (AC.bool (i4)), (AC.bool (i5)), (AC.bool false), (AC.bool (i7)), (AC.bool (k0)), (AC.bool (k1)), (AC.bool (k2)), (AC.bool (k3)), (AC.bool (k4)), (AC.bool (k5)), (AC.bool true), (AC.bool (k7)), (AC.bool (h0)), (AC.bool (h1)), (AC.bool (h2)), (AC.bool (h3)), (AC.bool (h4)), (AC.bool (h5)), (AC.bool (h6)), (AC.bool (h7)), (AC.int (IntKind.i64) (w0)), (AC.int (IntKind.i64) (w1)), (AC.int (IntKind.i64) (w2)), (AC.int (IntKind.i64) (w3)), (AC.int (IntKind.i64) (w4)), (AC.int (IntKind.i64) (w5)), (AC.int (IntKind.i64) (w6)), (AC.int (IntKind.i64) (w7))]))))])) none) := by kernel_rfl
theorem t_rnx7 (d : Int) (i0 i1 i2 i3 i4 i5 i6 i7 k0 k1 k2 k3 k4 k5 k6 k7 h0 h1 h2 h3 h4 h5 h6 h7 : Bool) (w0 w1 w2 w3 w4 w5 w6 w7 : Int) (k : Res → Option Res) : fillF (runL Try.prog sNil (lRn 7) 1 60 18) [pq, aint .i64 d] (rSub [i0, i1, i2, i3, i4, i5, i6, i7] [k0, k1, k2, k3, k4, k5, k6, k7] [h0, h1, h2, h3, h4, h5, h6, h7] [w0, w1, w2, w3, w4, w5, w6, w7]) k = (cond (true && decide (Go.Proofs.Ytanchmbopllimaa.Wlk.rnI d 0 [h0, h1, h2, h3, h4, h5, h6, h7] [w0, w1, w2, w3, w4, w5, w6, w7] [i0, i1, i2, i3, i4, i5, i6, i7] [k0, k1, k2, k3, k4, k5, k6, k7] = 7)) (k (Res.mk (AV.tup [(AE.c (AC.int (IntKind.i64) (7))), (AE.c (AC.bool true))]) [(some (some (Block.mk false (Data.mix [(AC.bool (i0)), (AC.bool (i1)), (AC.bool (i2)), (AC.bool (i3)), (AC.bool (i4)), (AC.bool (i5)), (AC.bool (i6)), (AC.bool false), (AC.bool (k0)), (AC.bool (k1)), (AC.bool (k2)), (AC.bool (k3)), (AC.bool (k4)), (AC.bool (k5)), (AC.bool (k6)), (AC.bool true), (AC.bool (h0)), (AC.bool (h1)), (AC.bool (h2)), (AC.bool (h3)), (AC.bool (h4)), (AC.bool (h5)), (AC.bool (h6)), (AC.bool (h7)), (AC.int (IntKind.i64) (w0)), (AC.int (IntKind.i64) (w1)), (AC.int (IntKind.i64) (w2)), (AC.int (IntKind.i64) (w3)), (AC.int (IntKind.i64) (w4)), (AC.int (IntKind.i64) (w5)), (AC.int (IntKind.i64) (w6)), (AC.int (IntKind.i64) (w7))]))))])) none) := by kernel_rfl
theorem t_rnx8 (d : Int) (i0 i1 i2 i3 i4 i5 i6 i7 k0 k1 k2 k3 k4 k5 k6 k7 h0 h1 h2 h3 h4 h5 h6 h7 : Bool) (w0 w1 w2 w3 w4 w5 w6 w7 : Int) (k : Res → Option Res) : fillF (runL Try.prog sNil (lRn 8) 1 60 18) [pq, aint .i64 d] (rSub [i0, i1, i2, i3, i4, i5, i6, i7] [k0, k1, k2, k3, k4, k5, k6, k7] [h0, h1, h2, h3, h4, h5, h6, h7] [w0, w1, w2, w3, w4, w5, w6, w7]) k = (cond (true && decide (Go.Proofs.Ytanchmbopllimaa.Wlk.rnI d 0 [h0, h1, h2, h3, h4, h5, h6, h7] [w0, w1, w2, w3, w4, w5, w6, w7] [i0, i1, i2, i3, i4, i5, i6, i7] [k0, k1, k2, k3, k4, k5, k6, k7] = 8)) (k (Res.mk (AV.tup [(AE.c (AC.int (IntKind.i64) (0))), (AE.c (AC.bool false))]) [(some (some (Block.mk false (Data.mix [(AC.bool (i0)), (AC.bool (i1)), (AC.bool (i2)), (AC.bool (i3)), (AC.bool (i4)), (AC.bool (i5)), (AC.bool (i6)), (AC.bool (i7)), (AC.bool (k0)), (AC.bool (k1)), (AC.bool (k2)), (AC.bool (k3)), (AC.bool (k4)), (AC.bool (k5)), (AC.bool (k6)), (AC.bool (k7)), (AC.bool (h0)), (AC.bool (h1)), (AC.bool (h2)), (AC.bool (h3)), (AC.bool (h4)), (AC.bool (h5)), (AC.bool (h6)), (AC.bool (h7)), (AC.int (IntKind.i64) (w0)), (AC.int (IntKind.i64) (w1)), (AC.int (IntKind.i64) (w2)), (AC.int (IntKind.i64) (w3)), (AC.int (IntKind.i64) (w4)), (AC.int (IntKind.i64) (w5)), (AC.int (IntKind.i64) (w6)), (AC.int (IntKind.i64) (w7))]))))])) none) := by kernel_rfl
end Go.Proofs.Ytanchmbopllimaa.Wlk
