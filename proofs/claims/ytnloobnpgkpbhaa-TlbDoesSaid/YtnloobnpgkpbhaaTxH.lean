/- What is kept, told with the answer given: the state behind a call is a parameter. -/
import Derived.Test.YtnloobnpgkpbhaaTxG
set_option linter.unusedVariables false
set_option linter.unusedSimpArgs false
set_option maxRecDepth 100000
namespace Go.Proofs.Ytnloobnpgkpbhaa.Wlk
open Go Go.Eng Go.Proofs Go.RowKit
noncomputable def isQ {α : Type} (a b : α) : Bool := @decide (a = b) (Classical.propDecidable _)
theorem isQ_spec {α : Type} {a b : α} (h : isQ a b = true) : a = b := @of_decide_eq_true _ (Classical.propDecidable _) h
theorem isQ_of {α : Type} {a b : α} (h : a = b) : isQ a b = true := @decide_eq_true _ (Classical.propDecidable _) h
abbrev TQf := List Int → List Ro → Nat → Int → Int → Int → Bool
abbrev XQf := List Int → List Ro → Int → Int → Int → Bool
abbrev FQf := Int → Int → Bool → Bool → Int → List Ro → Nat → Bool
abbrev YQf := Int → Int → Bool → Bool → Int → List Ro → Bool
abbrev DQf := Int → Int → List Ro → Nat → Bool
abbrev GQf := Int → List Ro → Nat → Bool
noncomputable def tQ (L1 : List Ro) (e1 : Nat) : TQf := fun ws L e sp d a => isQ (tL ws L sp d a, tX L sp a e) (L1, e1)
noncomputable def xQ (L1 : List Ro) : XQf := fun ws L sp d a => isQ (tL ws L sp d a) L1
noncomputable def fQ (L1 : List Ro) (e1 : Nat) : FQf := fun x y v w a L e => isQ (fillL x y v w a L, fillX x y L e) (L1, e1)
noncomputable def yQ (L1 : List Ro) : YQf := fun x y v w a L => isQ (fillL x y v w a L) L1
noncomputable def dQ (L1 : List Ro) (e1 : Nat) : DQf := fun x y L e => isQ (dropL x y L, e + (L.length - (dropL x y L).length)) (L1, e1)
noncomputable def gQ (L1 : List Ro) (e1 : Nat) : GQf := fun x L e => isQ (flushL x L, e + (L.length - (flushL x L).length)) (L1, e1)
noncomputable def dR (L1 : List Ro) : ENd := fun x y L => isQ (dropL x y L) L1
noncomputable def gR (L1 : List Ro) : ENf := fun x L => isQ (flushL x L) L1
def gToNp (TE TA : TEf) (TC : TCf) (TQ : TQf) (L1 : List Ro) : Fun := fun args sub κ => match args, sub with
  | [.e (.c (.ptr ⟨0, 0, 0, 0, 0, 0, 0⟩)), .e (.c (.ptr ⟨1, 0, 0, 0, 0, 0, 0⟩)), .e (.c (.int .i64 sp)), .e (.c (.int .i64 d)), .e (.c (.int .i64 a)), .e (.c (.bool wr))], [some ⟨false, .mix [.nils]⟩, some ⟨false, .mix [.slice ⟨2, 0, 1, 0, 0, 0, 0⟩ 1 m c true]⟩, some ⟨false, .rows [.ints .u64 ws]⟩] =>
    match okM m ws && inI d && inI a && allW ws with
    | true => match TC ws [] sp d a with
      | true => match TQ ws [] 0 sp d a with
        | true => κ ⟨.tup [.c (.int .i64 (TA ws [] sp d a wr)), .c (.int .i64 (TE ws [] sp d a wr))], [some (some ⟨false, .mix [.slice ⟨3, 0, 5, 0, 0, 0, 0⟩ 5 1 0 false]⟩), none, none, some (kR L1 0)]⟩
        | false => none
      | false => κ ⟨.tup [.c (.int .i64 (TA ws [] sp d a wr)), .c (.int .i64 (TE ws [] sp d a wr))], [none, none, none]⟩
    | false => none
  | _, _ => none
theorem gToNp_sound (L1 : List Ro) (e1 : Nat) : FunSound Try.prog 15 (gToNp tE tA tC (tQ L1 e1) L1) := by
  refine gToN_sound.short fun args sub κ r h => ?_
  unfold gToNp at h
  unfold gToN
  split at h
  · rename_i sp d a wr m c ws
    split at h
    · rename_i hc
      simp only [hc]
      split at h
      · rename_i h1
        simp only [h1]
        split at h
        · rename_i h2
          have e12 := isQ_spec h2
          simp only [Prod.mk.injEq] at e12
          rw [e12.1]
          exact h
        · cases h
      · rename_i h1
        simp only [h1]
        exact h
    · cases h
  · cases h
def gXoNp (TE TA : TEf) (TC : TCf) (XQ : XQf) (L1 : List Ro) : Fun := fun args sub κ => match args, sub with
  | [.e (.c (.ptr ⟨0, 0, 0, 0, 0, 0, 0⟩)), .e (.c (.ptr ⟨1, 0, 0, 0, 0, 0, 0⟩)), .e (.c (.int .i64 sp)), .e (.c (.int .i64 d)), .e (.c (.int .i64 a)), .e (.c (.bool wr))], [some ⟨false, .mix [.nils]⟩, some ⟨false, .mix [.slice ⟨2, 0, 1, 0, 0, 0, 0⟩ 1 m c true]⟩, some ⟨false, .rows [.ints .u64 ws]⟩] =>
    match okM m ws && inI d && inI a && allW ws with
    | true => match TC ws [] sp d a with
      | true => match XQ ws [] sp d a with
        | true => κ ⟨.tup [.c (.int .i64 (TA ws [] sp d a wr)), .c (.int .i64 (TE ws [] sp d a wr))], [some (xT 3 1 false), none, none, some (kR L1 0)]⟩
        | false => none
      | false => κ ⟨.tup [.c (.int .i64 (TA ws [] sp d a wr)), .c (.int .i64 (TE ws [] sp d a wr))], [none, none, none]⟩
    | false => none
  | _, _ => none
theorem gXoNp_sound (L1 : List Ro) : FunSound Try.prog 16 (gXoNp tE tA tC (xQ L1) L1) := by
  refine gXoN_sound.short fun args sub κ r h => ?_
  unfold gXoNp at h
  unfold gXoN
  split at h
  · rename_i sp d a wr m c ws
    split at h
    · rename_i hc
      simp only [hc]
      split at h
      · rename_i h1
        simp only [h1]
        split at h
        · rename_i h2
          rw [isQ_spec h2]
          exact h
        · cases h
      · rename_i h1
        simp only [h1]
        exact h
    · cases h
  · cases h
def gToPs (TE TA : TEf) (TC : TCf) (TQ : TQf) (TW : TWf) (L1 : List Ro) (e1 : Nat) : Fun := fun args sub κ => match args, sub with
  | [.e (.c (.ptr ⟨0, 0, 0, 0, 0, 0, 0⟩)), .e (.c (.ptr ⟨1, 0, 0, 0, 0, 0, 0⟩)), .e (.c (.int .i64 sp)), .e (.c (.int .i64 d)), .e (.c (.int .i64 a)), .e (.c (.bool wr))], [some ⟨false, .mix [.slice ⟨2, 0, 5, 0, 0, 0, 0⟩ 5 n e false]⟩, some ⟨false, .mix [.slice ⟨3, 0, 1, 0, 0, 0, 0⟩ 1 m c true]⟩, some ⟨false, .rows [.ints .i64 s, .ints .i64 p, .bools v, .bools w, .ints .i64 q]⟩, some ⟨false, .rows [.ints .u64 ws]⟩] =>
    match okK n e s p v w q && Nat.ble n 8 && (okM m ws && inI d && inI a && allW ws) with
    | true => match TC ws (rowsN n s p v w q) sp d a with
      | true => match TQ ws (rowsN n s p v w q) e sp d a with
        | true => match TW (rowsN n s p v w q) sp a e with
          | true => κ ⟨.tup [.c (.int .i64 (TA ws (rowsN n s p v w q) sp d a wr)), .c (.int .i64 (TE ws (rowsN n s p v w q) sp d a wr))], [some (some ⟨false, .mix [.slice ⟨4, 0, 5, 0, 0, 0, 0⟩ 5 L1.length e1 false]⟩), none, some none, none, some (kR L1 e1)]⟩
          | false => κ ⟨.tup [.c (.int .i64 (TA ws (rowsN n s p v w q) sp d a wr)), .c (.int .i64 (TE ws (rowsN n s p v w q) sp d a wr))], [some (some ⟨false, .mix [.slice ⟨2, 0, 5, 0, 0, 0, 0⟩ 5 L1.length e1 false]⟩), none, some (kR L1 e1), none]⟩
        | false => none
      | false => κ ⟨.tup [.c (.int .i64 (TA ws (rowsN n s p v w q) sp d a wr)), .c (.int .i64 (TE ws (rowsN n s p v w q) sp d a wr))], [none, none, none, none]⟩
    | false => none
  | _, _ => none
def gToP (TE TA : TEf) (TC : TCf) (TQ : TQf) (TW : TWf) (L1 : List Ro) (e1 : Nat) : Fun := fun args sub κ => match sub with
  | [_, _, _] => gToNp TE TA TC TQ L1 args sub κ
  | _ => gToPs TE TA TC TQ TW L1 e1 args sub κ
theorem gToP_sound (L1 : List Ro) (e1 : Nat) : FunSound Try.prog 15 (gToP tE tA tC (tQ L1 e1) tW L1 e1) := by
  intro args sub κ r h
  unfold gToP at h
  split at h
  · exact gToNp_sound L1 e1 _ _ κ r h
  · unfold gToPs at h
    split at h
    · rename_i sp d a wr n e m c s p v w q ws _
      refine gToS_sound _ _ κ r ?_
      unfold gToS
      split at h
      · rename_i hc
        simp only [hc]
        split at h
        · rename_i h1
          simp only [h1]
          split at h
          · rename_i h2
            have e12 := isQ_spec h2
            simp only [Prod.mk.injEq] at e12
            rw [e12.1, e12.2]
            exact h
          · cases h
        · rename_i h1
          simp only [h1]
          exact h
      · cases h
    · cases h
def gXoPs (TE TA : TEf) (TC : TCf) (XQ : XQf) (TN : TNf) (L1 : List Ro) : Fun := fun args sub κ => match args, sub with
  | [.e (.c (.ptr ⟨0, 0, 0, 0, 0, 0, 0⟩)), .e (.c (.ptr ⟨1, 0, 0, 0, 0, 0, 0⟩)), .e (.c (.int .i64 sp)), .e (.c (.int .i64 d)), .e (.c (.int .i64 a)), .e (.c (.bool wr))], [some ⟨false, .mix [.slice ⟨2, 0, 5, 0, 0, 0, 0⟩ 5 n 0 b]⟩, some ⟨false, .mix [.slice ⟨3, 0, 1, 0, 0, 0, 0⟩ 1 m c true]⟩, some ⟨false, .rows [.ints .i64 s, .ints .i64 p, .bools v, .bools w, .ints .i64 q]⟩, some ⟨false, .rows [.ints .u64 ws]⟩] =>
    match okK n 0 s p v w q && Nat.ble n 8 && (okM m ws && inI d && inI a && allW ws) with
    | true => match TC ws (rowsN n s p v w q) sp d a with
      | true => match XQ ws (rowsN n s p v w q) sp d a with
        | true => κ ⟨.tup [.c (.int .i64 (TA ws (rowsN n s p v w q) sp d a wr)), .c (.int .i64 (TE ws (rowsN n s p v w q) sp d a wr))], [some (xT 4 L1.length (TN sp a (rowsN n s p v w q))), none, none, none, some (kR L1 0)]⟩
        | false => none
      | false => κ ⟨.tup [.c (.int .i64 (TA ws (rowsN n s p v w q) sp d a wr)), .c (.int .i64 (TE ws (rowsN n s p v w q) sp d a wr))], [none, none, none, none]⟩
    | false => none
  | _, _ => none
def gXoP (TE TA : TEf) (TC : TCf) (XQ : XQf) (TN : TNf) (L1 : List Ro) : Fun := fun args sub κ => match sub with
  | [_, _, _] => gXoNp TE TA TC XQ L1 args sub κ
  | _ => gXoPs TE TA TC XQ TN L1 args sub κ
theorem gXoP_sound (L1 : List Ro) : FunSound Try.prog 16 (gXoP tE tA tC (xQ L1) toN L1) := by
  intro args sub κ r h
  unfold gXoP at h
  split at h
  · exact gXoNp_sound L1 _ _ κ r h
  · unfold gXoPs at h
    split at h
    · rename_i sp d a wr n b m c s p v w q ws _
      refine gXoS_sound _ _ κ r ?_
      unfold gXoS
      split at h
      · rename_i hc
        simp only [hc]
        split at h
        · rename_i h1
          simp only [h1]
          split at h
          · rename_i h2
            rw [isQ_spec h2]
            exact h
          · cases h
        · rename_i h1
          simp only [h1]
          exact h
      · cases h
    · cases h
def gFillP (E : FE) (FQ : FQf) (NW : FN8) (L1 : List Ro) (e1 : Nat) : Fun := fun args sub κ => match args, sub with
  | [.e (.c (.ptr ⟨0, 0, 0, 0, 0, 0, 0⟩)), .e (.c (.int .i64 x)), .e (.c (.int .i64 y)), .e (.agg [.bool v0, .bool w0, .int .i64 a0])], [some ⟨false, .mix [.slice ⟨1, 0, 5, 0, 0, 0, 0⟩ 5 n e false]⟩, some ⟨false, .rows [.ints .i64 s, .ints .i64 p, .bools v, .bools w, .ints .i64 a]⟩] =>
    match okK n e s p v w a && Nat.ble n 8 && inI a0 with
    | true => match decide (E x y v0 w0 a0 = 0) with
      | true => match FQ x y v0 w0 a0 (rowsN n s p v w a) e with
        | true => match NW x y (rowsN n s p v w a) e with
          | true => κ ⟨aint .i64 0, [some (some ⟨false, .mix [.slice ⟨2, 0, 5, 0, 0, 0, 0⟩ 5 L1.length e1 false]⟩), some none, some (kR L1 e1)]⟩
          | false => κ ⟨aint .i64 0, [some (some ⟨false, .mix [.slice ⟨1, 0, 5, 0, 0, 0, 0⟩ 5 L1.length e1 false]⟩), some (kR L1 e1)]⟩
        | false => none
      | false => κ ⟨aint .i64 (E x y v0 w0 a0), [none, none]⟩
    | false => none
  | [.e (.c (.ptr ⟨0, 0, 0, 0, 0, 0, 0⟩)), .e (.c (.int .i64 x)), .e (.c (.int .i64 y)), .e (.agg [.bool v0, .bool w0, .int .i64 a0])], [some ⟨false, .mix [.nils]⟩] =>
    match inI a0 with
    | true => match decide (E x y v0 w0 a0 = 0) with
      | true => match FQ x y v0 w0 a0 [] 0 with
        | true => κ ⟨aint .i64 0, [some (some ⟨false, .mix [.slice ⟨1, 0, 5, 0, 0, 0, 0⟩ 5 1 0 false]⟩), some (kR L1 0)]⟩
        | false => none
      | false => κ ⟨aint .i64 (E x y v0 w0 a0), [none]⟩
    | false => none
  | _, _ => none
theorem gFillP_sound (L1 : List Ro) (e1 : Nat) : FunSound Try.prog 10 (gFillP filE (fQ L1 e1) fillN L1 e1) := by
  refine gFillT_sound.short fun args sub κ r h => ?_
  unfold gFillP at h
  unfold gFillT
  split at h
  · rename_i x y v0 w0 a0 n e s p v w a
    split at h
    · rename_i hc
      simp only [hc]
      split at h
      · rename_i h1
        simp only [h1]
        split at h
        · rename_i h2
          have e12 := isQ_spec h2
          simp only [Prod.mk.injEq] at e12
          rw [e12.1, e12.2]
          exact h
        · cases h
      · rename_i h1
        simp only [h1]
        exact h
    · cases h
  · rename_i x y v0 w0 a0
    split at h
    · rename_i hc
      simp only [hc]
      split at h
      · rename_i h1
        simp only [h1]
        split at h
        · rename_i h2
          have e12 := isQ_spec h2
          simp only [Prod.mk.injEq] at e12
          rw [show ([⟨x, y, v0, w0, a0⟩] : List Ro) = L1 from e12.1]
          exact h
        · cases h
      · rename_i h1
        simp only [h1]
        exact h
    · cases h
  · cases h
def gXFiP (E : FE) (YQ : YQf) (BN : ENd) (L1 : List Ro) : Fun := fun args sub κ => match args, sub with
  | [.e (.c (.ptr ⟨0, 0, 0, 0, 0, 0, 0⟩)), .e (.c (.int .i64 x)), .e (.c (.int .i64 y)), .e (.agg [.bool v0, .bool w0, .int .i64 a0])], [some ⟨false, .mix [.slice ⟨1, 0, 5, 0, 0, 0, 0⟩ 5 n 0 b]⟩, some ⟨false, .rows [.ints .i64 s, .ints .i64 p, .bools v, .bools w, .ints .i64 a]⟩] =>
    match okK n 0 s p v w a && Nat.ble n 8 && inI a0 with
    | true => match decide (E x y v0 w0 a0 = 0) with
      | true => match YQ x y v0 w0 a0 (rowsN n s p v w a) with
        | true => κ ⟨aint .i64 0, [some (xT 2 L1.length (BN x y (rowsN n s p v w a))), none, some (kR L1 0)]⟩
        | false => none
      | false => κ ⟨aint .i64 (E x y v0 w0 a0), [none, none]⟩
    | false => none
  | [.e (.c (.ptr ⟨0, 0, 0, 0, 0, 0, 0⟩)), .e (.c (.int .i64 x)), .e (.c (.int .i64 y)), .e (.agg [.bool v0, .bool w0, .int .i64 a0])], [some ⟨false, .mix [.nils]⟩] =>
    match inI a0 with
    | true => match decide (E x y v0 w0 a0 = 0) with
      | true => match YQ x y v0 w0 a0 [] with
        | true => κ ⟨aint .i64 0, [some (xT 1 1 false), some (kR L1 0)]⟩
        | false => none
      | false => κ ⟨aint .i64 (E x y v0 w0 a0), [none]⟩
    | false => none
  | _, _ => none
theorem gXFiP_sound (L1 : List Ro) : FunSound Try.prog 18 (gXFiP filE (yQ L1) bnF L1) := by
  refine gXFi_sound.short fun args sub κ r h => ?_
  unfold gXFiP at h
  unfold gXFi
  split at h
  · rename_i x y v0 w0 a0 n b s p v w a
    split at h
    · rename_i hc
      simp only [hc]
      split at h
      · rename_i h1
        simp only [h1]
        split at h
        · rename_i h2
          rw [isQ_spec h2]
          exact h
        · cases h
      · rename_i h1
        simp only [h1]
        exact h
    · cases h
  · rename_i x y v0 w0 a0
    split at h
    · rename_i hc
      simp only [hc]
      split at h
      · rename_i h1
        simp only [h1]
        split at h
        · rename_i h2
          rw [show ([⟨x, y, v0, w0, a0⟩] : List Ro) = L1 from isQ_spec h2]
          exact h
        · cases h
      · rename_i h1
        simp only [h1]
        exact h
    · cases h
  · cases h
def gDropP (DQ : DQf) (L1 : List Ro) (e1 : Nat) : Fun := fun args sub κ => match args, sub with
  | [.e (.c (.ptr ⟨0, 0, 0, 0, 0, 0, 0⟩)), .e (.c (.int .i64 x)), .e (.c (.int .i64 y))], [some ⟨false, .mix [.slice ⟨1, 0, 5, 0, 0, 0, 0⟩ 5 n e false]⟩, some ⟨false, .rows [.ints .i64 s, .ints .i64 p, .bools v, .bools w, .ints .i64 a]⟩] =>
    match okK n e s p v w a && DQ x y (rowsN n s p v w a) e with
    | true => κ ⟨.tup [], [some (some ⟨false, .mix [.slice ⟨1, 0, 5, 0, 0, 0, 0⟩ 5 L1.length e1 false]⟩), some (kR L1 e1)]⟩
    | false => none
  | [.e (.c (.ptr ⟨0, 0, 0, 0, 0, 0, 0⟩)), .e (.c (.int .i64 x)), .e (.c (.int .i64 y))], [some ⟨false, .mix [.nils]⟩] => κ ⟨.tup [], [some (some ⟨false, .mix [.nils]⟩)]⟩
  | _, _ => none
theorem gDropP_sound (L1 : List Ro) (e1 : Nat) : FunSound Try.prog 19 (gDropP (dQ L1 e1) L1 e1) := by
  refine gDropT_sound.short fun args sub κ r h => ?_
  unfold gDropP at h
  unfold gDropT
  split at h
  · rename_i x y n e s p v w a
    split at h
    · rename_i hc
      rw [Bool.and_eq_true] at hc
      have e12 := isQ_spec hc.2
      simp only [Prod.mk.injEq, rowsN_len] at e12
      simp only [hc.1]
      rw [e12.2, e12.1]
      exact h
    · cases h
  · exact h
  · cases h
def gFlushP (GQ : GQf) (L1 : List Ro) (e1 : Nat) : Fun := fun args sub κ => match args, sub with
  | [.e (.c (.ptr ⟨0, 0, 0, 0, 0, 0, 0⟩)), .e (.c (.int .i64 x))], [some ⟨false, .mix [.slice ⟨1, 0, 5, 0, 0, 0, 0⟩ 5 n e false]⟩, some ⟨false, .rows [.ints .i64 s, .ints .i64 p, .bools v, .bools w, .ints .i64 a]⟩] =>
    match okK n e s p v w a && GQ x (rowsN n s p v w a) e with
    | true => κ ⟨.tup [], [some (some ⟨false, .mix [.slice ⟨1, 0, 5, 0, 0, 0, 0⟩ 5 L1.length e1 false]⟩), some (kR L1 e1)]⟩
    | false => none
  | [.e (.c (.ptr ⟨0, 0, 0, 0, 0, 0, 0⟩)), .e (.c (.int .i64 x))], [some ⟨false, .mix [.nils]⟩] => κ ⟨.tup [], [some (some ⟨false, .mix [.nils]⟩)]⟩
  | _, _ => none
theorem gFlushP_sound (L1 : List Ro) (e1 : Nat) : FunSound Try.prog 13 (gFlushP (gQ L1 e1) L1 e1) := by
  refine gFlushT_sound.short fun args sub κ r h => ?_
  unfold gFlushP at h
  unfold gFlushT
  split at h
  · rename_i x n e s p v w a
    split at h
    · rename_i hc
      rw [Bool.and_eq_true] at hc
      have e12 := isQ_spec hc.2
      simp only [Prod.mk.injEq, rowsN_len] at e12
      simp only [hc.1]
      rw [e12.2, e12.1]
      exact h
    · cases h
  · exact h
  · cases h
def gXdP (DR DN : ENd) (L1 : List Ro) : Fun := fun args sub κ => match args, sub with
  | [.e (.c (.ptr ⟨0, 0, 0, 0, 0, 0, 0⟩)), .e (.c (.int .i64 x)), .e (.c (.int .i64 y))], [some ⟨false, .mix [.slice ⟨1, 0, 5, 0, 0, 0, 0⟩ 5 n 0 b]⟩, some ⟨false, .rows [.ints .i64 s, .ints .i64 p, .bools v, .bools w, .ints .i64 a]⟩] =>
    match okK n 0 s p v w a && Nat.ble n 16 && DR x y (rowsN n s p v w a) with
    | true => match DN x y (rowsN n s p v w a) with
      | true => κ ⟨.tup [], [some (some ⟨false, .mix [.nils]⟩), none]⟩
      | false => κ ⟨.tup [], [some (xT 2 L1.length false), none, some (kR L1 0)]⟩
    | false => none
  | [.e (.c (.ptr ⟨0, 0, 0, 0, 0, 0, 0⟩)), .e (.c (.int .i64 x)), .e (.c (.int .i64 y))], [some ⟨false, .mix [.nils]⟩] => κ ⟨.tup [], [some (some ⟨false, .mix [.nils]⟩)]⟩
  | _, _ => none
theorem gXdP_sound (L1 : List Ro) : FunSound Try.prog 20 (gXdP (dR L1) drN L1) := by
  refine gXd_sound.short fun args sub κ r h => ?_
  unfold gXdP at h
  unfold gXd
  split at h
  · rename_i x y n b s p v w a
    split at h
    · rename_i hc
      rw [Bool.and_eq_true] at hc
      simp only [hc.1]
      rw [show dropL x y (rowsN n s p v w a) = L1 from isQ_spec hc.2]
      exact h
    · cases h
  · exact h
  · cases h
def gXfP (GR DN : ENf) (L1 : List Ro) : Fun := fun args sub κ => match args, sub with
  | [.e (.c (.ptr ⟨0, 0, 0, 0, 0, 0, 0⟩)), .e (.c (.int .i64 x))], [some ⟨false, .mix [.slice ⟨1, 0, 5, 0, 0, 0, 0⟩ 5 n 0 b]⟩, some ⟨false, .rows [.ints .i64 s, .ints .i64 p, .bools v, .bools w, .ints .i64 a]⟩] =>
    match okK n 0 s p v w a && Nat.ble n 16 && GR x (rowsN n s p v w a) with
    | true => match DN x (rowsN n s p v w a) with
      | true => κ ⟨.tup [], [some (some ⟨false, .mix [.nils]⟩), none]⟩
      | false => κ ⟨.tup [], [some (xT 2 L1.length false), none, some (kR L1 0)]⟩
    | false => none
  | [.e (.c (.ptr ⟨0, 0, 0, 0, 0, 0, 0⟩)), .e (.c (.int .i64 x))], [some ⟨false, .mix [.nils]⟩] => κ ⟨.tup [], [some (some ⟨false, .mix [.nils]⟩)]⟩
  | _, _ => none
theorem gXfP_sound (L1 : List Ro) : FunSound Try.prog 21 (gXfP (gR L1) flN0 L1) := by
  refine gXf_sound.short fun args sub κ r h => ?_
  unfold gXfP at h
  unfold gXf
  split at h
  · rename_i x n b s p v w a
    split at h
    · rename_i hc
      rw [Bool.and_eq_true] at hc
      simp only [hc.1]
      rw [show flushL x (rowsN n s p v w a) = L1 from isQ_spec hc.2]
      exact h
    · cases h
  · exact h
  · cases h
end Go.Proofs.Ytnloobnpgkpbhaa.Wlk
