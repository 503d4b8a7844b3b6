/- Laws of walks: tables. -/
import Derived.Test.YtplinjjleenomaaMade
set_option linter.unusedVariables false
set_option linter.unusedSimpArgs false
set_option maxRecDepth 100000
namespace Go.Proofs.Ytplinjjleenomaa.Wlk
open Go Go.Eng Go.Proofs Go.RowKit
def gLoadV (L : LF) (E : TF) : Fun := fun args sub κ => match args, sub with
  | [.e (.c (.ptr ⟨0, 0, 0, 0, 0, 0, 0⟩)), .e (.c (.int .i64 d)), .e (.c (.int .i64 a))], [some ⟨false, .mix [.slice ⟨1, 0, 1, 0, 0, 0, 0⟩ 1 n x true]⟩, some ⟨false, .rows [.ints .u64 ws]⟩] => match okM n ws && inI d && inI a && allW ws with
    | true => κ ⟨.tup [.c (.int .u64 (L ws d a)), .c (.int .i64 (E ws d a false))], [none, none]⟩
    | false => none
  | _, _ => none
def gStoreV (S : List Int → Int → Int → Int → List Int) (E : TF) : Fun := fun args sub κ => match args, sub with
  | [.e (.c (.ptr ⟨0, 0, 0, 0, 0, 0, 0⟩)), .e (.c (.int .i64 d)), .e (.c (.int .i64 a)), .e (.c (.int .u64 v))], [some ⟨false, .mix [.slice ⟨1, 0, 1, 0, 0, 0, 0⟩ 1 n x true]⟩, some ⟨false, .rows [.ints .u64 ws]⟩] => match okM n ws && inI d && inI a && allW ws with
    | true => κ ⟨.e (.c (.int .i64 (E ws d a true))), [some (some ⟨false, .mix [.slice ⟨1, 0, 1, 0, 0, 0, 0⟩ 1 n x true]⟩), some (some ⟨false, .rows [.ints .u64 (S ws d a v)]⟩)]⟩
    | false => none
  | _, _ => none
theorem gLoad_eq : gLoadV ldV toE = gLoad := by
  funext args sub κ; unfold gLoadV gLoad; rfl
theorem gStore_eq : gStoreV stW toE = gStore := by
  funext args sub κ; unfold gStoreV gStore; rfl
noncomputable def sWk (T U : TF) (PV PW : LB) (PA PE : LF) (L : LF) (S : List Int → Int → Int → Int → List Int) : Summ :=
  sAdd (sAdd (sAdd (sAdd (sAdd (sAdd (sAdd (sAdd (sAdd (sAdd (sAdd (sAdd (sAdd (sAdd sNil 10 gNew) 11 gPut) 22 gGet) 9 (gToV T U)) 14 (gToV T U)) 12 (gPageV PV PW PA PE)) 13 (gPageV PV PW PA PE)) 18 (gLoadV L U)) 19 (gLoadV L U)) 16 (gStoreV S U)) 17 (gStoreV S U)) 21 gWords) 20 gSame) 15 (runG Try.prog sNil 100 15)
theorem sWk_ok : SummOk Try.prog (sWk toA toE pgV pgW pgA pgE ldV stW) := by
  have l1 : FunSound Try.prog 18 (gLoadV ldV toE) := by rw [gLoad_eq]; exact gLoad_sound
  have l2 : FunSound Try.prog 19 (gLoadV ldV toE) := by rw [gLoad_eq]; exact gRefLoad_sound
  have l3 : FunSound Try.prog 16 (gStoreV stW toE) := by rw [gStore_eq]; exact gStore_sound
  have l4 : FunSound Try.prog 17 (gStoreV stW toE) := by rw [gStore_eq]; exact gRefStore_sound
  exact sAdd_ok (sAdd_ok (sAdd_ok (sAdd_ok (sAdd_ok (sAdd_ok (sAdd_ok (sAdd_ok (sAdd_ok (sAdd_ok (sAdd_ok (sAdd_ok (sAdd_ok (sAdd_ok sNil_ok gNew_sound (enters Try.func10 rfl (by kernel_rfl))) gPut_sound (enters Try.func11 rfl (by kernel_rfl))) gGet_sound (enters Try.func22 rfl (by kernel_rfl))) gTo_sound (enters Try.func9 rfl (by kernel_rfl))) gRefTo_sound (enters Try.func14 rfl (by kernel_rfl))) gPage_sound (enters Try.func12 rfl (by kernel_rfl))) gRefPage_sound (enters Try.func13 rfl (by kernel_rfl))) l1 (enters Try.func18 rfl (by kernel_rfl))) l2 (enters Try.func19 rfl (by kernel_rfl))) l3 (enters Try.func16 rfl (by kernel_rfl))) l4 (enters Try.func17 rfl (by kernel_rfl))) gWords_sound (enters Try.func21 rfl (by kernel_rfl))) gSame_sound (enters Try.func20 rfl (by kernel_rfl))) (runG_sound sNil_ok mix _ _) (enters Try.func15 rfl (by kernel_rfl))
def gWorks : Fun := fun args sub κ => match args, sub with
  | [], [] => κ ⟨.e (.c (.bool true)), []⟩
  | _, _ => none
theorem t_works (k : Res → Option Res) : runG Try.prog (sWk toA toE pgV pgW pgA pgE ldV stW) 200 7 [] [] k = k ⟨.e (.c (.bool true)), []⟩ := by kernel_rfl
theorem gWorks_sound : FunSound Try.prog 7 gWorks := by
  refine (runG_sound sWk_ok mix 200 7).short fun args sub κ r h => ?_
  unfold gWorks at h
  split at h
  · exact (t_works κ).trans h
  · cases h
theorem t_made (n : Int) (vl : Nat) (l : List Int) (k : Res → Option Res) : runLG Try.prog sMk lMade 1 100 8 [aint .i64 n, .e (.c (.slice ⟨0, 0, 1, 0, 0, 0, 0⟩ 1 vl 0 false))] [some ⟨true, .rows [.ints .u64 l]⟩] k = (cond (Go.Proofs.Ytplinjjleenomaa.Wlk.newOk (IntKind.wrap IntKind.i64 (64 + IntKind.wrap IntKind.i64 (Int.tmod (IntKind.wrap IntKind.u64 n) 256)))) (cond (Go.Proofs.Ytplinjjleenomaa.Wlk.newOk (IntKind.wrap IntKind.i64 (64 + IntKind.wrap IntKind.i64 (Int.tmod (IntKind.wrap IntKind.u64 n) 256)))) (cond (true && decide (IntKind.wrap IntKind.i64 (64 + IntKind.wrap IntKind.i64 (Int.tmod (IntKind.wrap IntKind.u64 n) 256)) = (↑(Int.toNat (IntKind.wrap IntKind.i64 (64 + IntKind.wrap IntKind.i64 (Int.tmod (IntKind.wrap IntKind.u64 n) 256)))) : Int)) && Nat.beq (Int.toNat (IntKind.wrap IntKind.i64 (64 + IntKind.wrap IntKind.i64 (Int.tmod (IntKind.wrap IntKind.u64 n) 256)))) (Int.toNat (IntKind.wrap IntKind.i64 (64 + IntKind.wrap IntKind.i64 (Int.tmod (IntKind.wrap IntKind.u64 n) 256)))) && Nat.beq (Int.toNat (IntKind.wrap IntKind.i64 (64 + IntKind.wrap IntKind.i64 (Int.tmod (IntKind.wrap IntKind.u64 n) 256)))) (List.length (List.replicate (Int.toNat (IntKind.wrap IntKind.i64 (64 + IntKind.wrap IntKind.i64 (Int.tmod (IntKind.wrap IntKind.u64 n) 256)))) (0 : Int))) && decide (List.replicate (Int.toNat (IntKind.wrap IntKind.i64 (64 + IntKind.wrap IntKind.i64 (Int.tmod (IntKind.wrap IntKind.u64 n) 256)))) (0 : Int) = List.replicate (Int.toNat (IntKind.wrap IntKind.i64 (64 + IntKind.wrap IntKind.i64 (Int.tmod (IntKind.wrap IntKind.u64 n) 256)))) (0 : Int)) && decide (List.length (List.replicate (Int.toNat (IntKind.wrap IntKind.i64 (64 + IntKind.wrap IntKind.i64 (Int.tmod (IntKind.wrap IntKind.u64 n) 256)))) (0 : Int)) ≤ 65536) && Nat.beq vl (List.length l) && decide (List.length l < 4611686018427387904)) (k (Res.mk (AV.tup [(AE.c (AC.ptr (Loc.mk 1 0 0 0 0 0 0))), (AE.c (AC.ptr (Loc.mk 2 0 0 0 0 0 0))), (AE.c (AC.bool true))]) [(none), (some (some (Block.mk false (Data.mix [(AC.slice (Loc.mk 3 0 1 0 0 0 0) 1 (Int.toNat (IntKind.wrap IntKind.i64 (64 + IntKind.wrap IntKind.i64 (Int.tmod (IntKind.wrap IntKind.u64 n) 256)))) 0 true)])))), (some (some (Block.mk false (Data.mix [(AC.slice (Loc.mk 4 0 1 0 0 0 0) 1 (Int.toNat (IntKind.wrap IntKind.i64 (64 + IntKind.wrap IntKind.i64 (Int.tmod (IntKind.wrap IntKind.u64 n) 256)))) 0 true)])))), (some (some (Block.mk false (Data.rows [(Col.ints (IntKind.u64) (Go.Proofs.Ytplinjjleenomaa.Wlk.putsF l (List.length (List.replicate (Int.toNat (IntKind.wrap IntKind.i64 (64 + IntKind.wrap IntKind.i64 (Int.tmod (IntKind.wrap IntKind.u64 n) 256)))) (0 : Int))) 0 (List.replicate (Int.toNat (IntKind.wrap IntKind.i64 (64 + IntKind.wrap IntKind.i64 (Int.tmod (IntKind.wrap IntKind.u64 n) 256)))) (0 : Int))))])))), (some (some (Block.mk false (Data.rows [(Col.ints (IntKind.u64) (Go.Proofs.Ytplinjjleenomaa.Wlk.putsF l (List.length (List.replicate (Int.toNat (IntKind.wrap IntKind.i64 (64 + IntKind.wrap IntKind.i64 (Int.tmod (IntKind.wrap IntKind.u64 n) 256)))) (0 : Int))) 0 (List.replicate (Int.toNat (IntKind.wrap IntKind.i64 (64 + IntKind.wrap IntKind.i64 (Int.tmod (IntKind.wrap IntKind.u64 n) 256)))) (0 : Int))))]))))])) none) none) (cond (Go.Proofs.Ytplinjjleenomaa.Wlk.newOk (IntKind.wrap IntKind.i64 (64 + IntKind.wrap IntKind.i64 (Int.tmod (IntKind.wrap IntKind.u64 n) 256)))) (k (Res.mk (AV.tup [(AE.c (AC.nilp)), (AE.c (AC.ptr (Loc.mk 1 0 0 0 0 0 0))), (AE.c (AC.bool false))]) [(none), (some (some (Block.mk false (Data.mix [(AC.slice (Loc.mk 2 0 1 0 0 0 0) 1 (Int.toNat (IntKind.wrap IntKind.i64 (64 + IntKind.wrap IntKind.i64 (Int.tmod (IntKind.wrap IntKind.u64 n) 256)))) 0 true)])))), (some (some (Block.mk false (Data.rows [(Col.ints (IntKind.u64) (List.replicate (Int.toNat (IntKind.wrap IntKind.i64 (64 + IntKind.wrap IntKind.i64 (Int.tmod (IntKind.wrap IntKind.u64 n) 256)))) (0 : Int)))]))))])) (k (Res.mk (AV.tup [(AE.c (AC.nilp)), (AE.c (AC.nilp)), (AE.c (AC.bool false))]) [(none)])))) := by kernel_rfl
theorem gMade_sound : FunSound Try.prog 8 gMade := by
  refine (runL_sound sMk_ok mix 100 8 made_dis lMade_for).gc.short fun args sub κ r h => ?_
  unfold gMade gMadeV at h
  split at h
  · rename_i n vl l
    split at h
    · rename_i hc
      simp only [Bool.and_eq_true, decide_eq_true_eq] at hc
      have hv := Nat.eq_of_beq_eq_true hc.1
      subst hv
      refine (t_made n l.length l κ).trans ?_
      have hN : IntKind.wrap IntKind.i64 (64 + IntKind.wrap IntKind.i64 (Int.tmod (IntKind.wrap IntKind.u64 n) 256)) = (mdN n : Int) := by
        rw [wrap_u64_emod, Int.tmod_eq_emod_of_nonneg (by omega), wrap_i64 (n := n % 18446744073709551616 % 256) (by omega) (by omega), wrap_i64 (by omega) (by omega)]
        unfold mdN; omega
      rw [hN]
      have hq := mdN_in n
      have f0 : newOk (mdN n : Int) = true := by
        have : (64 : Int) ≤ mdN n ∧ (mdN n : Int) ≤ 65536 := by omega
        simp [newOk, this]
      have g1 : decide (mdN n ≤ 65536) = true := decide_eq_true (by omega)
      have g2 : decide (l.length < 4611686018427387904) = true := decide_eq_true hc.2
      simp only [Int.toNat_natCast, List.length_replicate, f0, g1, g2, Nat.beq_refl, decide_true, Bool.and_self, cond_true]
      exact h
    · cases h
  · cases h
noncomputable def sWl (N : Int → Nat) (M : Int → List Int → List Int) (T U : TF) (PV PW : LB) (PA PE : LF) (L : LF) (S : List Int → Int → Int → Int → List Int) : Summ := sAdd (sAdd (sWk T U PV PW PA PE L S) 7 gWorks) 8 (gMadeV N M)
theorem sWl_ok : SummOk Try.prog (sWl mdN mdW toA toE pgV pgW pgA pgE ldV stW) := sAdd_ok (sAdd_ok sWk_ok gWorks_sound (enters Try.func7 rfl (by kernel_rfl))) gMade_sound (enters Try.func8 rfl (by kernel_rfl))
end Go.Proofs.Ytplinjjleenomaa.Wlk
