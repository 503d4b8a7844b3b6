/- Run of an instruction, the sum being any function: so that it stays closed where it is not asked for. -/
import Derived.Test.YtiodjfgdglakkaaCOne
set_option linter.unusedVariables false
set_option linter.unusedSimpArgs false
set_option maxRecDepth 100000
namespace Go.Proofs.Ytiodjfgdglakkaa.Wlk
open Go Go.Eng Go.Proofs Go.RowKit
abbrev VF := Int → Int → Int → Int → Int
def cellV (V : VF) (op a x y m : Int) (i : Nat) (r : Int) : Int := if wrs op = true then (if Int.toNat a = i then V op x y m else r) else r
def okXYV (V : VF) (op a m pc r0 r1 r2 r3 r4 r5 r6 r7 x y : Int) : Res :=
  ⟨.tup [.agg [.int .u64 (cellV V op a x y m 0 r0), .int .u64 (cellV V op a x y m 1 r1), .int .u64 (cellV V op a x y m 2 r2), .int .u64 (cellV V op a x y m 3 r3), .int .u64 (cellV V op a x y m 4 r4), .int .u64 (cellV V op a x y m 5 r5), .int .u64 (cellV V op a x y m 6 r6), .int .u64 (cellV V op a x y m 7 r7),
    .int .i64 (pcR op x y m pc), .int .i64 (asksR op), .int .u64 (atR op y m), .int .i64 (regR op a), .int .u64 (valueR op x m)], .c (.int .i64 0)], []⟩
def okRV (V : VF) (op a b m r0 r1 r2 r3 r4 r5 r6 r7 pc : Int) : Res :=
  okXYV V op a m pc r0 r1 r2 r3 r4 r5 r6 r7 (List.getD [r0, r1, r2, r3, r4, r5, r6, r7] (Int.toNat a) 0) (List.getD [r0, r1, r2, r3, r4, r5, r6, r7] (Int.toNat b) 0)
def gRunV (V : VF) : Fun := fun args sub κ => match args, sub with
  | [.e (.agg [.int .i64 op, .int .i64 a, .int .i64 b, .int .i64 m]), .e (.agg [.int .u64 r0, .int .u64 r1, .int .u64 r2, .int .u64 r3, .int .u64 r4, .int .u64 r5, .int .u64 r6, .int .u64 r7]), .e (.c (.int .i64 pc))], [] =>
    match inI op && inI a && inI b && inI m && inI pc && words [r0, r1, r2, r3, r4, r5, r6, r7] with
    | true => match packOk op a b m && place pc with
      | true => κ (okRV V op a b m r0 r1 r2 r3 r4 r5 r6 r7 pc)
      | false => none
    | false => none
  | _, _ => none
theorem gRunV_eq : gRunV valR = gRunOk := by
  funext args sub κ
  unfold gRunV gRunOk
  rfl
theorem gRunV_sound : FunSound Try.prog 16 (gRunV valR) := by rw [gRunV_eq]; exact gRunOk_sound
noncomputable def sV (V : VF) : Summ := sAdd sQ 16 (gRunV V)
theorem sV_ok : SummOk Try.prog (sV valR) := sAdd_ok sQ_ok gRunV_sound (enters Try.func16 rfl (by kernel_rfl))
noncomputable def sG (V : VF) : Summ := sAdd (sV V) 20 (runG Try.prog (sV V) 100 20)
theorem sG_ok : SummOk Try.prog (sG valR) := sAdd_ok sV_ok (runG_sound sV_ok mix _ _) (enters Try.func20 rfl (by kernel_rfl))
end Go.Proofs.Ytiodjfgdglakkaa.Wlk
