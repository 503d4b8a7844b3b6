/- What comes of an instruction, the sum being any function. -/
import Derived.Test.YtiodjfgdglakkaaCLaws
set_option linter.unusedVariables false
set_option linter.unusedSimpArgs false
set_option maxRecDepth 100000
namespace Go.Proofs.Ytiodjfgdglakkaa.Wlk
open Go Go.Eng Go.Proofs Go.RowKit
abbrev VF := Int → Int → Int → Int → Int
def cellV (V : VF) (op a x y m : Int) (i : Nat) (r : Int) : Int := if wrs op = true then (if Int.toNat a = i then V op x y m else r) else r
def okXYV (V : VF) (op a m pc r0 r1 r2 r3 r4 r5 r6 r7 x y : Int) : Res :=
  ⟨.tup [.agg [.int .u64 (cellV V op a x y m 0 r0), .int .u64 (cellV V op a x y m 1 r1), .int .u64 (cellV V op a x y m 2 r2), .int .u64 (cellV V op a x y m 3 r3), .int .u64 (cellV V op a x y m 4 r4), .int .u64 (cellV V op a x y m 5 r5), .int .u64 (cellV V op a x y m 6 r6), .int .u64 (cellV V op a x y m 7 r7),
    .int .i64 (pcR op x y m pc), .int .i64 (asksR op), .int .u64 (atR op y m), .int .i64 (regR op a), .int .u64 (valueR op x m)], .c (.int .i64 0)], []⟩
def okRV (V : VF) (op a b m r0 r1 r2 r3 r4 r5 r6 r7 pc : Int) : Res :=
  okXYV V op a m pc r0 r1 r2 r3 r4 r5 r6 r7 (List.getD [r0, r1, r2, r3, r4, r5, r6, r7] (Int.toNat a) 0) (List.getD [r0, r1, r2, r3, r4, r5, r6, r7] (Int.toNat b) 0)
end Go.Proofs.Ytiodjfgdglakkaa.Wlk
