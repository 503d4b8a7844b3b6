/- What is kept: nothing yet, or rows with room. -/
import Derived.Test.YtnloobnpgkpbhaaTtE
set_option linter.unusedVariables false
set_option linter.unusedSimpArgs false
set_option maxRecDepth 100000
namespace Go.Proofs.Ytnloobnpgkpbhaa.Wlk
open Go Go.Eng Go.Proofs Go.RowKit
/-- What is kept: nothing yet, or rows with room behind them. -/
abbrev Ts := Option (List Ro × Nat)
def rowsO : Ts → List Ro
  | none => []
  | some (L, _) => L
def roomO : Ts → Nat
  | none => 0
  | some (_, e) => e
structure InvW (L : List Ro) (e : Nat) : Prop where
  len : L.length ≤ 8
  room : L.length + e ≤ 16
theorem InvW.fill {L : List Ro} {e : Nat} (h : InvW L e) (x y : Int) (v w : Bool) (a : Int) : InvW (fillL x y v w a L) (fillX x y L e) := by
  have hd := drop_le x y L
  have := h.len
  have := h.room
  refine ⟨?_, ?_⟩
  · rw [fill_len]; split <;> omega
  · rw [fill_len]
    unfold fillX addX
    split <;> omega
theorem InvW.drop {L : List Ro} {e : Nat} (h : InvW L e) (x y : Int) : InvW (dropL x y L) (e + (L.length - (dropL x y L).length)) := by
  have := drop_le x y L
  have := h.len
  have := h.room
  exact ⟨by omega, by omega⟩
theorem InvW.flush {L : List Ro} {e : Nat} (h : InvW L e) (c : Int) : InvW (flushL c L) (e + (L.length - (flushL c L).length)) := by
  have := flush_le c L
  have := h.len
  have := h.room
  exact ⟨by omega, by omega⟩
def InvO : Ts → Prop
  | none => True
  | some (L, e) => InvW L e
def stTo (ws : List Int) (sp d a : Int) : Ts → Ts
  | none => if tC ws [] sp d a = true then some (tL ws [] sp d a, 0) else none
  | some (L, e) => if tC ws L sp d a = true then some (tL ws L sp d a, tX L sp a e) else some (L, e)
theorem stTo_none (ws : List Int) (sp d a : Int) : stTo ws sp d a none = if tC ws [] sp d a = true then some (tL ws [] sp d a, 0) else none := rfl
theorem stTo_some (ws : List Int) (sp d a : Int) (L : List Ro) (e : Nat) : stTo ws sp d a (some (L, e)) = if tC ws L sp d a = true then some (tL ws L sp d a, tX L sp a e) else some (L, e) := rfl
theorem tL_nil (ws : List Int) (sp d a : Int) : tL ws [] sp d a = [⟨sp, pgN a, pgV ws d a, pgW ws d a, pgA ws d a⟩] := rfl
theorem InvO.to {ws : List Int} {o : Ts} (h : InvO o) (sp d a : Int) : InvO (stTo ws sp d a o) := by
  cases o with
  | none =>
    rw [stTo_none]
    split
    · show InvW (tL ws [] sp d a) 0
      rw [tL_nil]; exact ⟨by simp, by simp⟩
    · trivial
  | some q =>
    obtain ⟨L, e⟩ := q
    rw [stTo_some]
    split
    · exact InvW.fill h _ _ _ _ _
    · exact h
theorem ag_to {ws : List Int} {o : Ts} {sp d a sp' d' : Int} (hag : agL ws sp' d' (rowsO o) = true) (hd : sp' = sp → d' = d) : agL ws sp' d' (rowsO (stTo ws sp d a o)) = true := by
  cases o with
  | none =>
    rw [stTo_none]
    split
    · rename_i h; exact ag_fill h hag hd
    · exact hag
  | some q =>
    obtain ⟨L, e⟩ := q
    rw [stTo_some]
    split
    · rename_i h; exact ag_fill h hag hd
    · exact hag
theorem inI_wrap (x : Int) : inI (IntKind.wrap IntKind.i64 x) = true := by
  rw [wrap_i64_eq]
  split <;> exact inI_of (by omega) (by omega)
end Go.Proofs.Ytnloobnpgkpbhaa.Wlk
