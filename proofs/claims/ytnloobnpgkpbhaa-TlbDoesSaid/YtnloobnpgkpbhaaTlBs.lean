/- Short names that the laws share. -/
import Derived.Test.YtnloobnpgkpbhaaTlM
set_option linter.unusedVariables false
set_option linter.unusedSimpArgs false
set_option maxRecDepth 100000
namespace Go.Proofs.Ytnloobnpgkpbhaa.Wlk
open Go Go.Eng Go.Proofs Go.RowKit
abbrev vS0 (n : Nat) : AV := .e (.c (.slice ⟨0, 0, 1, 0, 0, 0, 0⟩ 1 n 0 false))
abbrev vS1 (n : Nat) : AV := .e (.c (.slice ⟨1, 0, 1, 0, 0, 0, 0⟩ 1 n 0 false))
abbrev vPt (id : Nat) : AV := .e (.c (.ptr ⟨id, 0, 0, 0, 0, 0, 0⟩))
abbrev bR1 (l : List Int) : Bool × Option Block := (false, some ⟨true, .rows [.ints .i64 l]⟩)
abbrev bT (id n e : Nat) : Bool × Option Block := (true, some ⟨false, .mix [.slice ⟨id, 0, 5, 0, 0, 0, 0⟩ 5 n e false]⟩)
abbrev bT0 : Bool × Option Block := (true, some ⟨false, .mix [.nils]⟩)
abbrev bC5 (s p : List Int) (v w : List Bool) (a : List Int) : Bool × Option Block := (true, kB s p v w a)
theorem bsame {α : Type} (c : Bool) (a : α) : cond c a a = a := by cases c <;> rfl
abbrev wr_ (b : Bool) : AV := .e (.c (.bool b))
theorem bne_same {a b : Int} (h : a = b) : (a != b) = false := by simp [h]
abbrev bM (id m c : Nat) : Bool × Option Block := (true, some ⟨false, .mix [.slice ⟨id, 0, 1, 0, 0, 0, 0⟩ 1 m c true]⟩)
abbrev bW (ws : List Int) : Bool × Option Block := (true, some ⟨false, .rows [.ints .u64 ws]⟩)
abbrev bRw (l : List Int) : Bool × Option Block := (false, some ⟨true, .rows [.ints .u64 l]⟩)
abbrev bOp (k s d a : List Int) (w ev ew : List Bool) (ea v : List Int) : Bool × Option Block := (false, some ⟨true, .rows [.ints .i64 k, .ints .i64 s, .ints .i64 d, .ints .i64 a, .bools w, .bools ev, .bools ew, .ints .i64 ea, .ints .u64 v]⟩)
abbrev bO (b : Option Block) : Bool × Option Block := (false, b)
def allI (l : List Int) : Bool := l.all inI
theorem getD_allI {l : List Int} (h : allI l = true) (i : Nat) : inI (l.getD i 0) = true := by
  rw [List.getD_eq_getElem?_getD]
  cases e : l[i]? with
  | none => rfl
  | some x =>
    simp only [allI, List.all_eq_true] at h
    exact h x (List.mem_of_getElem? e)
abbrev bCL (L : List Ro) (e : Nat) : Bool × Option Block := bC5 (cS L e) (cP L e) (cV L e) (cW L e) (cA L e)
theorem fill_len (x y : Int) (v w : Bool) (a : Int) (L : List Ro) : (fillL x y v w a L).length = if 8 < (dropL x y L).length + 1 then (dropL x y L).length else (dropL x y L).length + 1 := by
  unfold fillL addL
  split
  · rw [List.length_drop, List.length_append]; simp
  · rw [List.length_append]; simp
end Go.Proofs.Ytnloobnpgkpbhaa.Wlk
