/- Slices of structs of structs that came in, by columns. -/
import Derived.Test.YtanchmbopllimaaEngG
set_option linter.unusedVariables false
set_option linter.unusedSimpArgs false
namespace Go.Eng
open Go Go.RowKit Go.ChangeShapes Go.WideShapes Go.Deep
variable {H : Type} {enc : TypeId × Value → H} {P : Program} {w : World} {base : Nat} {spare : Nat → Bool} {held : Bool}
def flatFs (F : TypeId → Option (List FK)) (P : Program) : Nat → List Field → Option (List FK)
  | _, [] => some []
  | off, f :: r => match F f.type with
    | some l => if f.offset = off ∧ P.cellsOf f.type = l.length then (flatFs F P (off + l.length) r).map (l ++ ·) else none
    | none => none
/-- A type's cells: whole numbers and truths. -/
def flatT (P : Program) : Nat → TypeId → Option (List FK)
  | 0, _ => none
  | n + 1, t => match P.underlying t with
    | some (.int k) => some [.int k]
    | some .bool => some [.bool]
    | some (.struct fs) => flatFs (flatT P n) P 0 fs.toList
    | _ => none
theorem flatFs_get {F : TypeId → Option (List FK)} : ∀ {r : List Field} {off : Nat} {m : List FK}, flatFs F P off r = some m → ∀ (j : Nat) (k : FK), m[j]? = some k →
    ∃ (i : Nat) (f : Field) (l : List FK) (j' : Nat), r[i]? = some f ∧ F f.type = some l ∧ P.cellsOf f.type = l.length ∧ l[j']? = some k ∧ f.offset + j' = off + j
  | [], off, m, h, j, k, hk => by simp [flatFs] at h; subst h; simp at hk
  | f :: r, off, m, h, j, k, hk => by
    simp only [flatFs] at h
    split at h
    · rename_i l hl
      split at h
      · rename_i hc
        obtain ⟨m', hm', rfl⟩ := Option.map_eq_some_iff.1 h
        rcases Nat.lt_or_ge j l.length with hj | hj
        · rw [List.getElem?_append_left hj] at hk
          exact ⟨0, f, l, j, rfl, hl, hc.2, hk, by rw [hc.1]⟩
        · rw [List.getElem?_append_right hj] at hk
          obtain ⟨i, f', l', j', h1, h2, h3, h4, h5⟩ := flatFs_get hm' (j - l.length) k hk
          exact ⟨i + 1, f', l', j', by simpa using h1, h2, h3, h4, by omega⟩
      · cases h
    · cases h
theorem trod_flat : ∀ (n : Nat) {t : TypeId} {cs : List Value} {fuel : Nat} {x : DataW H × List MemPlace} {ks : List FK}, flatT P n t = some ks → DataW.trod enc P w base spare held fuel t cs = some x → ∀ (j : Nat) (k : FK), ks[j]? = some k → ∃ v, cs[j]? = some v ∧ k.ok v
  | 0, t, cs, fuel, x, ks, h, _, _, _, _ => by simp [flatT] at h
  | n + 1, t, cs, fuel, x, ks, h, hx, j, k, hk => by
    simp only [flatT] at h
    split at h
    · rename_i kk hu
      injection h with h
      subst h
      obtain ⟨m, e1, _, e2⟩ := DataW.trod_int hu hx
      subst e1
      cases j with
      | zero =>
        simp at hk
        subst hk
        exact ⟨_, rfl, m, rfl, e2⟩
      | succ j => simp at hk
    · rename_i hu
      injection h with h
      subst h
      obtain ⟨m, e1, _⟩ := DataW.trod_bool hu hx
      subst e1
      cases j with
      | zero =>
        simp at hk
        subst hk
        exact ⟨_, rfl, m, rfl⟩
      | succ j => simp at hk
    · rename_i fs hu
      obtain ⟨xs, n', _, _, _, hxs, hfs⟩ := DataW.trod_struct hu hx
      obtain ⟨i, f, l, j', h1, h2, h3, h4, h5⟩ := flatFs_get h j k hk
      have hfj := hfs i f (by rw [← Array.getElem?_toList]; exact h1)
      have hxi : ∃ y, xs[i]? = some y := by
        have : i < xs.length := by
          rw [hxs]
          have := (List.getElem?_eq_some_iff.1 h1).1
          simpa using this
        exact ⟨xs[i], List.getElem?_eq_getElem this⟩
      obtain ⟨y, hy⟩ := hxi
      rw [hy] at hfj
      obtain ⟨v, g1, g2⟩ := trod_flat n h2 hfj j' k h4
      refine ⟨v, ?_, g2⟩
      rw [List.getElem?_take] at g1
      split at g1
      · rw [List.getElem?_drop] at g1
        rw [← g1]; congr 1; omega
      · cases g1
    · cases h
theorem grid_nest {t e : TypeId} {fuel n : Nat} {ks : List FK} {a : Option Addr} {len cap : Nat} {x : DataW H × List MemPlace} (ht : P.underlying t = some (.slice e)) (hc : P.cellsOf e = ks.length)
    (hf : flatT P n e = some ks) (h : DataW.trod enc P w base (fun _ => true) held fuel t [.slice a len cap] = some x) : IsGrid ks w a len cap := by
  rcases open_slice ht h with ⟨h0, _⟩ | ⟨b, l, c, m, n', D, Pl, h0, hb, hl, hm, hmm, _, hel⟩
  · simp at h0
    obtain ⟨rfl, rfl, rfl⟩ := h0
    exact .inl ⟨rfl, rfl, rfl⟩
  · simp at h0
    obtain ⟨rfl, rfl, rfl⟩ := h0
    simp only [if_true] at hmm
    subst hmm
    refine .inr ⟨b, rfl, hl, hm, fun i hi j k hk => ?_⟩
    obtain ⟨cs, h1, h2⟩ := hel i hi
    have hj : j < ks.length := (List.getElem?_eq_some_iff.1 hk).1
    rw [hc] at h1
    obtain ⟨g1, g2⟩ := cells_get h1 hj
    obtain ⟨v, e1, e2⟩ := trod_flat n hf h2 j k hk
    rw [add_add] at g1
    exact ⟨v, by rw [g1]; exact e1, e2⟩
end Go.Eng
