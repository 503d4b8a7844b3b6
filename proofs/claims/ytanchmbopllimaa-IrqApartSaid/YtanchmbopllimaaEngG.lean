/- Slices of structs that came in, by columns. -/
import Derived.Test.YtanchmbopllimaaEngN
import Derived.ChangeSlices
import Derived.ChangeArms
import Derived.SizedLaws
import Derived.DataReads
import Derived.Deep.Slices
set_option linter.unusedVariables false
set_option linter.unusedSimpArgs false
namespace Go.Eng
open Go Go.RowKit Go.ChangeShapes Go.WideShapes Go.Deep

inductive FK where
  | int (k : IntKind)
  | bool

def FK.ok : FK → Value → Prop
  | .int k, v => ∃ n, v = .int k n ∧ (Lit.int k n).wf = true
  | .bool, v => ∃ b, v = .bool b

/-- A slice of rows of whole numbers and truths. -/
def IsGrid (ks : List FK) (w : World) (a : Option Addr) (len cap : Nat) : Prop :=
  (a = none ∧ len = 0 ∧ cap = 0) ∨
  ∃ x, a = some x ∧ len ≤ cap ∧ cap ≤ maxLen ∧ ∀ i, i < cap → ∀ (j : Nat) (k : FK), ks[j]? = some k → ∃ v, w.cell? (x.add (i * ks.length + j)) = some v ∧ k.ok v

def intOf : Value → Int
  | .int _ n => n
  | _ => 0
def boolOf : Value → Bool
  | .bool b => b
  | _ => false

def gcell (w : World) (a : Option Addr) (i : Nat) : Value := (a.bind fun x => w.cell? (x.add i)).getD undef
def gridCol (w : World) (a : Option Addr) (m len : Nat) : Nat → FK → Col := fun j k => match k with
  | .int k => .ints k ((List.range len).map fun i => intOf (gcell w a (i * m + j)))
  | .bool => .bools ((List.range len).map fun i => boolOf (gcell w a (i * m + j)))
def gridCols (w : World) (a : Option Addr) (m len : Nat) : Nat → List FK → List Col
  | _, [] => []
  | j, k :: r => gridCol w a m len j k :: gridCols w a m len (j + 1) r

theorem gridCols_len {w : World} {a : Option Addr} {m len : Nat} : ∀ {ks : List FK} {j : Nat}, (gridCols w a m len j ks).length = ks.length
  | [], _ => rfl
  | k :: r, j => by simp [gridCols, gridCols_len]
theorem gridCols_get {w : World} {a : Option Addr} {m len : Nat} : ∀ {ks : List FK} {j i : Nat}, (gridCols w a m len j ks)[i]? = (ks[i]?).map (gridCol w a m len (j + i))
  | [], _, i => by simp [gridCols]
  | k :: r, j, 0 => by simp [gridCols]
  | k :: r, j, i + 1 => by
    simp only [gridCols, List.getElem?_cons_succ]
    rw [gridCols_get, show j + 1 + i = j + (i + 1) from by omega]
theorem gridCol_len {w : World} {a : Option Addr} {m len j : Nat} {k : FK} : (gridCol w a m len j k).len = len := by
  cases k <;> simp [gridCol, Col.len]

theorem range_get {α : Type} {f : Nat → α} {n i : Nat} {y : α} (h : ((List.range n).map f)[i]? = some y) : i < n ∧ y = f i := by
  rw [List.getElem?_map] at h
  rcases Nat.lt_or_ge i n with hi | hi
  · rw [List.getElem?_range hi] at h
    simp at h; exact ⟨hi, h.symm⟩
  · rw [List.getElem?_eq_none (by simpa using hi)] at h; cases h

theorem IsGrid.ok {ks : List FK} {w : World} {a : Option Addr} {len cap : Nat} (h : IsGrid ks w a len cap) (hk : 0 < ks.length) :
    SlOk w ⟨a, len, cap, gridCols w a ks.length len 0 ks⟩ ∧ ∀ (j : Nat) (k : FK), ks[j]? = some k → match k with
      | .int k => ∃ zs, gridCol w a ks.length len j (.int k) = .ints k zs ∧ zs.length = len ∧ ∀ n ∈ zs, (Lit.int k n).wf = true
      | .bool => ∃ bs, gridCol w a ks.length len j .bool = .bools bs ∧ bs.length = len := by
  rcases h with ⟨rfl, rfl, rfl⟩ | ⟨x, rfl, h1, h2, h3⟩
  · refine ⟨⟨fun _ => ⟨rfl, rfl⟩, Nat.le_refl _, by simpa [gridCols_len] using hk, fun j c hj => ?_, fun y hy => by cases hy⟩, fun j k hjk => ?_⟩
    · rw [gridCols_get] at hj
      obtain ⟨k, _, rfl⟩ := Option.map_eq_some_iff.1 hj
      exact gridCol_len
    · cases k with
      | int k => exact ⟨[], rfl, rfl, fun n hn => by cases hn⟩
      | bool => exact ⟨[], rfl, rfl⟩
  · have hv : ∀ i, i < cap → ∀ (j : Nat) (k : FK), ks[j]? = some k → w.cell? (x.add (i * ks.length + j)) = some (gcell w (some x) (i * ks.length + j)) ∧ k.ok (gcell w (some x) (i * ks.length + j)) := by
      intro i hi j k hjk
      obtain ⟨v, e1, e2⟩ := h3 i hi j k hjk
      have : gcell w (some x) (i * ks.length + j) = v := by simp [gcell, e1]
      rw [this]; exact ⟨e1, e2⟩
    refine ⟨⟨fun e => (by cases e), h1, by simpa [gridCols_len] using hk, fun j c hj => ?_, fun y hy hc => ?_⟩, fun j k hjk => ?_⟩
    · rw [gridCols_get] at hj
      obtain ⟨k, _, rfl⟩ := Option.map_eq_some_iff.1 hj
      exact gridCol_len
    · simp only [Option.some.injEq] at hy
      subst hy
      have hc : 0 < cap := hc
      obtain ⟨k0, hk0⟩ : ∃ k0, ks[0]? = some k0 := ⟨ks[0], by rw [List.getElem?_eq_getElem hk]⟩
      have hsp : x.spot = none := by
        have h0 := (hv 0 hc 0 k0 hk0).1
        unfold World.cell? Addr.add at h0
        simp only [Nat.zero_mul, Nat.add_zero, if_true] at h0
        cases hx : x.spot with
        | none => rfl
        | some s =>
          rw [hx] at h0
          simp only [Option.isSome_some, if_true] at h0
          split at h0 <;> cases h0
      have hm : ks.length - 1 < ks.length := by omega
      have hlast := add_spot (hv (cap - 1) (by omega) (ks.length - 1) ks[ks.length - 1] (by rw [List.getElem?_eq_getElem hm])).1 hsp
      refine ⟨hsp, ?_, fun q j hq hj ac hac => ?_⟩
      · unfold World.cell? at hlast
        simp only at hlast
        split at hlast
        · rename_i c t fr hc'
          simp only [Option.isSome_none, Bool.false_eq_true, if_false] at hlast
          refine ⟨c, t, fr, hc', ?_⟩
          have hb : x.off + ((cap - 1) * ks.length + (ks.length - 1)) < c.size := by
            rcases Nat.lt_or_ge (x.off + ((cap - 1) * ks.length + (ks.length - 1))) c.size with h | h
            · exact h
            · rw [Array.getElem?_eq_none h] at hlast; cases hlast
          simp only [gridCols_len]
          have e : (cap - 1) * ks.length + ks.length = cap * ks.length := by
            rw [← Nat.succ_mul]; congr 1; omega
          show x.off + cap * ks.length ≤ c.size
          omega
        · cases hlast
      · simp only [gridCols_len] at hj ⊢
        unfold colsAt at hac
        rw [gridCols_get] at hac
        obtain ⟨c, hc1, hc2⟩ := Option.bind_eq_some_iff.1 hac
        obtain ⟨k, hk1, rfl⟩ := Option.map_eq_some_iff.1 hc1
        obtain ⟨e1, e2⟩ := hv q (Nat.lt_of_lt_of_le hq h1) j k hk1
        refine ⟨_, add_spot e1 hsp, ?_⟩
        cases k with
        | int k =>
          simp only [gridCol, Col.get?, Nat.zero_add, Option.map_eq_some_iff] at hc2
          obtain ⟨n, hn, rfl⟩ := hc2
          obtain ⟨_, rfl⟩ := range_get hn
          obtain ⟨m, hm1, _⟩ := e2
          simp only [CR]; rw [hm1]; rfl
        | bool =>
          simp only [gridCol, Col.get?, Nat.zero_add, Option.map_eq_some_iff] at hc2
          obtain ⟨n, hn, rfl⟩ := hc2
          obtain ⟨_, rfl⟩ := range_get hn
          obtain ⟨m, hm1⟩ := e2
          simp only [CR]; rw [hm1]; rfl
    · cases k with
      | int k =>
        refine ⟨_, rfl, by simp, fun n hn => ?_⟩
        obtain ⟨i, hi⟩ := List.getElem?_of_mem hn
        obtain ⟨hi', rfl⟩ := range_get hi
        obtain ⟨m, hm1, hm2⟩ := (hv i (Nat.lt_of_lt_of_le hi' h1) j _ hjk).2
        rw [hm1]; exact hm2
      | bool => exact ⟨_, rfl, by simp⟩

/- from a row's data -/
variable {H : Type} {enc : TypeId × Value → H} {P : Program} {w : World} {base : Nat} {spare : Nat → Bool} {held : Bool}
def fkOf (P : Program) (t : TypeId) : Option FK := match P.underlying t with
  | some (.int k) => some (.int k)
  | some .bool => some .bool
  | _ => none
def flatOf (P : Program) : List Field → List (Nat × Nat × Option FK)
  | [] => []
  | f :: r => (f.offset, P.cellsOf f.type, fkOf P f.type) :: flatOf P r
def flatKs : Nat → List FK → List (Nat × Nat × Option FK)
  | _, [] => []
  | j, k :: r => (j, 1, some k) :: flatKs (j + 1) r
theorem flatOf_get : ∀ {l : List Field} {j : Nat}, (flatOf P l)[j]? = (l[j]?).map fun f => (f.offset, P.cellsOf f.type, fkOf P f.type)
  | [], j => by simp [flatOf]
  | f :: r, 0 => by simp [flatOf]
  | f :: r, j + 1 => by simp [flatOf, flatOf_get]
theorem flatKs_get : ∀ {l : List FK} {i j : Nat}, (flatKs i l)[j]? = (l[j]?).map fun k => (i + j, 1, some k)
  | [], _, j => by simp [flatKs]
  | f :: r, i, 0 => by simp [flatKs]
  | f :: r, i, j + 1 => by
    simp only [flatKs, List.getElem?_cons_succ]
    rw [flatKs_get, show i + 1 + j = i + (j + 1) from by omega]

theorem cells_get {w : World} {base : Nat} {a : Addr} {n : Nat} {cs : List Value} (h : w.cells? base a n = some cs) {j : Nat} (hj : j < n) : w.cell? (a.add j) = cs[j]? ∧ cs.length = n := by
  unfold World.cells? at h
  split at h
  · have h1 := mapM_some_length h
    have h2 := mapM_some_get h j j (by rw [List.getElem?_range hj])
    exact ⟨h2, by simpa using h1⟩
  · cases h

theorem grid_of {t e : TypeId} {fuel : Nat} {fs : Array Field} {ks : List FK} {a : Option Addr} {len cap : Nat} {x : DataW H × List MemPlace} (ht : P.underlying t = some (.slice e)) (he : P.underlying e = some (.struct fs)) (hc : P.cellsOf e = ks.length)
    (hf : flatOf P fs.toList = flatKs 0 ks) (h : DataW.trod enc P w base (fun _ => true) held fuel t [.slice a len cap] = some x) : IsGrid ks w a len cap := by
  rcases open_slice ht h with ⟨h0, _⟩ | ⟨b, l, c, m, n, D, Pl, h0, hb, hl, hm, hmm, _, hel⟩
  · simp at h0
    obtain ⟨rfl, rfl, rfl⟩ := h0
    exact .inl ⟨rfl, rfl, rfl⟩
  · simp at h0
    obtain ⟨rfl, rfl, rfl⟩ := h0
    simp only [if_true] at hmm
    subst hmm
    refine .inr ⟨b, rfl, hl, hm, fun i hi j k hk => ?_⟩
    obtain ⟨cs, h1, h2⟩ := hel i hi
    have hj : j < ks.length := (List.getElem?_eq_some_iff.1 hk).1
    rw [hc] at h1
    obtain ⟨g1, g2⟩ := cells_get h1 hj
    obtain ⟨xs, n', _, _, _, hxs, hfs⟩ := DataW.trod_struct he h2
    have hfl := congrArg (fun l => l[j]?) hf
    simp only [flatOf_get, flatKs_get, hk, Option.map_some, Nat.zero_add] at hfl
    obtain ⟨f, hf1, hf2⟩ := Option.map_eq_some_iff.1 hfl
    simp only [Prod.mk.injEq] at hf2
    obtain ⟨o1, o2, o3⟩ := hf2
    have hfj := hfs j f (by rw [← Array.getElem?_toList]; exact hf1)
    rw [o1, o2] at hfj
    have hxj : ∃ y, xs[j]? = some y := by
      have : j < xs.length := by
        rw [hxs]
        have := (List.getElem?_eq_some_iff.1 hf1).1
        simpa using this
      exact ⟨xs[j], List.getElem?_eq_getElem this⟩
    obtain ⟨y, hy⟩ := hxj
    rw [hy] at hfj
    have hcj : j < cs.length := by omega
    have htk : (cs.drop j).take 1 = [cs[j]] := by
      rw [List.drop_eq_getElem_cons hcj, List.take_succ_cons, List.take_zero]
    rw [htk] at hfj
    have hcell : w.cell? ((b.add (i * ks.length)).add j) = some cs[j] := by rw [g1, List.getElem?_eq_getElem hcj]
    rw [add_add] at hcell
    refine ⟨cs[j], hcell, ?_⟩
    unfold fkOf at o3
    split at o3
    · rename_i kk hu
      injection o3 with o3
      subst o3
      obtain ⟨m, e1, _, e2⟩ := DataW.trod_int hu hfj
      exact ⟨m, List.head_eq_of_cons_eq e1, e2⟩
    · rename_i hu
      injection o3 with o3
      subst o3
      obtain ⟨m, e1, _⟩ := DataW.trod_bool hu hfj
      exact ⟨m, List.head_eq_of_cons_eq e1⟩
    · cases o3
theorem sized_grid {t e : TypeId} {fuel : Nat} {a : Option Addr} {len cap : Nat} {d : DataW H} {ps : List MemPlace} {ts : List TypeId} {ds : List (DataW H)} {j B : Nat} (hsz : (DataW.weightsEach P ts ds).all (· ≤ reachBytes) = true) (ht : ts[j]? = some t) (hd : ds[j]? = some d)
    (hu : P.underlying t = some (.slice e)) (hB : P.bytesOf e = B) (h : DataW.trod enc P w base spare held fuel t [.slice a len cap] = some (d, ps)) : len * B ≤ 140737488351232 := by
  rcases open_slice hu h with ⟨h0, _⟩ | ⟨b, l, c, m, n, D, Pl, h0, hb, hl, hm, hmm, hx, hel⟩
  · simp at h0
    obtain ⟨rfl, rfl, rfl⟩ := h0
    simp
  · simp at h0
    obtain ⟨rfl, rfl, rfl⟩ := h0
    injection hx with hx _
    subst hx
    have z := sized_slice hsz ht hd hu
    rw [hB] at z
    simp only [List.length_map, List.length_range] at z
    have : len * B ≤ (len + (m - len)) * B := Nat.mul_le_mul_right _ (by omega)
    have r : reachBytes = 140737488351232 := by decide
    omega
end Go.Eng
