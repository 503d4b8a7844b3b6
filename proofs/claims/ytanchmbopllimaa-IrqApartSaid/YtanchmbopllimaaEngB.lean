/- A walker of Go functions over data: each operation does what was reckoned. -/
import Derived.Test.YtanchmbopllimaaEngA
import Derived.RowKit3
import Derived.Below
import Derived.Laws.StructEq
import Derived.Laws.Entries
import Derived.Laws.Pointers
import Derived.Laws.Cells
import Derived.Laws.Unary
import Derived.Conc.LoneSelect
import Derived.Conc.LoneSelectN
set_option linter.unusedVariables false
set_option linter.unusedSimpArgs false
namespace Go.Eng
open Go

/- A walker of Go functions over data: what data stand for. -/
/-- Where a block lies: the row, from which cell on, how many cells. -/
structure Pl where
  blk : Nat
  off : Nat
  size : Nat

abbrev Rho := Nat → Option Pl

def LR {α β : Type} (R : α → β → Prop) (l : List α) (m : List β) : Prop :=
  l.length = m.length ∧ ∀ (i : Nat) (a : α), l[i]? = some a → ∃ b, m[i]? = some b ∧ R a b

theorem LR.nil {α β : Type} {R : α → β → Prop} : LR R [] [] := ⟨rfl, fun i a h => by simp at h⟩

theorem LR.cons {α β : Type} {R : α → β → Prop} {a : α} {b : β} {l : List α} {m : List β} (h : R a b) (hl : LR R l m) : LR R (a :: l) (b :: m) := by
  refine ⟨by simp [hl.1], fun i x hx => ?_⟩
  cases i with
  | zero => simp at hx; subst hx; exact ⟨b, rfl, h⟩
  | succ i => simpa using hl.2 i x (by simpa using hx)

theorem LR.nil_inv {α β : Type} {R : α → β → Prop} {m : List β} (h : LR R [] m) : m = [] := by
  have := h.1; simp at this; exact List.eq_nil_of_length_eq_zero this.symm

theorem LR.cons_inv {α β : Type} {R : α → β → Prop} {a : α} {l : List α} {m : List β} (h : LR R (a :: l) m) : ∃ b m', m = b :: m' ∧ R a b ∧ LR R l m' := by
  cases m with
  | nil => have := h.1; simp at this
  | cons b m' =>
    obtain ⟨b', hb, hr⟩ := h.2 0 a rfl
    simp at hb
    subst hb
    exact ⟨_, m', rfl, hr, by have := h.1; simpa using this, fun i x hx => by simpa using h.2 (i + 1) x (by simpa using hx)⟩

theorem LR.mono {α β : Type} {R R' : α → β → Prop} {l : List α} {m : List β} (h : LR R l m) (hr : ∀ a b, R a b → R' a b) : LR R' l m :=
  ⟨h.1, fun i a ha => let ⟨b, hb, h'⟩ := h.2 i a ha; ⟨b, hb, hr _ _ h'⟩⟩

theorem LR.append {α β : Type} {R : α → β → Prop} {l l' : List α} {m m' : List β} (h : LR R l m) (h' : LR R l' m') : LR R (l ++ l') (m ++ m') := by
  refine ⟨by simp [h.1, h'.1], fun i a ha => ?_⟩
  by_cases hi : i < l.length
  · rw [List.getElem?_append_left hi] at ha
    rw [List.getElem?_append_left (h.1 ▸ hi)]
    exact h.2 i a ha
  · rw [List.getElem?_append_right (by omega)] at ha
    rw [List.getElem?_append_right (by have := h.1; omega), ← h.1]
    exact h'.2 _ a ha

theorem LR.set {α β : Type} {R : α → β → Prop} {l : List α} {m : List β} {a : α} {b : β} (h : LR R l m) (n : Nat) (hr : R a b) : LR R (l.set n a) (m.set n b) := by
  refine ⟨by simp [h.1], fun i x hx => ?_⟩
  rw [List.getElem?_set] at hx ⊢
  by_cases e : n = i
  · subst e
    simp only [if_true] at hx ⊢
    by_cases hl : n < l.length
    · simp only [hl, if_true] at hx
      injection hx with hx
      subst hx
      exact ⟨b, by rw [if_pos (h.1 ▸ hl)], hr⟩
    · simp [hl] at hx
  · rw [if_neg e] at hx ⊢
    exact h.2 i x hx

theorem LR.map {α β γ : Type} {R : α → γ → Prop} {f : β → α} {g : β → γ} {l : List β} (h : ∀ x, R (f x) (g x)) : LR R (l.map f) (l.map g) := by
  refine ⟨by simp, fun i a ha => ?_⟩
  simp only [List.getElem?_map, Option.map_eq_some_iff] at ha ⊢
  obtain ⟨x, hx, rfl⟩ := ha
  exact ⟨g x, ⟨x, hx, rfl⟩, h x⟩

theorem LR.take {α β : Type} {R : α → β → Prop} {l : List α} {m : List β} (h : LR R l m) (n : Nat) : LR R (l.take n) (m.take n) := by
  refine ⟨by simp [h.1], fun i a ha => ?_⟩
  rw [List.getElem?_take] at ha ⊢
  split at ha
  · rename_i hi; rw [if_pos hi]; exact h.2 i a ha
  · simp at ha

theorem LR.drop {α β : Type} {R : α → β → Prop} {l : List α} {m : List β} (h : LR R l m) (n : Nat) : LR R (l.drop n) (m.drop n) := by
  refine ⟨by simp [h.1], fun i a ha => ?_⟩
  rw [List.getElem?_drop] at ha ⊢
  exact h.2 _ a ha

def PR (ρ : Rho) (l : Loc) (v : Value) : Prop := ∃ r, ρ l.id = some r ∧ v = .pointer (some ⟨r.blk, r.off + l.flat, none⟩)

/-- What a cell stands for. -/
def CR (ρ : Rho) : AC → Value → Prop
  | .bool b, v => v = .bool b
  | .int k n, v => v = .int k n
  | .str s, v => v = .string s
  | .nilp, v => v = .pointer none
  | .ptr l, v => PR ρ l v
  | .nils, v => v = .slice none 0 0
  | .slice l es len ext nn, v => ∃ ca cap, v = .slice ca len cap ∧ len + ext ≤ cap ∧ (nn = true → ca ≠ none) ∧ (ca = none → cap = 0) ∧
      (0 < cap → ∃ r, ρ l.id = some r ∧ ca = some ⟨r.blk, r.off + l.flat, none⟩ ∧ l.flat + cap * es ≤ r.size)
  | .nilf, v => v = .nilFunc
  | .clos f cs, v => ∃ vs, v = .func (.func f) #[] vs ∧ LR (PR ρ) cs vs.toList
  | .nilc, v => v = .chan none
  | .chan l, v => ∃ r, ρ l.id = some r ∧ v = .chan (some r.blk)

def ER (ρ : Rho) : AE → Value → Prop
  | .c x, v => CR ρ x v
  | .agg l, v => ∃ vs, v = .agg vs ∧ LR (CR ρ) l vs.toList

def AR (ρ : Rho) : AV → Value → Prop
  | .e x, v => ER ρ x v
  | .tup l, v => ∃ vs, v = .tuple vs ∧ LR (ER ρ) l vs.toList
  | .any, _ => True

def le (ρ ρ' : Rho) : Prop := ∀ i r, ρ i = some r → ρ' i = some r

theorem le.refl (ρ : Rho) : le ρ ρ := fun _ _ h => h
theorem le.trans {a b c : Rho} (h : le a b) (h' : le b c) : le a c := fun i r e => h' i r (h i r e)

theorem PR.mono {ρ ρ' : Rho} (h : le ρ ρ') {l : Loc} {v : Value} (hp : PR ρ l v) : PR ρ' l v :=
  let ⟨r, hr, e⟩ := hp; ⟨r, h _ _ hr, e⟩

theorem CR.mono {ρ ρ' : Rho} (h : le ρ ρ') {a : AC} {v : Value} (hc : CR ρ a v) : CR ρ' a v := by
  cases a with
  | ptr l => exact PR.mono h hc
  | slice l es len ext nn =>
    obtain ⟨ca, cap, e, h1, h2, h3, h4⟩ := hc
    exact ⟨ca, cap, e, h1, h2, h3, fun hp => let ⟨r, hr, x⟩ := h4 hp; ⟨r, h _ _ hr, x⟩⟩
  | clos f cs =>
    obtain ⟨vs, e, hl⟩ := hc
    exact ⟨vs, e, hl.mono fun _ _ => PR.mono h⟩
  | chan l =>
    obtain ⟨r, hr, e⟩ := hc
    exact ⟨r, h _ _ hr, e⟩
  | _ => exact hc

theorem ER.mono {ρ ρ' : Rho} (h : le ρ ρ') {a : AE} {v : Value} (hc : ER ρ a v) : ER ρ' a v := by
  cases a with
  | c x => exact CR.mono h hc
  | agg l => exact let ⟨vs, e, hl⟩ := hc; ⟨vs, e, hl.mono fun _ _ => CR.mono h⟩

theorem AR.mono {ρ ρ' : Rho} (h : le ρ ρ') {a : AV} {v : Value} (hc : AR ρ a v) : AR ρ' a v := by
  cases a with
  | e x => exact ER.mono h hc
  | tup l => exact let ⟨vs, e, hl⟩ := hc; ⟨vs, e, hl.mono fun _ _ => ER.mono h⟩
  | any => trivial

/-- A cell is no composite. -/
def scalar : Value → Prop
  | .agg _ => False
  | .tuple _ => False
  | _ => True

theorem CR.scalar {ρ : Rho} {a : AC} {v : Value} (h : CR ρ a v) : Eng.scalar v := by
  cases a <;> simp only [CR, PR] at h <;> (try subst h) <;> try trivial
  · obtain ⟨r, _, rfl⟩ := h; trivial
  · obtain ⟨ca, cap, rfl, _⟩ := h; trivial
  · obtain ⟨vs, rfl, _⟩ := h; trivial
  · obtain ⟨r, _, rfl⟩ := h; trivial

theorem cells_scalar {v : Value} (h : Eng.scalar v) : v.cells = #[v] := by
  cases v <;> simp_all [Value.cells, Eng.scalar]

theorem ER.cells {ρ : Rho} {a : AE} {v : Value} (h : ER ρ a v) : LR (CR ρ) a.cells v.cells.toList := by
  cases a with
  | c x =>
    rw [cells_scalar (CR.scalar h)]
    exact LR.cons h LR.nil
  | agg l =>
    obtain ⟨vs, rfl, hl⟩ := h
    exact hl

/-- How a block stands in memory: cells in a row, or a channel of nothings. -/
def Stands (w : World) (r : Pl) (ro : Bool) : Data → Prop
  | .chan cap n => 0 < r.size ∧ n ≤ cap ∧ ∃ s q, w.heap[r.blk]? = some (.chan cap (Array.replicate n (.agg #[])) false s q false)
  | _ => 0 < r.size → ∃ cells t fr, w.heap[r.blk]? = some (.cells cells t fr) ∧ r.off + r.size ≤ cells.size ∧ (ro = false → fr = (0, 0))

def Data.isCells : Data → Prop
  | .chan _ _ => False
  | _ => True

theorem Stands.cells {w : World} {r : Pl} {ro : Bool} {d : Data} (h : Stands w r ro d) (hd : d.isCells) (hs : 0 < r.size) :
    ∃ cells t fr, w.heap[r.blk]? = some (.cells cells t fr) ∧ r.off + r.size ≤ cells.size ∧ (ro = false → fr = (0, 0)) := by
  cases d with
  | mix cs => exact h hs
  | rows cs => exact h hs
  | chan c n => exact hd.elim

theorem Stands.of {w : World} {r : Pl} {ro : Bool} {d : Data} (hd : d.isCells) (h : 0 < r.size → ∃ cells t fr, w.heap[r.blk]? = some (.cells cells t fr) ∧ r.off + r.size ≤ cells.size ∧ (ro = false → fr = (0, 0))) :
    Stands w r ro d := by
  cases d with
  | mix cs => exact h
  | rows cs => exact h
  | chan c n => exact hd.elim

theorem Stands.keep {w w' : World} {r : Pl} {ro : Bool} {d : Data} (h : Stands w r ro d) (hw : 0 < r.size → w'.heap[r.blk]? = w.heap[r.blk]?) : Stands w' r ro d := by
  cases d with
  | mix cs => exact fun hs => by rw [hw hs]; exact h hs
  | rows cs => exact fun hs => by rw [hw hs]; exact h hs
  | chan c n => exact ⟨h.1, h.2.1, by rw [hw h.1]; exact h.2.2⟩

theorem Stands.like {w : World} {r : Pl} {ro : Bool} {d d' : Data} (h : Stands w r ro d) (hd : d.isCells) (hd' : d'.isCells) : Stands w r ro d' :=
  .of hd' (h.cells hd)

theorem flat_cells {d : Data} {i : Nat} {a : AC} (h : d.flat i = some a) : d.isCells := by
  cases d with
  | mix cs => trivial
  | rows cs => trivial
  | chan c n => cases h

/-- How a block's contents stand in memory. -/
def Holds (ρ : Rho) (w : World) (r : Pl) (b : Block) : Prop :=
  Stands w r b.ro b.d ∧
  ∀ i a, b.d.flat i = some a → i < r.size ∧ ∃ v, w.cell? ⟨r.blk, r.off + i, none⟩ = some v ∧ CR ρ a v

structure Inv (ρ : Rho) (g : Get) (w : World) : Prop where
  blk : ∀ i b, g i = some b → ∃ r, ρ i = some r ∧ Holds ρ w r b
  apart : ∀ i j b c r s, i ≠ j → g i = some b → g j = some c → ρ i = some r → ρ j = some s → 0 < r.size → 0 < s.size → b.ro = false → r.blk ≠ s.blk

/-- The rows that may be written. -/
def Own (ρ : Rho) (g : Get) (k : Nat) : Prop := ∃ i b r, g i = some b ∧ b.ro = false ∧ ρ i = some r ∧ 0 < r.size ∧ r.blk = k

/-- The rows that are read at all. -/
def Live (ρ : Rho) (g : Get) (k : Nat) : Prop := ∃ i b r, g i = some b ∧ ρ i = some r ∧ 0 < r.size ∧ r.blk = k

structure Kept (own : Nat → Prop) (w w' : World) : Prop where
  os : w'.os = w.os
  tape : w'.tape = w.tape
  output : w'.output = w.output
  size : w.heap.size ≤ w'.heap.size
  block : ∀ k, k < w.heap.size → ¬ own k → w'.heap[k]? = w.heap[k]?

theorem Kept.refl (own : Nat → Prop) (w : World) : Kept own w w := ⟨rfl, rfl, rfl, Nat.le_refl _, fun _ _ _ => rfl⟩

theorem Kept.trans {own own' : Nat → Prop} {a b c : World} (h : Kept own a b) (h' : Kept own' b c) (ho : ∀ k, own' k → own k ∨ a.heap.size ≤ k) : Kept own a c :=
  ⟨h'.os.trans h.os, h'.tape.trans h.tape, h'.output.trans h.output, Nat.le_trans h.size h'.size, fun k hk hn => by
    rw [h'.block k (Nat.lt_of_lt_of_le hk h.size) (fun hc => (ho k hc).elim hn (fun e => by omega)), h.block k hk hn]⟩

def lookupU : List (Nat × Option Block) → Nat → Option (Option Block)
  | [], _ => none
  | (j, b) :: r, i => match lookupU r i with
    | some x => some x
    | none => if j = i then some b else none

/-- The blocks behind an operation. -/
def updg (g : Get) (nx : Nat) (E : Eff) : Get := fun i =>
  if nx ≤ i ∧ i < nx + E.news.length then (E.news[i - nx]?).join
  else match lookupU E.upd i with
    | some b => b
    | none => g i

/-- What holds behind an operation. -/
structure Aft (ρ : Rho) (g : Get) (w : World) (nx : Nat) (E : Eff) (ρ' : Rho) (w' : World) (cv : Value) : Prop where
  ext : le ρ ρ'
  dom : ∀ i r, ρ' i = some r → ρ i = some r ∨ (nx ≤ i ∧ i < nx + E.news.length)
  val : AR ρ' E.v cv
  inv : Inv ρ' (updg g nx E) w'
  kept : Kept (Own ρ g) w w'
  own : ∀ k, Own ρ' (updg g nx E) k → Own ρ g k ∨ w.heap.size ≤ k
  live : ∀ k, Live ρ' (updg g nx E) k → Live ρ g k ∨ w.heap.size ≤ k

/-- An operation does what was reckoned. -/
def OpSound (P : Program) (o : Oper) (ev : Operand → Option AV) (g : Get) (nx : Nat) (E : Eff) : Prop :=
  ∀ (g' : Get) (ρ : Rho) (w : World) (a : Act) (next : Act → World → Prop) (Q : Exit → Act → World → Prop),
    (∀ i, i ∈ E.rd → g' i = g i) → (∀ x, x ∈ o.op.operands.toList → ∀ v, ev x = some v → AR ρ v (a.eval x)) → Inv ρ g' w →
    (∀ i, nx ≤ i → ρ i = none ∨ nx + E.news.length ≤ i) →
    (∀ cv w' ρ', Aft ρ g' w nx E ρ' w' cv → next (a.put o.dst cv) w') → o.wp P a w next Q

theorem updg_nil {g : Get} {nx : Nat} {v : AV} {rd : List Nat} : updg g nx ⟨v, [], rd, []⟩ = g := by
  funext i; simp [updg, lookupU]; intro h h'; omega

/-- An operation that only reads. -/
theorem Aft.quiet {ρ : Rho} {g : Get} {w : World} {nx : Nat} {v : AV} {rd : List Nat} {cv : Value} (hi : Inv ρ g w) (hv : AR ρ v cv) :
    Aft ρ g w nx ⟨v, [], rd, []⟩ ρ w cv := by
  refine ⟨le.refl _, fun _ _ h => .inl h, hv, ?_, Kept.refl _ _, fun k h => .inl ?_, fun k h => .inl ?_⟩
  · rw [updg_nil]; exact hi
  · rw [updg_nil] at h; exact h
  · rw [updg_nil] at h; exact h

theorem quiet_sound {P : Program} {o : Oper} {ev : Operand → Option AV} {g : Get} {nx : Nat} {v : AV} {rd : List Nat}
    (h : ∀ (g' : Get) (ρ : Rho) (w : World) (a : Act), (∀ i, i ∈ rd → g' i = g i) → (∀ x, x ∈ o.op.operands.toList → ∀ v, ev x = some v → AR ρ v (a.eval x)) → Inv ρ g' w →
      ∃ cv, (execOp a.eval o).run P w = .ok (.value cv) w ∧ AR ρ v cv) : OpSound P o ev g nx ⟨v, [], rd, []⟩ := by
  intro g' ρ w a next Q hg hev hi _ hn
  obtain ⟨cv, hr, hv⟩ := h g' ρ w a hg hev hi
  simp only [Oper.wp, hr, Oper.upon_value]
  exact hn _ _ ρ (Aft.quiet hi hv)

/- memory -/
def wr (w : World) (k : Nat) (o : Obj) : World := { w with heap := w.heap.setIfInBounds k o }

theorem wr_heap {w : World} {k : Nat} {o : Obj} (i : Nat) : (wr w k o).heap[i]? = if k = i then (if k < w.heap.size then some o else none) else w.heap[i]? := by
  simp [wr, Array.getElem?_setIfInBounds]

theorem setCell_wr {w : World} {k off : Nat} {c : Array Value} {t : TypeId} {fr : Nat × Nat} {v : Value} (h : w.heap[k]? = some (.cells c t fr)) :
    w.setCell ⟨k, off, none⟩ v = wr w k (.cells (c.setIfInBounds off v) t fr) := by
  have hk : k < w.heap.size := by
    rcases Nat.lt_or_ge k w.heap.size with h' | h'
    · exact h'
    · rw [Array.getElem?_eq_none h'] at h; cases h
  unfold World.setCell wr
  congr 1
  apply Array.ext_getElem?
  intro i
  rw [Array.getElem?_modify, Array.getElem?_setIfInBounds]
  by_cases e : k = i
  · subst e
    rw [h]; simp [hk]
  · simp [e]

theorem cell_of {w : World} {k off : Nat} {c : Array Value} {t : TypeId} {fr : Nat × Nat} (h : w.heap[k]? = some (.cells c t fr)) : w.cell? ⟨k, off, none⟩ = c[off]? := by
  simp [World.cell?, h]

theorem lt_of_heap {w : World} {k : Nat} {o : Obj} (h : w.heap[k]? = some o) : k < w.heap.size := by
  rcases Nat.lt_or_ge k w.heap.size with h' | h'
  · exact h'
  · rw [Array.getElem?_eq_none h'] at h; cases h

theorem addr_add {k off : Nat} (n : Nat) : (⟨k, off, none⟩ : Addr).add n = ⟨k, off + n, none⟩ := by
  unfold Addr.add; split
  · subst_vars; rfl
  · rfl

theorem loadCellsFrom_run {P : Program} {w : World} {k off : Nat} : ∀ (vs : List Value) (i : Nat) (acc : Array Value),
    (∀ j v, vs[j]? = some v → w.cell? ⟨k, off + (i + j), none⟩ = some v) →
    (loadCellsFrom ⟨k, off, none⟩ i vs.length acc).run P w = .ok (acc ++ vs.toArray) w
  | [], i, acc, _ => by simp [loadCellsFrom, pure, Sem.run]
  | v :: vs, i, acc, h => by
    have h0 := h 0 v rfl
    have hr := loadCellsFrom_run (P := P) vs (i + 1) (acc.push v) (fun j u hu => by have := h (j + 1) u (by simpa using hu); rw [show i + 1 + j = i + (j + 1) from by omega]; exact this)
    simp only [List.length_cons, loadCellsFrom, bind, Go.load, Sem.bind, addr_add, Sem.run]
    simp only [Nat.add_zero] at h0
    rw [h0]
    simp only [hr]
    congr 1
    simp

theorem loadCells_run {P : Program} {w : World} {k off : Nat} (vs : List Value) (h : ∀ j v, vs[j]? = some v → w.cell? ⟨k, off + j, none⟩ = some v) :
    (loadCells ⟨k, off, none⟩ vs.length).run P w = .ok vs.toArray w := by
  have := loadCellsFrom_run (P := P) (w := w) (k := k) (off := off) vs 0 #[] (fun j v hv => by simpa using h j v hv)
  simpa [loadCells] using this

/-- Cells of a row, new from a place on. -/
def spl (c : Array Value) (o : Nat) : List Value → Array Value
  | [] => c
  | v :: r => spl (c.setIfInBounds o v) (o + 1) r

theorem spl_size : ∀ (vs : List Value) (c : Array Value) (o : Nat), (spl c o vs).size = c.size
  | [], _, _ => rfl
  | v :: r, c, o => by simp [spl, spl_size r]

theorem spl_get : ∀ (vs : List Value) (c : Array Value) (o i : Nat), o + vs.length ≤ c.size →
    (spl c o vs)[i]? = if o ≤ i ∧ i < o + vs.length then vs[i - o]? else c[i]?
  | [], c, o, i, _ => by simp [spl]; intro h h'; omega
  | v :: r, c, o, i, h => by
    simp only [List.length_cons] at h ⊢
    rw [spl, spl_get r _ _ _ (by simp; omega)]
    by_cases e : i = o
    · subst e
      rw [if_neg (by omega), if_pos (by omega)]
      simp [Array.getElem?_setIfInBounds]; omega
    · by_cases hi : o + 1 ≤ i ∧ i < o + 1 + r.length
      · rw [if_pos hi, if_pos (by omega), show i - o = (i - (o + 1)) + 1 from by omega]; simp
      · rw [if_neg hi, if_neg (by omega), Array.getElem?_setIfInBounds_ne (by omega)]

theorem storeCells_run {P : Program} {k : Nat} {t : TypeId} (off : Nat) : ∀ (vs : List Value) (i : Nat) (w : World) (c : Array Value),
    w.heap[k]? = some (.cells c t (0, 0)) → (∀ v, v ∈ vs → scalar v) → off + i + vs.length ≤ c.size →
    (storeCells ⟨k, off, none⟩ vs i).run P w = .ok () (wr w k (.cells (spl c (off + i) vs) t (0, 0)))
  | [], i, w, c, h, _, _ => by
    simp only [storeCells, pure, Sem.run, spl]
    congr 1
    unfold wr
    have : w.heap.setIfInBounds k (.cells c t (0, 0)) = w.heap := by
      apply Array.ext_getElem?
      intro j
      rw [Array.getElem?_setIfInBounds]
      by_cases e : k = j
      · subst e; rw [if_pos rfl, if_pos (lt_of_heap h), h]
      · simp [e]
    rw [this]
  | v :: vs, i, w, c, h, hs, hl => by
    simp only [List.length_cons] at hl
    have hc : w.cell? ⟨k, off + i, none⟩ = some c[off + i] := by rw [cell_of h]; simp
    have hf : w.frozen? ⟨k, off + i, none⟩ = false := by simp [World.frozen?, h]
    have h1 : (wr w k (.cells (c.setIfInBounds (off + i) v) t (0, 0))).heap[k]? = some (.cells (c.setIfInBounds (off + i) v) t (0, 0)) := by
      rw [wr_heap]; simp [lt_of_heap h]
    have ih := storeCells_run (P := P) off vs (i + 1) _ _ h1 (fun u hu => hs u (by simp [hu])) (by simp; omega)
    have hsv := hs v (by simp)
    simp only [storeCells, bind, Go.store, Sem.bind, addr_add]
    have hrun : ∀ κ : Sem Unit, (Sem.store .plain ⟨k, off + i, none⟩ v κ).run P w = κ.run P (wr w k (.cells (c.setIfInBounds (off + i) v) t (0, 0))) := by
      intro κ
      cases v <;> first | exact hsv.elim | (simp only [Sem.run, hc, hf, setCell_wr h]; rfl)
    rw [hrun, ih]
    congr 1
    simp only [spl, Nat.add_assoc]
    unfold wr
    simp

/- A walker of Go functions over data: operations that only reckon are right. -/
theorem acOf_CR {ρ : Rho} {v : Value} {a : AC} (h : acOf v = some a) : CR ρ a v := by
  unfold acOf at h
  split at h <;> (try (injection h with h; subst h; first | rfl | (simp [CR])))
  · split at h
    · rename_i f a' c hc
      injection h with h
      subst h
      have h1 : a' = #[] := by apply Array.eq_empty_of_size_eq_zero; exact hc.1
      have h2 : c = #[] := by apply Array.eq_empty_of_size_eq_zero; exact hc.2
      subst h1 h2
      exact ⟨#[], rfl, LR.nil⟩
    · cases h
  · cases h

theorem acsOf_LR {ρ : Rho} : ∀ {vs : List Value} {l : List AC}, acsOf vs = some l → LR (CR ρ) l vs
  | [], l, h => by simp [acsOf] at h; subst h; exact LR.nil
  | v :: r, l, h => by
    simp only [acsOf] at h
    split at h
    · rename_i a l' ha hl
      injection h with h
      subst h
      exact LR.cons (acOf_CR ha) (acsOf_LR hl)
    · cases h

theorem aeOf_ER {ρ : Rho} {v : Value} {x : AE} (h : aeOf v = some x) : ER ρ x v := by
  unfold aeOf at h
  split at h
  · rename_i cs
    cases hl : acsOf cs.toList with
    | none => simp [hl] at h
    | some l => simp [hl] at h; subst h; exact ⟨cs, rfl, acsOf_LR hl⟩
  · cases hl : acOf v with
    | none => simp [hl] at h
    | some l => simp [hl] at h; subst h; exact acOf_CR hl

/-- The operands of a frame. -/
theorem evv_AR {ρ : Rho} {tmps : List AV} {a : Act} (h : ∀ t v, tmps[t]? = some v → AR ρ v (a.tmps.getD t undef)) (x : Operand) (v : AV) (hx : evv tmps x = some v) : AR ρ v (a.eval x) := by
  cases x with
  | tmp t => exact h t v hx
  | const c =>
    simp only [evv, Option.map_eq_some_iff] at hx
    obtain ⟨e, he, rfl⟩ := hx
    exact aeOf_ER he
  | global g => simp [evv] at hx
  | func f =>
    simp only [evv, Option.some.injEq] at hx
    subst hx
    exact ⟨#[], rfl, LR.nil⟩

theorem sel_eff {α : Type} {ok : Bool} {E E' : α} (h : (Out.eff ok E).sel = some E') : ok = true ∧ E = E' := by
  cases ok <;> simp [Out.sel] at h
  exact ⟨rfl, h⟩

theorem sel_fail {α : Type} {E' : α} (h : (Out.fail : Out α).sel = some E') : False := by simp [Out.sel] at h

theorem sel_pure {v : AV} {E' : Eff} (h : (pureEff v).sel = some E') : E' = ⟨v, [], [], []⟩ := (sel_eff h).2.symm

theorem under {P : Program} {t : TypeId} {d : TypeDesc} (w : World) (h : P.underlying t = some d) : (underlying t).run P w = .ok d w := by
  simp [underlying, h]

theorem size_run {P : Program} {t : TypeId} {n : Nat} (w : World) (h : tySize P t = some n) : (sizeOf t).run P w = .ok n w := by
  simp only [tySize, Option.map_eq_some_iff] at h
  obtain ⟨i, hi, rfl⟩ := h
  simp [sizeOf, typeInfo, hi]

theorem isAgg_run {P : Program} {t : TypeId} {b : Bool} (w : World) (h : isAggT P t = some b) : (isAgg t).run P w = .ok b w := by
  simp only [isAggT, Option.map_eq_some_iff] at h
  obtain ⟨d, hd, rfl⟩ := h
  simp only [isAgg, Sem.run_bind, under w hd, Result.andThen_ok]
  split <;> simp_all

theorem zero_run {P : Program} {t : TypeId} {z : AE} (w : World) (ρ : Rho) (h : tyZero P t = some z) : ∃ v, (zeroValue t).run P w = .ok v w ∧ ER ρ z v := by
  unfold tyZero at h
  cases hi : P.info? t with
  | none => simp [hi] at h
  | some i =>
    cases hz : i.zero with
    | none => simp [hi, hz] at h
    | some v =>
      simp [hi, hz] at h
      exact ⟨v, by simp [zeroValue, typeInfo, hi, hz], aeOf_ER h⟩

theorem intBin_run {P : Program} {op : BinOp} {k : IntKind} {a b : Int} {ok : Bool} {v : AC} (w : World) (t : TypeId) (h : intBin op k a b = some (ok, v)) (hok : ok = true)
    (hs : op ≠ .shl) (hs' : op ≠ .shr) : ∃ cv, (binOp op t (.int k a) (.int k b)).run P w = .ok cv w ∧ ∀ ρ, CR ρ v cv := by
  subst hok
  cases op <;> simp only [intBin, Option.some.injEq, Prod.mk.injEq, reduceCtorEq] at h <;> (try exact absurd rfl hs) <;> (try exact absurd rfl hs') <;>
    (try (obtain ⟨h1, rfl⟩ := h; refine ⟨_, ?_, fun ρ => rfl⟩; simp only [binOp, ne_eq, not_true_eq_false, if_false]; first | rfl | (simp only [decide_eq_true_eq] at h1; simp only [Op.intDiv, if_neg h1]; rfl)))

theorem shiftOp_run {P : Program} {op : BinOp} {k j : IntKind} {a b : Int} {ok : Bool} {v : AC} (w : World) (t : TypeId) (h : shiftOp op k a b = some (ok, v)) (hok : ok = true) :
    ∃ cv, (binOp op t (.int k a) (.int j b)).run P w = .ok cv w ∧ ∀ ρ, CR ρ v cv := by
  subst hok
  cases op <;> simp only [shiftOp, Option.some.injEq, Prod.mk.injEq, reduceCtorEq] at h <;> obtain ⟨h1, rfl⟩ := h <;> simp at h1 <;>
    (refine ⟨_, by simp [binOp, Op.shift, Int.not_lt.mpr h1], fun ρ => rfl⟩)

theorem part_run {P : Program} {t : TypeId} {cs : List AC} {off : Nat} {v : AE} {ρ : Rho} (w : World) (h : partA P t cs off = some v) {vs : Array Value} (hl : LR (CR ρ) cs vs.toList) :
    ∃ cv, (part t vs off).run P w = .ok cv w ∧ ER ρ v cv := by
  unfold partA at h
  split at h
  · rename_i n ha hn
    injection h with h
    subst h
    refine ⟨.agg (vs.extract off (off + n)), by simp [part, isAgg_run w ha, size_run w hn], _, rfl, ?_⟩
    have := (hl.drop off).take n
    rw [Array.toList_extract]
    simpa [List.extract_eq_take_drop] using this
  · rename_i n ha hn
    simp only [Option.map_eq_some_iff] at h
    obtain ⟨a, ha', rfl⟩ := h
    obtain ⟨b, hb, hr⟩ := hl.2 _ _ ha'
    refine ⟨b, ?_, hr⟩
    simp only [part, Sem.run_bind, isAgg_run w ha, Result.andThen_ok]
    have : vs[off]? = some b := by simpa using hb
    simp [this]
  · cases h

theorem eqCells_len : ∀ {ks : List Bool} {l m : List AC} {r : Bool}, eqCells ks l m = some r → l.length = ks.length ∧ m.length = ks.length
  | [], [], [], _, _ => ⟨rfl, rfl⟩
  | [], [], _ :: _, _, h => by simp [eqCells] at h
  | [], _ :: _, _, _, h => by simp [eqCells] at h
  | _ :: _, [], _, _, h => by simp [eqCells] at h
  | _ :: _, _ :: _, [], _, h => by simp [eqCells] at h
  | k :: ks, a :: l, b :: m, r, h => by
    simp only [eqCells] at h
    split at h
    · rename_i x y hx hy
      have := eqCells_len hy
      simp [this]
    · cases h

theorem eqCells_app : ∀ {k1 k2 : List Bool} {l m : List AC} {r : Bool}, eqCells (k1 ++ k2) l m = some r →
    ∃ r1 r2, eqCells k1 (l.take k1.length) (m.take k1.length) = some r1 ∧ eqCells k2 (l.drop k1.length) (m.drop k1.length) = some r2 ∧ r = (r1 && r2)
  | [], k2, l, m, r, h => ⟨true, r, by simp [eqCells], by simpa using h, by simp⟩
  | k :: k1, k2, [], m, r, h => by simp [eqCells] at h
  | k :: k1, k2, _ :: _, [], r, h => by simp [eqCells] at h
  | k :: k1, k2, a :: l, b :: m, r, h => by
    simp only [List.cons_append, eqCells] at h
    split at h
    · rename_i x y hx hy
      obtain ⟨r1, r2, h1, h2, rfl⟩ := eqCells_app hy
      injection h with h
      refine ⟨x && r1, r2, ?_, by simpa using h2, by rw [← h, Bool.and_assoc]⟩
      simp only [List.length_cons, List.take_succ_cons, eqCells, hx, h1]
    · cases h

/-- A value of a type, by its cells. -/
def VT (P : Program) (ρ : Rho) (t : TypeId) (l : List AC) (x : Value) : Prop :=
  (isAggT P t = some true → ∃ xs, x = .agg xs ∧ LR (CR ρ) l xs.toList) ∧ (isAggT P t = some false → ∃ a, l = [a] ∧ CR ρ a x)

theorem part_VT {P : Program} {t : TypeId} {cs : List AC} {off n : Nat} {b : Bool} {ρ : Rho} (w : World) (hb : isAggT P t = some b) (hn : tySize P t = some n) (h1 : b = false → n = 1)
    {vs : Array Value} (hl : LR (CR ρ) cs vs.toList) (hlen : b = false → off + n ≤ cs.length) : ∃ cv, (part t vs off).run P w = .ok cv w ∧ VT P ρ t ((cs.drop off).take n) cv := by
  cases b with
  | true =>
    obtain ⟨cv, hr, hv⟩ := part_run (P := P) (t := t) (off := off) (v := .agg ((cs.drop off).take n)) w (by simp [partA, hb, hn]) hl
    exact ⟨cv, hr, fun _ => hv, fun h => by simp [hb] at h⟩
  | false =>
    have h1 := h1 rfl
    subst h1
    have hlen := hlen rfl
    have ha : cs[off]? = some cs[off] := List.getElem?_eq_getElem (by omega)
    obtain ⟨cv, hr, hv⟩ := part_run (P := P) (t := t) (off := off) (v := .c cs[off]) w (by simp [partA, hb, hn, ha]) hl
    refine ⟨cv, hr, fun h => by simp [hb] at h, fun _ => ⟨cs[off], ?_, hv⟩⟩
    rw [List.drop_eq_getElem_cons (by omega)]
    rfl

theorem plainK_agg {P : Program} : ∀ {d : Nat} {t : TypeId} {ks : List Bool}, plainK P d t = some ks → ∃ b, isAggT P t = some b ∧ (b = false → ks.length = 1)
  | 0, t, ks, h => by simp [plainK] at h
  | d + 1, t, ks, h => by
    simp only [plainK] at h
    unfold isAggT
    split at h
    · rename_i hd; rw [hd]; injection h with h; subst h; exact ⟨_, rfl, fun _ => rfl⟩
    · rename_i hd; rw [hd]; injection h with h; subst h; exact ⟨_, rfl, fun _ => rfl⟩
    · rename_i hd; rw [hd]; exact ⟨_, rfl, fun h => by simp at h⟩
    · rename_i hd; rw [hd]; exact ⟨_, rfl, fun h => by simp at h⟩
    · cases h

theorem eqFields_run {P : Program} {d n : Nat} (ih : ∀ (t : TypeId) (ks : List Bool), plainK P d t = some ks → ∀ (l m : List AC) (x y : Value) (r : Bool) (ρ : Rho) (w : World),
      VT P ρ t l x → VT P ρ t m y → eqCells ks l m = some r → (Op.equalIn n t x y).run P w = .ok r w) {ρ : Rho} {xs ys : Array Value} {l m : List AC} (hx : LR (CR ρ) l xs.toList) (hy : LR (CR ρ) m ys.toList) (w : World) :
    ∀ (fs : List Field) (off : Nat) (ks : List Bool) (r : Bool), plainFields P (fun u => plainK P d u) fs off = some ks → eqCells ks (l.drop off) (m.drop off) = some r →
      (Op.eqFields n xs ys fs).run P w = .ok r w
  | [], off, ks, r, h, he => by
    simp only [plainFields, Option.some.injEq] at h
    subst h
    cases hl : l.drop off with
    | cons => simp [hl, eqCells] at he
    | nil => cases hm : m.drop off with
      | cons => simp [hl, hm, eqCells] at he
      | nil => simp [hl, hm, eqCells] at he; subst he; simp [Op.eqFields]
  | f :: fs, off, ks, r, h, he => by
    simp only [plainFields] at h
    split at h
    · cases h
    · rename_i hf
      split at h
      · rename_i s z hs hz
        split at h
        · rename_i hsz
          split at h
          · rename_i l' hl'
            injection h with h
            subst h
            obtain ⟨r1, r2, h1, h2, rfl⟩ := eqCells_app he
            obtain ⟨b, hb, hb1⟩ := plainK_agg hs
            have hname : f.name ≠ "_" := fun e => hf (.inl e)
            have hoff : f.offset = off := by
              by_cases e : f.offset = off
              · exact e
              · exact absurd (.inr e) hf
            have hlens := eqCells_len h1
            have hlx : b = false → off + z ≤ l.length := fun e => by
              have := hlens.1
              rw [List.length_take, List.length_drop] at this
              have := hb1 e
              omega
            have hly : b = false → off + z ≤ m.length := fun e => by
              have := hlens.2
              rw [List.length_take, List.length_drop] at this
              have := hb1 e
              omega
            obtain ⟨cx, hcx, vx⟩ := part_VT (off := off) w hb hz (fun e => by rw [← hsz]; exact hb1 e) hx hlx
            obtain ⟨cy, hcy, vy⟩ := part_VT (off := off) w hb hz (fun e => by rw [← hsz]; exact hb1 e) hy hly
            rw [hsz] at h1 h2
            rw [List.drop_drop, List.drop_drop] at h2
            have hrec := eqFields_run ih hx hy w fs (off + z) l' r2 hl' h2
            have heq := ih f.type s hs _ _ cx cy r1 ρ w vx vy h1
            simp only [Op.eqFields, if_pos hname, Sem.run_bind, hoff, hcx, hcy, Result.andThen_ok, heq, Sem.run_ite]
            cases r1
            · simp
            · simpa using hrec
          · cases h
        · cases h
      · cases h

theorem repK_len (k : List Bool) : ∀ n, (repK k n).length = n * k.length
  | 0 => by simp [repK]
  | n + 1 => by simp [repK, repK_len k n, Nat.add_mul]; omega

theorem equalIn_plain {P : Program} : ∀ (d : Nat) (n : Nat), d ≤ n → ∀ (t : TypeId) (ks : List Bool), plainK P d t = some ks → ∀ (l m : List AC) (x y : Value) (r : Bool) (ρ : Rho) (w : World),
      VT P ρ t l x → VT P ρ t m y → eqCells ks l m = some r → (Op.equalIn n t x y).run P w = .ok r w
  | 0, n, _, t, ks, h => by simp [plainK] at h
  | d + 1, 0, hn, t, ks, h => by omega
  | d + 1, n + 1, hn, t, ks, h => by
    intro l m x y r ρ w hx hy he
    have ih := equalIn_plain (P := P) d n (by omega)
    simp only [plainK] at h
    split at h
    · rename_i hd
      injection h with h; subst h
      obtain ⟨a, rfl, ha⟩ := hx.2 (by simp [isAggT, hd])
      obtain ⟨b, rfl, hb⟩ := hy.2 (by simp [isAggT, hd])
      cases a <;> cases b <;> simp [eqCells, eqCell] at he
      subst he
      simp only [CR] at ha hb; subst ha hb
      exact run_equalIn_bool w n t _ _ hd
    · rename_i k hd
      injection h with h; subst h
      obtain ⟨a, rfl, ha⟩ := hx.2 (by simp [isAggT, hd])
      obtain ⟨b, rfl, hb⟩ := hy.2 (by simp [isAggT, hd])
      cases a <;> cases b <;> first
        | (simp [eqCells, eqCell] at he; done)
        | (rename_i k1 n1 k2 n2
           by_cases hk : k1 = k2
           · subst hk
             simp [eqCells, eqCell] at he
             subst he
             simp only [CR] at ha hb; subst ha hb
             exact run_equalIn_int w n t _ k _ _ hd
           · simp [eqCells, eqCell, hk] at he)
    · rename_i fs hd
      split at h
      · cases h
      · rename_i hst
        obtain ⟨xs, rfl, hlx⟩ := hx.1 (by simp [isAggT, hd])
        obtain ⟨ys, rfl, hly⟩ := hy.1 (by simp [isAggT, hd])
        have hfo : P.fieldsOf t = fs := by simp [Program.fieldsOf, hd]
        rw [run_equalIn_struct w n t xs ys (by rw [hfo]; exact hd) (by simpa using hst), hfo]
        exact eqFields_run ih hlx hly w fs.toList 0 ks r h (by simpa using he)
    · rename_i len e hd
      split at h
      · rename_i s z hs hz
        split at h
        · rename_i hsz
          injection h with h; subst h
          obtain ⟨xs, rfl, hlx⟩ := hx.1 (by simp [isAggT, hd])
          obtain ⟨ys, rfl, hly⟩ := hy.1 (by simp [isAggT, hd])
          obtain ⟨b, hb, hb1⟩ := plainK_agg hs
          simp only [Op.equalIn, Sem.run_bind, under w hd, Result.andThen_ok, size_run w hz]
          have key : ∀ (c i : Nat) (r : Bool), eqCells (repK s c) (l.drop (i * z)) (m.drop (i * z)) = some r →
              ((forIn (List.range' i c) ((none, ()) : Option Bool × Unit) fun i r => do
                  let a ← part e xs (i * z)
                  let b ← part e ys (i * z)
                  let q ← Op.equalIn n e a b
                  if (!q) = true then pure (ForInStep.done (some false, ())) else pure (ForInStep.yield (none, ())) : Sem (Option Bool × Unit)).run P w) =
                .ok (if r then (none, ()) else (some false, ())) w := by
            intro c
            induction c with
            | zero =>
              intro i r he
              cases hl : l.drop (i * z) with
              | cons => simp [hl, repK, eqCells] at he
              | nil => cases hm : m.drop (i * z) with
                | cons => simp [hl, hm, repK, eqCells] at he
                | nil => simp [hl, hm, repK, eqCells] at he; subst he; simp
            | succ c ihc =>
              intro i r he
              simp only [repK] at he
              obtain ⟨r1, r2, h1, h2, rfl⟩ := eqCells_app he
              have hlens := eqCells_len h1
              have hlx' : b = false → i * z + z ≤ l.length := fun e => by
                have := hlens.1
                rw [List.length_take, List.length_drop] at this
                have := hb1 e
                omega
              have hly' : b = false → i * z + z ≤ m.length := fun e => by
                have := hlens.2
                rw [List.length_take, List.length_drop] at this
                have := hb1 e
                omega
              obtain ⟨cx, hcx, vx⟩ := part_VT (off := i * z) w hb hz (fun e => by rw [← hsz]; exact hb1 e) hlx hlx'
              obtain ⟨cy, hcy, vy⟩ := part_VT (off := i * z) w hb hz (fun e => by rw [← hsz]; exact hb1 e) hly hly'
              rw [hsz] at h1 h2
              rw [List.drop_drop, List.drop_drop, show i * z + z = (i + 1) * z from by rw [Nat.add_mul]; omega] at h2
              have heq := ih e s hs _ _ cx cy r1 ρ w vx vy h1
              have hrec := ihc (i + 1) r2 h2
              simp only [List.range'_succ, List.forIn_cons, Sem.run_bind, hcx, hcy, Result.andThen_ok, heq, Sem.run_ite]
              cases r1
              · simp
              · simpa using hrec
          have hk := key len 0 r (by simpa using he)
          rw [Std.Legacy.Range.forIn_eq_forIn_range']
          have hsz' : [:len].size = len := by simp [Std.Legacy.Range.size]
          rw [hsz']
          refine Eq.trans (congrArg (fun q => Result.andThen q _) hk) ?_
          cases r <;> simp
        · cases h
      · cases h
    · cases h

/- A walker of Go functions over data: the operations that only reckon, one by one. -/
theorem eqIn_ptr_nil {P : Program} {t e : TypeId} (w : World) (d : Nat) (p : Option Addr) (h : P.underlying t = some (.pointer e)) : (Op.equalIn (d + 1) t (.pointer p) (.pointer none)).run P w = .ok p.isNone w := by
  cases p <;> simp [Op.equalIn, under w h]
theorem eqIn_nil_ptr {P : Program} {t e : TypeId} (w : World) (d : Nat) (p : Option Addr) (h : P.underlying t = some (.pointer e)) : (Op.equalIn (d + 1) t (.pointer none) (.pointer p)).run P w = .ok p.isNone w := by
  simp [Op.equalIn, under w h]
theorem eqIn_slice_nil {P : Program} {t e : TypeId} (w : World) (d : Nat) (p : Option Addr) (m c : Nat) (h : P.underlying t = some (.slice e)) : (Op.equalIn (d + 1) t (.slice p m c) (.slice none 0 0)).run P w = .ok p.isNone w := by
  cases p <;> simp [Op.equalIn, under w h]
theorem eqIn_nil_slice {P : Program} {t e : TypeId} (w : World) (d : Nat) (p : Option Addr) (m c : Nat) (h : P.underlying t = some (.slice e)) : (Op.equalIn (d + 1) t (.slice none 0 0) (.slice p m c)).run P w = .ok p.isNone w := by
  simp [Op.equalIn, under w h]

theorem eqVal_run {P : Program} {t : TypeId} {x y : AV} {r : Bool} {ρ : Rho} (w : World) (h : eqVal P t x y = some r) {cx cy : Value} (hx : AR ρ x cx) (hy : AR ρ y cy) (X Y : Operand) (op : BinOp) :
    (Op.equal t cx cy).run P w = .ok r w ∧ (eqGuard op t X Y cx cy).run P w = .ok () w ∧ (∀ k n, cx ≠ .int k n) ∧ (∀ k n, cx ≠ .float k n) ∧ (∀ k a b, cx ≠ .complex k a b) ∧ (∀ s, cx ≠ .string s) := by
  unfold eqVal at h
  split at h
  · rename_i a b
    split at h <;> rename_i hd <;> (try (cases h; done)) <;> (injection h with h; subst h) <;> simp only [AR, ER, CR, PR] at hx hy
    · subst hx hy
      exact ⟨run_equal_bool w t _ _ hd, by cases op <;> simp [eqGuard], by simp, by simp, by simp, by simp⟩
    · subst hx hy
      exact ⟨eqIn_ptr_nil w 9999 none hd, by cases op <;> simp [eqGuard], by simp, by simp, by simp, by simp⟩
    · obtain ⟨p, _, rfl⟩ := hx; subst hy
      exact ⟨eqIn_ptr_nil w 9999 _ hd, by cases op <;> simp [eqGuard], by simp, by simp, by simp, by simp⟩
    · subst hx; obtain ⟨p, _, rfl⟩ := hy
      exact ⟨eqIn_nil_ptr w 9999 _ hd, by cases op <;> simp [eqGuard], by simp, by simp, by simp, by simp⟩
    · subst hx hy
      exact ⟨eqIn_slice_nil w 9999 none 0 0 hd, by cases op <;> simp [eqGuard], by simp, by simp, by simp, by simp⟩
    · obtain ⟨ca, cap, rfl, _, hn, _⟩ := hx; subst hy
      cases ca with
      | none => simp at hn
      | some ca => exact ⟨eqIn_slice_nil w 9999 _ _ _ hd, by cases op <;> simp [eqGuard], by simp, by simp, by simp, by simp⟩
    · subst hx; obtain ⟨ca, cap, rfl, _, hn, _⟩ := hy
      cases ca with
      | none => simp at hn
      | some ca => exact ⟨eqIn_nil_slice w 9999 _ _ _ hd, by cases op <;> simp [eqGuard], by simp, by simp, by simp, by simp⟩
  · rename_i l m
    split at h
    · rename_i ks hk
      split at h
      · rename_i hg
        obtain ⟨xs, rfl, hlx⟩ := hx
        obtain ⟨ys, rfl, hly⟩ := hy
        refine ⟨?_, run_eqGuard_agg w op t X Y xs ys hg.1, by simp, by simp, by simp, by simp⟩
        exact equalIn_plain eqDepth 10000 (by decide) t ks hk l m _ _ r ρ w ⟨fun _ => ⟨xs, rfl, hlx⟩, fun e => by simp [hg.2] at e⟩ ⟨fun _ => ⟨ys, rfl, hly⟩, fun e => by simp [hg.2] at e⟩ h
      · cases h
    · cases h
  · cases h

theorem binOp_eql {P : Program} {t : TypeId} {cx cy : Value} {r : Bool} {w : World} (he : (Op.equal t cx cy).run P w = .ok r w) (h1 : ∀ k n, cx ≠ .int k n) (h2 : ∀ k n, cx ≠ .float k n)
    (h3 : ∀ k a b, cx ≠ .complex k a b) (h4 : ∀ s, cx ≠ .string s) : (binOp .eql t cx cy).run P w = .ok (.bool r) w ∧ (binOp .neq t cx cy).run P w = .ok (.bool (!r)) w := by
  constructor <;> (unfold binOp; split <;> simp_all)

theorem bin_sound {P : Program} {o : Oper} {ev : Operand → Option AV} {g : Get} {nx : Nat} {op : BinOp} {t u : TypeId} {X Y : Operand} {x y : AV} {E : Eff}
    (ho : o.op = .binOp op t X Y u) (hX : ev X = some x) (hY : ev Y = some y) (h : (binA P op t x y).sel = some E) : OpSound P o ev g nx E := by
  have key : ∃ v, E = ⟨v, [], [], []⟩ ∧ ∀ (ρ : Rho) (w : World) (cx cy : Value), AR ρ x cx → AR ρ y cy → ∃ cv, (eqGuard op t X Y cx cy).run P w = .ok () w ∧ (binOp op t cx cy).run P w = .ok cv w ∧ AR ρ v cv := by
    unfold binA at h
    split at h
    · rename_i k a j b
      have hguard : ∀ w, (eqGuard op t X Y (.int k a) (.int j b)).run P w = .ok () w := by intro w; cases op <;> simp [eqGuard]
      split at h
      · split at h
        · rename_i ok v hv
          obtain ⟨hok, rfl⟩ := sel_eff h
          refine ⟨_, rfl, fun ρ w cx cy hx hy => ?_⟩
          simp only [AR, ER, CR] at hx hy; subst hx hy
          obtain ⟨cv, h1, h2⟩ := shiftOp_run (P := P) (j := j) w t hv hok
          exact ⟨cv, hguard w, h1, h2 ρ⟩
        · exact (sel_fail h).elim
      · split at h
        · rename_i ok v hv
          obtain ⟨hok, rfl⟩ := sel_eff h
          refine ⟨_, rfl, fun ρ w cx cy hx hy => ?_⟩
          simp only [AR, ER, CR] at hx hy; subst hx hy
          obtain ⟨cv, h1, h2⟩ := shiftOp_run (P := P) (j := j) w t hv hok
          exact ⟨cv, hguard w, h1, h2 ρ⟩
        · exact (sel_fail h).elim
      · rename_i hs1 hs2
        split at h
        · rename_i hkj
          subst hkj
          split at h
          · rename_i ok v hv
            obtain ⟨hok, rfl⟩ := sel_eff h
            refine ⟨_, rfl, fun ρ w cx cy hx hy => ?_⟩
            simp only [AR, ER, CR] at hx hy; subst hx hy
            obtain ⟨cv, h1, h2⟩ := intBin_run (P := P) w t hv hok hs1 hs2
            exact ⟨cv, hguard w, h1, h2 ρ⟩
          · exact (sel_fail h).elim
        · exact (sel_fail h).elim
    · split at h
      · split at h
        · rename_i r hr
          refine ⟨_, sel_pure h, fun ρ w cx cy hx hy => ?_⟩
          obtain ⟨h1, h2, h3, h4, h5, h6⟩ := eqVal_run w hr hx hy X Y .eql
          exact ⟨_, h2, (binOp_eql h1 h3 h4 h5 h6).1, rfl⟩
        · exact (sel_fail h).elim
      · split at h
        · rename_i r hr
          refine ⟨_, sel_pure h, fun ρ w cx cy hx hy => ?_⟩
          obtain ⟨h1, h2, h3, h4, h5, h6⟩ := eqVal_run w hr hx hy X Y .neq
          exact ⟨_, h2, (binOp_eql h1 h3 h4 h5 h6).2, rfl⟩
        · exact (sel_fail h).elim
      · exact (sel_fail h).elim
  obtain ⟨v, rfl, hk⟩ := key
  refine quiet_sound fun g' ρ w a _ hev hi => ?_
  obtain ⟨cv, h1, h2, h3⟩ := hk ρ w _ _ (hev X (by simp [ho, Op.operands]) _ hX) (hev Y (by simp [ho, Op.operands]) _ hY)
  exact ⟨cv, by simp [execOp, ho, h1, h2], h3⟩

/-- One operand, and what is made of it without memory. -/
theorem un_sound {P : Program} {o : Oper} {ev : Operand → Option AV} {g : Get} {nx : Nat} {X : Operand} {x : AV} {E : Eff} {f : Value → Sem Value}
    (hX : ev X = some x) (hm : X ∈ o.op.operands.toList) (hf : ∀ ρ : Operand → Value, execOp ρ o = (do pure (.value (← f (ρ X)))))
    (h : ∃ v, E = ⟨v, [], [], []⟩ ∧ ∀ (ρ : Rho) (w : World) (cx : Value), AR ρ x cx → ∃ cv, (f cx).run P w = .ok cv w ∧ AR ρ v cv) : OpSound P o ev g nx E := by
  obtain ⟨v, rfl, hk⟩ := h
  refine quiet_sound fun g' ρ w a _ hev hi => ?_
  obtain ⟨cv, h1, h2⟩ := hk ρ w _ (hev X hm _ hX)
  exact ⟨cv, by simp [hf, h1], h2⟩

theorem move_sound {P : Program} {o : Oper} {ev : Operand → Option AV} {g : Get} {nx : Nat} {X : Operand} {x : AV} (ho : o.op = .move X ∨ o.op = .assign X) (hX : ev X = some x) :
    OpSound P o ev g nx ⟨x, [], [], []⟩ := by
  refine quiet_sound fun g' ρ w a _ hev hi => ⟨a.eval X, ?_, hev X ?_ _ hX⟩
  · rcases ho with ho | ho <;> simp [execOp, ho]
  · rcases ho with ho | ho <;> simp [ho, Op.operands]

theorem pick_sound {P : Program} {o : Oper} {ev : Operand → Option AV} {g : Get} {nx : Nat} {C A B : Operand} {c : Bool} {x y : AV} {E : Eff} (ho : o.op = .pick C A B)
    (hC : ev C = some (.e (.c (.bool c)))) (hA : ev A = some x) (hB : ev B = some y) (h : (Out.br c (pureEff x) (pureEff y)).sel = some E) : OpSound P o ev g nx E := by
  cases c with
  | true =>
    rw [sel_pure h]
    refine quiet_sound fun g' ρ w a _ hev hi => ⟨a.eval A, ?_, hev A (by simp [ho, Op.operands]) _ hA⟩
    have : a.eval C = .bool true := hev C (by simp [ho, Op.operands]) _ hC
    simp [execOp, ho, this, asBool]
  | false =>
    rw [sel_pure h]
    refine quiet_sound fun g' ρ w a _ hev hi => ⟨a.eval B, ?_, hev B (by simp [ho, Op.operands]) _ hB⟩
    have : a.eval C = .bool false := hev C (by simp [ho, Op.operands]) _ hC
    simp [execOp, ho, this, asBool]

theorem unop_sound {P : Program} {o : Oper} {ev : Operand → Option AV} {g : Get} {nx : Nat} {op : UnOp} {t : TypeId} {X : Operand} {x : AV} {E : Eff}
    (ho : o.op = .unOp op t X) (hX : ev X = some x) (h : (unA op x).sel = some E) : OpSound P o ev g nx E := by
  refine un_sound hX (by simp [ho, Op.operands]) (f := fun v => Op.unary op v) (fun ρ => by simp [execOp, ho]) ?_
  unfold unA at h
  split at h
  · refine ⟨_, sel_pure h, fun ρ w cx hx => ?_⟩
    simp only [AR, ER, CR] at hx; subst hx
    exact ⟨_, rfl, rfl⟩
  · refine ⟨_, sel_pure h, fun ρ w cx hx => ?_⟩
    simp only [AR, ER, CR] at hx; subst hx
    exact ⟨_, rfl, rfl⟩
  · refine ⟨_, sel_pure h, fun ρ w cx hx => ?_⟩
    simp only [AR, ER, CR] at hx; subst hx
    exact ⟨_, rfl, rfl⟩
  · exact (sel_fail h).elim

theorem conv_sound {P : Program} {o : Oper} {ev : Operand → Option AV} {g : Get} {nx : Nat} {s d : TypeId} {X : Operand} {x : AV} {E : Eff}
    (ho : o.op = .convert s d X) (hX : ev X = some x) (h : (convA P s d x).sel = some E) : OpSound P o ev g nx E := by
  refine un_sound hX (by simp [ho, Op.operands]) (f := fun v => convert s d v) (fun ρ => by simp [execOp, ho]) ?_
  unfold convA at h
  split at h
  · rename_i u k n hs hd
    refine ⟨_, sel_pure h, fun ρ w cx hx => ?_⟩
    simp only [AR, ER, CR] at hx; subst hx
    refine ⟨_, ?_, rfl⟩
    simp [convert, under w hs, under w hd, Conv.intToInt]
  · exact (sel_fail h).elim

theorem nilCheck_sound {P : Program} {o : Oper} {ev : Operand → Option AV} {g : Get} {nx : Nat} {X : Operand} {x : AV} {E : Eff}
    (ho : o.op = .nilCheck X) (hX : ev X = some x) (h : (nilCheckA x).sel = some E) : OpSound P o ev g nx E := by
  unfold nilCheckA at h
  split at h
  · rw [sel_pure h]
    refine quiet_sound fun g' ρ w a _ hev hi => ?_
    have hx := hev X (by simp [ho, Op.operands]) _ hX
    obtain ⟨r, hr, he⟩ := hx
    exact ⟨_, by simp [execOp, ho, he], r, hr, rfl⟩
  · rw [sel_pure h]
    refine quiet_sound fun g' ρ w a _ hev hi => ?_
    have hx := hev X (by simp [ho, Op.operands]) _ hX
    obtain ⟨r, he, hr⟩ := hx
    exact ⟨_, by simp [execOp, ho, he], r, rfl, hr⟩
  · exact (sel_fail h).elim

theorem extract_sound {P : Program} {o : Oper} {ev : Operand → Option AV} {g : Get} {nx : Nat} {X : Operand} {x : AV} {i : Nat} {E : Eff}
    (ho : o.op = .extract X i) (hX : ev X = some x) (h : (extractA x i).sel = some E) : OpSound P o ev g nx E := by
  refine un_sound hX (by simp [ho, Op.operands]) (f := fun v => Instr.extract v i) (fun ρ => by simp [execOp, ho]) ?_
  unfold extractA at h
  split at h
  · split at h
    · rename_i l v hv
      refine ⟨_, sel_pure h, fun ρ w cx hx => ?_⟩
      obtain ⟨vs, rfl, hl⟩ := hx
      obtain ⟨b, hb, hr⟩ := hl.2 _ _ hv
      have : vs[i]? = some b := by simpa using hb
      exact ⟨b, by simp [Instr.extract, this], hr⟩
    · exact (sel_fail h).elim
  · exact (sel_fail h).elim

theorem field_sound {P : Program} {o : Oper} {ev : Operand → Option AV} {g : Get} {nx : Nat} {s : TypeId} {X : Operand} {x : AV} {i : Nat} {E : Eff}
    (ho : o.op = .field s X i) (hX : ev X = some x) (h : (fieldA P s x i).sel = some E) : OpSound P o ev g nx E := by
  refine un_sound hX (by simp [ho, Op.operands]) (f := fun v => Instr.field s v i) (fun ρ => by simp [execOp, ho]) ?_
  unfold fieldA at h
  split at h
  · rename_i fs cs hs
    split at h
    · rename_i fd hfd
      split at h
      · rename_i v hv
        refine ⟨_, sel_pure h, fun ρ w cx hx => ?_⟩
        obtain ⟨vs, rfl, hl⟩ := hx
        obtain ⟨cv, h1, h2⟩ := part_run w hv hl
        exact ⟨cv, by simp [Instr.field, under w hs, hfd, asAgg, h1], h2⟩
      · exact (sel_fail h).elim
    · exact (sel_fail h).elim
  · exact (sel_fail h).elim

theorem fieldAddr_sound {P : Program} {o : Oper} {ev : Operand → Option AV} {g : Get} {nx : Nat} {s : TypeId} {X : Operand} {x : AV} {i : Nat} {E : Eff}
    (ho : o.op = .fieldAddr s X i) (hX : ev X = some x) (h : (fieldAddrA P s x i).sel = some E) : OpSound P o ev g nx E := by
  refine un_sound hX (by simp [ho, Op.operands]) (f := fun v => Instr.fieldAt s v i) (fun ρ => by simp [execOp, ho]) ?_
  unfold fieldAddrA at h
  split at h
  · rename_i fs l hs
    split at h
    · rename_i fd hfd
      split at h
      · rename_i n hn
        refine ⟨_, sel_pure h, fun ρ w cx hx => ?_⟩
        obtain ⟨r, hr, rfl⟩ := hx
        refine ⟨_, by simp [Instr.fieldAt, under w hs, hfd, Instr.sureAddr, fieldPlace, size_run w hn, addr_add]; rfl, r, hr, ?_⟩
        simp [Loc.flat]; omega
      · exact (sel_fail h).elim
    · exact (sel_fail h).elim
  · exact (sel_fail h).elim

/- A walker of Go functions over data: indices, slices, composite values. -/
theorem Loc.flat_skip {l : Loc} {es : Nat} (h : l.stride = es) (k : Nat) : (l.skip k).flat = l.flat + k * es := by
  subst h
  obtain ⟨id, row, sz, col, ix, e, n⟩ := l
  cases sz <;> simp [Loc.skip, Loc.flat, Loc.stride, Nat.add_mul] <;> omega

theorem Loc.skip_id (l : Loc) (k : Nat) : (l.skip k).id = l.id := by
  obtain ⟨id, row, sz, col, ix, e, n⟩ := l
  cases sz <;> rfl

theorem Loc.skip_stride (l : Loc) (k : Nat) : (l.skip k).stride = l.stride := by
  obtain ⟨id, row, sz, col, ix, e, n⟩ := l
  cases sz <;> rfl

theorem intsOf_map {k : IntKind} : ∀ {cs : List AC} {xs : List Int}, intsOf k cs = some xs → cs = xs.map (.int k)
  | [], xs, h => by simp [intsOf] at h; subst h; rfl
  | a :: r, xs, h => by
    cases a <;> simp only [intsOf, reduceCtorEq] at h
    rename_i j n
    by_cases e : j = k
    · subst e
      simp only [if_true, Option.map_eq_some_iff] at h
      obtain ⟨ys, hy, rfl⟩ := h
      rw [intsOf_map hy]; rfl
    · simp [e] at h

theorem boolsOf_map : ∀ {cs : List AC} {xs : List Bool}, boolsOf cs = some xs → cs = xs.map .bool
  | [], xs, h => by simp [boolsOf] at h; subst h; rfl
  | a :: r, xs, h => by
    cases a <;> simp only [boolsOf, reduceCtorEq, Option.map_eq_some_iff] at h
    obtain ⟨ys, hy, rfl⟩ := h
    rw [boolsOf_map hy]; rfl

theorem pickCell_sel {cs : List AC} {ix : Nat} {a : AC} (h : (pickCell cs ix).sel = some a) : cs[ix]? = some a := by
  have lit : ∀ {a : AC}, (match cs[ix]? with | some a => Out.eff true a | none => Out.fail).sel = some a → cs[ix]? = some a := by
    intro a h
    split at h
    · rename_i b hb; rw [hb]; rw [(sel_eff h).2]
    · exact (sel_fail h).elim
  unfold pickCell at h
  split at h
  · rename_i k n r
    split at h
    · rename_i xs hx
      obtain ⟨h1, rfl⟩ := sel_eff h
      simp only [decide_eq_true_eq] at h1
      rw [intsOf_map hx]
      simp [h1]
    · exact lit h
  · rename_i b r
    split at h
    · rename_i xs hx
      obtain ⟨h1, rfl⟩ := sel_eff h
      simp only [decide_eq_true_eq] at h1
      rw [boolsOf_map hx]
      simp [h1]
    · exact lit h
  · exact lit h

theorem inR_spec {i : Int} {n : Nat} (h : inR i n = true) : 0 ≤ i ∧ i < (n : Int) := by
  simpa [inR] using h

theorem indexAddr_sound {P : Program} {o : Oper} {ev : Operand → Option AV} {g : Get} {nx : Nat} {t : TypeId} {X I : Operand} {x i : AV} {E : Eff}
    (ho : o.op = .indexAddr t X I) (hX : ev X = some x) (hI : ev I = some i) (h : (indexAddrA P t x i).sel = some E) : OpSound P o ev g nx E := by
  unfold indexAddrA at h
  split at h
  · rename_i n e id row sz col ix0 n0 k i hd
    split at h
    · rename_i s hs
      obtain ⟨hin, rfl⟩ := sel_eff h
      refine quiet_sound fun g' ρ w a _ hev hi => ?_
      have hx := hev X (by simp [ho, Op.operands]) _ hX
      have hi' := hev I (by simp [ho, Op.operands]) _ hI
      obtain ⟨r, hr, hx⟩ := hx
      simp only [AR, ER, CR] at hi'
      refine ⟨.pointer (some ⟨r.blk, r.off + Loc.flat ⟨id, row, sz, col, i.toNat, s + 1, n⟩, none⟩), ?_, r, hr, rfl⟩
      simp only [execOp, ho, Instr.indexAt, hx, hi', asIntOf, Sem.run_bind, Sem.run_pure, Result.andThen_ok, under w hd, Instr.sureAddr]
      rw [if_pos (inR_spec hin)]
      simp only [Sem.run_bind, size_run w hs, Result.andThen_ok, Sem.run_pure, addr_add]
      congr 5
      simp [Loc.flat]; omega
    · exact (sel_fail h).elim
  · rename_i e l es len ext nn k i hd
    split at h
    · rename_i s hs
      split at h
      · rename_i hse
        obtain ⟨rfl, hst⟩ := hse
        obtain ⟨hin, rfl⟩ := sel_eff h
        refine quiet_sound fun g' ρ w a _ hev hi => ?_
        have hx := hev X (by simp [ho, Op.operands]) _ hX
        have hi' := hev I (by simp [ho, Op.operands]) _ hI
        obtain ⟨ca, cap, hx, h1, h2, h3, h4⟩ := hx
        simp only [AR, ER, CR] at hi'
        have hb := inR_spec hin
        obtain ⟨r, hr, rfl, h5⟩ := h4 (by omega)
        refine ⟨.pointer (some ⟨r.blk, r.off + (l.skip i.toNat).flat, none⟩), ?_, r, by rw [Loc.skip_id]; exact hr, rfl⟩
        simp only [execOp, ho, Instr.indexAt, hx, hi', asIntOf, Sem.run_bind, Sem.run_pure, Result.andThen_ok, under w hd]
        rw [if_pos hb]
        simp only [Sem.run_bind, size_run w hs, Result.andThen_ok, Sem.run_pure, addr_add, Loc.flat_skip hst]
        congr 5
        omega
      · exact (sel_fail h).elim
    · exact (sel_fail h).elim
  · exact (sel_fail h).elim

theorem index_sound {P : Program} {o : Oper} {ev : Operand → Option AV} {g : Get} {nx : Nat} {t : TypeId} {X I : Operand} {x i : AV} {E : Eff}
    (ho : o.op = .index t X I) (hX : ev X = some x) (hI : ev I = some i) (h : (indexA P t x i).sel = some E) : OpSound P o ev g nx E := by
  unfold indexA at h
  split at h
  · rename_i n e cs k i hd
    split at h
    · rename_i ha hs
      split at h
      · rename_i hlen
        split at h
        · rename_i ok v hp
          obtain ⟨hin, rfl⟩ := sel_eff h
          simp only [Bool.and_eq_true] at hin
          have hc : cs[i.toNat]? = some v := pickCell_sel (by rw [hp, hin.2]; rfl)
          refine quiet_sound fun g' ρ w a _ hev hi => ?_
          have hx := hev X (by simp [ho, Op.operands]) _ hX
          have hi' := hev I (by simp [ho, Op.operands]) _ hI
          obtain ⟨vs, hx, hl⟩ := hx
          simp only [AR, ER, CR] at hi'
          obtain ⟨cv, h1, h2⟩ := part_run (P := P) (t := e) (off := i.toNat) (v := .c v) w (by simp [partA, ha, hs, hc]) hl
          refine ⟨cv, ?_, h2⟩
          simp only [execOp, ho, Instr.index, hx, hi', asIntOf, Sem.run_bind, Sem.run_pure, Result.andThen_ok, under w hd]
          rw [if_pos (inR_spec hin.1)]
          simp [size_run w hs, h1]
        · exact (sel_fail h).elim
      · exact (sel_fail h).elim
    · rename_i s ha hs
      obtain ⟨hin, rfl⟩ := sel_eff h
      refine quiet_sound fun g' ρ w a _ hev hi => ?_
      have hx := hev X (by simp [ho, Op.operands]) _ hX
      have hi' := hev I (by simp [ho, Op.operands]) _ hI
      obtain ⟨vs, hx, hl⟩ := hx
      simp only [AR, ER, CR] at hi'
      obtain ⟨cv, h1, h2⟩ := part_run (P := P) (t := e) (off := i.toNat * s) (v := .agg ((cs.drop (i.toNat * s)).take s)) w (by simp [partA, ha, hs]) hl
      refine ⟨cv, ?_, h2⟩
      simp only [execOp, ho, Instr.index, hx, hi', asIntOf, Sem.run_bind, Sem.run_pure, Result.andThen_ok, under w hd]
      rw [if_pos (inR_spec hin)]
      simp [size_run w hs, h1]
    · exact (sel_fail h).elim
  · exact (sel_fail h).elim

/-- What the bounds come to. -/
theorem bounds_run {P : Program} {ρ : Rho} {len cap : Nat} {lo hi : Option AV} {ok : Bool} {a : Option Nat} {m : Nat} {r : Option Nat} (w : World) (sl : Bool)
    (h : boundsA len lo hi = some (ok, a, m, r)) (hok : ok = true) (hc : len ≤ cap) {clo chi : Option Value}
    (hlo : ∀ v, lo = some v → ∃ c, clo = some c ∧ AR ρ v c) (hhi : ∀ v, hi = some v → ∃ c, chi = some c ∧ AR ρ v c) (hlo' : lo = none → clo = none) (hhi' : hi = none → chi = none) :
    ∃ l b, (Instr.sliceBounds sl len cap clo chi none).run P w = .ok (l, b, cap) w ∧ l = a.getD 0 ∧ (a = none → l = 0) ∧ l ≤ b ∧ b ≤ len ∧ m = b - l ∧ (∀ e, addExt e r = e + (len - b)) := by
  subst hok
  have bound : ∀ (x : Int) (k : IntKind) (y : Nat) (c : BoundsCode), 0 ≤ x → x ≤ y → (Instr.sliceBound (.int k x) y c).run P w = .ok x.toNat w := by
    intro x k y c h1 h2
    simp only [Instr.sliceBound, asIntOf, Sem.run_bind, Sem.run_pure, Result.andThen_ok]
    rw [if_pos ⟨h1, h2⟩]; rfl
  unfold boundsA at h
  split at h
  · injection h with h; simp only [Prod.mk.injEq] at h; obtain ⟨_, rfl, rfl, rfl⟩ := h
    rw [hlo' rfl, hhi' rfl]
    exact ⟨0, len, by simp [Instr.sliceBounds], rfl, fun _ => rfl, by omega, by omega, by omega, fun e => by simp [addExt]⟩
  · rename_i k x
    injection h with h; simp only [Prod.mk.injEq] at h; obtain ⟨h1, rfl, rfl, rfl⟩ := h
    simp only [Bool.and_eq_true, decide_eq_true_eq] at h1
    obtain ⟨c, hc', hx⟩ := hhi _ rfl
    simp only [AR, ER, CR] at hx; subst hx
    rw [hlo' rfl, hc']
    refine ⟨0, x.toNat, ?_, rfl, fun _ => rfl, by omega, by omega, by omega, fun e => rfl⟩
    simp [Instr.sliceBounds, bound x k cap _ h1.1 (by omega)]
  · rename_i k x
    injection h with h; simp only [Prod.mk.injEq] at h; obtain ⟨h1, rfl, rfl, rfl⟩ := h
    simp only [Bool.and_eq_true, decide_eq_true_eq] at h1
    obtain ⟨c, hc', hx⟩ := hlo _ rfl
    simp only [AR, ER, CR] at hx; subst hx
    rw [hhi' rfl, hc']
    refine ⟨x.toNat, len, ?_, rfl, fun e => by simp at e, by omega, by omega, by omega, fun e => by simp [addExt]⟩
    simp [Instr.sliceBounds, bound x k len _ h1.1 (by omega)]
  · rename_i k x j y
    injection h with h; simp only [Prod.mk.injEq] at h; obtain ⟨h1, rfl, rfl, rfl⟩ := h
    simp only [Bool.and_eq_true, decide_eq_true_eq] at h1
    obtain ⟨c, hc', hx⟩ := hlo _ rfl
    simp only [AR, ER, CR] at hx; subst hx
    obtain ⟨c, hd', hx⟩ := hhi _ rfl
    simp only [AR, ER, CR] at hx; subst hx
    rw [hd', hc']
    refine ⟨x.toNat, y.toNat, ?_, rfl, fun e => by simp at e, by omega, by omega, by omega, fun e => rfl⟩
    simp [Instr.sliceBounds, bound y j cap _ h1.1.1.1 (by omega), bound x k y.toNat _ h1.1.2 (by omega)]
  · cases h

theorem ovA_spec {ρ : Rho} {ev : Operand → Option AV} {a : Act} {X : Option Operand} {v : Option AV} (h : ovA ev X = some v) (hev : ∀ x, X = some x → ∀ v, ev x = some v → AR ρ v (a.eval x)) :
    (∀ u, v = some u → ∃ c, X.map a.eval = some c ∧ AR ρ u c) ∧ (v = none → X.map a.eval = none) := by
  cases X with
  | none => simp [ovA] at h; subst h; exact ⟨fun u hu => by simp at hu, fun _ => rfl⟩
  | some x =>
    simp only [ovA, Option.map_eq_some_iff] at h
    obtain ⟨u, hu, rfl⟩ := h
    exact ⟨fun y hy => by injection hy with hy; subst hy; exact ⟨_, rfl, hev x rfl u hu⟩, fun h => by simp at h⟩

theorem Loc.skip?_flat {l : Loc} {es : Nat} (h : l.stride = es) (k : Option Nat) : (l.skip? k).flat = l.flat + k.getD 0 * es := by
  cases k with
  | none => simp [Loc.skip?]
  | some k => simp [Loc.skip?, Loc.flat_skip h]

theorem Loc.skip?_id (l : Loc) (k : Option Nat) : (l.skip? k).id = l.id := by
  cases k with
  | none => rfl
  | some k => exact Loc.skip_id l k

theorem slice3_sound {P : Program} {o : Oper} {ev : Operand → Option AV} {g : Get} {nx : Nat} {t : TypeId} {X L H M : Operand} {x lo hi mx : AV} {E : Eff}
    (ho : o.op = .slice t X (some L) (some H) (some M)) (hX : ev X = some x) (hL : ev L = some lo) (hH : ev H = some hi) (hM : ev M = some mx) (h : (slice3A P t x lo hi mx).sel = some E) : OpSound P o ev g nx E := by
  have bound : ∀ (w : World) (x : Int) (k : IntKind) (y : Nat) (c : BoundsCode), 0 ≤ x → x ≤ y → (Instr.sliceBound (.int k x) y c).run P w = .ok x.toNat w := by
    intro w x k y c h1 h2
    simp only [Instr.sliceBound, asIntOf, Sem.run_bind, Sem.run_pure, Result.andThen_ok]
    rw [if_pos ⟨h1, h2⟩]; rfl
  unfold slice3A at h
  split at h
  · rename_i e l es len ext nn k1 a k2 b k3 c hd
    split at h
    · rename_i s hs
      obtain ⟨hok, rfl⟩ := sel_eff h
      simp only [Bool.and_eq_true, decide_eq_true_eq] at hok
      obtain ⟨⟨⟨q1, q2⟩, q3⟩, q4⟩ := hok
      refine quiet_sound fun g' ρ w act _ hev hi' => ?_
      have hx := hev X (by simp [ho, Op.operands]) _ hX
      obtain ⟨ca, cap, hx, h1, h2, h3, h4⟩ := hx
      have hl := hev L (by simp [ho, Op.operands]) _ hL
      have hh := hev H (by simp [ho, Op.operands]) _ hH
      have hm := hev M (by simp [ho, Op.operands]) _ hM
      simp only [AR, ER, CR] at hl hh hm
      refine ⟨.slice (if c.toNat = a.toNat then ca else ca.map (·.add (a.toNat * s))) (b.toNat - a.toNat) (c.toNat - a.toNat), ?_, trivial⟩
      simp only [execOp, ho, Instr.sliceAt, Instr.slice, Instr.sliceBounds, Sem.run_bind, under w hd, Result.andThen_ok, hx, Option.map_some, hl, hh, hm, bound w c k3 cap _ (by omega) (by omega), bound w b k2 c.toNat _ (by omega) (by omega), bound w a k1 b.toNat _ (by omega) (by omega), size_run w hs, Sem.run_pure]
    · exact (sel_fail h).elim
  · exact (sel_fail h).elim

theorem slice_sound {P : Program} {o : Oper} {ev : Operand → Option AV} {g : Get} {nx : Nat} {t : TypeId} {X : Operand} {L H : Option Operand} {x : AV} {lo hi : Option AV} {E : Eff}
    (ho : o.op = .slice t X L H none) (hX : ev X = some x) (hL : ovA ev L = some lo) (hH : ovA ev H = some hi) (h : (sliceA P g t x lo hi).sel = some E) : OpSound P o ev g nx E := by
  unfold sliceA at h
  split at h
  · rename_i e l es len ext nn hd
    split at h
    · rename_i s ok a m r hs hb
      split at h
      · rename_i hse
        obtain ⟨rfl, hst⟩ := hse
        obtain ⟨hok, rfl⟩ := sel_eff h
        refine quiet_sound fun g' ρ w act _ hev hi' => ?_
        have hx := hev X (by simp [ho, Op.operands]) _ hX
        obtain ⟨ca, cap, hx, h1, h2, h3, h4⟩ := hx
        obtain ⟨hlo1, hlo2⟩ := ovA_spec hL (fun y hy v hv => hev y (by simp [ho, Op.operands, hy]) v hv)
        obtain ⟨hhi1, hhi2⟩ := ovA_spec hH (fun y hy v hv => hev y (by simp [ho, Op.operands, hy]) v hv)
        obtain ⟨lw, b, hrun, hl0, hln, hlb, hbl, hm, hext⟩ := bounds_run (P := P) (cap := cap) w true hb hok (by omega) hlo1 hhi1 hlo2 hhi2
        refine ⟨.slice (if cap = lw then ca else ca.map (·.add (lw * s))) (b - lw) (cap - lw), ?_, ?_⟩
        · simp only [execOp, ho, Instr.sliceAt, Instr.slice, Sem.run_bind, under w hd, Result.andThen_ok, hx, Option.map_none, hrun, size_run w hs, Sem.run_pure]
        · refine ⟨_, _, by rw [hm], ?_, ?_, ?_, ?_⟩
          · rw [hext, hm]; omega
          · intro hn; split
            · exact h2 hn
            · simpa using h2 hn
          · intro hca; split at hca
            · rename_i e; omega
            · simp at hca; have := h3 hca; omega
          · intro hp
            obtain ⟨r0, hr0, rfl, hsz⟩ := h4 (by omega)
            refine ⟨r0, by rw [Loc.skip?_id]; exact hr0, ?_, ?_⟩
            · rw [if_neg (by omega), Loc.skip?_flat hst, ← hl0]
              simp [addr_add]; omega
            · rw [Loc.skip?_flat hst, ← hl0, Nat.sub_mul]
              have : lw * s ≤ cap * s := Nat.mul_le_mul_right _ (by omega)
              omega
      · exact (sel_fail h).elim
    · exact (sel_fail h).elim
  · rename_i n e id row col ix0 n0 hd
    split at h
    · rename_i s ok a m r ro cs hs hb hg0
      split at h
      · rename_i hcs
        obtain ⟨hok, rfl⟩ := sel_eff h
        refine quiet_sound fun g' ρ w act hg hev hi' => ?_
        have hg0' : g' id = some ⟨ro, .mix cs⟩ := by rw [hg id (by simp)]; exact hg0
        have hx := hev X (by simp [ho, Op.operands]) _ hX
        obtain ⟨r0, hr0, hx⟩ := hx
        obtain ⟨r1, hr1, hold⟩ := hi'.blk _ _ hg0'
        rw [hr0] at hr1; injection hr1 with hr1; subst hr1
        obtain ⟨hlo1, hlo2⟩ := ovA_spec hL (fun y hy v hv => hev y (by simp [ho, Op.operands, hy]) v hv)
        obtain ⟨hhi1, hhi2⟩ := ovA_spec hH (fun y hy v hv => hev y (by simp [ho, Op.operands, hy]) v hv)
        obtain ⟨lw, b, hrun, hl0, hln, hlb, hbl, hm, hext⟩ := bounds_run (P := P) (cap := n) w false hb hok (by omega) hlo1 hhi1 hlo2 hhi2
        refine ⟨.slice (some (if n = lw then ⟨r0.blk, r0.off + Loc.flat ⟨id, row, 0, col, ix0, 0, n0⟩, none⟩ else (⟨r0.blk, r0.off + Loc.flat ⟨id, row, 0, col, ix0, 0, n0⟩, none⟩ : Addr).add (lw * (s + 1)))) (b - lw) (n - lw), ?_, ?_⟩
        · simp only [execOp, ho, Instr.sliceAt, Sem.run_bind, under w hd, Result.andThen_ok, hx, Option.map_none, hrun, size_run w hs, Sem.run_pure, Instr.sureAddr]
        · refine ⟨_, _, by rw [hm], ?_, ?_, ?_, ?_⟩
          · rw [hext, hm]; omega
          · intro _; simp
          · intro hca; simp at hca
          · intro hp
            refine ⟨r0, hr0, ?_, ?_⟩
            · rw [if_neg (by omega)]
              simp only [addr_add, Option.some.injEq, Addr.mk.injEq, true_and, and_true]
              simp [Loc.flat, hl0]
              omega
            · have hn : 0 < n * (s + 1) := Nat.mul_pos (by omega) (by omega)
              have hlast := (hold.2 (col + n * (s + 1) - 1) (cs[col + n * (s + 1) - 1]'(by omega)) (by simp [Data.flat])).1
              simp only [Loc.flat, Nat.mul_zero, Nat.zero_add, ← hl0]
              have : lw * (s + 1) ≤ n * (s + 1) := Nat.mul_le_mul_right _ (by omega)
              rw [Nat.sub_mul]
              omega
      · exact (sel_fail h).elim
    · exact (sel_fail h).elim
  · exact (sel_fail h).elim

theorem slice2_sound {P : Program} {o : Oper} {ev : Operand → Option AV} {g : Get} {nx : Nat} {t : TypeId} {X L H : Operand} {x lo hi : AV} {E : Eff}
    (ho : o.op = .slice t X (some L) (some H) none) (hX : ev X = some x) (hL : ev L = some lo) (hH : ev H = some hi) (h : (slice2A P g t x lo hi).sel = some E) : OpSound P o ev g nx E := by
  have bound : ∀ (w : World) (x : Int) (k : IntKind) (y : Nat) (c : BoundsCode), 0 ≤ x → x ≤ y → (Instr.sliceBound (.int k x) y c).run P w = .ok x.toNat w := by
    intro w x k y c h1 h2
    simp only [Instr.sliceBound, asIntOf, Sem.run_bind, Sem.run_pure, Result.andThen_ok]
    rw [if_pos ⟨h1, h2⟩]; rfl
  unfold slice2A at h
  split at h
  · rename_i e l es len ext nn k1 a k2 b hd
    split at h
    · rename_i s hs
      split at h
      · rename_i hse
        obtain ⟨rfl, hst⟩ := hse
        obtain ⟨hok, rfl⟩ := sel_eff h
        simp only [Bool.and_eq_true, decide_eq_true_eq] at hok
        obtain ⟨⟨⟨q1, q2⟩, q3⟩, q4⟩ := hok
        refine quiet_sound fun g' ρ w act _ hev hi' => ?_
        have hx := hev X (by simp [ho, Op.operands]) _ hX
        obtain ⟨ca, cap, hx, h1, h2, h3, h4⟩ := hx
        have hl := hev L (by simp [ho, Op.operands]) _ hL
        have hh := hev H (by simp [ho, Op.operands]) _ hH
        simp only [AR, ER, CR] at hl hh
        refine ⟨.slice (if cap = a.toNat then ca else ca.map (·.add (a.toNat * s))) (b.toNat - a.toNat) (cap - a.toNat), ?_, ?_⟩
        · simp only [execOp, ho, Instr.sliceAt, Instr.slice, Instr.sliceBounds, Sem.run_bind, under w hd, Result.andThen_ok, hx, Option.map_some, Option.map_none, hl, hh, bound w b k2 cap _ (by omega) (by omega), bound w a k1 b.toNat _ (by omega) (by omega), size_run w hs, Sem.run_pure]
        · refine ⟨_, _, rfl, ?_, ?_, ?_, ?_⟩
          · omega
          · intro hn; split
            · exact h2 hn
            · simpa using h2 hn
          · intro hca; split at hca
            · rename_i e; omega
            · simp at hca; have := h3 hca; omega
          · intro hp
            obtain ⟨r0, hr0, rfl, hsz⟩ := h4 (by omega)
            refine ⟨r0, by rw [Loc.skip_id]; exact hr0, ?_, ?_⟩
            · have hp' : 0 < cap - a.toNat := hp
              rw [if_neg (fun e => by rw [e, Nat.sub_self] at hp'; exact Nat.lt_irrefl _ hp'), Loc.flat_skip hst]
              simp only [addr_add, Option.map_some]
              rw [Nat.add_assoc]
            · rw [Loc.flat_skip hst, Nat.sub_mul]
              have hq : a.toNat * s ≤ cap * s := Nat.mul_le_mul_right _ (by omega)
              have lem : ∀ f u v z : Nat, u ≤ v → f + v ≤ z → f + u + (v - u) ≤ z := fun f u v z h1 h2 => by omega
              exact lem _ _ _ _ hq hsz
      · exact (sel_fail h).elim
    · exact (sel_fail h).elim
  · exact slice_sound ho hX (by simp [ovA, hL]) (by simp [ovA, hH]) h

/- A walker of Go functions over data: contents of blocks, read and written. -/
def colsAt (cs : List Col) (q j : Nat) : Option AC := (cs[j]?).bind fun c => c.get? q

theorem rows_flat {cs : List Col} {i : Nat} (h : 0 < cs.length) : (Data.rows cs).flat i = colsAt cs (i / cs.length) (i % cs.length) := by
  simp only [Data.flat, colsAt, if_neg (show ¬ cs.length = 0 from by omega)]

theorem Col.get?_some {c : Col} {q : Nat} : q < c.len ↔ ∃ a, c.get? q = some a := by
  cases c with
  | ints k l => simp only [Col.len, Col.get?]; constructor
                · intro h; exact ⟨.int k l[q], by simp [h]⟩
                · rintro ⟨a, h⟩; by_cases hq : q < l.length
                  · exact hq
                  · simp [List.getElem?_eq_none (Nat.le_of_not_lt hq)] at h
  | bools l => simp only [Col.len, Col.get?]; constructor
               · intro h; exact ⟨.bool l[q], by simp [h]⟩
               · rintro ⟨a, h⟩; by_cases hq : q < l.length
                 · exact hq
                 · simp [List.getElem?_eq_none (Nat.le_of_not_lt hq)] at h
  | acs l => simp only [Col.len, Col.get?]; constructor
             · intro h; exact ⟨l[q], by simp [h]⟩
             · rintro ⟨a, h⟩; by_cases hq : q < l.length
               · exact hq
               · simp [List.getElem?_eq_none (Nat.le_of_not_lt hq)] at h

theorem Col.get?_none {c : Col} {q : Nat} (h : c.len ≤ q) : c.get? q = none := by
  cases hc : c.get? q with
  | none => rfl
  | some a => have := Col.get?_some.2 ⟨a, hc⟩; omega

theorem strided_len : ∀ {n start es : Nat} {cs as : List AC}, strided cs start es n = some as → as.length = n
  | 0, _, _, _, _, h => by simp [strided] at h; subst h; rfl
  | n + 1, start, es, cs, as, h => by
    simp only [strided] at h
    split at h
    · rename_i a l ha hl
      injection h with h; subst h
      simp [strided_len hl]
    · cases h

theorem strided_get : ∀ {n start es : Nat} {cs as : List AC}, strided cs start es n = some as → ∀ i, i < n → as[i]? = cs[start + i * es]?
  | 0, _, _, _, _, _, i, hi => by omega
  | n + 1, start, es, cs, as, h, i, hi => by
    simp only [strided] at h
    split at h
    · rename_i a l ha hl
      injection h with h; subst h
      cases i with
      | zero => simp [ha]
      | succ i =>
        have := strided_get hl i (by omega)
        simp only [List.getElem?_cons_succ, this]
        congr 1
        rw [Nat.add_mul]; omega
    · cases h

theorem setAt_kind {d d' : Data} {l : Loc} {j : Nat} {v : AC} {ok : Bool} (h : d.setAt l j v = some (ok, d')) : d.isCells ∧ d'.isCells := by
  cases d with
  | chan c n => cases h
  | mix cs =>
    refine ⟨trivial, ?_⟩
    simp only [Data.setAt] at h
    repeat' split at h
    all_goals first | (injection h with h; injection h with _ h; subst h; trivial) | cases h
  | rows cs =>
    refine ⟨trivial, ?_⟩
    simp only [Data.setAt] at h
    repeat' split at h
    all_goals first | (injection h with h; injection h with _ h; subst h; trivial) | cases h

theorem setAts_kind {l : Loc} : ∀ {as : List AC} {d d' : Data} {j : Nat} {ok : Bool}, d.setAts l j as = some (ok, d') → d' = d ∨ (d.isCells ∧ d'.isCells)
  | [], d, d', j, ok, h => by simp only [Data.setAts, Option.some.injEq, Prod.mk.injEq] at h; exact .inl h.2.symm
  | a :: as, d, d', j, ok, h => by
    simp only [Data.setAts] at h
    split at h
    · rename_i ok1 d1 h1
      split at h
      · rename_i ok2 d2 h2
        simp only [Option.some.injEq, Prod.mk.injEq] at h
        obtain ⟨_, rfl⟩ := h
        have k1 := setAt_kind h1
        rcases setAts_kind h2 with rfl | k2
        · exact .inr k1
        · exact .inr ⟨k1.1, k2.2⟩
      · cases h
    · cases h

theorem setRange_kind {d d' : Data} {l : Loc} {es n : Nat} {cols : List Col} {ok : Bool} (h : d.setRange l es n cols = some (ok, d')) : d.isCells ∧ d'.isCells := by
  cases d with
  | chan c n => cases h
  | mix cs =>
    refine ⟨trivial, ?_⟩
    simp only [Data.setRange] at h
    repeat' split at h
    all_goals first | (injection h with h; injection h with _ h; subst h; trivial) | cases h
  | rows cs =>
    refine ⟨trivial, ?_⟩
    simp only [Data.setRange] at h
    repeat' split at h
    all_goals first | (injection h with h; injection h with _ h; subst h; trivial) | cases h

theorem kind_stands {d d' : Data} (h : d' = d ∨ (d.isCells ∧ d'.isCells)) {w : World} {r : Pl} {ro : Bool} (hs : Stands w r ro d) : Stands w r ro d' := by
  rcases h with rfl | ⟨h1, h2⟩
  · exact hs
  · exact hs.like h1 h2

theorem range_kind {d : Data} {l : Loc} {es n : Nat} {q : Bool × List Col} (h : d.range l es n = some q) : d.isCells := by
  cases d with
  | chan c n => cases h
  | mix cs => trivial
  | rows cs => trivial

theorem at_flat {d : Data} {l : Loc} {j : Nat} {a : AC} (h : (d.at l j).sel = some a) : d.flat (l.flat + j) = some a := by
  obtain ⟨id, row, sz, col, ix, es, n⟩ := l
  unfold Data.at at h
  split at h
  · rename_i cs
    split at h
    · simp only at *
      subst_vars
      split at h
      · rename_i b hb
        rw [← (sel_eff h).2]
        simpa [Data.flat, Loc.flat] using hb
      · exact (sel_fail h).elim
    · rename_i e hsz hes
      simp only at hsz hes
      subst hsz hes
      split at h
      · rename_i as has
        have hp := pickCell_sel h
        have hlt : ix < n := by
          have := strided_len has
          rcases Nat.lt_or_ge ix as.length with h' | h'
          · simp only at this; omega
          · simp [List.getElem?_eq_none h'] at hp
        have hg := strided_get has ix hlt
        simp only [Data.flat, Loc.flat]
        rw [hp] at hg
        rw [show row * 0 + col + ix * (e + 1) + j = col + j + ix * (e + 1) from by omega]
        exact hg.symm
      · exact (sel_fail h).elim
    · exact (sel_fail h).elim
  · rename_i cs
    split at h
    · rename_i hc
      obtain ⟨hc, he⟩ := hc
      simp only at hc he
      subst hc he
      have hj : ∀ c, cs[col + j]? = some c → col + j < cs.length := fun c hc => by
        rcases Nat.lt_or_ge (col + j) cs.length with h' | h'
        · exact h'
        · simp [List.getElem?_eq_none h'] at hc
      have key : ∀ c, cs[col + j]? = some c → (Data.rows cs).flat (Loc.flat ⟨id, row, cs.length, col, ix, 0, n⟩ + j) = c.get? row := fun c hc => by
        have hlt := hj c hc
        rw [rows_flat (by omega)]
        simp only [Loc.flat, Nat.mul_zero, Nat.add_zero]
        rw [show row * cs.length + col + j = col + j + cs.length * row from by rw [Nat.mul_comm]; omega, Nat.add_mul_div_left _ _ (by omega), Nat.add_mul_mod_self_left, Nat.div_eq_of_lt hlt, Nat.mod_eq_of_lt hlt]
        simp [colsAt, hc]
      split at h
      · rename_i k xs hx
        obtain ⟨h1, rfl⟩ := sel_eff h
        simp only [decide_eq_true_eq] at h1
        rw [key _ hx]; simp [Col.get?, h1]
      · rename_i xs hx
        obtain ⟨h1, rfl⟩ := sel_eff h
        simp only [decide_eq_true_eq] at h1
        rw [key _ hx]; simp [Col.get?, h1]
      · rename_i xs hx
        split at h
        · rename_i b hb
          rw [← (sel_eff h).2, key _ hx]; simpa [Col.get?] using hb
        · exact (sel_fail h).elim
      · exact (sel_fail h).elim
    · exact (sel_fail h).elim
  · cases h

theorem ats_flat {d : Data} {l : Loc} : ∀ {n j : Nat} {as : List AC}, (d.ats l j n).sel = some as → as.length = n ∧ ∀ i a, as[i]? = some a → d.flat (l.flat + (j + i)) = some a
  | 0, j, as, h => by
    simp only [Data.ats] at h
    have := (sel_eff h).2
    subst this
    exact ⟨rfl, fun i a h => by simp at h⟩
  | n + 1, j, as, h => by
    simp only [Data.ats] at h
    split at h
    · rename_i ok a ok' as' h1 h2
      obtain ⟨hok, rfl⟩ := sel_eff h
      simp only [Bool.and_eq_true] at hok
      have ha := at_flat (d := d) (l := l) (j := j) (a := a) (by rw [h1, hok.1]; rfl)
      obtain ⟨hl, hr⟩ := ats_flat (d := d) (l := l) (n := n) (j := j + 1) (as := as') (by rw [h2, hok.2]; rfl)
      refine ⟨by simp [hl], fun i b hb => ?_⟩
      cases i with
      | zero => simp at hb; subst hb; simpa using ha
      | succ i =>
        have := hr i b (by simpa using hb)
        rw [show j + (i + 1) = j + 1 + i from by omega]
        exact this
    · exact (sel_fail h).elim

theorem set_same {α : Type} {l : List α} {i : Nat} {a : α} (h : l[i]? = some a) : l.set i a = l := by
  apply List.ext_getElem?
  intro k
  rw [List.getElem?_set]
  by_cases e : i = k
  · subst e
    rw [if_pos rfl]
    have : i < l.length := by
      rcases Nat.lt_or_ge i l.length with h' | h'
      · exact h'
      · simp [List.getElem?_eq_none h'] at h
    rw [if_pos this, h]
  · rw [if_neg e]

theorem putStrided_same : ∀ {n start es : Nat} {cs as : List AC}, strided cs start es n = some as → putStrided cs start es as = cs
  | 0, _, _, _, _, h => by simp [strided] at h; subst h; rfl
  | n + 1, start, es, cs, as, h => by
    simp only [strided] at h
    split at h
    · rename_i a l ha hl
      injection h with h; subst h
      simp only [putStrided, set_same ha]
      exact putStrided_same hl
    · cases h

theorem strided_set : ∀ {n start es k : Nat} {cs as : List AC} {v : AC}, strided cs start es n = some as → (∀ i, i < n → start + i * es ≠ k) → strided (cs.set k v) start es n = some as
  | 0, _, _, _, _, _, _, h, _ => h
  | n + 1, start, es, k, cs, as, v, h, hk => by
    simp only [strided] at h ⊢
    split at h
    · rename_i a l ha hl
      have h0 := hk 0 (by omega)
      rw [List.getElem?_set_ne (by simp at h0; omega), ha, strided_set hl (fun i hi => by have := hk (i + 1) (by omega); rw [Nat.add_mul] at this; omega)]
      exact h
    · cases h

theorem putStrided_set : ∀ {n start es ix : Nat} {cs as : List AC} {v : AC}, 0 < es → strided cs start es n = some as → ix < n → putStrided cs start es (as.set ix v) = cs.set (start + ix * es) v
  | 0, _, _, _, _, _, _, _, _, h => by omega
  | n + 1, start, es, ix, cs, as, v, he, h, hix => by
    simp only [strided] at h
    split at h
    · rename_i a l ha hl
      injection h with h; subst h
      cases ix with
      | zero =>
        simp only [List.set_cons_zero, putStrided, Nat.zero_mul, Nat.add_zero]
        exact putStrided_same (strided_set hl fun i hi => by omega)
      | succ ix =>
        simp only [List.set_cons_succ, putStrided, set_same ha]
        rw [putStrided_set he hl (by omega)]
        congr 1
        rw [Nat.add_mul]; omega
    · cases h

theorem setN_set {α : Type} (ix : Nat) (x : α) : ∀ (l : List α) (j : Nat), j ≤ ix → setN ix x j l = l.set (ix - j) x
  | [], j, _ => by simp [setN]
  | y :: r, j, h => by
    simp only [setN]
    by_cases e : ix = j
    · subst e
      rw [if_pos rfl, Nat.sub_self, List.set_cons_zero]
      have : ∀ (l : List α) (j : Nat), ix < j → setN ix x j l = l := by
        intro l
        induction l with
        | nil => intro j _; rfl
        | cons y r ih => intro j h; simp only [setN]; rw [if_neg (by omega), ih _ (by omega)]
      rw [this r _ (by omega)]
    · rw [if_neg e, setN_set ix x r (j + 1) (by omega), show ix - j = (ix - (j + 1)) + 1 by omega, List.set_cons_succ]
theorem setN_eq {α : Type} (ix : Nat) (x : α) (l : List α) : setN ix x 0 l = l.set ix x := by rw [setN_set ix x l 0 (Nat.zero_le _), Nat.sub_zero]

theorem setPick_spec {cs as' : List AC} {ix : Nat} {v : AC} (h : setPick cs ix v = some (true, as')) : ix < cs.length ∧ as' = cs.set ix v := by
  have lit : ∀ {as' : List AC}, (if ix < cs.length then some (true, cs.set ix v) else none) = some (true, as') → ix < cs.length ∧ as' = cs.set ix v := by
    intro as' h
    split at h
    · rename_i hl
      injection h with h; simp only [Prod.mk.injEq] at h
      exact ⟨hl, h.2.symm⟩
    · cases h
  unfold setPick at h
  simp only [setN_eq] at h
  split at h
  · rename_i k n r k' x
    split at h
    · rename_i xs hx
      split at hx
      · rename_i hk
        subst hk
        injection h with h; simp only [Prod.mk.injEq, decide_eq_true_eq] at h
        have := intsOf_map hx
        rw [this]
        exact ⟨by simpa using h.1, by rw [← h.2, List.map_set]⟩
      · cases hx
    · exact lit h
  · rename_i b r x
    split at h
    · rename_i xs hx
      injection h with h; simp only [Prod.mk.injEq, decide_eq_true_eq] at h
      have := boolsOf_map hx
      rw [this]
      exact ⟨by simpa using h.1, by rw [← h.2, List.map_set]⟩
    · exact lit h
  · exact lit h

theorem get_map_set {α : Type} (f : α → AC) (l : List α) (i q : Nat) (x : α) (h : i < l.length) : ((l.set i x)[q]?).map f = if q = i then some (f x) else (l[q]?).map f := by
  rw [List.getElem?_set]
  by_cases e : i = q
  · subst e; simp [h]
  · rw [if_neg e, if_neg (fun h => e h.symm)]

theorem Col.set_spec {c c' : Col} {i : Nat} {v : AC} (h : c.set i v = some (true, c')) : i < c.len ∧ c'.len = c.len ∧ ∀ q, c'.get? q = if q = i then some v else c.get? q := by
  cases c with
  | ints k l =>
    cases v <;> simp only [Col.set, reduceCtorEq] at h
    rename_i k' x
    by_cases hk : k = k'
    · subst hk
      rw [if_pos rfl] at h
      simp only [Option.some.injEq, Prod.mk.injEq, decide_eq_true_eq] at h
      obtain ⟨h1, rfl⟩ := h
      exact ⟨h1, by simp [Col.len], fun q => get_map_set (AC.int k) l i q x h1⟩
    · rw [if_neg hk] at h; cases h
  | bools l =>
    cases v <;> simp only [Col.set, reduceCtorEq] at h
    simp only [Option.some.injEq, Prod.mk.injEq, decide_eq_true_eq] at h
    obtain ⟨h1, rfl⟩ := h
    exact ⟨h1, by simp [Col.len], fun q => get_map_set AC.bool l i q _ h1⟩
  | acs l =>
    have h' : (if i < l.length then some (true, Col.acs (l.set i v)) else none) = some (true, c') := by cases v <;> exact h
    by_cases h1 : i < l.length
    · rw [if_pos h1] at h'
      simp only [Option.some.injEq, Prod.mk.injEq, true_and] at h'
      subst h'
      refine ⟨h1, by simp [Col.len], fun q => ?_⟩
      simp only [Col.get?, List.getElem?_set]
      by_cases e : i = q
      · subst e; simp [h1]
      · rw [if_neg e, if_neg (fun h => e h.symm)]
    · rw [if_neg h1] at h'; cases h'

theorem setAt_flat {d d' : Data} {l : Loc} {j : Nat} {v : AC} (h : d.setAt l j v = some (true, d')) :
    (∃ a, d.flat (l.flat + j) = some a) ∧ ∀ i, d'.flat i = if i = l.flat + j then some v else d.flat i := by
  obtain ⟨id, row, sz, col, ix, es, n⟩ := l
  have mixset : ∀ (cs : List AC) (k : Nat), k < cs.length → ∀ i, (Data.mix (cs.set k v)).flat i = if i = k then some v else (Data.mix cs).flat i := by
    intro cs k hk i
    simp only [Data.flat, List.getElem?_set]
    by_cases e : k = i
    · subst e; simp [hk]
    · rw [if_neg e, if_neg (fun h => e h.symm)]
  unfold Data.setAt at h
  split at h
  · rename_i cs
    split at h
    · rename_i hsz hes
      simp only at hsz hes
      subst hsz hes
      split at h
      · rename_i hlt
        injection h with h; simp only [Prod.mk.injEq] at h
        obtain ⟨_, rfl⟩ := h
        simp only at hlt
        have e : Loc.flat ⟨id, row, 0, col, ix, 0, n⟩ + j = col + j := by simp [Loc.flat]
        rw [e]
        exact ⟨⟨cs[col + j], by simp [Data.flat]⟩, mixset cs _ hlt⟩
      · cases h
    · rename_i e hsz hes
      simp only at hsz hes
      subst hsz hes
      split at h
      · rename_i as has
        split at h
        · rename_i ok as' hp
          injection h with h; simp only [Prod.mk.injEq] at h
          obtain ⟨rfl, rfl⟩ := h
          obtain ⟨hix, rfl⟩ := setPick_spec hp
          have hn := strided_len has
          simp only at hn hix
          rw [putStrided_set (by omega) has (by simp only; omega)]
          simp only
          have e' : Loc.flat ⟨id, row, 0, col, ix, e + 1, n⟩ + j = col + j + ix * (e + 1) := by simp [Loc.flat]; omega
          rw [e']
          have hg := strided_get has ix (by simp only; omega)
          simp only at hg
          rw [List.getElem?_eq_getElem hix] at hg
          refine ⟨⟨_, hg.symm⟩, mixset cs _ ?_⟩
          rcases Nat.lt_or_ge (col + j + ix * (e + 1)) cs.length with h' | h'
          · exact h'
          · simp [List.getElem?_eq_none h'] at hg
        · cases h
      · cases h
    · cases h
  · rename_i cs
    split at h
    · rename_i hc
      obtain ⟨hc, he⟩ := hc
      simp only at hc he
      subst hc he
      split at h
      · rename_i c hc
        split at h
        · rename_i ok c' hs
          injection h with h; simp only [Prod.mk.injEq] at h
          obtain ⟨rfl, rfl⟩ := h
          simp only at hc hs
          obtain ⟨h1, h2, h3⟩ := Col.set_spec hs
          have hlt : col + j < cs.length := by
            rcases Nat.lt_or_ge (col + j) cs.length with h' | h'
            · exact h'
            · simp [List.getElem?_eq_none h'] at hc
          have e : Loc.flat ⟨id, row, cs.length, col, ix, 0, n⟩ + j = col + j + cs.length * row := by simp only [Loc.flat]; rw [Nat.mul_comm]; omega
          have hd : (col + j + cs.length * row) / cs.length = row := by rw [Nat.add_mul_div_left _ _ (by omega), Nat.div_eq_of_lt hlt]; omega
          have hm : (col + j + cs.length * row) % cs.length = col + j := by rw [Nat.add_mul_mod_self_left, Nat.mod_eq_of_lt hlt]
          rw [e]
          constructor
          · rw [rows_flat (by omega), hd, hm]
            obtain ⟨a, ha⟩ := Col.get?_some.1 h1
            exact ⟨a, by simp [colsAt, hc, ha]⟩
          · intro i
            rw [rows_flat (by simp; omega), rows_flat (by omega)]
            simp only [List.length_set, colsAt]
            by_cases ej : i % cs.length = col + j
            · rw [ej]
              simp only [List.getElem?_set_self hlt, Option.bind_some, h3, hc]
              by_cases er : i / cs.length = row
              · have : i = col + j + cs.length * row := by rw [← ej, ← er]; exact (Nat.mod_add_div i cs.length).symm
                rw [if_pos er, if_pos this]
              · rw [if_neg er, if_neg]
                intro hi; apply er; rw [hi, hd]
            · rw [List.getElem?_set_ne (fun h => ej h.symm), if_neg]
              intro hi; apply ej; rw [hi, hm]
        · cases h
      · cases h
    · cases h
  · cases h

theorem setAts_flat {l : Loc} : ∀ {as : List AC} {d d' : Data} {j : Nat}, d.setAts l j as = some (true, d') →
    (∀ q, q < as.length → ∃ a, d.flat (l.flat + (j + q)) = some a) ∧ ∀ i, d'.flat i = if l.flat + j ≤ i ∧ i < l.flat + j + as.length then as[i - (l.flat + j)]? else d.flat i
  | [], d, d', j, h => by
    simp only [Data.setAts, Option.some.injEq, Prod.mk.injEq, true_and] at h
    subst h
    exact ⟨fun q hq => by simp at hq, fun i => by rw [if_neg (by simp)]⟩
  | a :: as, d, d', j, h => by
    simp only [Data.setAts] at h
    split at h
    · rename_i ok d1 h1
      split at h
      · rename_i ok' d2 h2
        injection h with h; simp only [Prod.mk.injEq, Bool.and_eq_true] at h
        obtain ⟨⟨rfl, rfl⟩, rfl⟩ := h
        obtain ⟨ha, hf⟩ := setAt_flat h1
        obtain ⟨hb, hg⟩ := setAts_flat h2
        refine ⟨fun q hq => ?_, fun i => ?_⟩
        · cases q with
          | zero => simpa using ha
          | succ q =>
            have := hb q (by simpa using hq)
            rw [hf, if_neg (by omega)] at this
            rw [show j + (q + 1) = j + 1 + q from by omega]; exact this
        · rw [hg, hf]
          simp only [List.length_cons]
          by_cases e : i = l.flat + j
          · subst e
            rw [if_neg (by omega), if_pos rfl, if_pos (by omega)]; simp
          · by_cases hi : l.flat + (j + 1) ≤ i ∧ i < l.flat + (j + 1) + as.length
            · rw [if_pos hi, if_pos (by omega), show i - (l.flat + j) = (i - (l.flat + (j + 1))) + 1 from by omega]; simp
            · rw [if_neg hi, if_neg e, if_neg (by omega)]
      · cases h
    · cases h

/- A walker of Go functions over data: ranges of blocks. -/
/-- Columns of equal length. -/
def Even (cs : List Col) (n : Nat) : Prop := ∀ (j : Nat) (c : Col), cs[j]? = some c → c.len = n

theorem colLike_get {z : AC} {l : List AC} : (∀ q, (colLike z l).get? q = l[q]?) ∧ (colLike z l).len = l.length := by
  unfold colLike
  split
  · split
    · rename_i xs hx
      rw [intsOf_map hx]
      exact ⟨fun q => by simp [Col.get?], by simp [Col.len]⟩
    · exact ⟨fun q => rfl, rfl⟩
  · split
    · rename_i xs hx
      rw [boolsOf_map hx]
      exact ⟨fun q => by simp [Col.get?], by simp [Col.len]⟩
    · exact ⟨fun q => rfl, rfl⟩
  · exact ⟨fun q => rfl, rfl⟩

theorem colOf_get {l : List AC} : (∀ q, (colOf l).get? q = l[q]?) ∧ (colOf l).len = l.length := by
  cases l with
  | nil => exact ⟨fun q => rfl, rfl⟩
  | cons z r => exact colLike_get

theorem getElem?_lt {α : Type} {l : List α} {i : Nat} {a : α} (h : l[i]? = some a) : i < l.length := by
  rcases Nat.lt_or_ge i l.length with h' | h'
  · exact h'
  · simp [List.getElem?_eq_none h'] at h

theorem Col.sub_spec {c c' : Col} {r n : Nat} (h : c.sub r n = (true, c')) : r + n ≤ c.len ∧ c'.len = n ∧ ∀ q, q < n → c'.get? q = c.get? (r + q) := by
  cases c <;> simp only [Col.sub, Prod.mk.injEq, decide_eq_true_eq] at h <;> obtain ⟨h1, rfl⟩ := h <;>
    exact ⟨h1, by simp [Col.len]; omega, fun q hq => by simp [Col.get?, List.getElem?_take, hq]⟩

theorem subCols_spec : ∀ {cs cs' : List Col} {r n : Nat}, subCols r n cs = (true, cs') →
    cs'.length = cs.length ∧ Even cs' n ∧ (∀ (j : Nat) (c : Col), cs[j]? = some c → r + n ≤ c.len) ∧ ∀ q j, q < n → colsAt cs' q j = colsAt cs (r + q) j
  | [], cs', r, n, h => by
    simp only [subCols, Prod.mk.injEq, true_and] at h
    subst h
    exact ⟨rfl, fun j c h => by simp at h, fun j c h => by simp at h, fun q j _ => by simp [colsAt]⟩
  | c :: cs, cs', r, n, h => by
    simp only [subCols] at h
    cases h1 : c.sub r n with
    | mk ok c' =>
      cases h2 : subCols r n cs with
      | mk ok' cs'' =>
        simp only [h1, h2, Prod.mk.injEq, Bool.and_eq_true] at h
        obtain ⟨⟨rfl, rfl⟩, rfl⟩ := h
        obtain ⟨ha, hb, hc⟩ := Col.sub_spec h1
        obtain ⟨hd, he, hf, hg⟩ := subCols_spec h2
        refine ⟨by simp [hd], fun j x hx => ?_, fun j x hx => ?_, fun q j hq => ?_⟩
        · cases j with
          | zero => simp at hx; subst hx; exact hb
          | succ j => exact he j x (by simpa using hx)
        · cases j with
          | zero => simp at hx; subst hx; exact ha
          | succ j => exact hf j x (by simpa using hx)
        · cases j with
          | zero => simp [colsAt, hc q hq]
          | succ j => simpa [colsAt] using hg q j hq

theorem mixCols_spec {cs : List AC} {es n : Nat} : ∀ {m start : Nat} {cols : List Col}, mixCols cs start es n m = some cols →
    cols.length = m ∧ Even cols n ∧ ∀ q j, q < n → j < m → colsAt cols q j = cs[start + j + q * es]?
  | 0, start, cols, h => by
    simp only [mixCols, Option.some.injEq] at h
    subst h
    exact ⟨rfl, fun j c h => by simp at h, fun q j _ hj => by omega⟩
  | m + 1, start, cols, h => by
    simp only [mixCols] at h
    split at h
    · rename_i l r hl hr
      injection h with h; subst h
      obtain ⟨ha, hb, hc⟩ := mixCols_spec hr
      have hlen := strided_len hl
      refine ⟨by simp [ha], fun j x hx => ?_, fun q j hq hj => ?_⟩
      · cases j with
        | zero => simp at hx; subst hx; rw [colOf_get.2, hlen]
        | succ j => exact hb j x (by simpa using hx)
      · cases j with
        | zero => simp [colsAt, colOf_get.1, strided_get hl q hq]
        | succ j =>
          have := hc q j hq (by omega)
          simp only [colsAt, List.getElem?_cons_succ] at this ⊢
          rw [this]
          congr 1; omega
    · cases h

theorem div_mod_at {s q j : Nat} (hj : j < s) : (q * s + j) / s = q ∧ (q * s + j) % s = j := by
  rw [show q * s + j = j + s * q from by rw [Nat.mul_comm]; omega, Nat.add_mul_div_left _ _ (by omega), Nat.add_mul_mod_self_left, Nat.div_eq_of_lt hj, Nat.mod_eq_of_lt hj]
  omega

theorem range_spec {d : Data} {l : Loc} {es n : Nat} {cols : List Col} (hes : 0 < es) (h : d.range l es n = some (true, cols)) :
    cols.length = es ∧ Even cols n ∧ ∀ q j, q < n → j < es → colsAt cols q j = d.flat (l.flat + q * es + j) := by
  obtain ⟨id, row, sz, col, ix, e, m⟩ := l
  unfold Data.range at h
  split at h
  · rename_i cs
    split at h
    · rename_i hc
      obtain ⟨h1, h2, h3, h4⟩ := hc
      simp only at h1 h2 h3 h4
      subst h1 h2 h3 h4
      cases hs : subCols row n cs with
      | mk ok c =>
        simp only [hs, Option.some.injEq, Prod.mk.injEq] at h
        obtain ⟨rfl, rfl⟩ := h
        obtain ⟨ha, hb, hc, hd⟩ := subCols_spec hs
        refine ⟨ha, hb, fun q j hq hj => ?_⟩
        rw [hd q j hq, rows_flat hes]
        have : Loc.flat ⟨id, row, cs.length, 0, ix, 0, m⟩ + q * cs.length + j = (row + q) * cs.length + j := by simp [Loc.flat, Nat.add_mul]
        rw [this, (div_mod_at hj).1, (div_mod_at hj).2]
    · cases h
  · rename_i cs
    split at h
    · split at h
      · rename_i c hc
        simp only [Option.some.injEq, Prod.mk.injEq, true_and] at h
        subst h
        obtain ⟨ha, hb, hc⟩ := mixCols_spec hc
        refine ⟨ha, hb, fun q j hq hj => ?_⟩
        rw [hc q j hq hj]
        simp only [Data.flat]
        congr 1; omega
      · cases h
    · cases h
  · cases h

theorem app_list {α : Type} (f : α → AC) (a b : List α) (q : Nat) : ((a ++ b)[q]?).map f = if q < a.length then (a[q]?).map f else (b[q - a.length]?).map f := by
  rw [List.getElem?_append]; split <;> rfl

theorem Col.app_spec {a b c : Col} (h : a.app b = some c) : c.len = a.len + b.len ∧ ∀ q, c.get? q = if q < a.len then a.get? q else b.get? (q - a.len) := by
  have nil_l : ∀ b : Col, b.len = (Col.acs []).len + b.len ∧ ∀ q, b.get? q = if q < (Col.acs []).len then (Col.acs []).get? q else b.get? (q - (Col.acs []).len) := by
    intro b; exact ⟨by simp [Col.len], fun q => by simp [Col.len]⟩
  have nil_r : ∀ a : Col, a.len = a.len + (Col.acs []).len ∧ ∀ q, a.get? q = if q < a.len then a.get? q else (Col.acs []).get? (q - a.len) := by
    intro a; refine ⟨by simp [Col.len], fun q => ?_⟩
    split
    · rfl
    · rw [Col.get?_none (by omega)]; simp [Col.get?]
  cases a with
  | ints k x =>
    cases b with
    | ints k' y =>
      simp only [Col.app] at h
      split at h
      · rename_i hk; subst hk
        injection h with h; subst h
        exact ⟨by simp [Col.len], fun q => app_list (AC.int k) x y q⟩
      · cases h
    | bools y => simp [Col.app] at h
    | acs y => cases y with
      | nil => simp only [Col.app] at h; injection h with h; subst h; exact nil_r _
      | cons => simp [Col.app] at h
  | bools x =>
    cases b with
    | ints k' y => simp [Col.app] at h
    | bools y =>
      simp only [Col.app] at h
      injection h with h; subst h
      exact ⟨by simp [Col.len], fun q => app_list AC.bool x y q⟩
    | acs y => cases y with
      | nil => simp only [Col.app] at h; injection h with h; subst h; exact nil_r _
      | cons => simp [Col.app] at h
  | acs x =>
    cases b with
    | acs y =>
      simp only [Col.app] at h
      injection h with h; subst h
      exact ⟨by simp [Col.len], fun q => by show (x ++ y)[q]? = _; rw [List.getElem?_append]; by_cases h : q < x.length <;> simp [Col.len, Col.get?, h]⟩
    | ints k y => cases x with
      | nil => simp only [Col.app] at h; injection h with h; subst h; exact nil_l _
      | cons => simp [Col.app] at h
    | bools y => cases x with
      | nil => simp only [Col.app] at h; injection h with h; subst h; exact nil_l _
      | cons => simp [Col.app] at h

theorem appCols_spec : ∀ {as bs cs : List Col} {n m : Nat}, appCols as bs = some cs → Even as n → Even bs m →
    cs.length = as.length ∧ Even cs (n + m) ∧ ∀ q j, colsAt cs q j = if q < n then colsAt as q j else colsAt bs (q - n) j
  | [], [], cs, n, m, h, _, _ => by
    simp only [appCols, Option.some.injEq] at h
    subst h
    exact ⟨rfl, fun j c h => by simp at h, fun q j => by simp [colsAt]⟩
  | [], _ :: _, cs, n, m, h, _, _ => by simp [appCols] at h
  | _ :: _, [], cs, n, m, h, _, _ => by simp [appCols] at h
  | a :: as, b :: bs, cs, n, m, h, ha, hb => by
    simp only [appCols] at h
    split at h
    · rename_i c r hc hr
      injection h with h; subst h
      obtain ⟨h1, h2⟩ := Col.app_spec hc
      obtain ⟨h3, h4, h5⟩ := appCols_spec hr (fun j c hj => ha (j + 1) c (by simpa using hj)) (fun j c hj => hb (j + 1) c (by simpa using hj))
      have la := ha 0 a rfl
      have lb := hb 0 b rfl
      refine ⟨by simp [h3], fun j x hx => ?_, fun q j => ?_⟩
      · cases j with
        | zero => simp at hx; subst hx; omega
        | succ j => exact h4 j x (by simpa using hx)
      · cases j with
        | zero => simp [colsAt, h2, la]
        | succ j => simpa [colsAt] using h5 q j
    · cases h

theorem splice_list {α : Type} (f : α → AC) (a b : List α) (r q : Nat) (h : r + b.length ≤ a.length) :
    ((a.take r ++ b ++ a.drop (r + b.length))[q]?).map f = if r ≤ q ∧ q < r + b.length then (b[q - r]?).map f else (a[q]?).map f := by
  rw [List.append_assoc, List.getElem?_append]
  simp only [List.length_take, Nat.min_eq_left (show r ≤ a.length by omega)]
  by_cases h1 : q < r
  · rw [if_pos h1, if_neg (by omega), List.getElem?_take, if_pos h1]
  · rw [if_neg h1, List.getElem?_append]
    by_cases h2 : q - r < b.length
    · rw [if_pos h2, if_pos (by omega)]
    · rw [if_neg h2, if_neg (by omega), List.getElem?_drop]
      congr 2; omega

theorem Col.splice_spec {a b c : Col} {r n : Nat} (h : a.splice r b = some (true, c)) (hn : b.len = n) :
    (0 < n → r + n ≤ a.len) ∧ c.len = a.len ∧ ∀ q, c.get? q = if r ≤ q ∧ q < r + n then b.get? (q - r) else a.get? q := by
  subst hn
  have nil_r : ∀ a : Col, (0 < (Col.acs []).len → r + (Col.acs []).len ≤ a.len) ∧ a.len = a.len ∧ ∀ q, a.get? q = if r ≤ q ∧ q < r + (Col.acs []).len then (Col.acs []).get? (q - r) else a.get? q := by
    intro a; exact ⟨fun h => by simp [Col.len] at h, rfl, fun q => by rw [if_neg (by simp [Col.len])]⟩
  cases a with
  | ints k x =>
    cases b with
    | ints k' y =>
      simp only [Col.splice] at h
      split at h
      · rename_i hk; subst hk
        simp only [Option.some.injEq, Prod.mk.injEq, decide_eq_true_eq] at h
        obtain ⟨h1, rfl⟩ := h
        exact ⟨fun _ => h1, by simp [Col.len]; omega, fun q => splice_list (AC.int k) x y r q h1⟩
      · cases h
    | bools y => simp [Col.splice] at h
    | acs y => cases y with
      | nil => simp only [Col.splice, Option.some.injEq, Prod.mk.injEq, true_and] at h; subst h; exact nil_r _
      | cons => simp [Col.splice] at h
  | bools x =>
    cases b with
    | ints k' y => simp [Col.splice] at h
    | bools y =>
      simp only [Col.splice, Option.some.injEq, Prod.mk.injEq, decide_eq_true_eq] at h
      obtain ⟨h1, rfl⟩ := h
      exact ⟨fun _ => h1, by simp [Col.len]; omega, fun q => splice_list AC.bool x y r q h1⟩
    | acs y => cases y with
      | nil => simp only [Col.splice, Option.some.injEq, Prod.mk.injEq, true_and] at h; subst h; exact nil_r _
      | cons => simp [Col.splice] at h
  | acs x =>
    cases b with
    | acs y =>
      simp only [Col.splice, Option.some.injEq, Prod.mk.injEq, decide_eq_true_eq] at h
      obtain ⟨h1, rfl⟩ := h
      exact ⟨fun _ => h1, by simp [Col.len]; omega, fun q => by have := splice_list id x y r q h1; simp only [Option.map_id, id] at this; show (x.take r ++ y ++ x.drop (r + y.length))[q]? = _; rw [this]; by_cases hq : r ≤ q ∧ q < r + y.length <;> simp [Col.len, Col.get?, hq]⟩
    | ints k y => simp [Col.splice] at h
    | bools y => simp [Col.splice] at h

theorem spliceCols_spec : ∀ {as bs cs : List Col} {r n : Nat}, spliceCols r as bs = some (true, cs) → Even bs n →
    bs.length = as.length ∧ cs.length = as.length ∧ (0 < n → ∀ (j : Nat) (c : Col), as[j]? = some c → r + n ≤ c.len) ∧ ∀ q j, colsAt cs q j = if r ≤ q ∧ q < r + n then colsAt bs (q - r) j else colsAt as q j
  | [], [], cs, r, n, h, _ => by
    simp only [spliceCols, Option.some.injEq, Prod.mk.injEq, true_and] at h
    subst h
    exact ⟨rfl, rfl, fun _ j c h => by simp at h, fun q j => by simp [colsAt]⟩
  | [], _ :: _, cs, r, n, h, _ => by simp [spliceCols] at h
  | _ :: _, [], cs, r, n, h, _ => by simp [spliceCols] at h
  | a :: as, b :: bs, cs, r, n, h, hb => by
    simp only [spliceCols] at h
    split at h
    · rename_i ok c ok' l hc hl
      simp only [Option.some.injEq, Prod.mk.injEq, Bool.and_eq_true] at h
      obtain ⟨⟨rfl, rfl⟩, rfl⟩ := h
      obtain ⟨h1, h2, h3⟩ := Col.splice_spec hc (hb 0 b rfl)
      obtain ⟨h4, h5, h6, h7⟩ := spliceCols_spec hl (fun j c hj => hb (j + 1) c (by simpa using hj))
      refine ⟨by simp [h4], by simp [h5], fun hn j x hx => ?_, fun q j => ?_⟩
      · cases j with
        | zero => simp at hx; subst hx; exact h1 hn
        | succ j => exact h6 hn j x (by simpa using hx)
      · cases j with
        | zero => simp [colsAt, h3]
        | succ j => simpa [colsAt] using h7 q j
    · cases h

theorem listN_spec {c : Col} : ∀ {n i : Nat} {l : List AC}, c.listN i n = some l → i + n ≤ c.len → l.length = n ∧ ∀ q, q < n → l[q]? = c.get? (i + q)
  | 0, i, l, h, _ => by simp [Col.listN] at h; subst h; exact ⟨rfl, fun q hq => by omega⟩
  | n + 1, i, l, h, hle => by
    simp only [Col.listN] at h
    split at h
    · rename_i a r ha hr
      injection h with h; subst h
      obtain ⟨h1, h2⟩ := listN_spec hr (by omega)
      refine ⟨by simp [h1], fun q hq => ?_⟩
      cases q with
      | zero =>
        cases c with
        | ints k x => simp only [Col.len] at hle; simp at ha; subst ha; simp only [Col.get?, List.getElem?_cons_zero, Nat.add_zero]; rw [List.getElem?_eq_getElem (by omega)]; simp [show i < x.length by omega]
        | bools x => simp only [Col.len] at hle; simp at ha; subst ha; simp only [Col.get?, List.getElem?_cons_zero, Nat.add_zero]; rw [List.getElem?_eq_getElem (by omega)]; simp [show i < x.length by omega]
        | acs x => simp at ha; simpa [Col.get?] using ha.symm
      | succ q =>
        have := h2 q (by omega)
        rw [show i + (q + 1) = i + 1 + q from by omega, ← this]; rfl
    · cases h

theorem putStrided_len : ∀ {as cs : List AC} {start es : Nat}, (putStrided cs start es as).length = cs.length
  | [], _, _, _ => rfl
  | a :: as, cs, start, es => by simp [putStrided, putStrided_len]

theorem putStrided_get : ∀ {as cs : List AC} {start es : Nat}, 0 < es → start + as.length * es ≤ cs.length + es - 1 → ∀ i,
    ((∀ q, q < as.length → i ≠ start + q * es) → (putStrided cs start es as)[i]? = cs[i]?) ∧ (∀ q, q < as.length → i = start + q * es → (putStrided cs start es as)[i]? = as[q]?)
  | [], cs, start, es, he, hl, i => ⟨fun _ => rfl, fun q hq => by simp at hq⟩
  | a :: as, cs, start, es, he, hl, i => by
    simp only [List.length_cons, Nat.add_mul, Nat.one_mul] at hl
    obtain ⟨h1, h2⟩ := putStrided_get (as := as) (cs := cs.set start a) (start := start + es) he (by simp; omega) i
    simp only [putStrided]
    constructor
    · intro hi
      rw [h1 (fun q hq => by have := hi (q + 1) (by simp; omega); rw [Nat.add_mul] at this; omega)]
      exact List.getElem?_set_ne (by have := hi 0 (by simp); simp at this; omega)
    · intro q hq hi
      cases q with
      | zero =>
        simp at hi
        subst hi
        rw [h1 (fun q hq => by have : 0 ≤ q * es := Nat.zero_le _; omega)]
        rw [List.getElem?_set_self (by omega)]; rfl
      | succ q =>
        rw [h2 q (by simpa using hq) (by rw [hi, Nat.add_mul]; omega)]; rfl

theorem putCols_spec {es n : Nat} (he : 0 < es) : ∀ {cols : List Col} {cs cs' : List AC} {start : Nat}, putCols cs start es n cols = some cs' → Even cols n → start + cols.length + n * es ≤ cs.length + es → (0 < cols.length) → cols.length ≤ es →
    cs'.length = cs.length ∧ ∀ i, ((∀ q j, q < n → j < cols.length → i ≠ start + q * es + j) → cs'[i]? = cs[i]?) ∧ (∀ q j, q < n → j < cols.length → i = start + q * es + j → cs'[i]? = colsAt cols q j)
  | [], cs, cs', start, h, _, _, h0, _ => by simp at h0
  | c :: cols, cs, cs', start, h, hev, hl, _, hle => by
    simp only [putCols] at h
    split at h
    · rename_i l hl'
      have hc := hev 0 c rfl
      obtain ⟨hn, hg⟩ := listN_spec hl' (by omega)
      simp only [List.length_cons] at hl hle
      have hps := putStrided_get (as := l) (cs := cs) (start := start) he (by rw [hn]; omega)
      cases cols with
      | nil =>
        simp only [putCols, Option.some.injEq] at h
        subst h
        refine ⟨putStrided_len, fun i => ⟨fun hi => (hps i).1 (fun q hq => by have := hi q 0 (by omega) (by simp); simpa using this), fun q j hq hj hi => ?_⟩⟩
        have hj0 : j = 0 := by simpa using hj
        subst hj0
        rw [(hps i).2 q (by omega) (by simpa using hi), hg q hq]; simp [colsAt]
      | cons c2 cols =>
        obtain ⟨h1, h2⟩ := putCols_spec he (cols := c2 :: cols) h (fun j c hj => hev (j + 1) c (by simpa using hj)) (by simp [putStrided_len] at hl ⊢; omega) (by simp) (by simp at hle ⊢; omega)
        refine ⟨by rw [h1, putStrided_len], fun i => ⟨fun hi => ?_, fun q j hq hj hi => ?_⟩⟩
        · rw [(h2 i).1 (fun q j hq hj => by have := hi q (j + 1) hq (by simp at hj ⊢; omega); omega)]
          exact (hps i).1 (fun q hq => by have := hi q 0 (by omega) (by simp); simpa using this)
        · cases j with
          | zero =>
            rw [(h2 i).1 (fun q' j' hq' hj' => by
              intro e
              simp only [List.length_cons] at hj' hle
              have h3 : start + q * es = start + q' * es + 1 + j' := by omega
              have h4 := div_mod_at (s := es) (q := q') (j := 1 + j') (by omega)
              have h5 := div_mod_at (s := es) (q := q) (j := 0) (by omega)
              rw [show q' * es + (1 + j') = q * es + 0 from by omega] at h4
              omega)]
            rw [(hps i).2 q (by omega) (by simpa using hi), hg q hq]; simp [colsAt]
          | succ j =>
            rw [(h2 i).2 q j hq (by simp at hj ⊢; omega) (by omega)]
            simp [colsAt]
    · cases h

theorem setRange_spec {d d' : Data} {l : Loc} {es n : Nat} {cols : List Col} (hes : 0 < es) (h : d.setRange l es n cols = some (true, d')) (hev : Even cols n) :
    (∀ i, l.flat ≤ i → i < l.flat + n * es → ∃ a, d.flat i = some a) ∧
    ∀ i, d'.flat i = if l.flat ≤ i ∧ i < l.flat + n * es then colsAt cols ((i - l.flat) / es) ((i - l.flat) % es) else d.flat i := by
  obtain ⟨id, row, sz, col, ix, e, m⟩ := l
  unfold Data.setRange at h
  split at h
  · rename_i cs
    split at h
    · rename_i hc
      obtain ⟨h1, h2, h3, h4⟩ := hc
      simp only at h1 h2 h3 h4
      subst h1 h2 h3 h4
      split at h
      · rename_i ok c hs
        simp only [Option.some.injEq, Prod.mk.injEq] at h
        obtain ⟨rfl, rfl⟩ := h
        obtain ⟨ha, hb, hc, hd⟩ := spliceCols_spec hs hev
        have hfl : Loc.flat ⟨id, row, cs.length, 0, ix, 0, m⟩ = row * cs.length := by simp [Loc.flat]
        rw [hfl]
        have hin : ∀ i, (row * cs.length ≤ i ∧ i < row * cs.length + n * cs.length) ↔ (row ≤ i / cs.length ∧ i / cs.length < row + n) := by
          intro i
          rw [← Nat.add_mul, Nat.le_div_iff_mul_le hes, Nat.div_lt_iff_lt_mul hes]
        constructor
        · intro i hi1 hi2
          have hr := (hin i).1 ⟨hi1, hi2⟩
          have hn : 0 < n := by omega
          have hj := Nat.mod_lt i hes
          have hlen := hc hn (i % cs.length) _ (List.getElem?_eq_getElem hj)
          simp only at hlen
          obtain ⟨a, ha'⟩ := (Col.get?_some (c := cs[i % cs.length]) (q := i / cs.length)).1 (by omega)
          exact ⟨a, by rw [rows_flat hes]; simp [colsAt, ha', hj]⟩
        · intro i
          rw [rows_flat (by omega), rows_flat hes, hb, hd]
          by_cases hr : row ≤ i / cs.length ∧ i / cs.length < row + n
          · rw [if_pos hr, if_pos ((hin i).2 hr)]
            have hge := ((hin i).2 hr).1
            have hdiv : (i - row * cs.length) / cs.length = i / cs.length - row := by
              rw [Nat.mul_comm]; exact Nat.sub_mul_div i cs.length row
            have hmod : (i - row * cs.length) % cs.length = i % cs.length := by
              have := Nat.mod_add_div i cs.length
              rw [Nat.mul_comm] at hge ⊢
              exact Nat.sub_mul_mod hge
            rw [hdiv, hmod]
          · rw [if_neg hr, if_neg (fun h => hr ((hin i).1 h))]
      · cases h
    · cases h
  · rename_i cs
    split at h
    · split at h
      · rename_i hc
        split at h
        · rename_i c hp
          simp only [Option.some.injEq, Prod.mk.injEq, true_and] at h
          subst h
          obtain ⟨h1, h2⟩ := hc
          generalize hf : Loc.flat ⟨id, row, sz, col, ix, e, m⟩ = f at *
          obtain ⟨ha, hb⟩ := putCols_spec hes hp hev (by omega) (by omega) (by omega)
          constructor
          · intro i hi1 hi2
            exact ⟨cs[i], by simp [Data.flat]⟩
          · intro i
            simp only [Data.flat]
            by_cases hi : f ≤ i ∧ i < f + n * es
            · rw [if_pos hi]
              have hq : (i - f) / es < n := by rw [Nat.div_lt_iff_lt_mul hes]; omega
              have hj : (i - f) % es < es := Nat.mod_lt _ hes
              refine (hb i).2 _ _ hq (by omega) ?_
              have := Nat.mod_add_div (i - f) es
              rw [Nat.mul_comm] at this
              omega
            · rw [if_neg hi]
              refine (hb i).1 (fun q j hq hj hij => hi ?_)
              have : (q + 1) * es ≤ n * es := Nat.mul_le_mul_right _ (by omega)
              rw [Nat.add_mul] at this
              omega
        · cases h
      · cases h
    · cases h
  · cases h

/- A walker of Go functions over data: memory behind an operation. -/
theorem Holds.keep {ρ ρ' : Rho} {w w' : World} {r : Pl} {b : Block} (h : Holds ρ w r b) (hl : le ρ ρ') (hw : 0 < r.size → w'.heap[r.blk]? = w.heap[r.blk]?) : Holds ρ' w' r b := by
  refine ⟨h.1.keep hw, fun i a ha => ?_⟩
  · obtain ⟨hi, v, hv, hc⟩ := h.2 i a ha
    refine ⟨hi, v, ?_, hc.mono hl⟩
    rw [World.cell?] at hv ⊢
    simp only at hv ⊢
    rw [hw (by omega)]; exact hv

theorem Holds.lt {ρ : Rho} {w : World} {r : Pl} {b : Block} (h : Holds ρ w r b) (hs : 0 < r.size) : r.blk < w.heap.size := by
  obtain ⟨ro, d⟩ := b
  have h1 := h.1
  cases d with
  | mix cs => obtain ⟨c, t, fr, hc, _⟩ := h1 hs; exact lt_of_heap hc
  | rows cs => obtain ⟨c, t, fr, hc, _⟩ := h1 hs; exact lt_of_heap hc
  | chan c n => obtain ⟨_, _, s, q, hc⟩ := h1; exact lt_of_heap hc

theorem updg_one {g : Get} {nx : Nat} {v : AV} {rd : List Nat} {b : Option Block} (i : Nat) : updg g nx ⟨v, [], rd, [b]⟩ i = if i = nx then b else g i := by
  unfold updg
  simp only [List.length_cons, List.length_nil, lookupU]
  by_cases e : i = nx
  · subst e; simp
  · rw [if_neg (by omega), if_neg e]

theorem updg_wr {g : Get} {nx id : Nat} {v : AV} {rd : List Nat} {b : Option Block} (i : Nat) : updg g nx ⟨v, [(id, b)], rd, []⟩ i = if i = id then b else g i := by
  unfold updg
  simp only [List.length_nil, lookupU]
  rw [if_neg (by omega)]
  by_cases e : i = id
  · subst e; simp
  · rw [if_neg (fun h => e h.symm), if_neg e]

theorem updg_grow {g : Get} {nx id : Nat} {v : AV} {rd : List Nat} {b : Option Block} (i : Nat) : updg g nx ⟨v, [(id, none)], rd, [b]⟩ i = if i = nx then b else if i = id then none else g i := by
  unfold updg
  simp only [List.length_cons, List.length_nil, lookupU]
  by_cases e : i = nx
  · subst e; simp
  · rw [if_neg (by omega), if_neg e]
    by_cases e' : i = id
    · subst e'; simp
    · rw [if_neg (fun h => e' h.symm), if_neg e']

def setR (ρ : Rho) (nx : Nat) (r : Pl) : Rho := fun i => if i = nx then some r else ρ i

theorem le_setR {ρ : Rho} {nx : Nat} {r : Pl} (h : ρ nx = none) : le ρ (setR ρ nx r) := by
  intro i s hs
  unfold setR
  by_cases e : i = nx
  · subst e; rw [h] at hs; cases hs
  · rw [if_neg e]; exact hs

theorem setR_self {ρ : Rho} {nx : Nat} {r : Pl} : setR ρ nx r nx = some r := by simp [setR]
theorem setR_ne {ρ : Rho} {nx i : Nat} {r : Pl} (h : i ≠ nx) : setR ρ nx r i = ρ i := by simp [setR, h]

def push (w : World) (o : Obj) : World := { w with heap := w.heap.push o }

theorem push_old {w : World} {o : Obj} {k : Nat} (h : k < w.heap.size) : (push w o).heap[k]? = w.heap[k]? := by
  simp only [push]; rw [Array.getElem?_push, if_neg (by omega)]
theorem push_new {w : World} {o : Obj} : (push w o).heap[w.heap.size]? = some o := by
  simp only [push]; rw [Array.getElem?_push, if_pos rfl]

theorem fresh_none {ρ : Rho} {nx n : Nat} (h : ∀ i, nx ≤ i → ρ i = none ∨ nx + n ≤ i) (hn : 0 < n) : ρ nx = none := by
  rcases h nx (Nat.le_refl _) with h | h
  · exact h
  · omega

/-- A new block. -/
theorem aft_newO {ρ : Rho} {g : Get} {w : World} {nx n : Nat} {v : AV} {rd : List Nat} {d : Data} {o : Obj} {cv : Value} (hi : Inv ρ g w) (hf : ρ nx = none)
    (hd : Holds (setR ρ nx ⟨w.heap.size, 0, n⟩) (push w o) ⟨w.heap.size, 0, n⟩ ⟨false, d⟩) (hv : AR (setR ρ nx ⟨w.heap.size, 0, n⟩) v cv) :
    Aft ρ g w nx ⟨v, [], rd, [some ⟨false, d⟩]⟩ (setR ρ nx ⟨w.heap.size, 0, n⟩) (push w o) cv := by
  have hle := le_setR (r := ⟨w.heap.size, 0, n⟩) hf
  refine ⟨hle, fun i r hr => ?_, hv, ⟨fun i b hb => ?_, fun i j b b' r s hij hb hb' hr hs hrs hss hro => ?_⟩, ⟨rfl, rfl, rfl, by simp [push], fun k hk _ => push_old hk⟩, fun k hk => ?_, fun k hk => ?_⟩
  · by_cases e : i = nx
    · subst e; exact .inr (by simp)
    · rw [setR_ne e] at hr; exact .inl hr
  · rw [updg_one] at hb
    by_cases e : i = nx
    · subst e
      rw [if_pos rfl] at hb
      injection hb with hb; subst hb
      exact ⟨_, setR_self, hd⟩
    · rw [if_neg e] at hb
      obtain ⟨r, hr, hh⟩ := hi.blk i b hb
      exact ⟨r, hle _ _ hr, hh.keep hle fun hs => push_old (hh.lt hs)⟩
  · rw [updg_one] at hb hb'
    by_cases ei : i = nx
    · by_cases ej : j = nx
      · exact absurd (ei.trans ej.symm) hij
      · subst ei
        rw [setR_self] at hr; injection hr with hr; subst hr
        rw [if_neg ej] at hb'
        rw [setR_ne ej] at hs
        obtain ⟨s', hs', hh⟩ := hi.blk j b' hb'
        rw [hs] at hs'; injection hs' with hs'; subst hs'
        have := hh.lt hss
        simp only; omega
    · by_cases ej : j = nx
      · subst ej
        rw [setR_self] at hs; injection hs with hs; subst hs
        rw [if_neg ei] at hb
        rw [setR_ne ei] at hr
        obtain ⟨r', hr', hh⟩ := hi.blk i b hb
        rw [hr] at hr'; injection hr' with hr'; subst hr'
        have := hh.lt hrs
        simp only; omega
      · rw [if_neg ei] at hb; rw [if_neg ej] at hb'; rw [setR_ne ei] at hr; rw [setR_ne ej] at hs
        exact hi.apart i j b b' r s hij hb hb' hr hs hrs hss hro
  · obtain ⟨i, b, r, hb, hro, hr, hs, rfl⟩ := hk
    rw [updg_one] at hb
    by_cases e : i = nx
    · subst e; rw [setR_self] at hr; injection hr with hr; subst hr; exact .inr (Nat.le_refl _)
    · rw [if_neg e] at hb; rw [setR_ne e] at hr
      exact .inl ⟨i, b, r, hb, hro, hr, hs, rfl⟩
  · obtain ⟨i, b, r, hb, hr, hs, rfl⟩ := hk
    rw [updg_one] at hb
    by_cases e : i = nx
    · subst e; rw [setR_self] at hr; injection hr with hr; subst hr; exact .inr (Nat.le_refl _)
    · rw [if_neg e] at hb; rw [setR_ne e] at hr
      exact .inl ⟨i, b, r, hb, hr, hs, rfl⟩

/-- A new block of cells. -/
theorem aft_new {ρ : Rho} {g : Get} {w : World} {nx : Nat} {v : AV} {rd : List Nat} {d : Data} {c : Array Value} {t : TypeId} {cv : Value} (hi : Inv ρ g w) (hf : ρ nx = none)
    (hd : ∀ i a, d.flat i = some a → ∃ x, c[i]? = some x ∧ CR ρ a x) (hv : AR (setR ρ nx ⟨w.heap.size, 0, c.size⟩) v cv) (hdc : d.isCells := by trivial) :
    Aft ρ g w nx ⟨v, [], rd, [some ⟨false, d⟩]⟩ (setR ρ nx ⟨w.heap.size, 0, c.size⟩) (push w (.cells c t)) cv := by
  have hle := le_setR (r := ⟨w.heap.size, 0, c.size⟩) hf
  refine aft_newO hi hf ⟨.of hdc fun _ => ⟨c, t, (0, 0), push_new, by simp, fun _ => rfl⟩, fun k a ha => ?_⟩ hv
  obtain ⟨x, hx, hc⟩ := hd k a ha
  refine ⟨?_, x, ?_, hc.mono hle⟩
  · rcases Nat.lt_or_ge k c.size with h | h
    · exact h
    · rw [Array.getElem?_eq_none h] at hx; cases hx
  · rw [cell_of push_new]; simpa using hx

/-- A block that was there gets new contents. -/
theorem aft_wrO {ρ : Rho} {g : Get} {w : World} {nx id : Nat} {v : AV} {rd : List Nat} {d d' : Data} {r : Pl} {o : Obj} {cv : Value} (hi : Inv ρ g w)
    (hg : g id = some ⟨false, d⟩) (hr : ρ id = some r) (hd : Holds ρ (wr w r.blk o) r ⟨false, d'⟩) (hs0 : 0 < r.size) (hv : AR ρ v cv) :
    Aft ρ g w nx ⟨v, [(id, some ⟨false, d'⟩)], rd, []⟩ ρ (wr w r.blk o) cv := by
  have hold : ∀ k, k ≠ r.blk → (wr w r.blk o).heap[k]? = w.heap[k]? := fun k hk => by rw [wr_heap, if_neg (fun h => hk h.symm)]
  refine ⟨le.refl _, fun i r hr => .inl hr, hv, ⟨fun i b hb => ?_, fun i j b b' r1 s hij hb hb' hr1 hs hrs hss hro => ?_⟩, ⟨rfl, rfl, rfl, by simp [wr], fun k hk hn => hold k (fun e => hn ⟨id, _, r, hg, rfl, hr, hs0, e.symm⟩)⟩, fun k hk => .inl ?_, fun k hk => .inl ?_⟩
  · rw [updg_wr] at hb
    by_cases e : i = id
    · subst e
      rw [if_pos rfl] at hb
      injection hb with hb; subst hb
      exact ⟨r, hr, hd⟩
    · rw [if_neg e] at hb
      obtain ⟨r1, hr1, hh⟩ := hi.blk i b hb
      refine ⟨r1, hr1, hh.keep (le.refl _) fun hs => hold _ ?_⟩
      have := hi.apart id i _ b r r1 (fun h => e h.symm) hg hb hr hr1 hs0 hs rfl
      exact fun h => this h.symm
  · have conv : ∀ (k : Nat) (b : Block), updg g nx ⟨v, [(id, some ⟨false, d'⟩)], rd, []⟩ k = some b → ∃ b0 : Block, g k = some b0 ∧ b0.ro = b.ro := by
      intro k b hb
      rw [updg_wr] at hb
      by_cases e : k = id
      · subst e; rw [if_pos rfl] at hb; injection hb with hb; subst hb; exact ⟨_, hg, rfl⟩
      · rw [if_neg e] at hb; exact ⟨b, hb, rfl⟩
    obtain ⟨b0, h0, e0⟩ := conv i b hb
    obtain ⟨b1, h1, e1⟩ := conv j b' hb'
    exact hi.apart i j b0 b1 r1 s hij h0 h1 hr1 hs hrs hss (by rw [e0]; exact hro)
  · obtain ⟨i, b, r1, hb, hro, hr1, hs, rfl⟩ := hk
    rw [updg_wr] at hb
    by_cases e : i = id
    · subst e; rw [hr] at hr1; injection hr1 with hr1; subst hr1
      exact ⟨i, _, r, hg, rfl, hr, hs, rfl⟩
    · rw [if_neg e] at hb; exact ⟨i, b, r1, hb, hro, hr1, hs, rfl⟩
  · obtain ⟨i, b, r1, hb, hr1, hs, rfl⟩ := hk
    rw [updg_wr] at hb
    by_cases e : i = id
    · subst e; rw [hr] at hr1; injection hr1 with hr1; subst hr1
      exact ⟨i, _, r, hg, hr, hs, rfl⟩
    · rw [if_neg e] at hb; exact ⟨i, b, r1, hb, hr1, hs, rfl⟩

/-- A block that was there gets new contents, cell for cell. -/
theorem aft_wr {ρ : Rho} {g : Get} {w : World} {nx id : Nat} {v : AV} {rd : List Nat} {d d' : Data} {r : Pl} {c c' : Array Value} {t : TypeId} {cv : Value} (hi : Inv ρ g w)
    (hg : g id = some ⟨false, d⟩) (hr : ρ id = some r) (hc : w.heap[r.blk]? = some (.cells c t (0, 0))) (hcs : c'.size = c.size) (hsz : 0 < r.size → r.off + r.size ≤ c.size)
    (hdc : d'.isCells) (hd : ∀ i a, d'.flat i = some a → i < r.size ∧ ∃ x, c'[r.off + i]? = some x ∧ CR ρ a x) (hs0 : 0 < r.size) (hv : AR ρ v cv) :
    Aft ρ g w nx ⟨v, [(id, some ⟨false, d'⟩)], rd, []⟩ ρ (wr w r.blk (.cells c' t (0, 0))) cv := by
  have hlt := lt_of_heap hc
  have hnew : (wr w r.blk (.cells c' t (0, 0))).heap[r.blk]? = some (.cells c' t (0, 0)) := by rw [wr_heap]; simp [hlt]
  refine aft_wrO hi hg hr ⟨.of hdc fun h => ⟨c', t, (0, 0), hnew, by rw [hcs]; exact hsz h, fun _ => rfl⟩, fun k a ha => ?_⟩ hs0 hv
  obtain ⟨hk, x, hx, hcr⟩ := hd k a ha
  exact ⟨hk, x, by rw [cell_of hnew]; exact hx, hcr⟩

/-- A block that was there reads as it did. -/
theorem aft_as {ρ : Rho} {g : Get} {w : World} {nx id : Nat} {v : AV} {rd : List Nat} {d d' : Data} {cv : Value} (hi : Inv ρ g w)
    (hg : g id = some ⟨false, d⟩) (hk : d' = d ∨ (d.isCells ∧ d'.isCells)) (hd : ∀ i a, d'.flat i = some a → d.flat i = some a) (hv : AR ρ v cv) :
    Aft ρ g w nx ⟨v, [(id, some ⟨false, d'⟩)], rd, []⟩ ρ w cv := by
  have conv : ∀ (k : Nat) (b : Block), updg g nx ⟨v, [(id, some ⟨false, d'⟩)], rd, []⟩ k = some b → ∃ b0 : Block, g k = some b0 ∧ b0.ro = b.ro ∧ (∀ i a, b.d.flat i = some a → b0.d.flat i = some a) ∧ (b.d = b0.d ∨ (b0.d.isCells ∧ b.d.isCells)) := by
    intro k b hb
    rw [updg_wr] at hb
    by_cases e : k = id
    · subst e; rw [if_pos rfl] at hb; injection hb with hb; subst hb; exact ⟨_, hg, rfl, hd, hk⟩
    · rw [if_neg e] at hb; exact ⟨b, hb, rfl, fun _ _ h => h, .inl rfl⟩
  refine ⟨le.refl _, fun i r hr => .inl hr, hv, ⟨fun i b hb => ?_, fun i j b b' r1 s hij hb hb' hr1 hs hrs hss hro => ?_⟩, Kept.refl _ _, fun k hk => .inl ?_, fun k hk => .inl ?_⟩
  · obtain ⟨b0, h0, e0, f0, f1⟩ := conv i b hb
    obtain ⟨r, hr, hh⟩ := hi.blk i b0 h0
    exact ⟨r, hr, by rw [← e0]; exact kind_stands f1 hh.1, fun k a ha => hh.2 k a (f0 k a ha)⟩
  · obtain ⟨b0, h0, e0, _⟩ := conv i b hb
    obtain ⟨b1, h1, e1, _⟩ := conv j b' hb'
    exact hi.apart i j b0 b1 r1 s hij h0 h1 hr1 hs hrs hss (by rw [e0]; exact hro)
  · obtain ⟨i, b, r1, hb, hro, hr1, hs, rfl⟩ := hk
    obtain ⟨b0, h0, e0, _⟩ := conv i b hb
    exact ⟨i, b0, r1, h0, by rw [e0]; exact hro, hr1, hs, rfl⟩
  · obtain ⟨i, b, r1, hb, hr1, hs, rfl⟩ := hk
    obtain ⟨b0, h0, e0, _⟩ := conv i b hb
    exact ⟨i, b0, r1, h0, hr1, hs, rfl⟩

/-- A row that grows: it stays where it is, or is laid anew; its old name is given up. -/
theorem aft_grow {ρ : Rho} {g : Get} {w w' : World} {nx id : Nat} {v : AV} {rd : List Nat} {d d' : Data} {r' : Pl} {cv : Value} (hi : Inv ρ g w) (hf : ρ nx = none)
    (hg : g id = some ⟨false, d⟩) (hh' : Holds (setR ρ nx r') w' r' ⟨false, d'⟩) (hw : Kept (fun k => 0 < r'.size ∧ k = r'.blk) w w')
    (hr' : 0 < r'.size → w.heap.size ≤ r'.blk ∨ ∃ r, ρ id = some r ∧ 0 < r.size ∧ r.blk = r'.blk)
    (hv : AR (setR ρ nx r') v cv) :
    Aft ρ g w nx ⟨v, [(id, none)], rd, [some ⟨false, d'⟩]⟩ (setR ρ nx r') w' cv := by
  have hle := le_setR (r := r') hf
  have hownr : ∀ k, (0 < r'.size ∧ k = r'.blk) → Own ρ g k ∨ w.heap.size ≤ k := fun k ⟨hs, e⟩ => by
    subst e
    rcases hr' hs with h | ⟨r, hr, hrs, e⟩
    · exact .inr h
    · exact .inl ⟨id, _, r, hg, rfl, hr, hrs, e⟩
  -- the others' rows are not the one that grew
  have others : ∀ i b r, i ≠ id → g i = some b → ρ i = some r → 0 < r.size → 0 < r'.size → r.blk ≠ r'.blk := by
    intro i b r hid hb hr hs hs' e
    rcases hr' hs' with h | ⟨r0, hr0, hrs0, e0⟩
    · obtain ⟨r1, hr1, hh⟩ := hi.blk i b hb
      rw [hr] at hr1; injection hr1 with hr1; subst hr1
      have := hh.lt hs; omega
    · exact hi.apart id i _ b r0 r (fun h => hid h.symm) hg hb hr0 hr hrs0 hs rfl (e0.trans e.symm)
  refine ⟨hle, fun i r hr => ?_, hv, ⟨fun i b hb => ?_, fun i j b b' r1 s hij hb hb' hr1 hs hrs hss hro => ?_⟩, ⟨hw.os, hw.tape, hw.output, hw.size, fun k hk hn => hw.block k hk fun h => (hownr k h).elim hn (fun h => by omega)⟩, fun k hk => ?_, fun k hk => ?_⟩
  · by_cases e : i = nx
    · subst e; exact .inr (by simp)
    · rw [setR_ne e] at hr; exact .inl hr
  · rw [updg_grow] at hb
    by_cases e : i = nx
    · subst e; rw [if_pos rfl] at hb; injection hb with hb; subst hb
      exact ⟨r', setR_self, hh'⟩
    · rw [if_neg e] at hb
      by_cases e' : i = id
      · rw [if_pos e'] at hb; cases hb
      · rw [if_neg e'] at hb
        obtain ⟨r1, hr1, hh⟩ := hi.blk i b hb
        refine ⟨r1, hle _ _ hr1, hh.keep hle fun hs => hw.block _ (hh.lt hs) fun h => ?_⟩
        exact others i b r1 e' hb hr1 hs h.1 h.2
  · rw [updg_grow] at hb hb'
    by_cases ei : i = nx
    · have ej : j ≠ nx := fun e => hij (ei.trans e.symm)
      subst ei
      rw [setR_self] at hr1; injection hr1 with hr1; subst hr1
      rw [if_neg ej] at hb'; rw [setR_ne ej] at hs
      by_cases e' : j = id
      · rw [if_pos e'] at hb'; cases hb'
      · rw [if_neg e'] at hb'
        exact fun h => others j b' s e' hb' hs hss hrs h.symm
    · rw [if_neg ei] at hb; rw [setR_ne ei] at hr1
      by_cases e0 : i = id
      · rw [if_pos e0] at hb; cases hb
      · rw [if_neg e0] at hb
        by_cases ej : j = nx
        · subst ej
          rw [setR_self] at hs; injection hs with hs; subst hs
          exact others i b r1 e0 hb hr1 hrs hss
        · rw [if_neg ej] at hb'; rw [setR_ne ej] at hs
          by_cases e' : j = id
          · rw [if_pos e'] at hb'; cases hb'
          · rw [if_neg e'] at hb'
            exact hi.apart i j b b' r1 s hij hb hb' hr1 hs hrs hss hro
  · obtain ⟨i, b, r1, hb, hro, hr1, hs, rfl⟩ := hk
    rw [updg_grow] at hb
    by_cases ei : i = nx
    · subst ei; rw [setR_self] at hr1; injection hr1 with hr1; subst hr1
      exact hownr _ ⟨hs, rfl⟩
    · rw [if_neg ei] at hb; rw [setR_ne ei] at hr1
      by_cases e0 : i = id
      · rw [if_pos e0] at hb; cases hb
      · rw [if_neg e0] at hb
        exact .inl ⟨i, b, r1, hb, hro, hr1, hs, rfl⟩
  · obtain ⟨i, b, r1, hb, hr1, hs, rfl⟩ := hk
    rw [updg_grow] at hb
    by_cases ei : i = nx
    · subst ei; rw [setR_self] at hr1; injection hr1 with hr1; subst hr1
      exact (hownr _ ⟨hs, rfl⟩).imp (fun ⟨i, b, r, h1, _, h2, h3, h4⟩ => ⟨i, b, r, h1, h2, h3, h4⟩) fun h => h
    · rw [if_neg ei] at hb; rw [setR_ne ei] at hr1
      by_cases e0 : i = id
      · rw [if_pos e0] at hb; cases hb
      · rw [if_neg e0] at hb
        exact .inl ⟨i, b, r1, hb, hr1, hs, rfl⟩

/- A walker of Go functions over data: operations that make, read and write memory. -/
theorem mix_holds {ρ : Rho} {cs : List AC} {c : Array Value} (h : LR (CR ρ) cs c.toList) : ∀ i a, (Data.mix cs).flat i = some a → ∃ x, c[i]? = some x ∧ CR ρ a x := by
  intro i a ha
  obtain ⟨b, hb, hr⟩ := h.2 i a ha
  exact ⟨b, by simpa using hb, hr⟩

theorem newVar_run {P : Program} {w : World} {t : TypeId} {v : Value} : (newVar t v).run P w = .ok ⟨w.heap.size, 0, none⟩ (push w (.cells v.cells t)) := by
  simp [newVar, newRow, push]

theorem new_val {ρ : Rho} {nx k n : Nat} : AR (setR ρ nx ⟨k, 0, n⟩) (acv (.ptr ⟨nx, 0, 0, 0, 0, 0, 0⟩)) (.pointer (some ⟨k, 0, none⟩)) :=
  ⟨_, setR_self, by simp [Loc.flat]⟩

theorem alloc_sound {P : Program} {o : Oper} {ev : Operand → Option AV} {g : Get} {nx : Nat} {t : TypeId} {E : Eff}
    (ho : o.op = .alloc t) (h : (allocA P nx t).sel = some E) : OpSound P o ev g nx E := by
  unfold allocA at h
  split at h
  · rename_i z hz
    unfold newBlock at h
    obtain ⟨_, rfl⟩ := sel_eff h
    intro g' ρ w a next Q hg hev hi hf hn
    obtain ⟨v, hv, hr⟩ := zero_run w ρ hz
    have hrun : (execOp a.eval o).run P w = .ok (.value (.pointer (some ⟨w.heap.size, 0, none⟩))) (push w (.cells v.cells t)) := by
      simp [execOp, ho, Instr.alloc, hv, newVar_run]
    simp only [Oper.wp, hrun, Oper.upon_value]
    exact hn _ _ _ (aft_new hi (fresh_none hf (by simp)) (mix_holds hr.cells) new_val)
  · exact (sel_fail h).elim

theorem box_sound {P : Program} {o : Oper} {ev : Operand → Option AV} {g : Get} {nx : Nat} {t : TypeId} {X : Operand} {x : AV} {E : Eff}
    (ho : o.op = .box t X) (hX : ev X = some x) (h : (boxA nx x).sel = some E) : OpSound P o ev g nx E := by
  unfold boxA at h
  split at h
  · rename_i z
    unfold newBlock at h
    obtain ⟨_, rfl⟩ := sel_eff h
    intro g' ρ w a next Q hg hev hi hf hn
    have hr : ER ρ z (a.eval X) := hev X (by simp [ho, Op.operands]) _ hX
    have hrun : (execOp a.eval o).run P w = .ok (.value (.pointer (some ⟨w.heap.size, 0, none⟩))) (push w (.cells (a.eval X).cells t)) := by
      simp [execOp, ho, Instr.box, newVar_run]
    simp only [Oper.wp, hrun, Oper.upon_value]
    exact hn _ _ _ (aft_new hi (fresh_none hf (by simp)) (mix_holds hr.cells) new_val)
  · exact (sel_fail h).elim

theorem fold_put {ρ : Rho} : ∀ {l : List AC} {vs : List Value} {k off : Nat} {cs : List AC} {c : Array Value}, LR (CR ρ) l vs → LR (CR ρ) cs c.toList →
    LR (CR ρ) (putAt cs (off + k) l) ((vs.zipIdx k).foldl (fun (cs : Array Value) (x : Value × Nat) => cs.setIfInBounds (off + x.2) x.1) c).toList
  | [], vs, k, off, cs, c, h, hc => by rw [h.nil_inv]; exact hc
  | a :: l, vs, k, off, cs, c, h, hc => by
    obtain ⟨b, m, rfl, hb, hl⟩ := h.cons_inv
    simp only [List.zipIdx_cons, List.foldl_cons, putAt]
    have h1 : LR (CR ρ) (cs.set (off + k) a) (c.setIfInBounds (off + k) b).toList := by
      rw [Array.toList_setIfInBounds]; exact hc.set _ hb
    exact fold_put (off := off) (k := k + 1) hl h1

theorem evParts_spec {ev : Operand → Option AV} {ρ : Rho} {a : Act} : ∀ {ps : List (Nat × Operand)} {l : List (Nat × AV)}, evParts ev ps = some l → (∀ x, x ∈ ps.map (·.2) → ∀ v, ev x = some v → AR ρ v (a.eval x)) →
    LR (fun (x : Nat × AV) (y : Nat × Value) => x.1 = y.1 ∧ AR ρ x.2 y.2) l (ps.map fun (i, x) => (i, a.eval x))
  | [], l, h, _ => by simp [evParts] at h; subst h; exact LR.nil
  | (i, x) :: r, l, h, hev => by
    simp only [evParts] at h
    split at h
    · rename_i v l' hv hl
      injection h with h; subst h
      exact LR.cons ⟨rfl, hev x (by simp) v hv⟩ (evParts_spec hl fun y hy => hev y (by simp at hy ⊢; exact .inr hy))
    · cases h

theorem fill_spec {ρ : Rho} {pl pl' : Nat → Option (Nat × Nat)} (hpl : ∀ i, pl i = pl' i) : ∀ {ps : List (Nat × AV)} {qs : List (Nat × Value)} {cs cs' : List AC} {c : Array Value}, fillA pl cs ps = some cs' →
    LR (fun (x : Nat × AV) (y : Nat × Value) => x.1 = y.1 ∧ AR ρ x.2 y.2) ps qs → LR (CR ρ) cs c.toList → ∃ c', Instr.fill pl' c qs = some c' ∧ LR (CR ρ) cs' c'.toList
  | [], qs, cs, cs', c, h, hq, hc => by
    rw [hq.nil_inv]
    simp only [fillA, Option.some.injEq] at h
    subst h
    exact ⟨c, rfl, hc⟩
  | (i, v) :: ps, qs, cs, cs', c, h, hq, hc => by
    obtain ⟨⟨i', u⟩, qs', rfl, ⟨hii, hvu⟩, hq'⟩ := hq.cons_inv
    simp only at hii hvu
    subst hii
    cases v with
    | tup l => simp [fillA] at h
    | any => simp [fillA] at h
    | e v =>
      simp only [fillA, hpl] at h
      simp only [Instr.fill]
      split at h
      · cases h
      · rename_i off size hp
        rw [hp]
        simp only
        have hl := ER.cells hvu
        have hl1 : v.cells.length = u.cells.size := by simpa using hl.1
        have hc1 : cs.length = c.size := by simpa using hc.1
        split at h
        · cases h
        · rename_i hcond
          rw [if_neg (by simpa [hl1, hc1] using hcond)]
          refine fill_spec hpl h hq' ?_
          have := fold_put (off := off) (k := 0) hl hc
          rw [← Array.foldl_toList, Array.toList_zipIdx]
          simpa using this

theorem places_run {P : Program} (w : World) : ∀ {fs : List Field} {pl : List (Nat × Nat)}, fieldPlaces P fs = some pl →
    (fs.mapM fun f => (do pure (f.offset, ← sizeOf f.type) : Sem (Nat × Nat))).run P w = .ok pl w
  | [], pl, h => by simp [fieldPlaces] at h; subst h; simp
  | f :: r, pl, h => by
    simp only [fieldPlaces] at h
    split at h
    · rename_i s l hs hl
      injection h with h; subst h
      simp only [List.mapM_cons, Sem.run_bind, size_run w hs, Result.andThen_ok, Sem.run_pure, places_run w hl]
    · cases h

theorem build_sound {P : Program} {o : Oper} {ev : Operand → Option AV} {g : Get} {nx : Nat} {t : TypeId} {ps : Array (Nat × Operand)} {l : List (Nat × AV)} {E : Eff}
    (ho : o.op = .build t ps) (hl : evParts ev ps.toList = some l) (h : (buildA P t l).sel = some E) : OpSound P o ev g nx E := by
  have hops : ∀ (ρ : Rho) (a : Act), (∀ x, x ∈ o.op.operands.toList → ∀ v, ev x = some v → AR ρ v (a.eval x)) → LR (fun (x : Nat × AV) (y : Nat × Value) => x.1 = y.1 ∧ AR ρ x.2 y.2) l (ps.map fun (i, x) => (i, a.eval x)).toList := by
    intro ρ a hev
    have := evParts_spec hl (ρ := ρ) (a := a) (fun x hx => hev x (by simp only [ho, Op.operands]; simpa using hx))
    simpa using this
  unfold buildA at h
  split at h
  · rename_i z fs hz hd
    split at h
    · rename_i pl hpl
      split at h
      · rename_i cs hcs
        rw [sel_pure h]
        refine quiet_sound fun g' ρ w a _ hev hi => ?_
        obtain ⟨zv, hzv, hzr⟩ := zero_run w ρ hz
        obtain ⟨c', hc', hr⟩ := fill_spec (pl' := fun i => pl.toArray[i]?) (fun i => by simp) hcs (hops ρ a hev) hzr.cells
        refine ⟨.agg c', ?_, c', rfl, hr⟩
        have hm := places_run w hpl
        simp only [execOp, ho, Instr.build, Sem.run_bind, hzv, Result.andThen_ok, under w hd, Array.mapM_eq_mapM_toList, Sem.run_map, hm, hc', Sem.run_pure]
      · exact (sel_fail h).elim
    · exact (sel_fail h).elim
  · rename_i z n e hz hd
    split at h
    · rename_i s hs
      split at h
      · rename_i cs hcs
        rw [sel_pure h]
        refine quiet_sound fun g' ρ w a _ hev hi => ?_
        obtain ⟨zv, hzv, hzr⟩ := zero_run w ρ hz
        obtain ⟨c', hc', hr⟩ := fill_spec (pl' := fun i => some (i * s, s)) (fun i => rfl) hcs (hops ρ a hev) hzr.cells
        refine ⟨.agg c', ?_, c', rfl, hr⟩
        simp only [execOp, ho, Instr.build, Sem.run_bind, hzv, Result.andThen_ok, under w hd, size_run w hs, hc', Sem.run_pure]
      · exact (sel_fail h).elim
    · exact (sel_fail h).elim
  · exact (sel_fail h).elim

theorem load_run {P : Program} {g : Get} {t : TypeId} {x : AV} {E : Eff} (h : (loadA P g t x).sel = some E) : E.upd = [] ∧ E.news = [] ∧
    ∀ (g' : Get) (ρ : Rho) (w : World) (cx : Value), (∀ i, i ∈ E.rd → g' i = g i) → AR ρ x cx → Inv ρ g' w → ∃ ad cv, cx = .pointer (some ad) ∧ (loadVar t ad).run P w = .ok cv w ∧ AR ρ E.v cv := by
  unfold loadA at h
  split at h
  · rename_i l
    split at h
    · rename_i b n hb ha hs
      split at h
      · rename_i ok cs hat
        obtain ⟨hok, rfl⟩ := sel_eff h
        obtain ⟨hlen, hf⟩ := ats_flat (d := b.d) (l := l) (j := 0) (n := n) (as := cs) (by rw [hat, hok]; rfl)
        refine ⟨rfl, rfl, fun g' ρ w cx hg hx hi => ?_⟩
        have hb' : g' l.id = some b := by rw [hg _ (by simp)]; exact hb
        obtain ⟨r, hr, hx⟩ := hx
        obtain ⟨r', hr', hold⟩ := hi.blk _ _ hb'
        rw [hr] at hr'; injection hr' with hr'; subst hr'
        have hcell : ∀ (i : Nat) (c : AC), cs[i]? = some c → ∃ v, w.cell? ⟨r.blk, r.off + l.flat + i, none⟩ = some v ∧ CR ρ c v := by
          intro i c hc
          obtain ⟨_, v, hv, hcr⟩ := hold.2 _ _ (hf i c hc)
          exact ⟨v, by rw [show r.off + l.flat + i = r.off + (l.flat + (0 + i)) from by omega]; exact hv, hcr⟩
        have hvs : ∃ vs : List Value, vs.length = n ∧ (∀ j v, vs[j]? = some v → w.cell? ⟨r.blk, r.off + l.flat + j, none⟩ = some v) ∧ LR (CR ρ) cs vs := by
          refine ⟨(List.range n).map fun i => (w.cell? ⟨r.blk, r.off + l.flat + i, none⟩).getD undef, by simp, fun j v hv => ?_, by simp [hlen], fun i c hc => ?_⟩
          · simp only [List.getElem?_map, Option.map_eq_some_iff] at hv
            obtain ⟨k, hk, rfl⟩ := hv
            have hj : j < n := by have := getElem?_lt hk; simpa using this
            have : k = j := by rw [List.getElem?_range hj] at hk; injection hk with hk; exact hk.symm
            subst this
            obtain ⟨v, hv, _⟩ := hcell k cs[k] (List.getElem?_eq_getElem (by omega))
            simp [hv]
          · have hi' : i < n := by have := getElem?_lt hc; omega
            obtain ⟨v, hv, hcr⟩ := hcell i c hc
            exact ⟨v, by simp [List.getElem?_range hi', hv], hcr⟩
        obtain ⟨vs, hvl, hvc, hvr⟩ := hvs
        refine ⟨_, .agg vs.toArray, hx, ?_, _, rfl, by simpa using hvr⟩
        have hl := loadCells_run (P := P) (w := w) (k := r.blk) (off := r.off + l.flat) vs hvc
        rw [hvl] at hl
        simp only [loadVar, Sem.run_bind, Sem.run_pure, Result.andThen_ok, isAgg_run w ha, if_true, size_run w hs, hl]
      · exact (sel_fail h).elim
    · rename_i b n hb ha hs
      split at h
      · rename_i ok c hat
        obtain ⟨hok, rfl⟩ := sel_eff h
        have hf := at_flat (d := b.d) (l := l) (j := 0) (a := c) (by rw [hat, hok]; rfl)
        refine ⟨rfl, rfl, fun g' ρ w cx hg hx hi => ?_⟩
        have hb' : g' l.id = some b := by rw [hg _ (by simp)]; exact hb
        obtain ⟨r, hr, hx⟩ := hx
        obtain ⟨r', hr', hold⟩ := hi.blk _ _ hb'
        rw [hr] at hr'; injection hr' with hr'; subst hr'
        obtain ⟨_, v, hv, hcr⟩ := hold.2 _ _ hf
        refine ⟨_, v, hx, ?_, hcr⟩
        simp only [loadVar, Sem.run_bind, isAgg_run w ha, Result.andThen_ok, Bool.false_eq_true, if_false]
        simp only [Go.load, Sem.run]
        rw [show r.off + (l.flat + 0) = r.off + l.flat from by omega] at hv
        rw [hv]
      · exact (sel_fail h).elim
    · exact (sel_fail h).elim
  · exact (sel_fail h).elim

theorem load_sound {P : Program} {o : Oper} {ev : Operand → Option AV} {g : Get} {nx : Nat} {t : TypeId} {X : Operand} {x : AV} {E : Eff}
    (ho : o.op = .load t X) (hX : ev X = some x) (h : (loadA P g t x).sel = some E) : OpSound P o ev g nx E := by
  obtain ⟨h1, h2, h3⟩ := load_run h
  obtain ⟨v, upd, rd, news⟩ := E
  simp only at h1 h2 h3
  subst h1 h2
  refine quiet_sound fun g' ρ w a hg hev hi => ?_
  obtain ⟨ad, cv, hx, hl, hr⟩ := h3 g' ρ w _ hg (hev X (by simp [ho, Op.operands]) _ hX) hi
  refine ⟨cv, ?_, hr⟩
  simp only [execOp, ho, hx, Instr.loadAt, Instr.sureAddr, Sem.run_bind, Sem.run_pure, Result.andThen_ok, hl]

theorem LR.scalars {ρ : Rho} {l : List AC} {m : List Value} (h : LR (CR ρ) l m) : ∀ v, v ∈ m → scalar v := by
  intro v hv
  obtain ⟨i, hi, rfl⟩ := List.getElem_of_mem hv
  obtain ⟨b, hb, hr⟩ := h.2 i (l[i]'(by rw [h.1]; exact hi)) (List.getElem?_eq_getElem _)
  rw [List.getElem?_eq_getElem hi] at hb
  injection hb with hb
  rw [hb]; exact hr.scalar

theorem store_sound {P : Program} {o : Oper} {ev : Operand → Option AV} {g : Get} {nx : Nat} {t : TypeId} {X Y : Operand} {x y : AV} {E : Eff}
    (ho : o.op = .store t X Y) (hX : ev X = some x) (hY : ev Y = some y) (h : (storeA P g t x y).sel = some E) : OpSound P o ev g nx E := by
  unfold storeA at h
  split at h
  · rename_i l z
    split at h
    · rename_i d n hb hs
      split at h
      · rename_i hn
        split at h
        · rename_i ok d' hset
          obtain ⟨hok, rfl⟩ := sel_eff h
          subst hok
          obtain ⟨hin, hfl⟩ := setAts_flat hset
          intro g' ρ w a next Q hg hev hi hf hnx
          have hb' : g' l.id = some ⟨false, d⟩ := by rw [hg _ (by simp)]; exact hb
          obtain ⟨r, hr, hx⟩ := hev X (by simp [ho, Op.operands]) _ hX
          have hy : ER ρ z (a.eval Y) := hev Y (by simp [ho, Op.operands]) _ hY
          obtain ⟨r', hr', hold⟩ := hi.blk _ _ hb'
          rw [hr] at hr'; injection hr' with hr'; subst hr'
          have hc := hy.cells
          have hlen : z.cells.length = (a.eval Y).cells.size := by simpa using hc.1
          have hsz : (a.eval Y).cells.size = n := by rw [← hlen]; exact hn
          by_cases h0 : n = 0
          · -- nothing is written
            have hemp : (a.eval Y).cells.toList = [] := by apply List.eq_nil_of_length_eq_zero; simpa using hsz.trans h0
            have hrun : (execOp a.eval o).run P w = .ok .skip w := by
              simp only [execOp, ho, hx, Instr.storeAt, Instr.sureAddr, storeVar, Sem.run_bind, Sem.run_pure, Result.andThen_ok, size_run w hs, hsz, ne_eq, not_true_eq_false, if_false, hemp, storeCells]
            simp only [Oper.wp, hrun, Oper.upon_skip]
            refine hnx _ _ _ (aft_as hi hb' (setAts_kind hset) (fun i b hb => ?_) ⟨#[], rfl, LR.nil⟩)
            rw [hfl, if_neg (by omega)] at hb; exact hb
          · have hpos : 0 < z.cells.length := by omega
            have hrs : ∀ q, q < z.cells.length → l.flat + q < r.size := fun q hq => by
              obtain ⟨b, hb⟩ := hin q hq
              have := (hold.2 _ _ hb).1
              simpa using this
            have h0s := hrs 0 hpos
            obtain ⟨cells, ty, fr, hcells, hbound, hfr⟩ := hold.1.cells (let ⟨_, hb0⟩ := hin 0 hpos; flat_cells hb0) (by omega)
            have hfr0 := hfr rfl
            subst hfr0
            have hlast := hrs (z.cells.length - 1) (by omega)
            have hst := storeCells_run (P := P) (k := r.blk) (t := ty) (r.off + l.flat) (a.eval Y).cells.toList 0 w cells hcells hc.scalars (by simp; omega)
            have hrun : (execOp a.eval o).run P w = .ok .skip (wr w r.blk (.cells (spl cells (r.off + l.flat + 0) (a.eval Y).cells.toList) ty (0, 0))) := by
              simp only [execOp, ho, hx, Instr.storeAt, Instr.sureAddr, storeVar, Sem.run_bind, Sem.run_pure, Result.andThen_ok, size_run w hs, hsz, ne_eq, not_true_eq_false, if_false, Sem.run_ite, hst]
            simp only [Oper.wp, hrun, Oper.upon_skip]
            refine hnx _ _ _ (aft_wr (d := d) hi hb' hr hcells (spl_size _ _ _) (fun _ => hbound) ((setAts_kind hset).elim (fun e => by rw [e]; exact (let ⟨_, hb0⟩ := hin 0 hpos; flat_cells hb0)) (fun h => h.2)) (fun i b hb => ?_) (by omega) ⟨#[], rfl, LR.nil⟩)
            rw [hfl] at hb
            rw [spl_get _ _ _ _ (by simp; omega)]
            simp only [Array.length_toList]
            split at hb
            · rename_i hcond
              have hlt := getElem?_lt hb
              refine ⟨by have := hrs _ hlt; omega, ?_⟩
              rw [if_pos (by omega)]
              obtain ⟨v, hv, hvr⟩ := hc.2 _ _ hb
              refine ⟨v, ?_, hvr⟩
              rw [show r.off + i - (r.off + l.flat + 0) = i - (l.flat + 0) from by omega]; exact hv
            · rename_i hcond
              obtain ⟨hi1, v, hv, hvr⟩ := hold.2 _ _ hb
              refine ⟨hi1, v, ?_, hvr⟩
              rw [if_neg (by omega)]
              rw [cell_of hcells] at hv; exact hv
        · exact (sel_fail h).elim
      · exact (sel_fail h).elim
    · exact (sel_fail h).elim
  · exact (sel_fail h).elim

/- A walker of Go functions over data: slices are made, grow, are copied. -/
theorem toCols_spec {cs : List AC} {es n : Nat} : ∀ {zs : List AC} {j0 : Nat} {cols : List Col}, toCols cs es n j0 zs = some cols →
    cols.length = zs.length ∧ Even cols n ∧ ∀ q j, q < n → j < zs.length → colsAt cols q j = cs[j0 + j + q * es]?
  | [], j0, cols, h => by
    simp only [toCols, Option.some.injEq] at h
    subst h
    exact ⟨rfl, fun j c h => by simp at h, fun q j _ hj => by simp at hj⟩
  | z :: zs, j0, cols, h => by
    simp only [toCols] at h
    split at h
    · rename_i l r hl hr
      injection h with h; subst h
      obtain ⟨ha, hb, hc⟩ := toCols_spec hr
      refine ⟨by simp [ha], fun j x hx => ?_, fun q j hq hj => ?_⟩
      · cases j with
        | zero => simp at hx; subst hx; rw [colLike_get.2, strided_len hl]
        | succ j => exact hb j x (by simpa using hx)
      · cases j with
        | zero => simp [colsAt, colLike_get.1, strided_get hl q hq]
        | succ j =>
          have := hc q j hq (by simpa using hj)
          simp only [colsAt, List.getElem?_cons_succ] at this ⊢
          rw [this]; congr 1; omega
    · cases h

theorem putAt_len : ∀ {l cs : List AC} {off : Nat}, (putAt cs off l).length = cs.length
  | [], _, _ => rfl
  | a :: l, cs, off => by simp [putAt, putAt_len]

theorem fillA_len {pl : Nat → Option (Nat × Nat)} : ∀ {ps : List (Nat × AV)} {cs cs' : List AC}, fillA pl cs ps = some cs' → cs'.length = cs.length
  | [], cs, cs', h => by simp [fillA] at h; subst h; rfl
  | (i, .tup l) :: ps, cs, cs', h => by simp [fillA] at h
  | (i, .any) :: ps, cs, cs', h => by simp [fillA] at h
  | (i, .e v) :: ps, cs, cs', h => by
    simp only [fillA] at h
    split at h
    · cases h
    · split at h
      · cases h
      · rw [fillA_len h, putAt_len]

theorem repCells_len {z : List AC} : ∀ {n : Nat}, (repCells z n).length = n * z.length
  | 0 => by simp [repCells]
  | n + 1 => by simp [repCells, repCells_len, Nat.add_mul]; omega

theorem repCells_get {z : List AC} : ∀ {n i : Nat}, i < n * z.length → (repCells z n)[i]? = z[i % z.length]?
  | 0, i, h => by simp at h
  | n + 1, i, h => by
    simp only [repCells]
    by_cases hi : i < z.length
    · rw [List.getElem?_append_left hi, Nat.mod_eq_of_lt hi]
    · rw [List.getElem?_append_right (by omega), repCells_get (by rw [Nat.add_mul] at h; omega)]
      congr 1
      exact (Nat.mod_eq_sub_mod (by omega)).symm

theorem zeroRow {ρ : Rho} {z : List AC} {zc : Array Value} {n : Nat} (h : LR (CR ρ) z zc.toList) (hp : 0 < z.length) :
    LR (CR ρ) (repCells z n) ((Array.range (n * z.length)).map fun i => zc[i % zc.size]!).toList := by
  have hs : zc.size = z.length := by simpa using h.1.symm
  refine ⟨by simp [repCells_len], fun i a ha => ?_⟩
  have hi := getElem?_lt ha
  rw [repCells_len] at hi
  rw [repCells_get hi] at ha
  obtain ⟨b, hb, hr⟩ := h.2 _ _ ha
  refine ⟨b, ?_, hr⟩
  rw [Array.getElem?_toList] at hb
  simp only [Array.toList_map, List.getElem?_map, Array.toList_range, List.getElem?_range hi, Option.map_some, hs]
  rw [getElem!_def, hb]

theorem rows_mem {ρ : Rho} {cols : List Col} {n es : Nat} {c : Array Value} (hes : 0 < es) (hl : cols.length = es) (hev : Even cols n)
    (h : ∀ q j, q < n → j < es → ∀ a, colsAt cols q j = some a → ∃ x, c[q * es + j]? = some x ∧ CR ρ a x) : ∀ i a, (Data.rows cols).flat i = some a → i < n * es ∧ ∃ x, c[i]? = some x ∧ CR ρ a x := by
  intro i a ha
  rw [rows_flat (by omega), hl] at ha
  have hj := Nat.mod_lt i hes
  have hq : i / es < n := by
    have hc : cols[i % es]? = some (cols[i % es]'(by omega)) := List.getElem?_eq_getElem _
    have := hev _ _ hc
    simp only [colsAt, hc, Option.bind_some] at ha
    have := (Col.get?_some (c := cols[i % es]'(by omega)) (q := i / es)).2 ⟨a, ha⟩
    omega
  have := h _ _ hq hj a ha
  have e : i / es * es + i % es = i := by rw [Nat.mul_comm]; exact Nat.div_add_mod i es
  rw [e] at this
  exact ⟨by rw [← Nat.div_lt_iff_lt_mul hes]; exact hq, this⟩

theorem slice_val {ρ : Rho} {nx k n es len cap : Nat} {nn : Bool} (h : len ≤ cap) (hn : cap * es ≤ n) : AR (setR ρ nx ⟨k, 0, n⟩) (acv (.slice ⟨nx, 0, es, 0, 0, 0, 0⟩ es len 0 nn)) (.slice (some ⟨k, 0, none⟩) len cap) :=
  ⟨_, _, rfl, by omega, fun _ => by simp, fun h => by simp at h, fun _ => ⟨_, setR_self, by simp [Loc.flat], by simpa [Loc.flat] using hn⟩⟩

theorem buildSlice_sound {P : Program} {o : Oper} {ev : Operand → Option AV} {g : Get} {nx : Nat} {t : TypeId} {len : Nat} {ps : Array (Nat × Operand)} {l : List (Nat × AV)} {E : Eff}
    (ho : o.op = .buildSlice t len ps) (hl : evParts ev ps.toList = some l) (h : (buildSliceA P nx t len l).sel = some E) : OpSound P o ev g nx E := by
  have hops : ∀ (ρ : Rho) (a : Act), (∀ x, x ∈ o.op.operands.toList → ∀ v, ev x = some v → AR ρ v (a.eval x)) → LR (fun (x : Nat × AV) (y : Nat × Value) => x.1 = y.1 ∧ AR ρ x.2 y.2) l (ps.map fun (i, x) => (i, a.eval x)).toList := by
    intro ρ a hev
    have := evParts_spec hl (ρ := ρ) (a := a) (fun x hx => hev x (by simp only [ho, Op.operands]; simpa using hx))
    simpa using this
  unfold buildSliceA at h
  split at h
  · rename_i e hd
    split at h
    · rename_i z s hz hs
      split at h
      · rename_i hc
        obtain ⟨rfl, hpos, hbig⟩ := hc
        split at h
        · rename_i cs hcs
          split at h
          · rename_i cols hcols
            obtain ⟨_, rfl⟩ := sel_eff h
            intro g' ρ w a next Q hg hev hi hf hn
            obtain ⟨zv, hzv, hzr⟩ := zero_run w ρ hz
            have hzc : zv.cells.size = z.cells.length := by simpa using hzr.cells.1.symm
            have hzero := zeroRow (n := len) hzr.cells hpos
            have hzrow : ∀ f : Nat → Value, len * z.cells.length = 0 → (Array.range (len * z.cells.length)).map f = ((Array.range (len * z.cells.length)).map fun i => zv.cells[i % zv.cells.size]!) := by
              intro f h0; rw [h0]; simp
            obtain ⟨c', hc', hr⟩ := fill_spec (pl' := fun i => some (i * z.cells.length, z.cells.length)) (fun i => rfl) hcs (hops ρ a hev) hzero
            have hclen : c'.size = len * z.cells.length := by
              have := hr.1
              rw [fillA_len hcs, repCells_len] at this
              simpa using this.symm
            obtain ⟨h1, h2, h3⟩ := toCols_spec hcols
            have hrun : (execOp a.eval o).run P w = .ok (.value (.slice (some ⟨w.heap.size, 0, none⟩) len len)) (push w (.cells c' e)) := by
              simp only [execOp, ho, Instr.buildSlice, Sem.run_bind, under w hd, Result.andThen_ok, size_run w hs]
              rw [Sem.run_ite, if_neg (by omega)]
              simp only [Sem.run_pure, Result.andThen_ok, Sem.run_ite, Sem.run_bind, hzv]
              simp only [Array.map_map] at hc'
              by_cases h0 : len * z.cells.length = 0
              · rw [if_pos h0]
                simp only [Result.andThen_ok, hzrow _ h0, hc', Sem.run_bind, newRow, run_newObj, Sem.run_pure, push]
              · rw [if_neg h0]
                simp only [Result.andThen_ok, hc', Sem.run_bind, newRow, run_newObj, Sem.run_pure, push]
            simp only [Oper.wp, hrun, Oper.upon_value]
            refine hn _ _ _ (aft_new hi (fresh_none hf (by simp)) (fun i b hb => (rows_mem hpos h1 h2 (fun q j hq hj x hx => ?_) i b hb).2) (slice_val (Nat.le_refl _) (by omega)))
            rw [h3 q j hq hj] at hx
            obtain ⟨y, hy, hyr⟩ := hr.2 _ _ hx
            refine ⟨y, ?_, hyr⟩
            rw [show q * z.cells.length + j = 0 + j + q * z.cells.length from by omega]; simpa using hy
          · exact (sel_fail h).elim
        · exact (sel_fail h).elim
      · exact (sel_fail h).elim
    · exact (sel_fail h).elim
  · exact (sel_fail h).elim

theorem colRep_get {z : AC} {n : Nat} : (colRep z n).len = n ∧ ∀ q, q < n → (colRep z n).get? q = some z := by
  unfold colRep
  split <;> exact ⟨by simp [Col.len], fun q hq => by simp [Col.get?, List.getElem?_replicate, hq]⟩

theorem wrap_id {n : Int} (h0 : 0 ≤ n) (h : n ≤ 2 ^ 47) : IntKind.i64.wrap n = n := by
  have : n % (2 ^ 64 : Int) = n := Int.emod_eq_of_lt h0 (by omega)
  simp only [IntKind.wrap, IntKind.bits, this, IntKind.signed, Bool.true_and]
  rw [if_neg (by simp; omega)]

theorem makeSlice_sound {P : Program} {o : Oper} {ev : Operand → Option AV} {g : Get} {nx : Nat} {t : TypeId} {L C : Operand} {x y : AV} {E : Eff}
    (ho : o.op = .makeSlice t L C) (hL : ev L = some x) (hC : ev C = some y) (h : (makeSliceA P nx t x y).sel = some E) : OpSound P o ev g nx E := by
  unfold makeSliceA at h
  split at h
  · rename_i e n c hd
    split at h
    · rename_i z i hz hinfo
      split at h
      · rename_i hc
        obtain ⟨hsz, hpos⟩ := hc
        obtain ⟨hok, rfl⟩ := sel_eff h
        simp only [Bool.and_eq_true, decide_eq_true_eq] at hok
        obtain ⟨⟨⟨h0, rfl⟩, hby⟩, h47⟩ := hok
        have hs : tySize P e = some i.size := by simp [tySize, hinfo]
        intro g' ρ w a next Q hg hev hi hf hn
        have hx := hev L (by simp [ho, Op.operands]) _ hL
        have hy := hev C (by simp [ho, Op.operands]) _ hC
        simp only [AR, ER, CR] at hx hy
        obtain ⟨zv, hzv, hzr⟩ := zero_run w ρ hz
        have hzc : zv.cells.size = z.cells.length := by simpa using hzr.cells.1.symm
        have hzero := zeroRow (n := n.toNat) hzr.cells (by omega)
        have hzrow : ∀ f : Nat → Value, n.toNat * i.size = 0 → (Array.range (n.toNat * i.size)).map f = ((Array.range (n.toNat * i.size)).map fun k => zv.cells[k % zv.cells.size]!) := by
          intro f h0; rw [h0]; simp
        have hrun : (execOp a.eval o).run P w = .ok (.value (.slice (some ⟨w.heap.size, 0, none⟩) n.toNat n.toNat)) (push w (.cells ((Array.range (n.toNat * i.size)).map fun k => zv.cells[k % zv.cells.size]!) e)) := by
          have hb1 : ¬ ((i.bytes : Int) * n > 2 ^ 48) := by rw [Int.mul_comm]; omega
          simp only [execOp, ho, Instr.makeSlice, hx, hy, asInt, asIntOf, Sem.run_bind, under w hd, Result.andThen_ok, Sem.run_pure, typeInfo, run_program, hinfo, wrap_id h0 h47]
          rw [Sem.run_ite, if_neg (by simp; omega)]
          simp only [Sem.run_bind, run_askRoom, Result.andThen_ok, size_run w hs, Sem.run_ite, Sem.run_pure, hzv]
          by_cases h0 : n.toNat * i.size = 0
          · rw [if_pos h0]
            simp only [Result.andThen_ok, hzrow _ h0, newRow, run_newObj, Sem.run_pure, Sem.run_bind, push]
          · rw [if_neg h0]
            simp only [Result.andThen_ok, newRow, run_newObj, Sem.run_pure, Sem.run_bind, push]
        simp only [Oper.wp, hrun, Oper.upon_value]
        have hlen : (z.cells.map fun a => colRep a n.toNat).length = i.size := by simp [hsz]
        refine hn _ _ _ (aft_new hi (fresh_none hf (by simp)) (fun k b hb => (rows_mem hpos hlen (n := n.toNat) (fun j c hj => ?_) (fun q j hq hj x hx => ?_) k b hb).2) (slice_val (Nat.le_refl _) (by simp)))
        · simp only [List.getElem?_map, Option.map_eq_some_iff] at hj
          obtain ⟨u, _, rfl⟩ := hj
          exact colRep_get.1
        · have hjz : j < z.cells.length := by omega
          simp only [colsAt, List.getElem?_map, List.getElem?_eq_getElem hjz, Option.map_some, Option.bind_some, colRep_get.2 q hq] at hx
          have hk : q * z.cells.length + j < n.toNat * z.cells.length := by
            have : (q + 1) * z.cells.length ≤ n.toNat * z.cells.length := Nat.mul_le_mul_right _ (by omega)
            rw [Nat.add_mul] at this; omega
          have hrep : (repCells z.cells n.toNat)[q * z.cells.length + j]? = some x := by
            rw [repCells_get hk, (div_mod_at hjz).2, List.getElem?_eq_getElem hjz]; exact hx
          obtain ⟨v, hv, hvr⟩ := hzero.2 _ _ hrep
          rw [hsz]
          exact ⟨v, by rw [← Array.getElem?_toList]; exact hv, hvr⟩
      · exact (sel_fail h).elim
    · exact (sel_fail h).elim
  · exact (sel_fail h).elim

/-- Cells that are there, as a list. -/
theorem read_cells {ρ : Rho} {w : World} {k off n : Nat} {A : Nat → Option AC} (h : ∀ i, i < n → ∃ a v, A i = some a ∧ w.cell? ⟨k, off + i, none⟩ = some v ∧ CR ρ a v) :
    ∃ vs : List Value, vs.length = n ∧ (∀ j v, vs[j]? = some v → w.cell? ⟨k, off + j, none⟩ = some v) ∧ ∀ i, i < n → ∃ a v, A i = some a ∧ vs[i]? = some v ∧ CR ρ a v := by
  refine ⟨(List.range n).map fun i => (w.cell? ⟨k, off + i, none⟩).getD undef, by simp, fun j v hv => ?_, fun i hi => ?_⟩
  · have hj : j < n := by have := getElem?_lt hv; simpa using this
    obtain ⟨a, u, _, hu, _⟩ := h j hj
    simp only [List.getElem?_map, List.getElem?_range hj, Option.map_some, hu, Option.getD_some, Option.some.injEq] at hv
    subst hv; exact hu
  · obtain ⟨a, u, ha, hu, hr⟩ := h i hi
    exact ⟨a, u, ha, by simp [List.getElem?_range hi, hu], hr⟩

/-- The cells that a range's columns stand for. -/
def Match (ρ : Rho) (cols : List Col) (n es : Nat) (vs : List Value) : Prop :=
  vs.length = n * es ∧ ∀ q j, q < n → j < es → ∃ a v, colsAt cols q j = some a ∧ vs[q * es + j]? = some v ∧ CR ρ a v

theorem Match.scalars {ρ : Rho} {cols : List Col} {n es : Nat} {vs : List Value} (h : Match ρ cols n es vs) (hes : 0 < es) : ∀ v, v ∈ vs → scalar v := by
  intro v hv
  obtain ⟨i, hi, rfl⟩ := List.getElem_of_mem hv
  rw [h.1] at hi
  have hq : i / es < n := by rw [Nat.div_lt_iff_lt_mul hes]; exact hi
  obtain ⟨a, u, _, hu, hr⟩ := h.2 (i / es) (i % es) hq (Nat.mod_lt _ hes)
  have e : i / es * es + i % es = i := by rw [Nat.mul_comm]; exact Nat.div_add_mod i es
  rw [e, List.getElem?_eq_getElem (by rw [h.1]; exact hi)] at hu
  injection hu with hu
  rw [hu]; exact hr.scalar

theorem range_run {P : Program} {ρ : Rho} {w : World} {d : Data} {ro : Bool} {r : Pl} {l : Loc} {es n : Nat} {cols : List Col} (hes : 0 < es) (hr : d.range l es n = some (true, cols)) (hold : Holds ρ w r ⟨ro, d⟩)
    (hev : Even cols n) : ∃ vs, Match ρ cols n es vs ∧ (loadCells ⟨r.blk, r.off + l.flat, none⟩ (n * es)).run P w = .ok vs.toArray w := by
  obtain ⟨h1, h2, h3⟩ := range_spec hes hr
  have key : ∀ i, i < n * es → ∃ a v, d.flat (l.flat + i) = some a ∧ w.cell? ⟨r.blk, r.off + l.flat + i, none⟩ = some v ∧ CR ρ a v := by
    intro i hi
    have hq : i / es < n := by rw [Nat.div_lt_iff_lt_mul hes]; exact hi
    have hj := Nat.mod_lt i hes
    have e : i / es * es + i % es = i := by rw [Nat.mul_comm]; exact Nat.div_add_mod i es
    have h4 := h3 _ _ hq hj
    rw [show l.flat + i / es * es + i % es = l.flat + i from by omega] at h4
    have hc : cols[i % es]? = some (cols[i % es]'(by omega)) := List.getElem?_eq_getElem _
    have hlen := hev _ _ hc
    obtain ⟨a, ha⟩ := (Col.get?_some (c := cols[i % es]'(by omega)) (q := i / es)).1 (by omega)
    simp only [colsAt, hc, Option.bind_some, ha] at h4
    obtain ⟨_, v, hv, hcr⟩ := hold.2 _ _ h4.symm
    exact ⟨a, v, h4.symm, by rw [show r.off + l.flat + i = r.off + (l.flat + i) from by omega]; exact hv, hcr⟩
  obtain ⟨vs, hl, hc, hm⟩ := read_cells key
  refine ⟨vs, ⟨hl, fun q j hq hj => ?_⟩, ?_⟩
  · have hlt : q * es + j < n * es := by
      have : (q + 1) * es ≤ n * es := Nat.mul_le_mul_right _ (by omega)
      rw [Nat.add_mul] at this; omega
    obtain ⟨a, v, ha, hv, hr⟩ := hm _ hlt
    exact ⟨a, v, by rw [h3 q j hq hj, show l.flat + q * es + j = l.flat + (q * es + j) from by omega]; exact ha, hv, hr⟩
  · have := loadCells_run (P := P) (w := w) (k := r.blk) (off := r.off + l.flat) vs hc
    rw [hl] at this; exact this

theorem src_run {P : Program} {g g' : Get} {ρ : Rho} {w : World} {es m m' : Nat} {y : AV} {cy : Value} {cb : List Col} {rb : List Nat} (h : srcCols g es y m = some (true, cb, rb)) (hlen : lenOfA y = some m') (hm : m ≤ m')
    (hes : 0 < es) (hg : ∀ i, i ∈ rb → g' i = g i) (hi : Inv ρ g' w) (hy : AR ρ y cy) :
    cb.length = es ∧ Even cb m ∧ (Builtin.lenOf cy).run P w = .ok m' w ∧ ∃ vs, Match ρ cb m es vs ∧ (Builtin.firstCells es m cy).run P w = .ok vs.toArray w := by
  unfold srcCols at h
  split at h
  · simp only [lenOfA, Option.some.injEq] at hlen
    subst hlen
    obtain rfl : m = 0 := by omega
    simp only [Option.some.injEq, Prod.mk.injEq, true_and] at h
    obtain ⟨rfl, rfl⟩ := h
    simp only [AR, ER, CR] at hy
    subst hy
    refine ⟨by simp, fun j c hj => ?_, by simp [Builtin.lenOf], [], ⟨by simp, fun q j hq => by omega⟩, by simp [Builtin.firstCells]⟩
    simp only [List.getElem?_replicate] at hj
    split at hj
    · injection hj with hj; subst hj; rfl
    · cases hj
  · rename_i l es' len ext nn
    simp only [lenOfA, Option.some.injEq] at hlen
    subst hlen
    split at h
    · rename_i he
      subst he
      split at h
      · rename_i b hb
        split at h
        · rename_i ok c hr
          simp only [Option.some.injEq, Prod.mk.injEq] at h
          obtain ⟨rfl, rfl, rfl⟩ := h
          obtain ⟨ca, cap, rfl, h1, h2, h3, h4⟩ := hy
          obtain ⟨hr1, hr2, hr3⟩ := range_spec hes hr
          refine ⟨hr1, hr2, by simp [Builtin.lenOf], ?_⟩
          by_cases hm0 : m = 0
          · subst hm0
            refine ⟨[], ⟨by simp, fun q j hq => by omega⟩, ?_⟩
            cases ca with
            | none => simp [Builtin.firstCells]
            | some ca => simp [Builtin.firstCells, loadCells, loadCellsFrom]
          · obtain ⟨r, hr', rfl, hsz⟩ := h4 (by omega)
            obtain ⟨r', hr'', hold⟩ := hi.blk _ _ (by rw [hg _ (by simp)]; exact hb : g' l.id = some b)
            rw [hr'] at hr''; injection hr'' with hr''; subst hr''
            obtain ⟨vs, hv, hrun⟩ := range_run (P := P) (ro := b.ro) (d := b.d) hes hr hold hr2
            exact ⟨vs, hv, by simp only [Builtin.firstCells]; exact hrun⟩
        · cases h
      · cases h
    · cases h
  · cases h

/- A walker of Go functions over data: append, copy, clear; every operation. -/
theorem store_range {P : Program} {ρ : Rho} {g : Get} {w : World} {id : Nat} {d d' : Data} {r : Pl} {L : Loc} {es m : Nat} {cb : List Col} {vs : List Value} (hi : Inv ρ g w) (hg : g id = some ⟨false, d⟩) (hr : ρ id = some r) (hes : 0 < es)
    (hs : d.setRange L es m cb = some (true, d')) (hev : Even cb m) (hm : Match ρ cb m es vs) :
    ∃ w', (storeCells ⟨r.blk, r.off + L.flat, none⟩ vs).run P w = .ok () w' ∧ ∀ nx rd v cv, AR ρ v cv → Aft ρ g w nx ⟨v, [(id, some ⟨false, d'⟩)], rd, []⟩ ρ w' cv := by
  obtain ⟨hin, hfl⟩ := setRange_spec hes hs hev
  by_cases hm0 : m = 0
  · subst hm0
    have hvs : vs = [] := by apply List.eq_nil_of_length_eq_zero; have := hm.1; simpa using this
    subst hvs
    refine ⟨w, by simp [storeCells], fun nx rd v cv hv => aft_as hi hg (.inr (setRange_kind hs)) (fun i a ha => ?_) hv⟩
    rw [hfl, if_neg (by omega)] at ha; exact ha
  · obtain ⟨r', hr', hold⟩ := hi.blk _ _ hg
    rw [hr] at hr'; injection hr' with hr'; subst hr'
    have hpos : 0 < m * es := Nat.mul_pos (by omega) hes
    have hb : ∀ i, L.flat ≤ i → i < L.flat + m * es → i < r.size := fun i h1 h2 => by obtain ⟨a, ha⟩ := hin i h1 h2; exact (hold.2 _ _ ha).1
    have h0 := hb L.flat (Nat.le_refl _) (by omega)
    have hlast := hb (L.flat + m * es - 1) (by omega) (by omega)
    obtain ⟨cells, ty, fr, hcells, hbound, hfr⟩ := hold.1.cells (setRange_kind hs).1 (by omega)
    have hfr0 := hfr rfl
    subst hfr0
    have hst := storeCells_run (P := P) (k := r.blk) (t := ty) (r.off + L.flat) vs 0 w cells hcells (hm.scalars hes) (by rw [hm.1]; omega)
    refine ⟨_, hst, fun nx rd v cv hv => aft_wr (d := d) hi hg hr hcells (spl_size _ _ _) (fun _ => hbound) (setRange_kind hs).2 (fun i a ha => ?_) (by omega) hv⟩
    rw [hfl] at ha
    rw [spl_get _ _ _ _ (by rw [hm.1]; omega), hm.1]
    split at ha
    · rename_i hc
      refine ⟨hb i hc.1 hc.2, ?_⟩
      rw [if_pos (by omega)]
      have hq : (i - L.flat) / es < m := by rw [Nat.div_lt_iff_lt_mul hes]; omega
      obtain ⟨a', v', ha', hv', hcr⟩ := hm.2 _ _ hq (Nat.mod_lt (i - L.flat) hes)
      rw [ha] at ha'; injection ha' with ha'; subst ha'
      have e : (i - L.flat) / es * es + (i - L.flat) % es = i - L.flat := by rw [Nat.mul_comm]; exact Nat.div_add_mod _ es
      rw [e] at hv'
      exact ⟨v', by rw [show r.off + i - (r.off + L.flat + 0) = i - L.flat from by omega]; exact hv', hcr⟩
    · rename_i hc
      obtain ⟨h1, v', hv', hcr⟩ := hold.2 _ _ ha
      refine ⟨h1, v', ?_, hcr⟩
      rw [if_neg (by omega)]
      rw [cell_of hcells] at hv'; exact hv'

theorem growBy_le : ∀ (n c need : Nat), 256 ≤ c → c ≤ 2 * need → Builtin.growBy need n c ≤ 2 * need
  | 0, c, need, _, h => by simpa [Builtin.growBy] using h
  | n + 1, c, need, hc, h => by
    simp only [Builtin.growBy]
    split
    · exact h
    · exact growBy_le n _ need (by omega) (by omega)

theorem nextslicecap_le {need old : Nat} (h : old < need) : Builtin.nextslicecap need old ≤ 2 * need := by
  unfold Builtin.nextslicecap
  split
  · omega
  · split
    · omega
    · exact growBy_le 4 old need (by omega) (by omega)

def drew (w : World) : World := { w with drawn := w.drawn + 1 }

theorem Inv.drew {ρ : Rho} {g : Get} {w : World} (h : Inv ρ g w) : Inv ρ g (Eng.drew w) := ⟨h.blk, h.apart⟩

theorem Aft.undrew {ρ ρ' : Rho} {g : Get} {w w' : World} {nx : Nat} {E : Eff} {cv : Value} (h : Aft ρ g (Eng.drew w) nx E ρ' w' cv) : Aft ρ g w nx E ρ' w' cv :=
  ⟨h.ext, h.dom, h.val, h.inv, ⟨h.kept.os, h.kept.tape, h.kept.output, h.kept.size, h.kept.block⟩, h.own, h.live⟩

theorem append_in {P : Program} {w : World} {t u ut e : TypeId} {ty : TypeId} {es : Nat} {base : Option Addr} {n cap m : Nat} {cy : Value} {new : Array Value} (hd : P.underlying t = some (.slice e)) (hu : P.underlying u = some (.slice ut))
    (hs : tySize P e = some es) (hl : (Builtin.lenOf cy).run P w = .ok m w) (hn : (Builtin.firstCells es m cy).run P w = .ok new w) (hcap : n + m ≤ cap) :
    (Builtin.append_ #[t, u] ty #[.slice base n cap, cy]).run P w = ((match base with | some a => storeCells (a.add (n * es)) new.toList | none => pure () : Sem Unit).run P w).andThen fun _ w' => .ok (.slice base (n + m) cap) w' := by
  cases base <;> simp [Builtin.append_, under w hd, under w hu, size_run w hs, hl, hn, hcap]

theorem append_out {P : Program} {w : World} {t u ut e : TypeId} {ty : TypeId} {i : TypeInfo} {base : Option Addr} {n cap m : Nat} {cy : Value} {old new : Array Value} {z : AE} (hd : P.underlying t = some (.slice e)) (hu : P.underlying u = some (.slice ut))
    (hi : P.info? e = some i) (hz : tyZero P e = some z) (hl : (Builtin.lenOf cy).run P w = .ok m w) (hn : (Builtin.firstCells i.size m cy).run P (drew w) = .ok new (drew w)) (ho : (Builtin.firstCells i.size n (.slice base n cap)).run P (drew w) = .ok old (drew w))
    (hcap : ¬ n + m ≤ cap) (hb : (n + m) * i.bytes ≤ 2 ^ 47) (hb2 : n + m ≤ 2 ^ 47) :
    ∃ newCap rest, n + m ≤ newCap ∧ rest.size = (newCap - (n + m)) * z.cells.length ∧
      (Builtin.append_ #[t, u] ty #[.slice base n cap, cy]).run P w = .ok (.slice (some ⟨w.heap.size, 0, none⟩) (n + m) newCap) (push (drew w) (.cells (old ++ new ++ rest) e)) := by
  have hs : tySize P e = some i.size := by simp [tySize, hi]
  obtain ⟨zv, hzv, hzr⟩ := zero_run (P := P) (drew w) (fun _ => none) hz
  have hzc : zv.cells.size = z.cells.length := by simpa using hzr.cells.1.symm
  have hcut : n + m ≤ (Question.appendCap (n + m) cap e).cut (w.tape w.drawn (Question.appendCap (n + m) cap e)) := by simp [Question.cut]
  obtain ⟨N, hN⟩ : ∃ N, N = (Question.appendCap (n + m) cap e).cut (w.tape w.drawn (Question.appendCap (n + m) cap e)) := ⟨_, rfl⟩
  rw [← hN] at hcut
  refine ⟨N, Builtin.zeroCells zv.cells (N - (n + m)), hcut, by simp [Builtin.zeroCells, hzc], ?_⟩
  have hn64 : ¬ ((n : Int) + (m : Int) > IntKind.i64.max) := by
    have : IntKind.i64.max = 2 ^ 63 - 1 := by decide
    omega
  have hnext : ¬ (Builtin.nextslicecap (n + m) cap * i.bytes > 2 ^ 48) := by
    have := nextslicecap_le (need := n + m) (old := cap) (by omega)
    have := Nat.mul_le_mul_right i.bytes this
    rw [Nat.mul_assoc] at this
    omega
  have hzv' : (zeroValue e).run P (drew w) = .ok zv (drew w) := hzv
  simp only [Builtin.append_, List.getElem?_toArray, List.getElem?_cons_zero, List.getElem?_cons_succ, Sem.run_bind, under w hd, Result.andThen_ok, size_run w hs, under w hu, Sem.run_pure, Bool.false_eq_true, if_false, hl, Sem.run_ite, if_neg hcap, typeInfo, run_program, hi]
  rw [if_neg (by intro h; exact hn64 (by have := h.1; push_cast at this; omega))]
  rw [if_neg hnext]
  simp only [Result.andThen_ok, run_choose, Question.forced, Bool.false_eq_true, if_false, Sem.run_bind, run_askRoom, Bool.not_false, if_true]
  have hfold : ({ w with drawn := w.drawn + 1 } : World) = drew w := rfl
  rw [← hN]
  simp only [hfold, ho, hn, hzv', Result.andThen_ok, newRow, Sem.run_bind, run_newObj, Sem.run_pure]
  rfl

/- A walker of Go functions over data: every operation that is no call of a Go function. -/
theorem evs_spec {ev : Operand → Option AV} {ρ : Rho} {a : Act} : ∀ {xs : List Operand} {l : List AV}, evs ev xs = some l → (∀ x, x ∈ xs → ∀ v, ev x = some v → AR ρ v (a.eval x)) → LR (AR ρ) l (xs.map a.eval)
  | [], l, h, _ => by simp [evs] at h; subst h; exact LR.nil
  | x :: r, l, h, hev => by
    simp only [evs] at h
    split at h
    · rename_i v l' hv hl
      injection h with h; subst h
      exact LR.cons (hev x (by simp) v hv) (evs_spec hl fun y hy => hev y (by simp [hy]))
    · cases h

theorem evs_two {ev : Operand → Option AV} {ρ : Rho} {a : Act} {args : Array Operand} {x y : AV} (h : evs ev args.toList = some [x, y]) (hev : ∀ x, x ∈ args.toList → ∀ v, ev x = some v → AR ρ v (a.eval x)) :
    ∃ cx cy, args.map a.eval = #[cx, cy] ∧ AR ρ x cx ∧ AR ρ y cy := by
  obtain ⟨cx, m, hm, hx, hl⟩ := (evs_spec h hev).cons_inv
  obtain ⟨cy, m', rfl, hy, hl'⟩ := hl.cons_inv
  rw [hl'.nil_inv] at hm
  refine ⟨cx, cy, ?_, hx, hy⟩
  apply Array.toList_inj.1
  rw [Array.toList_map]; exact hm

theorem evs_one {ev : Operand → Option AV} {ρ : Rho} {a : Act} {args : Array Operand} {x : AV} (h : evs ev args.toList = some [x]) (hev : ∀ x, x ∈ args.toList → ∀ v, ev x = some v → AR ρ v (a.eval x)) :
    ∃ cx, args.map a.eval = #[cx] ∧ AR ρ x cx := by
  obtain ⟨cx, m, hm, hx, hl⟩ := (evs_spec h hev).cons_inv
  rw [hl.nil_inv] at hm
  refine ⟨cx, ?_, hx⟩
  apply Array.toList_inj.1
  rw [Array.toList_map]; exact hm

theorem call_ops {o : Oper} {b : Callee} {args : Array Operand} {ts : Array TypeId} (ho : o.op = .call { callee := b, args, argTypes := ts }) : ∀ x, x ∈ args.toList → x ∈ o.op.operands.toList := by
  intro x hx
  simp only [ho, Op.operands, Call.operands, Array.toList_append, List.mem_append]
  exact .inr hx

theorem rows_two {ρ : Rho} {ca cb c : List Col} {n m es : Nat} {cells : Array Value} (hes : 0 < es) (hca : ca.length = es) (hea : Even ca n) (heb : Even cb m) (hc : appCols ca cb = some c)
    (h1 : ∀ q j, q < n → j < es → ∃ a v, colsAt ca q j = some a ∧ cells[q * es + j]? = some v ∧ CR ρ a v)
    (h2 : ∀ q j, q < m → j < es → ∃ a v, colsAt cb q j = some a ∧ cells[(n + q) * es + j]? = some v ∧ CR ρ a v) :
    ∀ i a, (Data.rows c).flat i = some a → i < (n + m) * es ∧ ∃ x, cells[i]? = some x ∧ CR ρ a x := by
  obtain ⟨hl, hev, hat⟩ := appCols_spec hc hea heb
  refine rows_mem hes (hl.trans hca) hev (fun q j hq hj a ha => ?_)
  rw [hat] at ha
  split at ha
  · rename_i hqn
    obtain ⟨b, v, hb, hv, hr⟩ := h1 q j hqn hj
    rw [ha] at hb; injection hb with hb; subst hb
    exact ⟨v, hv, hr⟩
  · rename_i hqn
    obtain ⟨b, v, hb, hv, hr⟩ := h2 (q - n) j (by omega) hj
    rw [ha] at hb; injection hb with hb; subst hb
    rw [show n + (q - n) = q from by omega] at hv
    exact ⟨v, hv, hr⟩

theorem even_flat_none {c : List Col} {es : Nat} (hes : 0 < es) (hl : c.length = es) (h : Even c 0) (i : Nat) : (Data.rows c).flat i = none := by
  cases hf : (Data.rows c).flat i with
  | none => rfl
  | some a =>
    have := (rows_mem (ρ := fun _ => none) (c := #[]) hes hl h (fun q j hq => by omega) i a hf).1
    omega

theorem getElem?_app_mid {α : Type} {a b c : Array α} {i k : Nat} (h : k < b.size) (hi : i = a.size + k) : (a ++ b ++ c)[i]? = b[k]? := by
  subst hi
  rw [Array.getElem?_append_left (by simp; omega), Array.getElem?_append_right (by omega)]
  congr 1; omega

theorem getElem?_app_left {α : Type} {a b c : Array α} {i : Nat} (h : i < a.size) : (a ++ b ++ c)[i]? = a[i]? := by
  rw [Array.getElem?_append_left (by simp; omega), Array.getElem?_append_left h]

theorem mul_lt_of {q j es n : Nat} (hq : q < n) (hj : j < es) : q * es + j < n * es := by
  have : (q + 1) * es ≤ n * es := Nat.mul_le_mul_right _ (by omega)
  rw [Nat.add_mul] at this; omega

theorem append_sound {P : Program} {o : Oper} {ev : Operand → Option AV} {g : Get} {nx : Nat} {t u ut : TypeId} {args : Array Operand} {ts : Array TypeId} {x y : AV} {E : Eff}
    (ho : o.op = .call { callee := .builtin .append, args, argTypes := ts }) (ha : evs ev args.toList = some [x, y]) (hts : ts.toList = [t, u]) (hu : P.underlying u = some (.slice ut)) (h : (appendA P g nx t x y).sel = some E) :
    OpSound P o ev g nx E := by
  have hts' : ts = #[t, u] := by apply Array.toList_inj.1; simpa using hts
  subst hts'
  have hexec : ∀ (a : Act) (w : World) (cx cy : Value), args.map a.eval = #[cx, cy] → (execOp a.eval o).run P w = ((Builtin.append_ #[t, u] o.type #[cx, cy]).run P w).andThen fun v w' => .ok (.value v) w' := by
    intro a w cx cy hargs
    simp [execOp, ho, resolve, invoke, builtin, hargs]
  unfold appendA at h
  split at h
  · rename_i e hd
    split at h
    · rename_i i z m hinfo hz hlm
      have hs : tySize P e = some i.size := by simp [tySize, hinfo]
      split at h
      · rename_i hc
        obtain ⟨hsz, hpos⟩ := hc
        split at h
        · rename_i okb cb rb hsrc
          split at h
          · -- onto nil
            obtain ⟨hok, rfl⟩ := sel_eff h
            simp only [Bool.and_eq_true, decide_eq_true_eq] at hok
            obtain ⟨⟨rfl, hb1⟩, hb2⟩ := hok
            intro g' ρ w a next Q hg hev hi hf hn
            obtain ⟨cx, cy, hargs, hx, hy⟩ := evs_two ha (fun v hv => hev v (call_ops ho v hv))
            have hf0 := fresh_none hf (by simp)
            simp only [AR, ER, CR] at hx; subst hx
            by_cases hm0 : m = 0
            · subst hm0
              obtain ⟨hl1, hev1, hlen, vs, hvs, hfc⟩ := src_run (P := P) hsrc hlm (Nat.le_refl _) hpos hg hi hy
              have hv0 : vs = [] := by apply List.eq_nil_of_length_eq_zero; have := hvs.1; simpa using this
              subst hv0
              have hrun : (execOp a.eval o).run P w = .ok (.value (.slice none 0 0)) w := by
                rw [hexec a w _ _ hargs, append_in hd hu hs hlen hfc (by omega)]
                simp
              simp only [Oper.wp, hrun, Oper.upon_value]
              refine hn _ _ (setR ρ nx ⟨w.heap.size, 0, 0⟩) ?_
              have hle := le_setR (r := ⟨w.heap.size, 0, 0⟩) hf0
              refine ⟨hle, fun k r hr => ?_, ⟨none, 0, rfl, by omega, fun h => by simp at h, fun _ => rfl, fun h => by omega⟩, ⟨fun k b hb => ?_, fun k j b b' r s hkj hb hb' hr hs hrs hss hro => ?_⟩, Kept.refl _ _, fun k hk => ?_, fun k hk => ?_⟩
              · by_cases ek : k = nx
                · subst ek; exact .inr (by simp)
                · rw [setR_ne ek] at hr; exact .inl hr
              · rw [updg_one] at hb
                by_cases ek : k = nx
                · subst ek
                  rw [if_pos rfl] at hb; injection hb with hb; subst hb
                  exact ⟨_, setR_self, fun h => by simp at h, fun q c hc => by rw [even_flat_none hpos hl1 hev1] at hc; cases hc⟩
                · rw [if_neg ek] at hb
                  obtain ⟨r, hr, hh⟩ := hi.blk k b hb
                  exact ⟨r, hle _ _ hr, hh.keep hle fun _ => rfl⟩
              · rw [updg_one] at hb hb'
                by_cases ek : k = nx
                · subst ek; rw [setR_self] at hr; injection hr with hr; subst hr; simp at hrs
                · by_cases ej : j = nx
                  · subst ej; rw [setR_self] at hs; injection hs with hs; subst hs; simp at hss
                  · rw [if_neg ek] at hb; rw [if_neg ej] at hb'; rw [setR_ne ek] at hr; rw [setR_ne ej] at hs
                    exact hi.apart k j b b' r s hkj hb hb' hr hs hrs hss hro
              · obtain ⟨j, b, r, hb, hro, hr, hrs, rfl⟩ := hk
                rw [updg_one] at hb
                by_cases ej : j = nx
                · subst ej; rw [setR_self] at hr; injection hr with hr; subst hr; simp at hrs
                · rw [if_neg ej] at hb; rw [setR_ne ej] at hr
                  exact .inl ⟨j, b, r, hb, hro, hr, hrs, rfl⟩
              · obtain ⟨j, b, r, hb, hr, hrs, rfl⟩ := hk
                rw [updg_one] at hb
                by_cases ej : j = nx
                · subst ej; rw [setR_self] at hr; injection hr with hr; subst hr; simp at hrs
                · rw [if_neg ej] at hb; rw [setR_ne ej] at hr
                  exact .inl ⟨j, b, r, hb, hr, hrs, rfl⟩
            · obtain ⟨hl1, hev1, hlen, _⟩ := src_run (P := P) hsrc hlm (Nat.le_refl _) hpos hg hi hy
              obtain ⟨_, _, _, vs, hvs, hfc⟩ := src_run (P := P) hsrc hlm (Nat.le_refl _) hpos hg hi.drew hy
              obtain ⟨N, rest, hN, hrest, hrun⟩ := append_out (ty := o.type) (base := none) (n := 0) (cap := 0) (old := #[]) hd hu hinfo hz hlen hfc (by simp [Builtin.firstCells]) (by omega) (by rw [Nat.zero_add]; exact hb1) (by omega)
              have hrun' : (execOp a.eval o).run P w = .ok (.value (.slice (some ⟨w.heap.size, 0, none⟩) m N)) (push (drew w) (.cells (#[] ++ vs.toArray ++ rest) e)) := by
                rw [hexec a w _ _ hargs, hrun]; simp
              simp only [Oper.wp, hrun', Oper.upon_value]
              refine hn _ _ _ (Aft.undrew (aft_new hi.drew hf0 (fun k b hb => (rows_mem hpos hl1 hev1 (fun q j hq hj c hc => ?_) k b hb).2) ?_))
              · obtain ⟨c', v', hc', hv', hcr⟩ := hvs.2 q j hq hj
                rw [hc] at hc'; injection hc' with hc'; subst hc'
                refine ⟨v', ?_, hcr⟩
                have hlt := mul_lt_of hq hj
                rw [getElem?_app_mid (k := q * i.size + j) (by simp [hvs.1]; exact hlt) (by simp)]
                simpa using hv'
              · refine slice_val (by omega) ?_
                simp only [Array.size_append, hrest, ← hsz]
                simp only [Array.size_empty, List.size_toArray, hvs.1, Nat.zero_add, Nat.sub_mul]
                have : m * i.size ≤ N * i.size := Nat.mul_le_mul_right _ (by omega)
                omega
          · -- onto a full row
            rename_i l es len nn
            split at h
            · rename_i hes
              subst hes
              split at h
              · rename_i d hb
                split at h
                · rename_i oka ca hra
                  split at h
                  · rename_i c hc
                    obtain ⟨hok, rfl⟩ := sel_eff h
                    simp only [Bool.and_eq_true, decide_eq_true_eq] at hok
                    obtain ⟨⟨⟨rfl, rfl⟩, hb1⟩, hb2⟩ := hok
                    intro g' ρ w a next Q hg hev hi hf hn
                    obtain ⟨cx, cy, hargs, hx, hy⟩ := evs_two ha (fun v hv => hev v (call_ops ho v hv))
                    have hf0 := fresh_none hf (by simp)
                    have hb' : g' l.id = some ⟨false, d⟩ := by rw [hg _ (by simp)]; exact hb
                    have hgb : ∀ k, k ∈ rb → g' k = g k := fun k hk => hg k (by simp [hk])
                    obtain ⟨base, cap, rfl, h1, h2, h3, h4⟩ := hx
                    simp only [Nat.add_zero] at h1
                    obtain ⟨r, hr, hold⟩ := hi.blk _ _ hb'
                    obtain ⟨hra1, hra2, hra3⟩ := range_spec hpos hra
                    obtain ⟨hl1, hev1, hlen, vs, hvs, hfc⟩ := src_run (P := P) hsrc hlm (Nat.le_refl _) hpos hgb hi hy
                    obtain ⟨hcl, hcev, hcat⟩ := appCols_spec hc hra2 hev1
                    by_cases hcap : len + m ≤ cap
                    · by_cases hcap0 : cap = 0
                      · -- nothing there, nothing appended
                        obtain rfl : len = 0 := by omega
                        obtain rfl : m = 0 := by omega
                        subst hcap0
                        have hv0 : vs = [] := by apply List.eq_nil_of_length_eq_zero; have := hvs.1; simpa using this
                        subst hv0
                        have hrun : (execOp a.eval o).run P w = .ok (.value (.slice base 0 0)) w := by
                          rw [hexec a w _ _ hargs, append_in hd hu hs hlen hfc hcap]
                          cases base <;> simp [storeCells]
                        simp only [Oper.wp, hrun, Oper.upon_value]
                        refine hn _ _ _ (aft_grow (d := d) (r' := ⟨w.heap.size, 0, 0⟩) hi hf0 hb' ⟨fun h => by simp at h, fun q c' hc' => by rw [even_flat_none hpos (hcl.trans hra1) hcev] at hc'; cases hc'⟩ (Kept.refl _ _) (fun h => by simp at h) ?_)
                        exact ⟨base, 0, rfl, by omega, h2, fun _ => rfl, fun h => by omega⟩
                      · obtain ⟨r', hr', rfl, hsize⟩ := h4 (by omega)
                        rw [hr] at hr'; injection hr' with hr'; subst hr'
                        have hcp : 0 < cap * i.size := Nat.mul_pos (by omega) hpos
                        obtain ⟨cells, ty, fr, hcells, hbound, hfr⟩ := hold.1.cells (range_kind hra) (by omega)
                        have hfr0 := hfr rfl
                        subst hfr0
                        have hmul : (len + m) * i.size ≤ cap * i.size := Nat.mul_le_mul_right _ hcap
                        rw [Nat.add_mul] at hmul
                        have hst := storeCells_run (P := P) (k := r.blk) (t := ty) (r.off + l.flat + len * i.size) vs 0 w cells hcells (hvs.scalars hpos) (by rw [hvs.1]; omega)
                        have hrun : (execOp a.eval o).run P w = .ok (.value (.slice (some ⟨r.blk, r.off + l.flat, none⟩) (len + m) cap)) (wr w r.blk (.cells (spl cells (r.off + l.flat + len * i.size + 0) vs) ty (0, 0))) := by
                          rw [hexec a w _ _ hargs, append_in hd hu hs hlen hfc hcap]
                          simp only [addr_add, List.toList_toArray, hst, Result.andThen_ok]
                        simp only [Oper.wp, hrun, Oper.upon_value]
                        have hlt := lt_of_heap hcells
                        have hnew : (wr w r.blk (.cells (spl cells (r.off + l.flat + len * i.size + 0) vs) ty (0, 0))).heap[r.blk]? = some (.cells (spl cells (r.off + l.flat + len * i.size + 0) vs) ty (0, 0)) := by rw [wr_heap]; simp [hlt]
                        refine hn _ _ _ (aft_grow (d := d) (r' := ⟨r.blk, r.off + l.flat, cap * i.size⟩) hi hf0 hb' ⟨fun h => ⟨_, ty, (0, 0), hnew, ?_, fun _ => rfl⟩, fun k b hk => ?_⟩ ⟨rfl, rfl, rfl, by simp [wr], fun k hk hn => ?_⟩ (fun h => .inr ⟨r, hr, by omega, rfl⟩) ?_)
                        · rw [spl_size]; simp only; omega
                        · have hspl : ∀ k, (spl cells (r.off + l.flat + len * i.size + 0) vs)[k]? = if r.off + l.flat + len * i.size ≤ k ∧ k < r.off + l.flat + len * i.size + m * i.size then vs[k - (r.off + l.flat + len * i.size)]? else cells[k]? := by
                            intro k
                            rw [spl_get _ _ _ _ (by rw [hvs.1]; omega), hvs.1]
                            simp only [Nat.add_zero]
                          have hle := le_setR (r := ⟨r.blk, r.off + l.flat, cap * i.size⟩) hf0
                          have := rows_two (ρ := setR ρ nx ⟨r.blk, r.off + l.flat, cap * i.size⟩) (cells := (List.range (cap * i.size)).map (fun k => ((spl cells (r.off + l.flat + len * i.size + 0) vs)[r.off + l.flat + k]?).getD undef) |>.toArray) hpos hra1 hra2 hev1 hc (fun q j hq hj => ?_) (fun q j hq hj => ?_) k b hk
                          · obtain ⟨hk1, v, hv, hcr⟩ := this
                            refine ⟨by simp only; rw [Nat.add_mul] at hk1; omega, v, ?_, hcr⟩
                            rw [cell_of hnew]
                            simp only [List.getElem?_toArray, List.getElem?_map, Option.map_eq_some_iff] at hv
                            obtain ⟨k', hk', hv⟩ := hv
                            have hkk : k < cap * i.size := by rw [Nat.add_mul] at hk1; omega
                            rw [List.getElem?_range hkk] at hk'
                            injection hk' with hk'; subst hk'
                            have hex : r.off + l.flat + k < (spl cells (r.off + l.flat + len * i.size + 0) vs).size := by rw [spl_size]; omega
                            rw [Array.getElem?_eq_getElem hex] at hv ⊢
                            simpa using hv
                          · -- what was there
                            have hlt2 := mul_lt_of hq hj
                            have h5 := hra3 q j hq hj
                            have hcc : ca[j]? = some (ca[j]'(by omega)) := List.getElem?_eq_getElem _
                            have hcl' := hra2 _ _ hcc
                            obtain ⟨c0, hc0⟩ := (Col.get?_some (c := ca[j]'(by omega)) (q := q)).1 (by omega)
                            have hca : colsAt ca q j = some c0 := by simp only [colsAt, hcc, Option.bind_some, hc0]
                            rw [hca] at h5
                            obtain ⟨_, v, hv, hcr⟩ := hold.2 _ _ h5.symm
                            rw [cell_of hcells] at hv
                            refine ⟨c0, v, hca, ?_, hcr.mono hle⟩
                            have hk2 : q * i.size + j < cap * i.size := by omega
                            simp only [List.getElem?_toArray, List.getElem?_map, List.getElem?_range hk2, Option.map_some, hspl]
                            rw [if_neg (by omega), show r.off + l.flat + (q * i.size + j) = r.off + (l.flat + q * i.size + j) from by omega, hv]; rfl
                          · have hlt2 := mul_lt_of hq hj
                            obtain ⟨c0, v, hc0, hv, hcr⟩ := hvs.2 q j hq hj
                            refine ⟨c0, v, hc0, ?_, hcr.mono hle⟩
                            have hk2 : (len + q) * i.size + j < cap * i.size := by rw [Nat.add_mul]; omega
                            simp only [List.getElem?_toArray, List.getElem?_map, List.getElem?_range hk2, Option.map_some, hspl]
                            rw [Nat.add_mul, if_pos (by omega), show r.off + l.flat + (len * i.size + q * i.size + j) - (r.off + l.flat + len * i.size) = q * i.size + j from by omega, hv]; rfl
                        · rw [wr_heap, if_neg (fun h => hn ⟨hcp, h.symm⟩)]
                        · refine ⟨_, _, rfl, by omega, fun _ => by simp, fun h => by simp at h, fun _ => ⟨_, setR_self, by simp [Loc.flat], by simp [Loc.flat]⟩⟩
                    · -- a new row
                      obtain ⟨_, _, _, vs', hvs', hfc'⟩ := src_run (P := P) hsrc hlm (Nat.le_refl _) hpos hgb hi.drew hy
                      have hself : srcCols g i.size (.e (.c (.slice l i.size len 0 nn))) len = some (true, ca, [l.id]) := by
                        simp only [srcCols, if_true, hb, hra]
                      obtain ⟨_, _, _, us, hus, hfu⟩ := src_run (P := P) (g' := g') hself rfl (Nat.le_refl _) hpos (fun k hk => by simp at hk; subst hk; exact hg _ (by simp)) hi.drew (⟨base, cap, rfl, by simpa using h1, h2, h3, h4⟩ : AR ρ (.e (.c (.slice l i.size len 0 nn))) (.slice base len cap))
                      obtain ⟨N, rest, hN, hrest, hrun⟩ := append_out (ty := o.type) hd hu hinfo hz hlen hfc' hfu hcap (by omega) (by omega)
                      have hrun' : (execOp a.eval o).run P w = .ok (.value (.slice (some ⟨w.heap.size, 0, none⟩) (len + m) N)) (push (drew w) (.cells (us.toArray ++ vs'.toArray ++ rest) e)) := by
                        rw [hexec a w _ _ hargs, hrun]; simp
                      simp only [Oper.wp, hrun', Oper.upon_value]
                      have hsz2 : (us.toArray ++ vs'.toArray ++ rest).size = N * i.size := by
                        simp only [Array.size_append, hrest, ← hsz, List.size_toArray, hus.1, hvs'.1, Nat.sub_mul]
                        have : (len + m) * i.size ≤ N * i.size := Nat.mul_le_mul_right _ (by omega)
                        rw [Nat.add_mul] at this ⊢
                        omega
                      have hle := le_setR (r := ⟨w.heap.size, 0, N * i.size⟩) hf0
                      have hnew : (push (drew w) (.cells (us.toArray ++ vs'.toArray ++ rest) e)).heap[w.heap.size]? = some (.cells (us.toArray ++ vs'.toArray ++ rest) e) := push_new (w := drew w)
                      have hNle : (len + m) * i.size ≤ N * i.size := Nat.mul_le_mul_right _ (by omega)
                      refine hn _ _ _ (Aft.undrew (aft_grow (d := d) (r' := ⟨w.heap.size, 0, N * i.size⟩) hi.drew hf0 hb' ⟨fun h => ⟨_, e, (0, 0), hnew, by rw [hsz2]; simp, fun _ => rfl⟩, fun k b hk => ?_⟩ ⟨rfl, rfl, rfl, by simp [push, drew], fun k hk hn => push_old hk⟩ (fun h => .inl (by simp [drew])) ?_))
                      · have := rows_two (ρ := setR ρ nx ⟨w.heap.size, 0, N * i.size⟩) (cells := us.toArray ++ vs'.toArray ++ rest) hpos hra1 hra2 hev1 hc (fun q j hq hj => ?_) (fun q j hq hj => ?_) k b hk
                        · obtain ⟨hk1, v, hv, hcr⟩ := this
                          refine ⟨by simp only; omega, v, ?_, hcr⟩
                          rw [cell_of hnew]; simpa using hv
                        · have hlt2 := mul_lt_of hq hj
                          obtain ⟨c0, v, hc0, hv, hcr⟩ := hus.2 q j hq hj
                          refine ⟨c0, v, hc0, ?_, hcr.mono hle⟩
                          rw [getElem?_app_left (by simp [hus.1]; exact hlt2)]; simpa using hv
                        · have hlt2 := mul_lt_of hq hj
                          obtain ⟨c0, v, hc0, hv, hcr⟩ := hvs'.2 q j hq hj
                          refine ⟨c0, v, hc0, ?_, hcr.mono hle⟩
                          rw [getElem?_app_mid (k := q * i.size + j) (by simp [hvs'.1]; exact hlt2) (by simp [hus.1, Nat.add_mul]; omega)]; simpa using hv
                      · exact slice_val (by omega) (by omega)
                  · exact (sel_fail h).elim
                · exact (sel_fail h).elim
              · exact (sel_fail h).elim
            · exact (sel_fail h).elim
          · -- into what is left of the row
            rename_i l es len ext nn
            split at h
            · rename_i hes
              obtain ⟨rfl, hst⟩ := hes
              split at h
              · rename_i d hb
                split at h
                · rename_i oks d' hset
                  obtain ⟨hok, rfl⟩ := sel_eff h
                  simp only [Bool.and_eq_true, decide_eq_true_eq] at hok
                  obtain ⟨⟨rfl, rfl⟩, hm⟩ := hok
                  intro g' ρ w a next Q hg hev hi hf hn
                  obtain ⟨cx, cy, hargs, hx, hy⟩ := evs_two ha (fun v hv => hev v (call_ops ho v hv))
                  have hb' : g' l.id = some ⟨false, d⟩ := by rw [hg _ (by simp)]; exact hb
                  have hgb : ∀ k, k ∈ rb → g' k = g k := fun k hk => hg k (by simp [hk])
                  obtain ⟨base, cap, rfl, h1, h2, h3, h4⟩ := hx
                  obtain ⟨r, hr, rfl, hsize⟩ := h4 (by omega)
                  obtain ⟨hl1, hev1, hlen, vs, hvs, hfc⟩ := src_run (P := P) hsrc hlm (Nat.le_refl _) hpos hgb hi hy
                  obtain ⟨w', hw, haft⟩ := store_range (P := P) hi hb' hr hpos hset hev1 hvs
                  rw [Loc.flat_skip hst] at hw
                  have hrun : (execOp a.eval o).run P w = .ok (.value (.slice (some ⟨r.blk, r.off + l.flat, none⟩) (len + m) cap)) w' := by
                    rw [hexec a w _ _ hargs, append_in hd hu hs hlen hfc (by omega)]
                    simp only [addr_add, List.toList_toArray, show r.off + l.flat + len * i.size = r.off + (l.flat + len * i.size) from by omega, hw, Result.andThen_ok]
                  simp only [Oper.wp, hrun, Oper.upon_value]
                  exact hn _ _ _ (haft _ _ _ _ ⟨_, _, rfl, by omega, h2, h3, h4⟩)
                · exact (sel_fail h).elim
              · exact (sel_fail h).elim
            · exact (sel_fail h).elim
          · exact (sel_fail h).elim
        · exact (sel_fail h).elim
      · exact (sel_fail h).elim
    · exact (sel_fail h).elim
  · exact (sel_fail h).elim

theorem copy_sound {P : Program} {o : Oper} {ev : Operand → Option AV} {g : Get} {nx : Nat} {t u : TypeId} {args : Array Operand} {ts : Array TypeId} {x y : AV} {E : Eff}
    (ho : o.op = .call { callee := .builtin .copy, args, argTypes := ts }) (ha : evs ev args.toList = some [x, y]) (hts : ts.toList = [t, u]) (h : (copyA P g t x y).sel = some E) :
    OpSound P o ev g nx E := by
  have hts' : ts = #[t, u] := by apply Array.toList_inj.1; simpa using hts
  subst hts'
  unfold copyA at h
  simp only [minN_eq] at h
  split at h
  · rename_i e hd
    split at h
    · rename_i s l es len ext nn m hs hlm
      split at h
      · rename_i hc
        obtain ⟨rfl, hpos⟩ := hc
        split at h
        · rename_i d okb cb rb hb hsrc
          split at h
          · rename_i oks d' hset
            obtain ⟨hok, rfl⟩ := sel_eff h
            simp only [Bool.and_eq_true] at hok
            obtain ⟨rfl, rfl⟩ := hok
            intro g' ρ w a next Q hg hev hi hf hn
            obtain ⟨cx, cy, hargs, hx, hy⟩ := evs_two ha (fun v hv => hev v (call_ops ho v hv))
            have hb' : g' l.id = some ⟨false, d⟩ := by rw [hg _ (by simp)]; exact hb
            have hgb : ∀ k, k ∈ rb → g' k = g k := fun k hk => hg k (by simp [hk])
            obtain ⟨base, cap, rfl, h1, h2, h3, h4⟩ := hx
            obtain ⟨hl1, hev1, hlen, vs, hvs, hfc⟩ := src_run (P := P) hsrc hlm (Nat.min_le_left _ _) hpos hgb hi hy
            have hexec : ∀ w', (match base with | some a => (storeCells a vs : Sem Unit) | none => pure ()).run P w = .ok () w' → (execOp a.eval o).run P w = .ok (.value (.int .i64 (Nat.min m len : Nat))) w' := by
              intro w' hw
              have hcopy : (Builtin.copy_ #[t, u] o.type #[.slice base len cap, cy]).run P w = ((match base with | some a => (storeCells a vs : Sem Unit) | none => pure ()).run P w).andThen fun _ w' => .ok (goInt (Nat.min m len : Nat)) w' := by
                cases base <;> simp [Builtin.copy_, under w hd, size_run w hs, hlen, hfc]
              rw [hw] at hcopy
              simp only [execOp, ho, resolve, invoke, builtin, hargs, Sem.run_bind, Sem.run_pure, Result.andThen_ok, hcopy, goInt]
            by_cases hm0 : Nat.min m len = 0
            · have hv0 : vs = [] := by apply List.eq_nil_of_length_eq_zero; have := hvs.1; rw [hm0] at this; simpa using this
              subst hv0
              have hrun := hexec w (by cases base <;> simp [storeCells])
              simp only [Oper.wp, hrun, Oper.upon_value]
              refine hn _ _ _ (aft_as hi hb' (.inr (setRange_kind hset)) (fun k b hk => ?_) rfl)
              rw [(setRange_spec hpos hset hev1).2, hm0, if_neg (by omega)] at hk; exact hk
            · have hml : Nat.min m len ≤ len := Nat.min_le_right _ _
              obtain ⟨r, hr, rfl, hsize⟩ := h4 (by omega)
              obtain ⟨w', hw, haft⟩ := store_range (P := P) hi hb' hr hpos hset hev1 hvs
              have hrun := hexec w' hw
              simp only [Oper.wp, hrun, Oper.upon_value]
              exact hn _ _ _ (haft _ _ _ _ rfl)
          · exact (sel_fail h).elim
        · exact (sel_fail h).elim
      · exact (sel_fail h).elim
    · exact (sel_fail h).elim
  · exact (sel_fail h).elim

theorem clear_sound {P : Program} {o : Oper} {ev : Operand → Option AV} {g : Get} {nx : Nat} {t : TypeId} {args : Array Operand} {ts : Array TypeId} {x : AV} {E : Eff}
    (ho : o.op = .call { callee := .builtin .clear, args, argTypes := ts }) (ha : evs ev args.toList = some [x]) (hts : ts.toList = [t]) (h : (clearA P g t x).sel = some E) :
    OpSound P o ev g nx E := by
  have hts' : ts = #[t] := by apply Array.toList_inj.1; simpa using hts
  subst hts'
  unfold clearA at h
  split at h
  · rename_i e hd
    split at h
    · rename_i z s l es len ext nn hz hs
      split at h
      · rename_i hc
        obtain ⟨rfl, hsz, hpos⟩ := hc
        split at h
        · rename_i d hb
          split at h
          · rename_i oks d' hset
            obtain ⟨rfl, rfl⟩ := sel_eff h
            intro g' ρ w a next Q hg hev hi hf hn
            obtain ⟨cx, hargs, hx⟩ := evs_one ha (fun v hv => hev v (call_ops ho v hv))
            have hb' : g' l.id = some ⟨false, d⟩ := by rw [hg _ (by simp)]; exact hb
            obtain ⟨base, cap, rfl, h1, h2, h3, h4⟩ := hx
            obtain ⟨zv, hzv, hzr⟩ := zero_run w ρ hz
            have hzc : zv.cells.size = z.cells.length := by simpa using hzr.cells.1.symm
            have hzero := zeroRow (n := len) hzr.cells (by omega)
            have hcols : Even (z.cells.map fun a => colRep a len) len := fun j c hj => by
              simp only [List.getElem?_map, Option.map_eq_some_iff] at hj
              obtain ⟨u, _, rfl⟩ := hj
              exact colRep_get.1
            have hvs : Match ρ (z.cells.map fun a => colRep a len) len s (Builtin.zeroCells zv.cells len).toList := by
              refine ⟨by simp [Builtin.zeroCells, hzc, hsz], fun q j hq hj => ?_⟩
              have hjz : j < z.cells.length := by omega
              have hk : q * z.cells.length + j < len * z.cells.length := mul_lt_of hq hjz
              have hrep : (repCells z.cells len)[q * z.cells.length + j]? = some z.cells[j] := by
                rw [repCells_get hk, (div_mod_at hjz).2, List.getElem?_eq_getElem hjz]
              obtain ⟨v, hv, hvr⟩ := hzero.2 _ _ hrep
              refine ⟨z.cells[j], v, ?_, ?_, hvr⟩
              · simp only [colsAt, List.getElem?_map, List.getElem?_eq_getElem hjz, Option.map_some, Option.bind_some, colRep_get.2 q hq]
              · rw [hsz, ← hv]
                simp only [Builtin.zeroCells, hzc]
            by_cases hm0 : len = 0
            · subst hm0
              have hrun : (execOp a.eval o).run P w = .ok (.value (.tuple #[])) w := by
                cases base <;> simp [execOp, ho, resolve, invoke, builtin, hargs, Builtin.clear_, under w hd]
              simp only [Oper.wp, hrun, Oper.upon_value]
              refine hn _ _ _ (aft_as hi hb' (.inr (setRange_kind hset)) (fun k b hk => ?_) ⟨#[], rfl, LR.nil⟩)
              rw [(setRange_spec hpos hset hcols).2, if_neg (by omega)] at hk; exact hk
            · obtain ⟨r, hr, rfl, hsize⟩ := h4 (by omega)
              obtain ⟨w', hw, haft⟩ := store_range (P := P) hi hb' hr hpos hset hcols hvs
              obtain ⟨n, rfl⟩ : ∃ n, len = n + 1 := ⟨len - 1, by omega⟩
              have hrun : (execOp a.eval o).run P w = .ok (.value (.tuple #[])) w' := by
                simp [execOp, ho, resolve, invoke, builtin, hargs, Builtin.clear_, under w hd, hzv, hw]
              simp only [Oper.wp, hrun, Oper.upon_value]
              exact hn _ _ _ (haft _ _ _ _ ⟨#[], rfl, LR.nil⟩)
          · exact (sel_fail h).elim
        · exact (sel_fail h).elim
      · exact (sel_fail h).elim
    · exact (sel_fail h).elim
  · exact (sel_fail h).elim

theorem fold_max {P : Program} {ρ : Rho} {w : World} {k : IntKind} : ∀ {l : List AV} {x z : Int} {vs : List Value}, foldMm maxI x l = some z → LR (AR ρ) l vs → (vs.foldlM Builtin.max2 (.int k x)).run P w = .ok (.int k z) w
  | [], x, z, vs, h, hl => by
    simp only [foldMm, Option.some.injEq] at h
    subst h
    rw [hl.nil_inv]; simp
  | .e (.c (.int j y)) :: r, x, z, vs, h, hl => by
    simp only [foldMm] at h
    obtain ⟨v, m, rfl, hv, hr⟩ := hl.cons_inv
    simp only [AR, ER, CR] at hv
    subst hv
    have := fold_max (k := k) h hr (w := w) (P := P)
    simpa [List.foldlM_cons, Builtin.max2, maxI] using this
theorem fold_min {P : Program} {ρ : Rho} {w : World} {k : IntKind} : ∀ {l : List AV} {x z : Int} {vs : List Value}, foldMm minI x l = some z → LR (AR ρ) l vs → (vs.foldlM Builtin.min2 (.int k x)).run P w = .ok (.int k z) w
  | [], x, z, vs, h, hl => by
    simp only [foldMm, Option.some.injEq] at h
    subst h
    rw [hl.nil_inv]; simp
  | .e (.c (.int j y)) :: r, x, z, vs, h, hl => by
    simp only [foldMm] at h
    obtain ⟨v, m, rfl, hv, hr⟩ := hl.cons_inv
    simp only [AR, ER, CR] at hv
    subst hv
    have := fold_min (k := k) h hr (w := w) (P := P)
    simpa [List.foldlM_cons, Builtin.min2, minI] using this
theorem max_sound {P : Program} {o : Oper} {ev : Operand → Option AV} {g : Get} {nx : Nat} {args : Array Operand} {ts : Array TypeId} {l : List AV} {E : Eff}
    (ho : o.op = .call { callee := .builtin .max, args, argTypes := ts }) (ha : evs ev args.toList = some l) (h : (mmA maxI l).sel = some E) : OpSound P o ev g nx E := by
  unfold mmA at h
  split at h
  · rename_i k x r
    split at h
    · rename_i z hz
      rw [sel_pure h]
      refine quiet_sound fun g' ρ w a _ hev hi => ?_
      obtain ⟨v, m, hm, hv, hr⟩ := (evs_spec ha (fun v hv => hev v (call_ops ho v hv))).cons_inv
      simp only [AR, ER, CR] at hv
      subst hv
      have hf := fold_max (k := k) hz hr (w := w) (P := P)
      have hargs : (args.map a.eval).toList = .int k x :: m := by rw [Array.toList_map]; exact hm
      refine ⟨.int k z, ?_, rfl⟩
      simp only [execOp, ho, resolve, invoke, builtin, Builtin.max_, hargs, Sem.run_bind, Sem.run_pure, Result.andThen_ok, hf]
    · exact (sel_fail h).elim
  · exact (sel_fail h).elim
theorem min_sound {P : Program} {o : Oper} {ev : Operand → Option AV} {g : Get} {nx : Nat} {args : Array Operand} {ts : Array TypeId} {l : List AV} {E : Eff}
    (ho : o.op = .call { callee := .builtin .min, args, argTypes := ts }) (ha : evs ev args.toList = some l) (h : (mmA minI l).sel = some E) : OpSound P o ev g nx E := by
  unfold mmA at h
  split at h
  · rename_i k x r
    split at h
    · rename_i z hz
      rw [sel_pure h]
      refine quiet_sound fun g' ρ w a _ hev hi => ?_
      obtain ⟨v, m, hm, hv, hr⟩ := (evs_spec ha (fun v hv => hev v (call_ops ho v hv))).cons_inv
      simp only [AR, ER, CR] at hv
      subst hv
      have hf := fold_min (k := k) hz hr (w := w) (P := P)
      have hargs : (args.map a.eval).toList = .int k x :: m := by rw [Array.toList_map]; exact hm
      refine ⟨.int k z, ?_, rfl⟩
      simp only [execOp, ho, resolve, invoke, builtin, Builtin.min_, hargs, Sem.run_bind, Sem.run_pure, Result.andThen_ok, hf]
    · exact (sel_fail h).elim
  · exact (sel_fail h).elim

theorem len_sound {P : Program} {o : Oper} {ev : Operand → Option AV} {g : Get} {nx : Nat} {t : TypeId} {args : Array Operand} {ts : Array TypeId} {x : AV} {E : Eff}
    (ho : o.op = .call { callee := .builtin .len, args, argTypes := ts }) (ha : evs ev args.toList = some [x]) (hts : ts.toList = [t]) (h : (lenA P t x).sel = some E) :
    OpSound P o ev g nx E := by
  have hts' : ts = #[t] := by apply Array.toList_inj.1; simpa using hts
  subst hts'
  unfold lenA at h
  split at h
  · rename_i e l es len ext nn hd
    rw [sel_pure h]
    refine quiet_sound fun g' ρ w a _ hev hi => ?_
    obtain ⟨cx, hargs, hx⟩ := evs_one ha (fun v hv => hev v (call_ops ho v hv))
    obtain ⟨base, cap, rfl, _⟩ := hx
    exact ⟨_, by simp [execOp, ho, resolve, invoke, builtin, hargs, Builtin.len_, under w hd, goInt], rfl⟩
  · rename_i e hd
    rw [sel_pure h]
    refine quiet_sound fun g' ρ w a _ hev hi => ?_
    obtain ⟨cx, hargs, hx⟩ := evs_one ha (fun v hv => hev v (call_ops ho v hv))
    simp only [AR, ER, CR] at hx; subst hx
    exact ⟨_, by simp [execOp, ho, resolve, invoke, builtin, hargs, Builtin.len_, under w hd, goInt], rfl⟩
  · rename_i n e z hd
    rw [sel_pure h]
    refine quiet_sound fun g' ρ w a _ hev hi => ?_
    obtain ⟨cx, hargs, hx⟩ := evs_one ha (fun v hv => hev v (call_ops ho v hv))
    exact ⟨_, by simp [execOp, ho, resolve, invoke, builtin, hargs, Builtin.len_, under w hd, goInt], rfl⟩
  · rename_i s hd
    rw [sel_pure h]
    refine quiet_sound fun g' ρ w a _ hev hi => ?_
    obtain ⟨cx, hargs, hx⟩ := evs_one ha (fun v hv => hev v (call_ops ho v hv))
    simp only [AR, ER, CR] at hx; subst hx
    exact ⟨_, by simp [execOp, ho, resolve, invoke, builtin, hargs, Builtin.len_, under w hd, goInt], rfl⟩
  · exact (sel_fail h).elim

theorem locsOf_spec {ρ : Rho} : ∀ {l : List AV} {ls : List Loc} {vs : List Value}, locsOf l = some ls → LR (AR ρ) l vs → LR (PR ρ) ls vs
  | [], ls, vs, h, hv => by simp [locsOf] at h; subst h; rw [hv.nil_inv]; exact LR.nil
  | a :: l, ls, vs, h, hv => by
    obtain ⟨b, m, rfl, hb, hl⟩ := hv.cons_inv
    unfold locsOf at h
    split at h
    · rename_i e; cases e
    · rename_i p r e
      injection e with e1 e2; subst e1 e2
      simp only [Option.map_eq_some_iff] at h
      obtain ⟨ls', hls, rfl⟩ := h
      exact LR.cons hb (locsOf_spec hls hl)
    · cases h

theorem makeFunc_sound {P : Program} {o : Oper} {ev : Operand → Option AV} {g : Get} {nx : Nat} {f : FuncId} {first cap : Array Operand} {l : List AV} {ls : List Loc}
    (ho : o.op = .makeFunc (.func f) first cap) (hf : first.size = 0) (ha : evs ev cap.toList = some l) (hl : locsOf l = some ls) :
    OpSound P o ev g nx ⟨acv (.clos f ls), [], [], []⟩ := by
  refine quiet_sound fun g' ρ w a _ hev hi => ?_
  have hfirst : first = #[] := Array.eq_empty_of_size_eq_zero hf
  subst hfirst
  have := evs_spec ha (ρ := ρ) (a := a) (fun x hx => hev x (by simp only [ho, Op.operands]; simpa using hx))
  refine ⟨.func (.func f) #[] (cap.map a.eval), by simp [execOp, ho, Instr.makeFunc], _, rfl, ?_⟩
  rw [Array.toList_map]
  exact locsOf_spec hl this

theorem lenChan_sound {P : Program} {o : Oper} {ev : Operand → Option AV} {g : Get} {nx : Nat} {t : TypeId} {args : Array Operand} {ts : Array TypeId} {l : Loc} {E : Eff}
    (ho : o.op = .call { callee := .builtin .len, args, argTypes := ts }) (ha : evs ev args.toList = some [.e (.c (.chan l))]) (hts : ts.toList = [t]) (h : (lenChanA P g t l).sel = some E) :
    OpSound P o ev g nx E := by
  have hts' : ts = #[t] := by apply Array.toList_inj.1; simpa using hts
  subst hts'
  unfold lenChanA at h
  split at h
  · rename_i dir e ro cap n hd hb
    obtain ⟨_, rfl⟩ := sel_eff h
    refine quiet_sound fun g' ρ w a hg hev hi => ?_
    obtain ⟨cx, hargs, hx⟩ := evs_one ha (fun v hv => hev v (call_ops ho v hv))
    obtain ⟨r, hr, rfl⟩ := hx
    have hb' : g' l.id = some ⟨ro, .chan cap n⟩ := by rw [hg _ (by simp)]; exact hb
    obtain ⟨r', hr', hold⟩ := hi.blk _ _ hb'
    rw [hr] at hr'; injection hr' with hr'; subst hr'
    obtain ⟨_, _, s, q, hc⟩ := hold.1
    refine ⟨.int .i64 (n : Int), ?_, rfl⟩
    have hlen := Go.Conc.run_len_chan (P := P) (w := w) t o.type hd hc
    simp only [Array.size_replicate, goInt] at hlen
    simp only [execOp, ho, resolve, invoke, builtin, hargs, Sem.run_bind, Sem.run_pure, Result.andThen_ok, hlen]
  · exact (sel_fail h).elim

theorem makeChan_sound {P : Program} {o : Oper} {ev : Operand → Option AV} {g : Get} {nx : Nat} {t : TypeId} {X : Operand} {x : AV} {E : Eff}
    (ho : o.op = .makeChan t X) (hX : ev X = some x) (h : (makeChanA P nx t x).sel = some E) : OpSound P o ev g nx E := by
  unfold makeChanA at h
  split at h
  · rename_i dir e k c hd
    split at h
    · rename_i i hinfo
      split at h
      · rename_i hb0
        obtain ⟨hok, rfl⟩ := sel_eff h
        simp only [Bool.and_eq_true, decide_eq_true_eq] at hok
        intro g' ρ w a next Q hg hev hi hf hn
        have hx := hev X (by simp [ho, Op.operands]) _ hX
        simp only [AR, ER, CR] at hx
        have hmax : IntKind.max .i64 = 9223372036854775807 := by decide
        have hrun : (execOp a.eval o).run P w = .ok (.value (.chan (some w.heap.size))) (push w (.chan c.toNat #[] false 0 0 false)) := by
          simp only [execOp, ho, Instr.makeChan, hx, asInt, asIntOf, Sem.run_bind, under w hd, Result.andThen_ok, Sem.run_pure, typeInfo, run_program, hinfo, hb0]
          rw [Sem.run_ite, if_neg (by simp [hmax]; omega)]
          simp only [run_newObj, Sem.run_bind, Sem.run_pure, Result.andThen_ok, push]
        simp only [Oper.wp, hrun, Oper.upon_value]
        refine hn _ _ _ (aft_newO (n := 1) hi (fresh_none hf (by simp)) ⟨?_, fun i a ha => by cases ha⟩ ⟨_, setR_self, rfl⟩)
        exact ⟨by simp, Nat.zero_le _, 0, 0, by rw [push_new]; simp⟩
      · exact (sel_fail h).elim
    · exact (sel_fail h).elim
  · exact (sel_fail h).elim

theorem astep_sound {P : Program} {o : Oper} {ev : Operand → Option AV} {g : Get} {nx : Nat} {E : Eff} (h : (astep P o ev g nx).sel = some E) : OpSound P o ev g nx E := by
  unfold astep at h
  split at h
  · rename_i x ho
    split at h
    · rename_i v hv; rw [sel_pure h]; exact move_sound (.inl ho) hv
    · exact (sel_fail h).elim
  · rename_i x ho
    split at h
    · rename_i v hv; rw [sel_pure h]; exact move_sound (.inr ho) hv
    · exact (sel_fail h).elim
  · rename_i c a b ho
    split at h
    · rename_i t x y hc ha hb; exact pick_sound ho hc ha hb h
    · exact (sel_fail h).elim
  · rename_i e ho; exact alloc_sound ho h
  · rename_i e x ho
    split at h
    · rename_i v hv; exact box_sound ho hv h
    · exact (sel_fail h).elim
  · rename_i t ps ho
    split at h
    · rename_i l hl; exact build_sound ho hl h
    · exact (sel_fail h).elim
  · rename_i t n ps ho
    split at h
    · rename_i l hl; exact buildSlice_sound ho hl h
    · exact (sel_fail h).elim
  · rename_i t a ho
    split at h
    · rename_i v hv; exact load_sound ho hv h
    · exact (sel_fail h).elim
  · rename_i t a x ho
    split at h
    · rename_i v u hv hu; exact store_sound ho hv hu h
    · exact (sel_fail h).elim
  · rename_i x ho
    split at h
    · rename_i v hv; exact nilCheck_sound ho hv h
    · exact (sel_fail h).elim
  · rename_i op t x y u ho
    split at h
    · rename_i a b ha hb; exact bin_sound ho ha hb h
    · exact (sel_fail h).elim
  · rename_i op t x ho
    split at h
    · rename_i a ha; exact unop_sound ho ha h
    · exact (sel_fail h).elim
  · rename_i s d x ho
    split at h
    · rename_i a ha; exact conv_sound ho ha h
    · exact (sel_fail h).elim
  · rename_i f first cap ho
    split at h
    · rename_i hf
      split at h
      · rename_i l hl
        split at h
        · rename_i ls hls; rw [sel_pure h]; exact makeFunc_sound ho hf hl hls
        · exact (sel_fail h).elim
      · exact (sel_fail h).elim
    · exact (sel_fail h).elim
  · rename_i t l c ho
    split at h
    · rename_i a b ha hb; exact makeSlice_sound ho ha hb h
    · exact (sel_fail h).elim
  · rename_i t x lo hi ho
    split at h
    · rename_i a l hh ha hl hh'; exact slice2_sound ho ha hl hh' h
    · exact (sel_fail h).elim
  · rename_i t x lo hi ho
    split at h
    · rename_i a l hh ha hl hh'; exact slice_sound ho ha hl hh' h
    · exact (sel_fail h).elim
  · rename_i t x lo hi mx ho
    split at h
    · rename_i a l hh m ha hl hh' hm; exact slice3_sound ho ha hl hh' hm h
    · exact (sel_fail h).elim
  · rename_i s x f ho
    split at h
    · rename_i a ha; exact fieldAddr_sound ho ha h
    · exact (sel_fail h).elim
  · rename_i s x f ho
    split at h
    · rename_i a ha; exact field_sound ho ha h
    · exact (sel_fail h).elim
  · rename_i t x i ho
    split at h
    · rename_i a b ha hb; exact indexAddr_sound ho ha hb h
    · exact (sel_fail h).elim
  · rename_i t x i ho
    split at h
    · rename_i a b ha hb; exact index_sound ho ha hb h
    · exact (sel_fail h).elim
  · rename_i x i ho
    split at h
    · rename_i a ha; exact extract_sound ho ha h
    · exact (sel_fail h).elim
  · rename_i args ts ho
    split at h
    · rename_i l t ha ht; exact lenChan_sound ho ha ht h
    · rename_i a t ha ht; exact len_sound ho ha ht h
    · exact (sel_fail h).elim
  · rename_i t n ho
    split at h
    · rename_i a ha; exact makeChan_sound ho ha h
    · exact (sel_fail h).elim
  · rename_i args ts ho
    split at h
    · rename_i a b t u ha ht
      split at h
      · rename_i ut hu; exact append_sound ho ha ht hu h
      · exact (sel_fail h).elim
    · exact (sel_fail h).elim
  · rename_i args ts ho
    split at h
    · rename_i a b t u ha ht; exact copy_sound ho ha ht h
    · exact (sel_fail h).elim
  · rename_i args ts ho
    split at h
    · rename_i a t ha ht; exact clear_sound ho ha ht h
    · exact (sel_fail h).elim
  · rename_i args ts ho
    split at h
    · rename_i l ha; exact max_sound ho ha h
    · exact (sel_fail h).elim
  · rename_i args ts ho
    split at h
    · rename_i l ha; exact min_sound ho ha h
    · exact (sel_fail h).elim
  · exact (sel_fail h).elim

end Go.Eng
