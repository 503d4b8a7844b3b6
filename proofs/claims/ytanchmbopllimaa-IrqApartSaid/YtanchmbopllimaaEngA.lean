/- A walker of Go functions over data: what each operation, region, function of the program makes of data. -/
import Derived.Orders
import Derived.KernelRfl
set_option linter.unusedVariables false
set_option linter.unusedSimpArgs false
namespace Go.Eng
open Go

/- A walker of Go functions over data: what the operations make of data, without memory. -/
/-- A place: a block's name and where in it. -/
structure Loc where
  id : Nat
  row : Nat
  sz : Nat
  col : Nat
  ix : Nat
  es : Nat
  n : Nat

def Loc.flat (l : Loc) : Nat := l.row * l.sz + l.col + l.ix * l.es

/-- What one cell holds. -/
inductive AC where
  | bool (b : Bool)
  | int (k : IntKind) (n : Int)
  | str (s : ByteArray)
  | nilp
  | ptr (l : Loc)
  | nils
  | slice (l : Loc) (es len ext : Nat) (nn : Bool)
  | nilf
  | clos (f : FuncId) (cs : List Loc)
  | nilc
  | chan (l : Loc)

inductive AE where
  | c (x : AC)
  | agg (l : List AC)

inductive AV where
  | e (x : AE)
  | tup (l : List AE)
  | any

def AE.cells : AE → List AC
  | .c x => [x]
  | .agg l => l

inductive Col where
  | ints (k : IntKind) (l : List Int)
  | bools (l : List Bool)
  | acs (l : List AC)

def Col.get? : Col → Nat → Option AC
  | .ints k l, i => (l[i]?).map (.int k)
  | .bools l, i => (l[i]?).map .bool
  | .acs l, i => l[i]?

inductive Data where
  | mix (cs : List AC)
  | rows (cs : List Col)
  | chan (cap n : Nat)

/-- The cell at a flat number. -/
def Data.flat : Data → Nat → Option AC
  | .mix cs, i => cs[i]?
  | .rows cs, i => if cs.length = 0 then none else (cs[i % cs.length]?).bind fun c => c.get? (i / cs.length)
  | .chan _ _, _ => none

structure Block where
  ro : Bool
  d : Data

/-- What becomes of an operation. -/
structure Eff where
  v : AV
  upd : List (Nat × Option Block)
  rd : List Nat
  news : List (Option Block)

/-- A tree of decisions. -/
inductive Out (α : Type) where
  | fail
  | eff (ok : Bool) (E : α)
  | br (b : Bool) (t e : Out α)

def Out.sel {α : Type} : Out α → Option α
  | .fail => none
  | .eff ok E => match ok with | true => some E | false => none
  | .br b t e => match b with | true => t.sel | false => e.sel

def Out.run {α β : Type} (κ : α → Option β) : Out α → Option β
  | .fail => none
  | .eff ok E => match ok with | true => κ E | false => none
  | .br b t e => match b with | true => t.run κ | false => e.run κ

theorem Out.run_sel {α β : Type} {κ : α → Option β} {r : β} : ∀ {o : Out α}, o.run κ = some r → ∃ E, o.sel = some E ∧ κ E = some r
  | .fail, h => by simp [Out.run] at h
  | .eff true E, h => ⟨E, rfl, h⟩
  | .eff false E, h => by simp [Out.run] at h
  | .br true t e, h => by simpa [Out.sel] using Out.run_sel (o := t) h
  | .br false t e, h => by simpa [Out.sel] using Out.run_sel (o := e) h

/- literals of the program -/
def acOf : Value → Option AC
  | .bool b => some (.bool b)
  | .int k n => some (.int k n)
  | .string s => some (.str s)
  | .pointer none => some .nilp
  | .slice none 0 0 => some .nils
  | .nilFunc => some .nilf
  | .chan none => some .nilc
  | .func (.func f) a c => if a.size = 0 ∧ c.size = 0 then some (.clos f []) else none
  | _ => none

def acsOf : List Value → Option (List AC)
  | [] => some []
  | v :: r => match acOf v, acsOf r with
    | some a, some l => some (a :: l)
    | _, _ => none

def aeOf : Value → Option AE
  | .agg cs => (acsOf cs.toList).map .agg
  | v => (acOf v).map .c

def evv (tmps : List AV) : Operand → Option AV
  | .tmp t => tmps[t]?
  | .const v => (aeOf v).map .e
  | .global _ => none
  | .func f => some (.e (.c (.clos f [])))

/- cells of a kind -/
def intsOf (k : IntKind) : List AC → Option (List Int)
  | [] => some []
  | .int j n :: r => if j = k then (intsOf k r).map (n :: ·) else none
  | _ :: _ => none

def boolsOf : List AC → Option (List Bool)
  | [] => some []
  | .bool b :: r => (boolsOf r).map (b :: ·)
  | _ :: _ => none

/-- A column for cells of a template's kind. -/
def colLike (z : AC) (l : List AC) : Col :=
  match z with
  | .int k _ => match intsOf k l with | some xs => .ints k xs | none => .acs l
  | .bool _ => match boolsOf l with | some xs => .bools xs | none => .acs l
  | _ => .acs l

def colOf (l : List AC) : Col :=
  match l with
  | [] => .acs []
  | z :: _ => colLike z l

def colRep (z : AC) (n : Nat) : Col :=
  match z with
  | .int k x => .ints k (List.replicate n x)
  | .bool b => .bools (List.replicate n b)
  | z => .acs (List.replicate n z)

/-- One of several cells, by a number. -/
def pickCell (cs : List AC) (ix : Nat) : Out AC :=
  match cs with
  | .int k _ :: _ => match intsOf k cs with
    | some xs => .eff (decide (ix < xs.length)) (.int k (xs.getD ix 0))
    | none => match cs[ix]? with | some a => .eff true a | none => .fail
  | .bool _ :: _ => match boolsOf cs with
    | some xs => .eff (decide (ix < xs.length)) (.bool (xs.getD ix false))
    | none => match cs[ix]? with | some a => .eff true a | none => .fail
  | _ => match cs[ix]? with | some a => .eff true a | none => .fail

/-- The cells at start, start + es, .. -/
def strided (cs : List AC) (start es : Nat) : Nat → Option (List AC)
  | 0 => some []
  | n + 1 => match cs[start]?, strided cs (start + es) es n with
    | some a, some l => some (a :: l)
    | _, _ => none

def Data.at (d : Data) (l : Loc) (j : Nat) : Out AC :=
  match d with
  | .mix cs => match l.sz, l.es with
    | 0, 0 => match cs[l.col + j]? with | some a => .eff true a | none => .fail
    | 0, e + 1 => match strided cs (l.col + j) (e + 1) l.n with
      | some as => pickCell as l.ix
      | none => .fail
    | _, _ => .fail
  | .rows cs => if l.sz = cs.length ∧ l.es = 0 then
      match cs[l.col + j]? with
      | some (.ints k xs) => .eff (decide (l.row < xs.length)) (.int k (xs.getD l.row 0))
      | some (.bools xs) => .eff (decide (l.row < xs.length)) (.bool (xs.getD l.row false))
      | some (.acs xs) => match xs[l.row]? with | some a => .eff true a | none => .fail
      | none => .fail
    else .fail
  | .chan _ _ => .fail

/-- n cells from a place on. -/
def Data.ats (d : Data) (l : Loc) (j : Nat) : Nat → Out (List AC)
  | 0 => .eff true []
  | n + 1 => match d.at l j, d.ats l (j + 1) n with
    | .eff ok a, .eff ok' as => .eff (ok && ok') (a :: as)
    | _, _ => .fail

def Col.len : Col → Nat
  | .ints _ l => l.length
  | .bools l => l.length
  | .acs l => l.length

def Col.set (c : Col) (i : Nat) (v : AC) : Option (Bool × Col) :=
  match c, v with
  | .ints k l, .int k' x => if k = k' then some (decide (i < l.length), .ints k (l.set i x)) else none
  | .bools l, .bool b => some (decide (i < l.length), .bools (l.set i b))
  | .acs l, v => if i < l.length then some (true, .acs (l.set i v)) else none
  | _, _ => none

/-- Cells at start, start + es, .. get new contents. -/
def putStrided (cs : List AC) (start es : Nat) : List AC → List AC
  | [] => cs
  | a :: l => putStrided (cs.set start a) (start + es) es l

/-- One element set, the spine being plain. -/
def setN {α : Type} (ix : Nat) (x : α) : Nat → List α → List α
  | _, [] => []
  | j, y :: r => (if ix = j then x else y) :: setN ix x (j + 1) r

def setPick (cs : List AC) (ix : Nat) (v : AC) : Option (Bool × List AC) :=
  match cs, v with
  | .int k _ :: _, .int k' x => match (if k = k' then intsOf k cs else none) with
    | some xs => some (decide (ix < xs.length), (setN ix x 0 xs).map (.int k))
    | none => if ix < cs.length then some (true, cs.set ix v) else none
  | .bool _ :: _, .bool x => match boolsOf cs with
    | some xs => some (decide (ix < xs.length), (setN ix x 0 xs).map .bool)
    | none => if ix < cs.length then some (true, cs.set ix v) else none
  | _, _ => if ix < cs.length then some (true, cs.set ix v) else none

def Data.setAt (d : Data) (l : Loc) (j : Nat) (v : AC) : Option (Bool × Data) :=
  match d with
  | .mix cs => match l.sz, l.es with
    | 0, 0 => if l.col + j < cs.length then some (true, .mix (cs.set (l.col + j) v)) else none
    | 0, e + 1 => match strided cs (l.col + j) (e + 1) l.n with
      | some as => match setPick as l.ix v with
        | some (ok, as') => some (ok, .mix (putStrided cs (l.col + j) (e + 1) as'))
        | none => none
      | none => none
    | _, _ => none
  | .rows cs => if l.sz = cs.length ∧ l.es = 0 then
      match cs[l.col + j]? with
      | some c => match c.set l.row v with
        | some (ok, c') => some (ok, .rows (cs.set (l.col + j) c'))
        | none => none
      | none => none
    else none
  | .chan _ _ => none

def Data.setAts (d : Data) (l : Loc) (j : Nat) : List AC → Option (Bool × Data)
  | [] => some (true, d)
  | a :: as => match d.setAt l j a with
    | some (ok, d') => match d'.setAts l (j + 1) as with
      | some (ok', d'') => some (ok && ok', d'')
      | none => none
    | none => none

/- ranges, by columns -/
def Col.sub (c : Col) (r n : Nat) : Bool × Col :=
  match c with
  | .ints k l => (decide (r + n ≤ l.length), .ints k ((l.drop r).take n))
  | .bools l => (decide (r + n ≤ l.length), .bools ((l.drop r).take n))
  | .acs l => (decide (r + n ≤ l.length), .acs ((l.drop r).take n))

def subCols (r n : Nat) : List Col → Bool × List Col
  | [] => (true, [])
  | c :: cs => match c.sub r n, subCols r n cs with
    | (ok, c'), (ok', cs') => (ok && ok', c' :: cs')

/-- The cells of a column of a mixed block: cells at start, start + es, .. (n of them), for es columns. -/
def mixCols (cs : List AC) (start es n : Nat) : Nat → Option (List Col)
  | 0 => some []
  | m + 1 => match strided cs start es n, mixCols cs (start + 1) es n m with
    | some l, some r => some (colOf l :: r)
    | _, _ => none

def Data.range (d : Data) (l : Loc) (es n : Nat) : Option (Bool × List Col) :=
  match d with
  | .rows cs => if l.sz = cs.length ∧ es = cs.length ∧ l.es = 0 ∧ l.col = 0 then
      match subCols l.row n cs with
      | (ok, c) => some (ok, c)
    else none
  | .mix cs => match l.sz with
    | 0 => match mixCols cs l.flat es n es with
      | some c => some (true, c)
      | none => none
    | _ => none
  | .chan _ _ => none

def Col.app : Col → Col → Option Col
  | .ints k a, .ints k' b => if k = k' then some (.ints k (a ++ b)) else none
  | .bools a, .bools b => some (.bools (a ++ b))
  | .acs a, .acs b => some (.acs (a ++ b))
  | .acs [], c => some c
  | c, .acs [] => some c
  | _, _ => none

def appCols : List Col → List Col → Option (List Col)
  | [], [] => some []
  | a :: as, b :: bs => match a.app b, appCols as bs with
    | some c, some r => some (c :: r)
    | _, _ => none
  | _, _ => none

/-- A column with others in the place of its own, from a row on. -/
def Col.splice (c : Col) (r : Nat) (d : Col) : Option (Bool × Col) :=
  match c, d with
  | .ints k a, .ints k' b => if k = k' then some (decide (r + b.length ≤ a.length), .ints k (a.take r ++ b ++ a.drop (r + b.length))) else none
  | .bools a, .bools b => some (decide (r + b.length ≤ a.length), .bools (a.take r ++ b ++ a.drop (r + b.length)))
  | .acs a, .acs b => some (decide (r + b.length ≤ a.length), .acs (a.take r ++ b ++ a.drop (r + b.length)))
  | c, .acs [] => some (true, c)
  | _, _ => none

def spliceCols (r : Nat) : List Col → List Col → Option (Bool × List Col)
  | [], [] => some (true, [])
  | a :: as, b :: bs => match a.splice r b, spliceCols r as bs with
    | some (ok, c), some (ok', l) => some (ok && ok', c :: l)
    | _, _ => none
  | _, _ => none

/-- The first n cells of a column, from i on. -/
def Col.listN (c : Col) (i : Nat) : Nat → Option (List AC)
  | 0 => some []
  | n + 1 => match (match c with | .ints k l => some (.int k (l.getD i 0)) | .bools l => some (.bool (l.getD i false)) | .acs l => l[i]?), c.listN (i + 1) n with
    | some a, some r => some (a :: r)
    | _, _ => none

def putCols (cs : List AC) (start es n : Nat) : List Col → Option (List AC)
  | [] => some cs
  | c :: r => match c.listN 0 n with
    | some l => putCols (putStrided cs start es l) (start + 1) es n r
    | none => none

def Data.setRange (d : Data) (l : Loc) (es n : Nat) (cols : List Col) : Option (Bool × Data) :=
  match d with
  | .rows cs => if l.sz = cs.length ∧ es = cs.length ∧ l.es = 0 ∧ l.col = 0 then
      match spliceCols l.row cs cols with
      | some (ok, c) => some (ok, .rows c)
      | none => none
    else none
  | .mix cs => match l.sz with
    | 0 => if cols.length = es ∧ l.flat + n * es ≤ cs.length then
        match putCols cs l.flat es n cols with
        | some c => some (true, .mix c)
        | none => none
      else none
    | _ => none
  | .chan _ _ => none

/- Putting data into their plain form: each of these hands on what it was given. -/
def AC.force {β : Type} (κ : AC → β) : AC → β
  | .bool b => κ (.bool b)
  | .int k n => κ (.int k n)
  | .str s => κ (.str s)
  | .nilp => κ .nilp
  | .ptr ⟨a, b, c, d, e, f, g⟩ => κ (.ptr ⟨a, b, c, d, e, f, g⟩)
  | .nils => κ .nils
  | .slice ⟨a, b, c, d, e, f, g⟩ es n x nn => κ (.slice ⟨a, b, c, d, e, f, g⟩ es n x nn)
  | .nilf => κ .nilf
  | .clos f cs => κ (.clos f cs)
  | .nilc => κ .nilc
  | .chan ⟨a, b, c, d, e, f, g⟩ => κ (.chan ⟨a, b, c, d, e, f, g⟩)

theorem AC.force_eq {β : Type} (κ : AC → β) (a : AC) : a.force κ = κ a := by cases a <;> rfl

def forceAcs {β : Type} : List AC → (List AC → β) → β
  | [], κ => κ []
  | a :: r, κ => a.force fun a => forceAcs r fun r => κ (a :: r)

theorem forceAcs_eq {β : Type} : ∀ (l : List AC) (κ : List AC → β), forceAcs l κ = κ l
  | [], _ => rfl
  | a :: r, κ => by simp [forceAcs, AC.force_eq, forceAcs_eq r]

def Col.force {β : Type} (κ : Col → β) : Col → β
  | .ints k l => κ (.ints k l)
  | .bools l => κ (.bools l)
  | .acs l => forceAcs l fun l => κ (.acs l)

theorem Col.force_eq {β : Type} (κ : Col → β) (a : Col) : a.force κ = κ a := by cases a <;> simp [Col.force, forceAcs_eq]

def forceCols {β : Type} : List Col → (List Col → β) → β
  | [], κ => κ []
  | a :: r, κ => a.force fun a => forceCols r fun r => κ (a :: r)

theorem forceCols_eq {β : Type} : ∀ (l : List Col) (κ : List Col → β), forceCols l κ = κ l
  | [], _ => rfl
  | a :: r, κ => by simp [forceCols, Col.force_eq, forceCols_eq r]

def forceBlk {β : Type} (κ : Option Block → β) : Option Block → β
  | none => κ none
  | some ⟨ro, .mix cs⟩ => forceAcs cs fun cs => κ (some ⟨ro, .mix cs⟩)
  | some ⟨ro, .rows cs⟩ => forceCols cs fun cs => κ (some ⟨ro, .rows cs⟩)
  | some ⟨ro, .chan c n⟩ => κ (some ⟨ro, .chan c n⟩)

theorem forceBlk_eq {β : Type} (κ : Option Block → β) (b : Option Block) : forceBlk κ b = κ b := by
  match b with
  | none => rfl
  | some ⟨ro, .mix cs⟩ => simp [forceBlk, forceAcs_eq]
  | some ⟨ro, .rows cs⟩ => simp [forceBlk, forceCols_eq]
  | some ⟨ro, .chan c n⟩ => rfl

def AE.force {β : Type} (κ : AE → β) : AE → β
  | .c x => x.force fun x => κ (.c x)
  | .agg l => forceAcs l fun l => κ (.agg l)

theorem AE.force_eq {β : Type} (κ : AE → β) (a : AE) : a.force κ = κ a := by cases a <;> simp [AE.force, forceAcs_eq, AC.force_eq]

def forceAes {β : Type} : List AE → (List AE → β) → β
  | [], κ => κ []
  | a :: r, κ => a.force fun a => forceAes r fun r => κ (a :: r)

theorem forceAes_eq {β : Type} : ∀ (l : List AE) (κ : List AE → β), forceAes l κ = κ l
  | [], _ => rfl
  | a :: r, κ => by simp [forceAes, AE.force_eq, forceAes_eq r]

def AV.force {β : Type} (κ : AV → β) : AV → β
  | .e x => x.force fun x => κ (.e x)
  | .tup l => forceAes l fun l => κ (.tup l)
  | .any => κ .any

theorem AV.force_eq {β : Type} (κ : AV → β) (a : AV) : a.force κ = κ a := by cases a <;> simp [AV.force, AE.force_eq, forceAes_eq]

def forceNats {β : Type} : List Nat → (List Nat → β) → β
  | [], κ => κ []
  | a :: r, κ => forceNats r fun r => κ (a :: r)

theorem forceNats_eq {β : Type} : ∀ (l : List Nat) (κ : List Nat → β), forceNats l κ = κ l
  | [], _ => rfl
  | a :: r, κ => by simp [forceNats, forceNats_eq r]

def setK {α β : Type} : List α → Nat → α → (List α → β) → β
  | [], _, _, κ => κ []
  | _ :: r, 0, v, κ => κ (v :: r)
  | x :: r, n + 1, v, κ => setK r n v fun r => κ (x :: r)

theorem setK_eq {α β : Type} : ∀ (l : List α) (n : Nat) (v : α) (κ : List α → β), setK l n v κ = κ (l.set n v)
  | [], _, _, _ => rfl
  | _ :: _, 0, _, _ => rfl
  | x :: r, n + 1, v, κ => by simp [setK, setK_eq r]

def snocK {α β : Type} : List α → α → (List α → β) → β
  | [], v, κ => κ [v]
  | x :: r, v, κ => snocK r v fun r => κ (x :: r)

theorem snocK_eq {α β : Type} : ∀ (l : List α) (v : α) (κ : List α → β), snocK l v κ = κ (l ++ [v])
  | [], _, _ => rfl
  | x :: r, v, κ => by simp [snocK, snocK_eq r]

/- A walker of Go functions over data: the operations. -/
def tyDesc (P : Program) (t : TypeId) : Option TypeDesc := P.underlying t
def tySize (P : Program) (t : TypeId) : Option Nat := (P.info? t).map (·.size)
def tyZero (P : Program) (t : TypeId) : Option AE := ((P.info? t).bind (·.zero)).bind aeOf
def isAggT (P : Program) (t : TypeId) : Option Bool := (P.underlying t).map fun d => match d with | .struct _ | .array _ _ => true | _ => false

abbrev Get := Nat → Option Block

def pureEff (v : AV) : Out Eff := .eff true { v, upd := [], rd := [], news := [] }
def acv (a : AC) : AV := .e (.c a)
def aint (k : IntKind) (n : Int) : AV := acv (.int k n)
def undefA : AV := .tup []

/-- Integer operators. -/
def intBin (op : BinOp) (k : IntKind) (a b : Int) : Option (Bool × AC) :=
  match op with
  | .add => some (true, .int k (k.wrap (a + b)))
  | .sub => some (true, .int k (k.wrap (a - b)))
  | .mul => some (true, .int k (k.wrap (a * b)))
  | .quo => some (decide (¬ b = 0), .int k (k.wrap (a.tdiv b)))
  | .rem => some (decide (¬ b = 0), .int k (a.tmod b))
  | .and => some (true, .int k (k.wrap (BitVec.ofInt k.bits a &&& BitVec.ofInt k.bits b).toNat))
  | .or => some (true, .int k (k.wrap (BitVec.ofInt k.bits a ||| BitVec.ofInt k.bits b).toNat))
  | .xor => some (true, .int k (k.wrap (BitVec.ofInt k.bits a ^^^ BitVec.ofInt k.bits b).toNat))
  | .andNot => some (true, .int k (k.wrap (BitVec.ofInt k.bits a &&& ~~~BitVec.ofInt k.bits b).toNat))
  | .eql => some (true, .bool (a == b))
  | .neq => some (true, .bool (a != b))
  | .lss => some (true, .bool (decide (a < b)))
  | .leq => some (true, .bool (decide (a ≤ b)))
  | .gtr => some (true, .bool (decide (a > b)))
  | .geq => some (true, .bool (decide (a ≥ b)))
  | _ => none

/-- Are two cells equal? By the kind: 'true' for a bool, 'false' for an integer. -/
def eqCell : Bool → AC → AC → Option Bool
  | false, .int k a, .int j b => if k = j then some (a == b) else none
  | true, .bool a, .bool b => some (a == b)
  | _, _, _ => none

def eqCells : List Bool → List AC → List AC → Option Bool
  | [], [], [] => some true
  | k :: ks, a :: l, b :: m => match eqCell k a b, eqCells ks l m with
    | some x, some y => some (x && y)
    | _, _ => none
  | _, _, _ => none

def repK (k : List Bool) : Nat → List Bool
  | 0 => []
  | n + 1 => k ++ repK k n

def plainFields (P : Program) (sz : TypeId → Option (List Bool)) : List Field → Nat → Option (List Bool)
  | [], _ => some []
  | f :: r, off => if f.name = "_" ∨ ¬ f.offset = off then none else
      match sz f.type, tySize P f.type with
      | some s, some z => if s.length = z then match plainFields P sz r (off + z) with
          | some l => some (s ++ l)
          | none => none
        else none
      | _, _ => none

/-- The kinds of a type's cells: integers and bools alone, however nested, no field blank. -/
def plainK (P : Program) : Nat → TypeId → Option (List Bool)
  | 0, _ => none
  | d + 1, t => match P.underlying t with
    | some .bool => some [true]
    | some (.int _) => some [false]
    | some (.struct fs) => if P.stoodInHeld t then none else plainFields P (fun u => plainK P d u) fs.toList 0
    | some (.array n e) => match plainK P d e, tySize P e with
      | some s, some z => if s.length = z then some (repK s n) else none
      | _, _ => none
    | _ => none

def eqDepth : Nat := 8

/-- Equality of two values. -/
def eqVal (P : Program) (t : TypeId) (x y : AV) : Option Bool :=
  match x, y with
  | .e (.c a), .e (.c b) => match P.underlying t, a, b with
    | some .bool, .bool a, .bool b => some (a == b)
    | some (.pointer _), .nilp, .nilp => some true
    | some (.pointer _), .ptr _, .nilp => some false
    | some (.pointer _), .nilp, .ptr _ => some false
    | some (.slice _), .nils, .nils => some true
    | some (.slice _), .slice _ _ _ _ true, .nils => some false
    | some (.slice _), .nils, .slice _ _ _ _ true => some false
    | _, _, _ => none
  | .e (.agg l), .e (.agg m) => match plainK P eqDepth t with
    | some ks => if P.eqGuardType P.depth t = false ∧ isAggT P t = some true then eqCells ks l m else none
    | none => none
  | _, _ => none

def shiftOp (op : BinOp) (k : IntKind) (x y : Int) : Option (Bool × AC) :=
  match op with
  | .shl => some (decide (¬ y < 0), .int k (k.wrap (x * 2 ^ (min y.toNat k.bits))))
  | .shr => some (decide (¬ y < 0), .int k (x.fdiv (2 ^ (min y.toNat k.bits))))
  | _ => none

def binA (P : Program) (op : BinOp) (t : TypeId) (x y : AV) : Out Eff :=
  match x, y with
  | .e (.c (.int k a)), .e (.c (.int j b)) =>
    match op with
    | .shl | .shr => match shiftOp op k a b with
      | some (ok, v) => .eff ok { v := acv v, upd := [], rd := [], news := [] }
      | none => .fail
    | _ => if k = j then match intBin op k a b with
        | some (ok, v) => .eff ok { v := acv v, upd := [], rd := [], news := [] }
        | none => .fail
      else .fail
  | x, y => match op with
    | .eql => match eqVal P t x y with | some b => pureEff (acv (.bool b)) | none => .fail
    | .neq => match eqVal P t x y with | some b => pureEff (acv (.bool (!b))) | none => .fail
    | _ => .fail

def unA (op : UnOp) (x : AV) : Out Eff :=
  match op, x with
  | .neg, .e (.c (.int k n)) => pureEff (aint k (k.wrap (0 - n)))
  | .xor, .e (.c (.int k n)) => pureEff (aint k (k.wrap (BitVec.ofInt k.bits (if k.signed then -1 else k.max) ^^^ BitVec.ofInt k.bits n).toNat))
  | .not, .e (.c (.bool b)) => pureEff (acv (.bool !b))
  | _, _ => .fail

def convA (P : Program) (src dst : TypeId) (x : AV) : Out Eff :=
  match P.underlying src, P.underlying dst, x with
  | some _, some (.int k), .e (.c (.int _ n)) => pureEff (aint k (k.wrap n))
  | _, _, _ => .fail

def newBlock (nx : Nat) (d : Data) (v : Loc → AV) : Out Eff :=
  .eff true { v := v ⟨nx, 0, 0, 0, 0, 0, 0⟩, upd := [], rd := [], news := [some ⟨false, d⟩] }

def allocA (P : Program) (nx : Nat) (elem : TypeId) : Out Eff :=
  match tyZero P elem with
  | some z => newBlock nx (.mix z.cells) fun l => acv (.ptr l)
  | none => .fail

def boxA (nx : Nat) (x : AV) : Out Eff :=
  match x with
  | .e z => newBlock nx (.mix z.cells) fun l => acv (.ptr l)
  | _ => .fail

def putAt (cs : List AC) (off : Nat) : List AC → List AC
  | [] => cs
  | a :: l => putAt (cs.set off a) (off + 1) l

def fillA (place : Nat → Option (Nat × Nat)) (cells : List AC) : List (Nat × AV) → Option (List AC)
  | [] => some cells
  | (i, .e v) :: rest => match place i with
    | none => none
    | some (off, size) => if v.cells.length ≠ size || off + v.cells.length > cells.length then none
      else fillA place (putAt cells off v.cells) rest
  | _ => none

def evs (ev : Operand → Option AV) : List Operand → Option (List AV)
  | [] => some []
  | x :: r => match ev x, evs ev r with
    | some a, some l => some (a :: l)
    | _, _ => none

def evParts (ev : Operand → Option AV) : List (Nat × Operand) → Option (List (Nat × AV))
  | [] => some []
  | (i, x) :: r => match ev x, evParts ev r with
    | some a, some l => some ((i, a) :: l)
    | _, _ => none

def fieldPlaces (P : Program) : List Field → Option (List (Nat × Nat))
  | [] => some []
  | f :: r => match tySize P f.type, fieldPlaces P r with
    | some s, some l => some ((f.offset, s) :: l)
    | _, _ => none

def buildA (P : Program) (t : TypeId) (parts : List (Nat × AV)) : Out Eff :=
  match tyZero P t, P.underlying t with
  | some z, some (.struct fs) => match fieldPlaces P fs.toList with
    | some pl => match fillA (fun i => pl[i]?) z.cells parts with
      | some cs => pureEff (.e (.agg cs))
      | none => .fail
    | none => .fail
  | some z, some (.array _ e) => match tySize P e with
    | some s => match fillA (fun i => some (i * s, s)) z.cells parts with
      | some cs => pureEff (.e (.agg cs))
      | none => .fail
    | none => .fail
  | _, _ => .fail

/-- Cells of a row in columns, by the zero's cells. -/
def toCols (cs : List AC) (es n : Nat) : Nat → List AC → Option (List Col)
  | _, [] => some []
  | j, z :: zs => match strided cs j es n, toCols cs es n (j + 1) zs with
    | some l, some r => some (colLike z l :: r)
    | _, _ => none

def repCells (z : List AC) : Nat → List AC
  | 0 => []
  | n + 1 => z ++ repCells z n

def sliceOf (nx es len : Nat) : AV := acv (.slice ⟨nx, 0, es, 0, 0, 0, 0⟩ es len 0 true)

def buildSliceA (P : Program) (nx : Nat) (t : TypeId) (len : Nat) (parts : List (Nat × AV)) : Out Eff :=
  match P.underlying t with
  | some (.slice e) => match tyZero P e, tySize P e with
    | some z, some s => if s = z.cells.length ∧ 0 < s ∧ len * s ≤ 2 ^ 24 then
        match fillA (fun i => some (i * s, s)) (repCells z.cells len) parts with
        | some cs => match toCols cs s len 0 z.cells with
          | some cols => .eff true { v := sliceOf nx s len, upd := [], rd := [], news := [some ⟨false, .rows cols⟩] }
          | none => .fail
        | none => .fail
      else .fail
    | _, _ => .fail
  | _ => .fail

def loadA (P : Program) (get : Get) (t : TypeId) (a : AV) : Out Eff :=
  match a with
  | .e (.c (.ptr l)) => match get l.id, isAggT P t, tySize P t with
    | some b, some true, some n => match b.d.ats l 0 n with
      | .eff ok cs => .eff ok { v := .e (.agg cs), upd := [], rd := [l.id], news := [] }
      | _ => .fail
    | some b, some false, some _ => match b.d.at l 0 with
      | .eff ok c => .eff ok { v := acv c, upd := [], rd := [l.id], news := [] }
      | _ => .fail
    | _, _, _ => .fail
  | _ => .fail

def storeA (P : Program) (get : Get) (t : TypeId) (a x : AV) : Out Eff :=
  match a, x with
  | .e (.c (.ptr l)), .e z => match get l.id, tySize P t with
    | some ⟨false, d⟩, some n => if z.cells.length = n then
        match d.setAts l 0 z.cells with
        | some (ok, d') => .eff ok { v := undefA, upd := [(l.id, some ⟨false, d'⟩)], rd := [l.id], news := [] }
        | none => .fail
      else .fail
    | _, _ => .fail
  | _, _ => .fail

def fieldAddrA (P : Program) (s : TypeId) (x : AV) (f : Nat) : Out Eff :=
  match P.underlying s, x with
  | some (.struct fs), .e (.c (.ptr l)) => match fs[f]? with
    | some fd => match tySize P fd.type with
      | some (_ + 1) => match l with
        | ⟨id, row, sz, col, ix, es, n⟩ => pureEff (acv (.ptr ⟨id, row, sz, col + fd.offset, ix, es, n⟩))
      | _ => .fail
    | none => .fail
  | _, _ => .fail

def partA (P : Program) (t : TypeId) (cs : List AC) (off : Nat) : Option AE :=
  match isAggT P t, tySize P t with
  | some true, some n => some (.agg ((cs.drop off).take n))
  | some false, some _ => (cs[off]?).map .c
  | _, _ => none

def fieldA (P : Program) (s : TypeId) (x : AV) (f : Nat) : Out Eff :=
  match P.underlying s, x with
  | some (.struct fs), .e (.agg cs) => match fs[f]? with
    | some fd => match partA P fd.type cs fd.offset with
      | some v => pureEff (.e v)
      | none => .fail
    | none => .fail
  | _, _ => .fail

/-- The place of an element further on. -/
def Loc.skip (l : Loc) (k : Nat) : Loc :=
  match l with
  | ⟨id, row, 0, col, ix, es, n⟩ => ⟨id, row, 0, col, ix + k, es, n⟩
  | ⟨id, row, s + 1, col, ix, es, n⟩ => ⟨id, row + k, s + 1, col, ix, es, n⟩

/-- How many cells further the next element lies. -/
def Loc.stride (l : Loc) : Nat :=
  match l with
  | ⟨_, _, 0, _, _, es, _⟩ => es
  | ⟨_, _, s + 1, _, _, _, _⟩ => s + 1

def inR (i : Int) (n : Nat) : Bool := decide (0 ≤ i) && decide (i < (n : Int))

def indexAddrA (P : Program) (t : TypeId) (x i : AV) : Out Eff :=
  match P.underlying t, x, i with
  | some (.array n e), .e (.c (.ptr ⟨id, row, sz, col, _, 0, _⟩)), .e (.c (.int _ i)) => match tySize P e with
    | some (s + 1) => .eff (inR i n) { v := acv (.ptr ⟨id, row, sz, col, i.toNat, s + 1, n⟩), upd := [], rd := [], news := [] }
    | _ => .fail
  | some (.slice e), .e (.c (.slice l es len _ _)), .e (.c (.int _ i)) => match tySize P e with
    | some s => if s = es ∧ l.stride = es then .eff (inR i len) { v := acv (.ptr (l.skip i.toNat)), upd := [], rd := [], news := [] } else .fail
    | none => .fail
  | _, _, _ => .fail

/-- One of equal parts. -/
def indexA (P : Program) (t : TypeId) (x i : AV) : Out Eff :=
  match P.underlying t, x, i with
  | some (.array n e), .e (.agg cs), .e (.c (.int _ i)) => match isAggT P e, tySize P e with
    | some false, some 1 => if cs.length = n then
        match pickCell cs i.toNat with
        | .eff ok a => .eff (inR i n && ok) { v := acv a, upd := [], rd := [], news := [] }
        | _ => .fail
      else .fail
    | some true, some s => .eff (inR i n) { v := .e (.agg ((cs.drop (i.toNat * s)).take s)), upd := [], rd := [], news := [] }
    | _, _ => .fail
  | _, _, _ => .fail

def extractA (x : AV) (i : Nat) : Out Eff :=
  match x with
  | .tup l => match l[i]? with
    | some v => pureEff (.e v)
    | none => .fail
  | _ => .fail

def nilCheckA (x : AV) : Out Eff :=
  match x with
  | .e (.c (.ptr l)) => pureEff (acv (.ptr l))
  | .e (.c (.clos f cs)) => pureEff (acv (.clos f cs))
  | _ => .fail

def makeSliceA (P : Program) (nx : Nat) (t : TypeId) (len cap : AV) : Out Eff :=
  match P.underlying t, len, cap with
  | some (.slice e), .e (.c (.int .i64 n)), .e (.c (.int .i64 c)) => match tyZero P e, P.info? e with
    | some z, some i => if i.size = z.cells.length ∧ 0 < i.size then
        .eff (decide (0 ≤ n) && decide (n = c) && decide (n * i.bytes ≤ 2 ^ 47) && decide (n ≤ 2 ^ 47))
          { v := sliceOf nx i.size n.toNat, upd := [], rd := [], news := [some ⟨false, .rows (z.cells.map fun a => colRep a n.toNat)⟩] }
      else .fail
    | _, _ => .fail
  | _, _, _ => .fail

/-- The bounds of a slice expression: what is asked; the low bound; the new length; what is left at the end. -/
def boundsA (len : Nat) (lo hi : Option AV) : Option (Bool × Option Nat × Nat × Option Nat) :=
  match lo, hi with
  | none, none => some (true, none, len, none)
  | none, some (.e (.c (.int _ h))) => some (decide (0 ≤ h) && decide (h ≤ (len : Int)), none, h.toNat, some (len - h.toNat))
  | some (.e (.c (.int _ l))), none => some (decide (0 ≤ l) && decide (l ≤ (len : Int)), some l.toNat, len - l.toNat, none)
  | some (.e (.c (.int _ l))), some (.e (.c (.int _ h))) => some (decide (0 ≤ h) && decide (h ≤ (len : Int)) && decide (0 ≤ l) && decide (l ≤ h), some l.toNat, h.toNat - l.toNat, some (len - h.toNat))
  | _, _ => none

def Loc.skip? (l : Loc) : Option Nat → Loc
  | none => l
  | some k => l.skip k

def addExt (e : Nat) : Option Nat → Nat
  | none => e
  | some k => e + k

def sliceA (P : Program) (get : Get) (t : TypeId) (x : AV) (lo hi : Option AV) : Out Eff :=
  match P.underlying t, x with
  | some (.slice e), .e (.c (.slice l es len ext nn)) => match tySize P e, boundsA len lo hi with
    | some s, some (ok, a, m, r) => if s = es ∧ l.stride = es then
        .eff ok { v := acv (.slice (l.skip? a) es m (addExt ext r) nn), upd := [], rd := [], news := [] }
      else .fail
    | _, _ => .fail
  | some (.array n e), .e (.c (.ptr ⟨id, row, 0, col, _, 0, _⟩)) => match tySize P e, boundsA n lo hi, get id with
    | some (s + 1), some (ok, a, m, r), some ⟨_, .mix cs⟩ => if col + n * (s + 1) ≤ cs.length then
        .eff ok { v := acv (.slice ⟨id, row, 0, col, a.getD 0, s + 1, n⟩ (s + 1) m (addExt 0 r) true), upd := [], rd := [id], news := [] }
      else .fail
    | _, _, _ => .fail
  | _, _ => .fail

/-- A slice of two bounds: the high one may lie in the spare room. -/
def slice2A (P : Program) (get : Get) (t : TypeId) (x lo hi : AV) : Out Eff :=
  match P.underlying t, x, lo, hi with
  | some (.slice e), .e (.c (.slice l es len ext nn)), .e (.c (.int _ a)), .e (.c (.int _ b)) => match tySize P e with
    | some s => if s = es ∧ l.stride = es then
        .eff (decide (0 ≤ b) && decide (b ≤ ((len + ext : Nat) : Int)) && decide (0 ≤ a) && decide (a ≤ b)) { v := acv (.slice (l.skip a.toNat) es (b.toNat - a.toNat) (len + ext - b.toNat) nn), upd := [], rd := [], news := [] }
      else .fail
    | none => .fail
  | _, _, _, _ => sliceA P get t x (some lo) (some hi)

/-- A slice of three bounds: what it answers nobody may name. -/
def slice3A (P : Program) (t : TypeId) (x lo hi mx : AV) : Out Eff :=
  match P.underlying t, x, lo, hi, mx with
  | some (.slice e), .e (.c (.slice l es len ext nn)), .e (.c (.int _ a)), .e (.c (.int _ b)), .e (.c (.int _ c)) => match tySize P e with
    | some s => .eff (decide (0 ≤ a) && decide (a ≤ b) && decide (b ≤ c) && decide (c ≤ (len : Int))) { v := .any, upd := [], rd := [], news := [] }
    | none => .fail
  | _, _, _, _, _ => .fail

def lenA (P : Program) (t : TypeId) (x : AV) : Out Eff :=
  match P.underlying t, x with
  | some (.slice _), .e (.c (.slice _ _ len _ _)) => pureEff (aint .i64 (len : Int))
  | some (.slice _), .e (.c .nils) => pureEff (aint .i64 0)
  | some (.array n _), .e _ => pureEff (aint .i64 (n : Int))
  | some .string, .e (.c (.str s)) => pureEff (aint .i64 (s.size : Int))
  | _, _ => .fail

def lenChanA (P : Program) (get : Get) (t : TypeId) (l : Loc) : Out Eff :=
  match P.underlying t, get l.id with
  | some (.chan _ _), some ⟨_, .chan _ n⟩ => .eff true { v := aint .i64 (n : Int), upd := [], rd := [l.id], news := [] }
  | _, _ => .fail

def makeChanA (P : Program) (nx : Nat) (t : TypeId) (x : AV) : Out Eff :=
  match P.underlying t, x with
  | some (.chan _ e), .e (.c (.int _ c)) => match P.info? e with
    | some i => if i.bytes = 0 then .eff (decide (0 ≤ c) && decide (c ≤ 1000)) { v := acv (.chan ⟨nx, 0, 0, 0, 0, 0, 0⟩), upd := [], rd := [], news := [some ⟨false, .chan c.toNat 0⟩] } else .fail
    | none => .fail
  | _, _ => .fail

/-- The columns of a slice value. -/
def srcCols (get : Get) (es : Nat) (x : AV) (n : Nat) : Option (Bool × List Col × List Nat) :=
  match x with
  | .e (.c .nils) => some (true, List.replicate es (.acs []), [])
  | .e (.c (.slice l es' _ _ _)) => if es' = es then match get l.id with
      | some b => match b.d.range l es n with
        | some (ok, c) => some (ok, c, [l.id])
        | none => none
      | none => none
    else none
  | _ => none

def lenOfA (x : AV) : Option Nat :=
  match x with
  | .e (.c .nils) => some 0
  | .e (.c (.slice _ _ n _ _)) => some n
  | _ => none

/-- append: behind it the old row is no longer named. -/
def appendA (P : Program) (get : Get) (nx : Nat) (t : TypeId) (x y : AV) : Out Eff :=
  match P.underlying t with
  | some (.slice e) => match P.info? e, tyZero P e, lenOfA y with
    | some i, some z, some m => if i.size = z.cells.length ∧ 0 < i.size then
      match srcCols get i.size y m with
      | some (okb, cb, rb) =>
        match x with
        | .e (.c .nils) => .eff (okb && decide (m * i.bytes ≤ 2 ^ 47) && decide (m ≤ 2 ^ 47))
            { v := acv (.slice ⟨nx, 0, i.size, 0, 0, 0, 0⟩ i.size m 0 false), upd := [], rd := rb, news := [some ⟨false, .rows cb⟩] }
        | .e (.c (.slice l es len 0 nn)) => if es = i.size then match get l.id with
            | some ⟨false, d⟩ => match d.range l es len with
              | some (oka, ca) => match appCols ca cb with
                | some c => .eff (oka && okb && decide ((len + m) * i.bytes ≤ 2 ^ 47) && decide (len + m ≤ 2 ^ 47))
                    { v := acv (.slice ⟨nx, 0, es, 0, 0, 0, 0⟩ es (len + m) 0 nn), upd := [(l.id, none)], rd := l.id :: rb, news := [some ⟨false, .rows c⟩] }
                | none => .fail
              | none => .fail
            | _ => .fail
          else .fail
        | .e (.c (.slice l es len (ext + 1) nn)) => if es = i.size ∧ l.stride = es then match get l.id with
            | some ⟨false, d⟩ => match d.setRange (l.skip len) es m cb with
              | some (oks, d') => .eff (okb && oks && decide (m ≤ ext + 1))
                  { v := acv (.slice l es (len + m) (ext + 1 - m) nn), upd := [(l.id, some ⟨false, d'⟩)], rd := l.id :: rb, news := [] }
              | none => .fail
            | _ => .fail
          else .fail
        | _ => .fail
      | none => .fail
      else .fail
    | _, _, _ => .fail
  | _ => .fail

/-- The lesser of two numbers, plain. -/
def minM : Nat → Nat → Nat
  | 0, _ => 0
  | b + 1, a => match a with
    | 0 => 0
    | a + 1 => minM b a + 1
def minN (a b : Nat) : Nat := minM b a
theorem minM_eq : ∀ b a, minM b a = Nat.min a b
  | 0, _ => by simp [minM]
  | b + 1, 0 => by simp [minM]
  | b + 1, a + 1 => by
    rw [minM, minM_eq b a]
    show min a b + 1 = min (a + 1) (b + 1)
    omega
theorem minN_eq (a b : Nat) : minN a b = Nat.min a b := minM_eq b a

def copyA (P : Program) (get : Get) (t : TypeId) (x y : AV) : Out Eff :=
  match P.underlying t with
  | some (.slice e) => match tySize P e, x, lenOfA y with
    | some s, .e (.c (.slice l es len _ _)), some m => if s = es ∧ 0 < s then match get l.id, srcCols get es y (minN m len) with
        | some ⟨false, d⟩, some (okb, cb, rb) => match d.setRange l es (minN m len) cb with
          | some (oks, d') => .eff (okb && oks) { v := aint .i64 (minN m len : Nat), upd := [(l.id, some ⟨false, d'⟩)], rd := l.id :: rb, news := [] }
          | none => .fail
        | _, _ => .fail
      else .fail
    | _, _, _ => .fail
  | _ => .fail

def clearA (P : Program) (get : Get) (t : TypeId) (x : AV) : Out Eff :=
  match P.underlying t with
  | some (.slice e) => match tyZero P e, tySize P e, x with
    | some z, some s, .e (.c (.slice l es len _ _)) => if s = es ∧ s = z.cells.length ∧ 0 < s then match get l.id with
        | some ⟨false, d⟩ => match d.setRange l es len (z.cells.map fun a => colRep a len) with
          | some (oks, d') => .eff oks { v := undefA, upd := [(l.id, some ⟨false, d'⟩)], rd := [l.id], news := [] }
          | none => .fail
        | _ => .fail
      else .fail
    | _, _, _ => .fail
  | _ => .fail

def locsOf : List AV → Option (List Loc)
  | [] => some []
  | .e (.c (.ptr l)) :: r => (locsOf r).map (l :: ·)
  | _ => none

def ovA (ev : Operand → Option AV) : Option Operand → Option (Option AV)
  | none => some none
  | some x => (ev x).map some

/-- One operation that is no call of a Go function. -/
def maxI (x y : Int) : Int := if y > x then y else x
def minI (x y : Int) : Int := if y < x then y else x
def foldMm (f : Int → Int → Int) : Int → List AV → Option Int
  | x, [] => some x
  | x, .e (.c (.int _ y)) :: r => foldMm f (f x y) r
  | _, _ => none
def mmA (f : Int → Int → Int) : List AV → Out Eff
  | .e (.c (.int k x)) :: r => match foldMm f x r with
    | some z => pureEff (aint k z)
    | none => .fail
  | _ => .fail

def astep (P : Program) (o : Oper) (ev : Operand → Option AV) (get : Get) (nx : Nat) : Out Eff :=
  match o.op with
  | .move x | .assign x => match ev x with | some v => pureEff v | none => .fail
  | .pick c a b => match ev c, ev a, ev b with
    | some (.e (.c (.bool t))), some x, some y => .br t (pureEff x) (pureEff y)
    | _, _, _ => .fail
  | .alloc e => allocA P nx e
  | .box _ x => match ev x with | some v => boxA nx v | none => .fail
  | .build t ps => match evParts ev ps.toList with | some l => buildA P t l | none => .fail
  | .buildSlice t n ps => match evParts ev ps.toList with | some l => buildSliceA P nx t n l | none => .fail
  | .load t a => match ev a with | some v => loadA P get t v | none => .fail
  | .store t a x => match ev a, ev x with | some v, some u => storeA P get t v u | _, _ => .fail
  | .nilCheck x => match ev x with | some v => nilCheckA v | none => .fail
  | .binOp op t x y _ => match ev x, ev y with | some a, some b => binA P op t a b | _, _ => .fail
  | .unOp op _ x => match ev x with | some a => unA op a | none => .fail
  | .convert s d x => match ev x with | some a => convA P s d a | none => .fail
  | .makeFunc (.func f) first cap => if first.size = 0 then match evs ev cap.toList with
      | some l => match locsOf l with | some ls => pureEff (acv (.clos f ls)) | none => .fail
      | none => .fail
    else .fail
  | .makeSlice t l c => match ev l, ev c with | some a, some b => makeSliceA P nx t a b | _, _ => .fail
  | .slice t x (some lo) (some hi) none => match ev x, ev lo, ev hi with | some a, some l, some h => slice2A P get t a l h | _, _, _ => .fail
  | .slice t x lo hi none => match ev x, ovA ev lo, ovA ev hi with | some a, some l, some h => sliceA P get t a l h | _, _, _ => .fail
  | .slice t x (some lo) (some hi) (some mx) => match ev x, ev lo, ev hi, ev mx with | some a, some l, some h, some m => slice3A P t a l h m | _, _, _, _ => .fail
  | .fieldAddr s x f => match ev x with | some a => fieldAddrA P s a f | none => .fail
  | .field s x f => match ev x with | some a => fieldA P s a f | none => .fail
  | .indexAddr t x i => match ev x, ev i with | some a, some b => indexAddrA P t a b | _, _ => .fail
  | .index t x i => match ev x, ev i with | some a, some b => indexA P t a b | _, _ => .fail
  | .extract x i => match ev x with | some a => extractA a i | none => .fail
  | .call { callee := .builtin .len, args, argTypes } => match evs ev args.toList, argTypes.toList with
    | some [.e (.c (.chan l))], [t] => lenChanA P get t l
    | some [a], [t] => lenA P t a
    | _, _ => .fail
  | .makeChan t n => match ev n with
    | some a => makeChanA P nx t a
    | none => .fail
  | .call { callee := .builtin .append, args, argTypes } => match evs ev args.toList, argTypes.toList with
    | some [a, b], [t, u] => match P.underlying u with
      | some (.slice _) => appendA P get nx t a b
      | _ => .fail
    | _, _ => .fail
  | .call { callee := .builtin .copy, args, argTypes } => match evs ev args.toList, argTypes.toList with
    | some [a, b], [t, _] => copyA P get t a b
    | _, _ => .fail
  | .call { callee := .builtin .clear, args, argTypes } => match evs ev args.toList, argTypes.toList with
    | some [a], [t] => clearA P get t a
    | _, _ => .fail
  | .call { callee := .builtin .max, args, argTypes := _ } => match evs ev args.toList with
    | some l => mmA maxI l
    | none => .fail
  | .call { callee := .builtin .min, args, argTypes := _ } => match evs ev args.toList with
    | some l => mmA minI l
    | none => .fail
  | _ => .fail

/- A walker of Go functions over data: regions, code, functions. -/
abbrev Heap := List (Bool × Option Block)

def hget (h : Heap) : Get := fun i => match h[i]? with
  | some (_, b) => b
  | none => none

def hsets : Heap → List (Nat × Option Block) → Heap
  | h, [] => h
  | h, (i, b) :: r => hsets (h.set i (true, b)) r

def happ (h : Heap) (E : Eff) : Heap := hsets h E.upd ++ E.news.map fun b => (true, b)

def hsetsK {β : Type} : Heap → List (Nat × Option Block) → (Heap → β) → β
  | h, [], κ => κ h
  | h, (i, b) :: r, κ => forceBlk (fun b => setK h i (true, b) fun h => hsetsK h r κ) b

theorem hsetsK_eq {β : Type} : ∀ (u : List (Nat × Option Block)) (h : Heap) (κ : Heap → β), hsetsK h u κ = κ (hsets h u)
  | [], _, _ => rfl
  | (i, b) :: r, h, κ => by simp [hsetsK, hsets, forceBlk_eq, setK_eq, hsetsK_eq r]

def newsK {β : Type} : Heap → List (Option Block) → (Heap → β) → β
  | h, [], κ => κ h
  | h, b :: r, κ => forceBlk (fun b => snocK h (true, b) fun h => newsK h r κ) b

theorem newsK_eq {β : Type} : ∀ (u : List (Option Block)) (h : Heap) (κ : Heap → β), newsK h u κ = κ (h ++ u.map fun b => (true, b))
  | [], _, _ => by simp [newsK]
  | b :: r, h, κ => by simp [newsK, forceBlk_eq, snocK_eq, newsK_eq r]

structure St where
  tmps : List AV
  heap : Heap
  nx : Nat

def putT (tmps : List AV) (d : Option Tmp) (v : AV) : List AV :=
  match d with
  | some d => tmps.set d v
  | none => tmps

def putK {β : Type} (tmps : List AV) (d : Option Tmp) (v : AV) (κ : List AV → β) : β :=
  match d with
  | some d => v.force fun v => setK tmps d v κ
  | none => κ tmps

theorem putK_eq {β : Type} (tmps : List AV) (d : Option Tmp) (v : AV) (κ : List AV → β) : putK tmps d v κ = κ (putT tmps d v) := by
  cases d <;> simp [putK, putT, AV.force_eq, setK_eq]

def St.after (s : St) (o : Oper) (E : Eff) : St := { tmps := putT s.tmps o.dst E.v, heap := happ s.heap E, nx := s.nx + E.news.length }
def St.skip (s : St) (o : Oper) : St := { s with tmps := putT s.tmps o.dst undefA }

/-- What a call comes to: its value; of each block what became of it ('none': it is as it was), the new ones behind them. -/
structure Res where
  v : AV
  blks : List (Option (Option Block))

abbrev Fun := List AV → List (Option Block) → (Res → Option Res) → Option Res
abbrev Summ := FuncId → Option Fun

/- names of blocks -/
def AC.ids : AC → List Nat
  | .ptr l => [l.id]
  | .slice l _ _ _ _ => [l.id]
  | .clos _ cs => cs.map (·.id)
  | .chan l => [l.id]
  | _ => []

def acsIds : List AC → List Nat
  | [] => []
  | a :: r => a.ids ++ acsIds r

def colsIds : List Col → List Nat
  | [] => []
  | .acs l :: r => acsIds l ++ colsIds r
  | _ :: r => colsIds r

def Data.ids : Data → List Nat
  | .mix cs => acsIds cs
  | .rows cs => colsIds cs
  | .chan _ _ => []

def aesIds : List AE → List Nat
  | [] => []
  | a :: r => acsIds a.cells ++ aesIds r

def AV.ids : AV → List Nat
  | .e x => acsIds x.cells
  | .tup l => aesIds l
  | .any => []

def avsIds : List AV → List Nat
  | [] => []
  | a :: r => a.ids ++ avsIds r

def reach (get : Get) : Nat → List Nat → List Nat → Option (List Nat)
  | 0, _, _ => none
  | _ + 1, [], seen => some seen
  | f + 1, x :: r, seen => match seen.contains x with
    | true => reach get f r seen
    | false => reach get f (r ++ (match get x with | some b => b.d.ids | none => [])) (seen ++ [x])

/- renaming -/
abbrev Ren := Nat → Option Nat

def Loc.ren (σ : Ren) (l : Loc) : Option Loc :=
  match σ l.id with
  | some i => match l with
    | ⟨_, row, sz, col, ix, es, n⟩ => some ⟨i, row, sz, col, ix, es, n⟩
  | none => none

def locsRen (σ : Ren) : List Loc → Option (List Loc)
  | [] => some []
  | l :: r => match l.ren σ, locsRen σ r with
    | some a, some b => some (a :: b)
    | _, _ => none

def AC.ren (σ : Ren) : AC → Option AC
  | .ptr l => match l.ren σ with | some l => some (.ptr l) | none => none
  | .slice l es n e nn => match l.ren σ with | some l => some (.slice l es n e nn) | none => none
  | .clos f cs => match locsRen σ cs with | some cs => some (.clos f cs) | none => none
  | .bool b => some (.bool b)
  | .int k n => some (.int k n)
  | .str s => some (.str s)
  | .nilp => some .nilp
  | .nils => some .nils
  | .nilf => some .nilf
  | .nilc => some .nilc
  | .chan l => match l.ren σ with | some l => some (.chan l) | none => none

def acsRen (σ : Ren) : List AC → Option (List AC)
  | [] => some []
  | a :: r => match a.ren σ, acsRen σ r with
    | some a, some r => some (a :: r)
    | _, _ => none

def AE.ren (σ : Ren) : AE → Option AE
  | .c x => match x.ren σ with | some x => some (.c x) | none => none
  | .agg l => match acsRen σ l with | some l => some (.agg l) | none => none

def aesRen (σ : Ren) : List AE → Option (List AE)
  | [] => some []
  | a :: r => match a.ren σ, aesRen σ r with
    | some a, some r => some (a :: r)
    | _, _ => none

def AV.ren (σ : Ren) : AV → Option AV
  | .e x => match x.ren σ with | some x => some (.e x) | none => none
  | .tup l => match aesRen σ l with | some l => some (.tup l) | none => none
  | .any => some .any

def avsRen (σ : Ren) : List AV → Option (List AV)
  | [] => some []
  | a :: r => match a.ren σ, avsRen σ r with
    | some a, some r => some (a :: r)
    | _, _ => none

def Col.ren (σ : Ren) : Col → Option Col
  | .ints k l => some (.ints k l)
  | .bools l => some (.bools l)
  | .acs l => match acsRen σ l with | some l => some (.acs l) | none => none

def colsRen (σ : Ren) : List Col → Option (List Col)
  | [] => some []
  | a :: r => match a.ren σ, colsRen σ r with
    | some a, some r => some (a :: r)
    | _, _ => none

def Data.ren (σ : Ren) : Data → Option Data
  | .mix cs => match acsRen σ cs with | some cs => some (.mix cs) | none => none
  | .rows cs => match colsRen σ cs with | some cs => some (.rows cs) | none => none
  | .chan c n => some (.chan c n)

def oblkRen (σ : Ren) : Option Block → Option (Option Block)
  | none => some none
  | some ⟨ro, d⟩ => match d.ren σ with | some d => some (some ⟨ro, d⟩) | none => none

def subRen (σ : Ren) (get : Get) : List Nat → Option (List (Option Block))
  | [] => some []
  | i :: r => match oblkRen σ (get i), subRen σ get r with
    | some b, some l => some (b :: l)
    | _, _ => none

/-- The blocks that were there: those that turned, by their names. -/
def backOld (σ : Ren) : List Nat → List (Option (Option Block)) → Option (List (Nat × Option Block))
  | [], _ => some []
  | _ :: _, [] => none
  | _ :: ids, none :: r => backOld σ ids r
  | i :: ids, some b :: r => match oblkRen σ b, backOld σ ids r with
    | some b, some l => some ((i, b) :: l)
    | _, _ => none

def backNew (σ : Ren) : List (Option (Option Block)) → Option (List (Option Block))
  | [] => some []
  | none :: r => match backNew σ r with | some l => some (none :: l) | none => none
  | some b :: r => match oblkRen σ b, backNew σ r with
    | some b, some l => some (b :: l)
    | _, _ => none

def posOf (ids : List Nat) : Ren := fun x => ids.idxOf? x
def backOf (ids : List Nat) (nx : Nat) : Ren := fun p => match ids[p]? with
  | some i => some i
  | none => some (nx + (p - ids.length))

def reachFuel : Nat := 4000

def callF (F : Fun) (args : List AV) (get : Get) (nx : Nat) (κ : Eff → Option Res) : Option Res :=
  match reach get reachFuel (avsIds args) [] with
  | none => none
  | some ids => forceNats ids fun ids => match avsRen (posOf ids) args, subRen (posOf ids) get ids with
    | some args', some sub => F args' sub fun ⟨qv, qb⟩ =>
      match qv.ren (backOf ids nx), backOld (backOf ids nx) ids qb, backNew (backOf ids nx) (qb.drop ids.length) with
      | some v, some upd, some news => κ { v, upd, rd := ids, news }
      | _, _, _ => none
    | _, _ => none

def callC (S : Summ) (f : FuncId) (args : List AV) (get : Get) (nx : Nat) (κ : Eff → Option Res) : Option Res :=
  match S f with
  | some F => callF F args get nx κ
  | none => none

def opC (P : Program) (S : Summ) (o : Oper) (ev : Operand → Option AV) (get : Get) (nx : Nat) (κ : Eff → Option Res) : Option Res :=
  match o.op with
  | .call { callee := .value x, args, argTypes := _ } => match ev x, evs ev args.toList with
    | some (.e (.c (.clos f cs))), some as => callC S f (as ++ cs.map fun l => acv (.ptr l)) get nx κ
    | _, _ => none
  | _ => (astep P o ev get nx).run κ

/-- What an operation of a region touched: the blocks that it read; those that it wrote. -/
abbrev Touch := List Nat × List Nat

def Eff.touch (E : Eff) (nx : Nat) : Touch := (E.rd, E.upd.map (·.1) ++ (List.range E.news.length).map (nx + ·))

/-- Behind an operation: what it wrote must lie in blocks that were there. -/
def thenC (s : St) (o : Oper) (tr : List Touch) (κ : St → List Touch → Option Res) : Eff → Option Res := fun ⟨v, upd, rd, news⟩ =>
  match upd.all (·.1 < s.nx) with
  | true => putK s.tmps o.dst v fun tmps => hsetsK s.heap upd fun heap => newsK heap news fun heap =>
      κ ⟨tmps, heap, s.nx + news.length⟩ (Eff.touch ⟨v, upd, rd, news⟩ s.nx :: tr)
  | false => none

def skipC (s : St) (o : Oper) (tr : List Touch) (κ : St → List Touch → Option Res) : Option Res :=
  putK s.tmps o.dst undefA fun tmps => κ ⟨tmps, s.heap, s.nx⟩ (([], []) :: tr)

def opsC (P : Program) (S : Summ) (all : List Oper) : List Oper → List Touch → St → (St → List Touch → Option Res) → Option Res
  | [], tr, s, κ => κ s tr
  | o :: r, tr, s, κ =>
    match o.guard with
    | none => opC P S o (evv s.tmps) (hget s.heap) s.nx (thenC s o tr fun s tr => opsC P S all r tr s κ)
    | some (j, want) => match (all[j]?).bind (·.dst) with
      | none => none
      | some d => match s.tmps[d]? with
        | some (.e (.c (.bool b))) => match b with
          | true => setK s.tmps d (acv (.bool true)) fun tmps => match want with
            | true => opC P S o (evv tmps) (hget s.heap) s.nx (thenC ⟨tmps, s.heap, s.nx⟩ o tr fun s tr => opsC P S all r tr s κ)
            | false => skipC ⟨tmps, s.heap, s.nx⟩ o tr fun s tr => opsC P S all r tr s κ
          | false => setK s.tmps d (acv (.bool false)) fun tmps => match want with
            | true => skipC ⟨tmps, s.heap, s.nx⟩ o tr fun s tr => opsC P S all r tr s κ
            | false => opC P S o (evv tmps) (hget s.heap) s.nx (thenC ⟨tmps, s.heap, s.nx⟩ o tr fun s tr => opsC P S all r tr s κ)
        | some (.tup []) => skipC s o tr fun s tr => opsC P S all r tr s κ
        | _ => none

/- which operations stand before which -/
def predMask (o : Oper) (j : Nat) (acc : List Nat) : Option Nat :=
  o.after.toList.foldl (fun m e => match m with
    | none => none
    | some m => if Region.binds .any e then (if e.on < j then some (m ||| 2 ^ e.on ||| acc.getD e.on 0) else none) else some m) (some 0)

def predMasks : List Oper → List Nat → Option (List Nat)
  | [], acc => some acc
  | o :: r, acc => match predMask o acc.length acc with
    | some m => predMasks r (acc ++ [m])
    | none => none

def disj (a b : List Nat) : Bool := a.all fun x => !b.contains x

def pairOk (ops : Array Oper) (ms : List Nat) (tr : List Touch) (i j : Nat) : Bool :=
  (ms.getD j 0).testBit i ||
  match ops[i]?, ops[j]?, tr[i]?, tr[j]? with
  | some x, some y, some t, some u => x.apart ops y && disj t.2 u.1 && disj t.2 u.2 && disj u.2 t.1
  | _, _, _, _ => false

def drawOk (ops : Array Oper) (tr : List Touch) : Bool :=
  match predMasks ops.toList [] with
  | none => false
  | some ms => (List.range ops.size).all fun j => (List.range j).all fun i => pairOk ops ms tr i j

/-- What a select of one case answers. -/
def selV (k : Int) (ok : Bool) (l : List AE) : AV := .tup (.c (.int .i64 k) :: .c (.bool ok) :: l)

/-- A select of one send or one receive of nothing, with a default: what it answers; the channel behind it. -/
def selA (P : Program) (ev : Operand → Option AV) (get : Get) : Op → Out Eff
  | .select cs false => match cs.toList with
    | [c] => match ev c.chan, tyZero P c.elem with
      | some (.e (.c (.chan l))), some (.agg []) => match get l.id, c.send with
        | some ⟨false, .chan cap n⟩, some x => match ev x with
          | some (.e (.agg [])) => .br (Nat.ble (n + 1) cap) (.eff true { v := selV 0 false [], upd := [(l.id, some ⟨false, .chan cap (n + 1)⟩)], rd := [l.id], news := [] }) (.eff true { v := selV (-1) false [], upd := [], rd := [l.id], news := [] })
          | _ => .fail
        | some ⟨false, .chan cap n⟩, none => .br (Nat.ble 1 n) (.eff true { v := selV 0 true [.agg []], upd := [(l.id, some ⟨false, .chan cap (n - 1)⟩)], rd := [l.id], news := [] }) (.eff true { v := selV (-1) false [.agg []], upd := [], rd := [l.id], news := [] })
        | _, _ => .fail
      | _, _ => .fail
    | _ => .fail
  | _ => .fail

def isSel (draw : Bool) : List Oper → Bool
  | ⟨_, .select _ _, _, _, _, none⟩ :: _ => !draw
  | _ => false

def regionC (P : Program) (S : Summ) (ops : Array Oper) (draw : Bool) (s : St) (κ : St → Option Res) : Option Res :=
  match isSel draw ops.toList, ops.toList with
  | true, o :: r => (selA P (evv s.tmps) (hget s.heap) o.op).run (thenC s o [] fun s' _ => opsC P S (o :: r) r [] s' fun s'' _ => κ s'')
  | _, _ => opsC P S ops.toList ops.toList [] s fun s' tr => match draw with
    | false => κ s'
    | true => match drawOk ops tr.reverse with
      | true => κ s'
      | false => none

inductive Ex where
  | normal
  | exit (id : Nat)
  | goto (l : Nat)
  | ret

mutual
def exec (P : Program) (S : Summ) : Nat → Code → St → (Ex → St → Option Res) → Option Res
  | 0, _, _, _ => none
  | n + 1, c, s, κ => match c with
    | .skip => κ .normal s
    | .label _ => κ .normal s
    | .exit id => κ (.exit id) s
    | .goto l => κ (.goto l) s
    | .ret => κ .ret s
    | .region _ ops draw => regionC P S ops draw s (κ .normal)
    | .seq a b => exec P S n a s fun e s' => match e with
      | .normal => exec P S n b s' κ
      | e => κ e s'
    | .cond c x y => match evv s.tmps c with
      | some (.e (.c (.bool b))) => match b with
        | true => exec P S n x s κ
        | false => exec P S n y s κ
      | _ => none
    | .block id c => exec P S n c s fun e s' => match e with
      | .exit i => if i = id then κ .normal s' else κ (.exit i) s'
      | e => κ e s'
    | .loop c => exec P S n c s fun e s' => match e with
      | .normal => exec P S n (.loop c) s' κ
      | e => κ e s'
    | .scope c => execS P S n c c s κ
    | _ => none
def execS (P : Program) (S : Summ) : Nat → Code → Code → St → (Ex → St → Option Res) → Option Res
  | 0, _, _, _, _ => none
  | n + 1, body, c, s, κ => exec P S n c s fun e s' => match e with
    | .goto l => match findLabel body l with
      | some rest => execS P S n body rest s' κ
      | none => none
    | e => κ e s'
end

def resultsC (P : Program) (tmps : List AV) (get : Get) : List ResultVar → (List AE → Option Res) → Option Res
  | [], κ => κ []
  | .tmp t :: r, κ => match tmps[t]? with
    | some (.e x) => resultsC P tmps get r fun l => κ (x :: l)
    | _ => none
  | .cell a t :: r, κ => match tmps[a]? with
    | some p => (loadA P get t p).run fun E => match E.v with
      | .e x => resultsC P tmps get r fun l => κ (x :: l)
      | _ => none
    | none => none

def finalBlks (h : Heap) : List (Option (Option Block)) := h.map fun (d, b) => match d with | true => some b | false => none

def finish (P : Program) (fn : Func) (s : St) (κ : Res → Option Res) : Option Res :=
  resultsC P s.tmps (hget s.heap) fn.results.toList fun l => match l with
    | [x] => κ ⟨.e x, finalBlks s.heap⟩
    | l => κ ⟨.tup l, finalBlks s.heap⟩

/-- A function of the program, walked. -/
def runF (P : Program) (S : Summ) (fuel : Nat) (f : FuncId) : Fun := fun args sub κ =>
  match P.funcs[f]? with
  | none => none
  | some fn => match fn.body with
    | none => none
    | some c => exec P S fuel c { tmps := args ++ List.replicate (fn.ntmps - args.length) undefA, heap := sub.map fun b => (false, b), nx := sub.length } fun e s =>
        match e with
        | .normal => finish P fn s κ
        | .ret => finish P fn s κ
        | _ => none

end Go.Eng
