/- A walker of Go functions over data: from a law that is reckoned to the law's call. -/
import Derived.Test.YtanchmbopllimaaEngC
set_option linter.unusedVariables false
set_option linter.unusedSimpArgs false
namespace Go.Eng
open Go Go.RowKit

theorem below_of_kept {own : Nat → Prop} {w w' : World} (h : Kept own w w') (ho : ∀ k, ¬ own k) : Below w.heap.size w w' :=
  ⟨h.os, h.tape, h.output, h.size, fun k hk => h.block k hk (ho k)⟩

/-- A law over arguments that are not written. -/
theorem of_fun {P : Program} {f : FuncId} {F : Fun} (hF : FunSound P f F) {args : List AV} {sub : List (Option Block)} {cargs : Array Value} {w : World} {ρ : Rho} (hi : Inv ρ (subGet sub) w)
    (hro : ∀ i b, subGet sub i = some b → b.ro = true) (hf : ∀ i, sub.length ≤ i → ρ i = none) (hargs : LR (AR ρ) args cargs.toList) {t : Bool} {blks : List (Option (Option Block))}
    (h : F args sub some = some ⟨.e (.c (.bool t)), blks⟩) : Calls P f cargs w fun e w' => e = .returned (.bool t) ∧ Below w.heap.size w w' := by
  obtain ⟨q, hq, hs⟩ := hF _ _ _ _ h
  injection hq with hq
  subst hq
  refine (hs ρ w cargs hi hf hargs).mono ?_
  rintro e w' ⟨cv, ρ', rfl, hp⟩
  have hv := hp.val
  simp only [AR, ER, CR] at hv
  subst hv
  refine ⟨rfl, below_of_kept hp.kept fun k hk => ?_⟩
  obtain ⟨i, b, r, hb, h0, _⟩ := hk
  rw [hro i b hb] at h0; cases h0

/-- A slice that came in, by columns. -/
structure SlArg where
  a : Option Addr
  len : Nat
  cap : Nat
  cols : List Col

def SlArg.place (s : SlArg) : Pl := match s.a with
  | none => ⟨0, 0, 0⟩
  | some x => ⟨x.block, x.off, s.cap * s.cols.length⟩

def SlArg.blk (s : SlArg) : Option Block := some ⟨true, .rows s.cols⟩

structure SlOk (w : World) (s : SlArg) : Prop where
  nil : s.a = none → s.len = 0 ∧ s.cap = 0
  cap : s.len ≤ s.cap
  pos : 0 < s.cols.length
  even : Even s.cols s.len
  mem : ∀ x, s.a = some x → 0 < s.cap → x.spot = none ∧ (∃ c t fr, w.heap[x.block]? = some (.cells c t fr) ∧ x.off + s.cap * s.cols.length ≤ c.size) ∧
    ∀ q j, q < s.len → j < s.cols.length → ∀ a, colsAt s.cols q j = some a → ∃ v, w.cell? ⟨x.block, x.off + (q * s.cols.length + j), none⟩ = some v ∧ CR (fun _ => none) a v

theorem le_none {ρ : Rho} : le (fun _ => none) ρ := fun _ _ h => by cases h

theorem args_inv {w : World} {sl : List SlArg} (h : ∀ (i : Nat) (s : SlArg), sl[i]? = some s → SlOk w s) : Inv (fun i => (sl[i]?).map SlArg.place) (subGet (sl.map SlArg.blk)) w := by
  have hg : ∀ (i : Nat) (b : Block), subGet (sl.map SlArg.blk) i = some b → ∃ s, sl[i]? = some s ∧ b = ⟨true, .rows s.cols⟩ := by
    intro i b hb
    unfold subGet at hb
    rw [List.getElem?_map] at hb
    cases hs : sl[i]? with
    | none => simp [hs] at hb
    | some s => simp [hs, SlArg.blk] at hb; exact ⟨s, rfl, hb.symm⟩
  refine ⟨fun i b hb => ?_, fun i j b c r s hij hb hc hr hs hrs hss hro => ?_⟩
  · obtain ⟨s, hs, rfl⟩ := hg i b hb
    have ok := h i s hs
    refine ⟨s.place, by simp only [hs, Option.map_some], fun hp => ?_, fun k a ha => ?_⟩
    · cases hx : s.a with
      | none => simp [SlArg.place, hx] at hp
      | some x =>
        simp only [SlArg.place, hx] at hp ⊢
        have hc : 0 < s.cap := by
          rcases Nat.eq_zero_or_pos s.cap with h0 | h0
          · rw [h0] at hp; simp at hp
          · exact h0
        obtain ⟨_, ⟨c, t, fr, h1, h2⟩, _⟩ := ok.mem x hx hc
        exact ⟨c, t, fr, h1, h2, fun e => by cases e⟩
    · have := rows_mem (ρ := fun i => (sl[i]?).map SlArg.place) (n := s.len) (es := s.cols.length) (c := ((List.range (s.len * s.cols.length)).map fun i => ((s.a.bind fun x => w.cell? ⟨x.block, x.off + i, none⟩)).getD undef).toArray) ok.pos rfl ok.even (fun q j hq hj a ha => ?_) k a ha
      · obtain ⟨hk, v, hv, hcr⟩ := this
        cases hx : s.a with
        | none => have := (ok.nil hx).1; rw [this] at hk; simp at hk
        | some x =>
          have hlen : 0 < s.len := by
            rcases Nat.eq_zero_or_pos s.len with h0 | h0
            · rw [h0] at hk; simp at hk
            · exact h0
          have hcp : s.len * s.cols.length ≤ s.cap * s.cols.length := Nat.mul_le_mul_right _ ok.cap
          simp only [SlArg.place, hx]
          refine ⟨by omega, v, ?_, hcr⟩
          simp only [List.getElem?_toArray, List.getElem?_map, List.getElem?_range hk, Option.map_some, hx, Option.bind_some] at hv
          obtain ⟨_, ⟨c, t, fr, h1, h2⟩, _⟩ := ok.mem x hx (by have := ok.cap; omega)
          rw [cell_of h1] at hv ⊢
          have hb : x.off + k < c.size := by omega
          rw [Array.getElem?_eq_getElem hb] at hv ⊢
          simpa using hv
      · cases hx : s.a with
        | none => have := (ok.nil hx).1; omega
        | some x =>
          obtain ⟨_, _, h3⟩ := ok.mem x hx (by have := ok.cap; omega)
          obtain ⟨v, hv, hr⟩ := h3 q j hq hj a ha
          refine ⟨v, ?_, hr.mono le_none⟩
          have hk := mul_lt_of hq hj
          simp only [List.getElem?_toArray, List.getElem?_map, List.getElem?_range hk, Option.map_some, Option.bind_some, hv, Option.getD_some]
  · obtain ⟨s', _, rfl⟩ := hg i b hb
    cases hro

theorem args_ro {sl : List SlArg} : ∀ i b, subGet (sl.map SlArg.blk) i = some b → b.ro = true := by
  intro i b hb
  unfold subGet at hb
  rw [List.getElem?_map] at hb
  cases hs : sl[i]? with
  | none => simp [hs] at hb
  | some s => simp [hs, SlArg.blk] at hb; rw [← hb]

theorem args_fresh {sl : List SlArg} : ∀ i, (sl.map SlArg.blk).length ≤ i → (fun i => (sl[i]?).map SlArg.place) i = none := by
  intro i hi
  simp only [List.length_map] at hi
  show (sl[i]?).map SlArg.place = none
  rw [List.getElem?_eq_none hi]; rfl

/-- The value of a slice that came in. -/
theorem args_slice {w : World} {sl : List SlArg} {i : Nat} {s : SlArg} (hs : sl[i]? = some s) (ok : SlOk w s) {es : Nat} (he : es = s.cols.length) :
    AR (fun i => (sl[i]?).map SlArg.place) (.e (.c (.slice ⟨i, 0, es, 0, 0, 0, 0⟩ es s.len 0 false))) (.slice s.a s.len s.cap) := by
  subst he
  refine ⟨s.a, s.cap, rfl, by simpa using ok.cap, fun (h : false = true) => absurd h (by simp), fun h => (ok.nil h).2, fun hc => ?_⟩
  cases hx : s.a with
  | none => have := (ok.nil hx).2; omega
  | some x =>
    obtain ⟨hsp, _, _⟩ := ok.mem x hx hc
    refine ⟨s.place, by simp [hs], ?_, ?_⟩
    · obtain ⟨b, o, sp⟩ := x
      simp only at hsp
      subst hsp
      simp [SlArg.place, hx, Loc.flat]
    · simp [SlArg.place, hx, Loc.flat]

/-- A slice of integers that came in. -/
def IsRow (k : IntKind) (w : World) (a : Option Addr) (len cap : Nat) (zs : List Int) : Prop :=
  (a = none ∧ len = 0 ∧ cap = 0 ∧ zs = []) ∨
  ∃ x, a = some x ∧ len ≤ cap ∧ cap ≤ maxLen ∧ zs.length = cap ∧ (∀ i, i < zs.length → w.cell? (x.add i) = some (.int k (zs.getD i 0))) ∧ ∀ n ∈ zs, (Lit.int k n).wf = true

def intArg (k : IntKind) (a : Option Addr) (len cap : Nat) (zs : List Int) : SlArg := ⟨a, len, cap, [.ints k (zs.take len)]⟩

theorem add_spot {x : Addr} {i : Nat} {w : World} {v : Value} (h : w.cell? (x.add i) = some v) (hs : x.spot = none) : w.cell? ⟨x.block, x.off + i, none⟩ = some v := by
  obtain ⟨b, o, sp⟩ := x
  simp only at hs
  subst hs
  rw [addr_add] at h
  exact h

theorem IsRow.ok {k : IntKind} {w : World} {a : Option Addr} {len cap : Nat} {zs : List Int} (h : IsRow k w a len cap zs) : SlOk w (intArg k a len cap zs) ∧ (zs.take len).length = len ∧ ∀ n ∈ zs.take len, k.min ≤ n ∧ n ≤ k.max := by
  rcases h with ⟨rfl, rfl, rfl, rfl⟩ | ⟨x, rfl, h1, h2, h3, h4, h5⟩
  · exact ⟨⟨fun _ => ⟨rfl, rfl⟩, Nat.le_refl _, by simp [intArg], fun j c hj => by cases j <;> simp [intArg] at hj; subst hj; simp [Col.len, intArg], fun x hx => by simp [intArg] at hx⟩, rfl, fun n hn => by simp at hn⟩
  · have hl : (zs.take len).length = len := by simp; omega
    refine ⟨⟨fun hx => by simp [intArg] at hx, h1, by simp [intArg], fun j c hj => ?_, fun y hy hc => ?_⟩, hl, fun n hn => ?_⟩
    · cases j with
      | zero => simp [intArg] at hj; subst hj; simp [Col.len, intArg]; omega
      | succ j => simp [intArg] at hj
    · simp only [intArg, Option.some.injEq] at hy hc
      subst hy
      have hsp : x.spot = none := by
        have h0 := h4 0 (by omega)
        unfold World.cell? Addr.add at h0
        simp only [if_true] at h0
        cases hx : x.spot with
        | none => rfl
        | some s =>
          rw [hx] at h0
          simp only [Option.isSome_some, if_true] at h0
          split at h0 <;> cases h0
      have hlast := add_spot (h4 (cap - 1) (by omega)) hsp
      refine ⟨hsp, ?_, fun q j hq hj a ha => ?_⟩
      · unfold World.cell? at hlast
        simp only at hlast
        split at hlast
        · rename_i c t fr hc'
          simp only [Option.isSome_none, Bool.false_eq_true, if_false] at hlast
          refine ⟨c, t, fr, hc', ?_⟩
          have : x.off + (cap - 1) < c.size := by
            rcases Nat.lt_or_ge (x.off + (cap - 1)) c.size with h | h
            · exact h
            · rw [Array.getElem?_eq_none h] at hlast; cases hlast
          simp [intArg]; omega
        · cases hlast
      · simp only [intArg, List.length_cons, List.length_nil] at hj ha hq ⊢
        obtain rfl : j = 0 := by omega
        simp only [colsAt, List.getElem?_cons_zero, Option.bind_some, Col.get?, Option.map_eq_some_iff] at ha
        obtain ⟨n, hn, rfl⟩ := ha
        have := add_spot (h4 q (by omega)) hsp
        refine ⟨.int k n, ?_, rfl⟩
        rw [show x.off + (q * (0 + 1) + 0) = x.off + q from by omega, this]
        rw [List.getElem?_take, if_pos hq] at hn
        simp [List.getD, hn]
    · have := h5 n (List.mem_of_mem_take hn)
      simpa [Lit.wf] using this

end Go.Eng
