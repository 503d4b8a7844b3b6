/- A walker of Go functions over data: what it reckons is what the program does (runF_sound). -/
import Derived.Test.YtanchmbopllimaaEngB
import Derived.Scope
import Derived.LoopN
set_option linter.unusedVariables false
set_option linter.unusedSimpArgs false
namespace Go.Eng
open Go

/- A walker of Go functions over data: calls by a function's own data. -/
/-- A renaming that keeps places. -/
def Fits (σ : Ren) (ρ ρ2 : Rho) : Prop := ∀ i p, σ i = some p → ∀ r, ρ i = some r → ρ2 p = some r
def FitsBack (σ : Ren) (ρ ρ2 : Rho) : Prop := ∀ i p, σ i = some p → ∀ r, ρ2 p = some r → ρ i = some r

theorem Loc.ren_spec {σ : Ren} {l l' : Loc} (h : l.ren σ = some l') : σ l.id = some l'.id ∧ l'.flat = l.flat := by
  unfold Loc.ren at h
  split at h
  · rename_i i hi
    obtain ⟨id, row, sz, col, ix, es, n⟩ := l
    simp only [Option.some.injEq] at h
    subst h
    exact ⟨hi, rfl⟩
  · cases h

theorem PR_ren {σ : Ren} {ρ ρ2 : Rho} (hf : Fits σ ρ ρ2) {l l' : Loc} {v : Value} (h : l.ren σ = some l') (hp : PR ρ l v) : PR ρ2 l' v := by
  obtain ⟨h1, h2⟩ := Loc.ren_spec h
  obtain ⟨r, hr, rfl⟩ := hp
  exact ⟨r, hf _ _ h1 _ hr, by rw [h2]⟩

theorem PR_renBack {σ : Ren} {ρ ρ2 : Rho} (hf : FitsBack σ ρ ρ2) {l l' : Loc} {v : Value} (h : l.ren σ = some l') (hp : PR ρ2 l' v) : PR ρ l v := by
  obtain ⟨h1, h2⟩ := Loc.ren_spec h
  obtain ⟨r, hr, rfl⟩ := hp
  exact ⟨r, hf _ _ h1 _ hr, by rw [h2]⟩

theorem locsRen_spec {σ : Ren} : ∀ {l l' : List Loc}, locsRen σ l = some l' → LR (fun a b => a.ren σ = some b) l l'
  | [], l', h => by simp [locsRen] at h; subst h; exact LR.nil
  | a :: r, l', h => by
    simp only [locsRen] at h
    split at h
    · rename_i x y hx hy
      injection h with h; subst h
      exact LR.cons hx (locsRen_spec hy)
    · cases h

theorem LR.comp {α β γ : Type} {R : α → β → Prop} {S : α → γ → Prop} {T : β → γ → Prop} {l : List α} {m : List β} {n : List γ} (h : LR R l m) (h' : LR S l n) (hc : ∀ a b c, R a b → S a c → T b c) : LR T m n := by
  refine ⟨h.1.symm.trans h'.1, fun i b hb => ?_⟩
  have hlt : i < l.length := by have := getElem?_lt hb; rw [h.1]; exact this
  have ha := List.getElem?_eq_getElem hlt
  obtain ⟨b', hb', hr⟩ := h.2 i _ ha
  obtain ⟨c, hc', hs⟩ := h'.2 i _ ha
  rw [hb] at hb'; injection hb' with hb'; subst hb'
  exact ⟨c, hc', hc _ _ _ hr hs⟩

theorem LR.compBack {α β γ : Type} {R : α → β → Prop} {S : β → γ → Prop} {T : α → γ → Prop} {l : List α} {m : List β} {n : List γ} (h : LR R l m) (h' : LR S m n) (hc : ∀ a b c, R a b → S b c → T a c) : LR T l n := by
  refine ⟨h.1.trans h'.1, fun i a ha => ?_⟩
  obtain ⟨b, hb, hr⟩ := h.2 i a ha
  obtain ⟨c, hc', hs⟩ := h'.2 i b hb
  exact ⟨c, hc', hc _ _ _ hr hs⟩

theorem CR_ren {σ : Ren} {ρ ρ2 : Rho} (hf : Fits σ ρ ρ2) {a a' : AC} {v : Value} (h : a.ren σ = some a') (hc : CR ρ a v) : CR ρ2 a' v := by
  cases a with
  | ptr l =>
    simp only [AC.ren] at h
    split at h
    · rename_i l' hl; injection h with h; subst h; exact PR_ren hf hl hc
    · cases h
  | slice l es n e nn =>
    simp only [AC.ren] at h
    split at h
    · rename_i l' hl
      injection h with h; subst h
      obtain ⟨h1, h2⟩ := Loc.ren_spec hl
      obtain ⟨ca, cap, rfl, a1, a2, a3, a4⟩ := hc
      exact ⟨ca, cap, rfl, a1, a2, a3, fun hp => let ⟨r, hr, e1, e2⟩ := a4 hp; ⟨r, hf _ _ h1 _ hr, by rw [h2]; exact e1, by rw [h2]; exact e2⟩⟩
    · cases h
  | chan l =>
    simp only [AC.ren] at h
    split at h
    · rename_i l' hl
      injection h with h; subst h
      obtain ⟨h1, h2⟩ := Loc.ren_spec hl
      obtain ⟨r, hr, rfl⟩ := hc
      exact ⟨r, hf _ _ h1 _ hr, rfl⟩
    · cases h
  | clos f cs =>
    simp only [AC.ren] at h
    split at h
    · rename_i cs' hl
      injection h with h; subst h
      obtain ⟨vs, rfl, hv⟩ := hc
      exact ⟨vs, rfl, (locsRen_spec hl).comp hv fun a b c h1 h2 => PR_ren hf h1 h2⟩
    · cases h
  | _ => simp only [AC.ren, Option.some.injEq] at h; subst h; exact hc

theorem CR_renBack {σ : Ren} {ρ ρ2 : Rho} (hf : FitsBack σ ρ ρ2) {a a' : AC} {v : Value} (h : a.ren σ = some a') (hc : CR ρ2 a' v) : CR ρ a v := by
  cases a with
  | ptr l =>
    simp only [AC.ren] at h
    split at h
    · rename_i l' hl; injection h with h; subst h; exact PR_renBack hf hl hc
    · cases h
  | slice l es n e nn =>
    simp only [AC.ren] at h
    split at h
    · rename_i l' hl
      injection h with h; subst h
      obtain ⟨h1, h2⟩ := Loc.ren_spec hl
      obtain ⟨ca, cap, rfl, a1, a2, a3, a4⟩ := hc
      exact ⟨ca, cap, rfl, a1, a2, a3, fun hp => let ⟨r, hr, e1, e2⟩ := a4 hp; ⟨r, hf _ _ h1 _ hr, by rw [← h2]; exact e1, by rw [← h2]; exact e2⟩⟩
    · cases h
  | chan l =>
    simp only [AC.ren] at h
    split at h
    · rename_i l' hl
      injection h with h; subst h
      obtain ⟨h1, h2⟩ := Loc.ren_spec hl
      obtain ⟨r, hr, rfl⟩ := hc
      exact ⟨r, hf _ _ h1 _ hr, rfl⟩
    · cases h
  | clos f cs =>
    simp only [AC.ren] at h
    split at h
    · rename_i cs' hl
      injection h with h; subst h
      obtain ⟨vs, rfl, hv⟩ := hc
      exact ⟨vs, rfl, (locsRen_spec hl).compBack hv fun a b c h1 h2 => PR_renBack hf h1 h2⟩
    · cases h
  | _ => simp only [AC.ren, Option.some.injEq] at h; subst h; exact hc

theorem acsRen_spec {σ : Ren} : ∀ {l l' : List AC}, acsRen σ l = some l' → LR (fun a b => a.ren σ = some b) l l'
  | [], l', h => by simp [acsRen] at h; subst h; exact LR.nil
  | a :: r, l', h => by
    simp only [acsRen] at h
    split at h
    · rename_i x y hx hy
      injection h with h; subst h
      exact LR.cons hx (acsRen_spec hy)
    · cases h

theorem ER_ren {σ : Ren} {ρ ρ2 : Rho} (hf : Fits σ ρ ρ2) {a a' : AE} {v : Value} (h : a.ren σ = some a') (hc : ER ρ a v) : ER ρ2 a' v := by
  cases a with
  | c x =>
    simp only [AE.ren] at h
    split at h
    · rename_i y hy; injection h with h; subst h; exact CR_ren hf hy hc
    · cases h
  | agg l =>
    simp only [AE.ren] at h
    split at h
    · rename_i y hy
      injection h with h; subst h
      obtain ⟨vs, rfl, hv⟩ := hc
      exact ⟨vs, rfl, (acsRen_spec hy).comp hv fun a b c h1 h2 => CR_ren hf h1 h2⟩
    · cases h

theorem aesRen_spec {σ : Ren} : ∀ {l l' : List AE}, aesRen σ l = some l' → LR (fun a b => a.ren σ = some b) l l'
  | [], l', h => by simp [aesRen] at h; subst h; exact LR.nil
  | a :: r, l', h => by
    simp only [aesRen] at h
    split at h
    · rename_i x y hx hy
      injection h with h; subst h
      exact LR.cons hx (aesRen_spec hy)
    · cases h

theorem AR_ren {σ : Ren} {ρ ρ2 : Rho} (hf : Fits σ ρ ρ2) {a a' : AV} {v : Value} (h : a.ren σ = some a') (hc : AR ρ a v) : AR ρ2 a' v := by
  cases a with
  | e x =>
    simp only [AV.ren] at h
    split at h
    · rename_i y hy; injection h with h; subst h; exact ER_ren hf hy hc
    · cases h
  | tup l =>
    simp only [AV.ren] at h
    split at h
    · rename_i y hy
      injection h with h; subst h
      obtain ⟨vs, rfl, hv⟩ := hc
      exact ⟨vs, rfl, (aesRen_spec hy).comp hv fun a b c h1 h2 => ER_ren hf h1 h2⟩
    · cases h
  | any => simp only [AV.ren, Option.some.injEq] at h; subst h; trivial

theorem avsRen_spec {σ : Ren} : ∀ {l l' : List AV}, avsRen σ l = some l' → LR (fun a b => a.ren σ = some b) l l'
  | [], l', h => by simp [avsRen] at h; subst h; exact LR.nil
  | a :: r, l', h => by
    simp only [avsRen] at h
    split at h
    · rename_i x y hx hy
      injection h with h; subst h
      exact LR.cons hx (avsRen_spec hy)
    · cases h

theorem Col.ren_get {σ : Ren} {c c' : Col} (h : c.ren σ = some c') : ∀ q, (∀ a', c'.get? q = some a' → ∃ a, c.get? q = some a ∧ a.ren σ = some a') ∧ (∀ a, c.get? q = some a → ∃ a', c'.get? q = some a' ∧ a.ren σ = some a') := by
  intro q
  cases c with
  | ints k l =>
    simp only [Col.ren, Option.some.injEq] at h; subst h
    refine ⟨fun a ha => ⟨a, ha, ?_⟩, fun a ha => ⟨a, ha, ?_⟩⟩ <;>
      (simp only [Col.get?, Option.map_eq_some_iff] at ha; obtain ⟨x, _, rfl⟩ := ha; rfl)
  | bools l =>
    simp only [Col.ren, Option.some.injEq] at h; subst h
    refine ⟨fun a ha => ⟨a, ha, ?_⟩, fun a ha => ⟨a, ha, ?_⟩⟩ <;>
      (simp only [Col.get?, Option.map_eq_some_iff] at ha; obtain ⟨x, _, rfl⟩ := ha; rfl)
  | acs l =>
    simp only [Col.ren] at h
    split at h
    · rename_i l' hl
      injection h with h; subst h
      have hs := acsRen_spec hl
      refine ⟨fun a ha => ?_, fun a ha => ?_⟩
      · simp only [Col.get?] at ha ⊢
        have hlt : q < l.length := by have := getElem?_lt ha; rw [hs.1]; exact this
        obtain ⟨b, hb, hr⟩ := hs.2 q _ (List.getElem?_eq_getElem hlt)
        rw [ha] at hb; injection hb with hb; subst hb
        exact ⟨_, List.getElem?_eq_getElem hlt, hr⟩
      · exact hs.2 q a ha
    · cases h

theorem colsRen_spec {σ : Ren} : ∀ {l l' : List Col}, colsRen σ l = some l' → LR (fun a b => a.ren σ = some b) l l'
  | [], l', h => by simp [colsRen] at h; subst h; exact LR.nil
  | a :: r, l', h => by
    simp only [colsRen] at h
    split at h
    · rename_i x y hx hy
      injection h with h; subst h
      exact LR.cons hx (colsRen_spec hy)
    · cases h

theorem Data.ren_flat {σ : Ren} {d d' : Data} (h : d.ren σ = some d') : ∀ i, (∀ a', d'.flat i = some a' → ∃ a, d.flat i = some a ∧ a.ren σ = some a') ∧ (∀ a, d.flat i = some a → ∃ a', d'.flat i = some a' ∧ a.ren σ = some a') := by
  intro i
  cases d with
  | mix cs =>
    simp only [Data.ren] at h
    split at h
    · rename_i cs' hc
      injection h with h; subst h
      exact Col.ren_get (c := .acs cs) (c' := .acs cs') (by simp [Col.ren, hc]) i
    · cases h
  | rows cs =>
    simp only [Data.ren] at h
    split at h
    · rename_i cs' hc
      injection h with h; subst h
      have hs := colsRen_spec hc
      simp only [Data.flat, ← hs.1]
      by_cases h0 : cs.length = 0
      · simp [h0]
      · simp only [if_neg h0]
        have hlt : i % cs.length < cs.length := Nat.mod_lt _ (by omega)
        obtain ⟨c', hc', hr⟩ := hs.2 _ _ (List.getElem?_eq_getElem hlt)
        rw [List.getElem?_eq_getElem hlt, hc']
        exact Col.ren_get hr _
    · cases h
  | chan c n =>
    simp only [Data.ren, Option.some.injEq] at h
    subst h
    exact ⟨fun a h => (by cases h), fun a h => (by cases h)⟩

theorem Data.ren_stands {σ : Ren} {d d' : Data} (h : d.ren σ = some d') {w : World} {r : Pl} {ro : Bool} : Stands w r ro d ↔ Stands w r ro d' := by
  cases d with
  | mix cs =>
    simp only [Data.ren] at h
    split at h
    · injection h with h; subst h; exact Iff.rfl
    · cases h
  | rows cs =>
    simp only [Data.ren] at h
    split at h
    · injection h with h; subst h; exact Iff.rfl
    · cases h
  | chan c n =>
    simp only [Data.ren, Option.some.injEq] at h
    subst h; exact Iff.rfl

theorem oblkRen_some {σ : Ren} {b : Option Block} {b' : Block} (h : oblkRen σ b = some (some b')) : ∃ b0, b = some b0 ∧ b0.ro = b'.ro ∧ b0.d.ren σ = some b'.d := by
  cases b with
  | none => simp [oblkRen] at h
  | some b0 =>
    obtain ⟨ro, d⟩ := b0
    simp only [oblkRen] at h
    split at h
    · rename_i d' hd
      injection h with h; injection h with h; subst h
      exact ⟨_, rfl, rfl, hd⟩
    · cases h

theorem oblkRen_of {σ : Ren} {b : Block} {x : Option Block} (h : oblkRen σ (some b) = some x) : ∃ b', x = some b' ∧ b.ro = b'.ro ∧ b.d.ren σ = some b'.d := by
  obtain ⟨ro, d⟩ := b
  simp only [oblkRen] at h
  split at h
  · rename_i d' hd
    injection h with h; subst h
    exact ⟨_, rfl, rfl, hd⟩
  · cases h

theorem Holds.ren {σ : Ren} {ρ ρ2 : Rho} {w : World} {r : Pl} {b b' : Block} (hf : Fits σ ρ ρ2) (hro : b.ro = b'.ro) (h : b.d.ren σ = some b'.d) (hh : Holds ρ w r b) : Holds ρ2 w r b' :=
  ⟨by rw [← hro]; exact (Data.ren_stands h).1 hh.1, fun i a ha => by
    obtain ⟨a0, h0, hr⟩ := (Data.ren_flat h i).1 a ha
    obtain ⟨hi, v, hv, hc⟩ := hh.2 i a0 h0
    exact ⟨hi, v, hv, CR_ren hf hr hc⟩⟩

theorem Holds.renBack {σ : Ren} {ρ ρ2 : Rho} {w : World} {r : Pl} {b b' : Block} (hf : FitsBack σ ρ ρ2) (hro : b.ro = b'.ro) (h : b.d.ren σ = some b'.d) (hh : Holds ρ2 w r b') : Holds ρ w r b :=
  ⟨by rw [hro]; exact (Data.ren_stands h).2 hh.1, fun i a ha => by
    obtain ⟨a', h', hr⟩ := (Data.ren_flat h i).2 a ha
    obtain ⟨hi, v, hv, hc⟩ := hh.2 i a' h'
    exact ⟨hi, v, hv, CR_renBack hf hr hc⟩⟩

def subGet (sub : List (Option Block)) : Get := fun i => (sub[i]?).join

/-- The blocks behind a call, by the callee's own names. -/
def resGet (sub : List (Option Block)) (blks : List (Option (Option Block))) : Get := fun i => match (blks[i]?).join with
  | some b => b
  | none => subGet sub i

structure CallPost (ρ : Rho) (sub : List (Option Block)) (w : World) (q : Res) (ρ' : Rho) (w' : World) (cv : Value) : Prop where
  ext : le ρ ρ'
  dom : ∀ i r, ρ' i = some r → ρ i = some r ∨ (sub.length ≤ i ∧ i < q.blks.length)
  val : AR ρ' q.v cv
  inv : Inv ρ' (resGet sub q.blks) w'
  kept : Kept (Own ρ (subGet sub)) w w'
  own : ∀ k, Own ρ' (resGet sub q.blks) k → Own ρ (subGet sub) k ∨ w.heap.size ≤ k
  live : ∀ k, Live ρ' (resGet sub q.blks) k → Live ρ (subGet sub) k ∨ w.heap.size ≤ k
  len : sub.length ≤ q.blks.length

def CallSound (P : Program) (f : FuncId) (args : List AV) (sub : List (Option Block)) (q : Res) : Prop :=
  ∀ (ρ : Rho) (w : World) (cargs : Array Value), Inv ρ (subGet sub) w → (∀ i, sub.length ≤ i → ρ i = none) → LR (AR ρ) args cargs.toList →
    Calls P f cargs w fun e w' => ∃ cv ρ', e = .returned cv ∧ CallPost ρ sub w q ρ' w' cv

def FunSound (P : Program) (f : FuncId) (F : Fun) : Prop :=
  ∀ args sub κ r, F args sub κ = some r → ∃ q, κ q = some r ∧ CallSound P f args sub q

def SummSound (P : Program) (S : Summ) : Prop := ∀ f F, S f = some F → FunSound P f F

theorem reach_nodup {get : Get} : ∀ {n : Nat} {todo seen ids : List Nat}, reach get n todo seen = some ids → seen.Nodup → ids.Nodup
  | 0, _, _, _, h, _ => by simp [reach] at h
  | n + 1, [], seen, ids, h, hs => by simp [reach] at h; subst h; exact hs
  | n + 1, x :: r, seen, ids, h, hs => by
    simp only [reach] at h
    split at h
    · exact reach_nodup h hs
    · rename_i hc
      refine reach_nodup h ?_
      rw [List.nodup_append]
      refine ⟨hs, by simp, fun a ha b hb => ?_⟩
      simp at hb
      subst hb
      intro e
      subst e
      simp at hc
      exact hc ha

theorem subRen_spec {σ : Ren} {get : Get} : ∀ {ids : List Nat} {sub : List (Option Block)}, subRen σ get ids = some sub → LR (fun i b => oblkRen σ (get i) = some b) ids sub
  | [], sub, h => by simp [subRen] at h; subst h; exact LR.nil
  | i :: r, sub, h => by
    simp only [subRen] at h
    split at h
    · rename_i b l hb hl
      injection h with h; subst h
      exact LR.cons hb (subRen_spec hl)
    · cases h

theorem backNew_spec {σ : Ren} : ∀ {l : List (Option (Option Block))} {news : List (Option Block)}, backNew σ l = some news → LR (fun (x : Option (Option Block)) (y : Option Block) => oblkRen σ x.join = some y) l news
  | [], news, h => by simp [backNew] at h; subst h; exact LR.nil
  | none :: r, news, h => by
    simp only [backNew] at h
    split at h
    · rename_i l hl; injection h with h; subst h; exact LR.cons rfl (backNew_spec hl)
    · cases h
  | some b :: r, news, h => by
    simp only [backNew] at h
    split at h
    · rename_i b' l hb hl; injection h with h; subst h; exact LR.cons hb (backNew_spec hl)
    · cases h

/-- What the table of turned blocks holds: names of the list alone, each with what became of it. -/
theorem backOld_spec {σ : Ren} : ∀ {ids : List Nat} {blks : List (Option (Option Block))} {upd : List (Nat × Option Block)}, backOld σ ids blks = some upd → ids.Nodup →
    (∀ (p i : Nat), ids[p]? = some i → ∀ x, (blks[p]?).join = some x → ∃ y, lookupU upd i = some y ∧ oblkRen σ x = some y) ∧ (∀ (p i : Nat), ids[p]? = some i → (blks[p]?).join = none → lookupU upd i = none) ∧ (∀ i, i ∉ ids → lookupU upd i = none)
  | [], blks, upd, h, _ => by
    simp only [backOld, Option.some.injEq] at h; subst h
    exact ⟨fun p i hi => by simp at hi, fun p i hi => by simp at hi, fun i _ => rfl⟩
  | i :: ids, [], upd, h, _ => by simp [backOld] at h
  | i :: ids, none :: r, upd, h, hn => by
    simp only [backOld] at h
    obtain ⟨hi, hn'⟩ := List.nodup_cons.1 hn
    obtain ⟨h1, h2, h3⟩ := backOld_spec h hn'
    refine ⟨fun p j hj x hx => ?_, fun p j hj hx => ?_, fun j hj => h3 j (fun h => hj (by simp [h]))⟩
    · cases p with
      | zero => simp at hx
      | succ p => exact h1 p j (by simpa using hj) x (by simpa using hx)
    · cases p with
      | zero => simp at hj; subst hj; exact h3 _ hi
      | succ p => exact h2 p j (by simpa using hj) (by simpa using hx)
  | i :: ids, some b :: r, upd, h, hn => by
    simp only [backOld] at h
    split at h
    · rename_i b' l hb hl
      injection h with h; subst h
      obtain ⟨hi, hn'⟩ := List.nodup_cons.1 hn
      obtain ⟨h1, h2, h3⟩ := backOld_spec hl hn'
      have hne : ∀ (p j : Nat), ids[p]? = some j → i ≠ j := fun p j hj e => hi (by subst e; exact List.mem_of_getElem? hj)
      refine ⟨fun p j hj x hx => ?_, fun p j hj hx => ?_, fun j hj => ?_⟩
      · cases p with
        | zero =>
          simp at hj hx; subst hj hx
          exact ⟨b', by simp [lookupU, h3 _ hi], hb⟩
        | succ p =>
          obtain ⟨y, hy, ho⟩ := h1 p j (by simpa using hj) x (by simpa using hx)
          exact ⟨y, by simp [lookupU, hy], ho⟩
      · cases p with
        | zero => simp at hx
        | succ p =>
          have := h2 p j (by simpa using hj) (by simpa using hx)
          simp [lookupU, this, hne p j (by simpa using hj)]
      · have := h3 j (fun h => hj (by simp [h]))
        simp only [lookupU, this]
        rw [if_neg (fun e => hj (by simp [e]))]
    · cases h

/- A walker of Go functions over data: a call is right if the callee is. -/
theorem posOf_spec {ids : List Nat} {i p : Nat} (h : posOf ids i = some p) : ids[p]? = some i := by
  unfold posOf at h
  rw [List.idxOf?_eq_some_iff] at h
  obtain ⟨hl, he, _⟩ := h
  rw [List.getElem?_eq_getElem hl]
  simpa using he

/-- What a call of a function does, seen from who calls. -/
theorem callF_sound {P : Program} {f : FuncId} {F : Fun} (hF : FunSound P f F) {args : List AV} {g : Get} {nx : Nat} {κ : Eff → Option Res} {r : Res} (h : callF F args g nx κ = some r) :
    ∃ E, κ E = some r ∧ ∀ (g' : Get) (ρ : Rho) (w : World) (cargs : Array Value), (∀ i, i ∈ E.rd → g' i = g i) → LR (AR ρ) args cargs.toList → Inv ρ g' w → (∀ i, nx ≤ i → ρ i = none ∨ nx + E.news.length ≤ i) →
      Calls P f cargs w fun e w' => ∃ cv ρ', e = .returned cv ∧ Aft ρ g' w nx E ρ' w' cv := by
  unfold callF at h
  split at h
  · cases h
  · rename_i ids hids
    have hnd := reach_nodup hids List.nodup_nil
    rw [forceNats_eq] at h
    split at h
    · rename_i args' sub hargs hsub
      obtain ⟨q, hq, hcs⟩ := hF _ _ _ _ h
      obtain ⟨qv, qb⟩ := q
      simp only at hq
      split at hq
      · rename_i v upd news hv hupd hnews
        refine ⟨_, hq, fun g' ρ w cargs hg hargs' hi hf => ?_⟩
        simp only at hg hf
        have hsubs := subRen_spec hsub
        have hlen : ids.length = sub.length := hsubs.1
        -- the callee's places
        let ρs : Rho := fun p => (ids[p]?).bind ρ
        have hρs : ∀ (p i : Nat), ids[p]? = some i → ρs p = ρ i := fun p i hp => by simp [ρs, hp]
        have hfit : Fits (posOf ids) ρ ρs := fun i p hp r hr => by rw [hρs p i (posOf_spec hp)]; exact hr
        have hfitb : FitsBack (posOf ids) ρ ρs := fun i p hp r hr => by rw [hρs p i (posOf_spec hp)] at hr; exact hr
        have hsubg : ∀ (p : Nat) (b : Block), subGet sub p = some b → ∃ i b0, ids[p]? = some i ∧ g' i = some b0 ∧ b0.ro = b.ro ∧ b0.d.ren (posOf ids) = some b.d := by
          intro p b hb
          unfold subGet at hb
          cases hsp : sub[p]? with
          | none => simp [hsp] at hb
          | some x =>
            simp only [hsp, Option.join_some] at hb
            subst hb
            have hlt : p < ids.length := by rw [hlen]; exact getElem?_lt hsp
            obtain ⟨b', hb', ho⟩ := hsubs.2 p _ (List.getElem?_eq_getElem hlt)
            rw [hsp] at hb'; injection hb' with hb'; subst hb'
            obtain ⟨b0, h0, h1, h2⟩ := oblkRen_some ho
            exact ⟨ids[p], b0, List.getElem?_eq_getElem hlt, by rw [hg _ (List.getElem_mem hlt)]; exact h0, h1, h2⟩
        have hsubg' : ∀ (p i : Nat) (b0 : Block), ids[p]? = some i → g' i = some b0 → ∃ b, subGet sub p = some b ∧ b0.ro = b.ro ∧ b0.d.ren (posOf ids) = some b.d := by
          intro p i b0 hp hb
          obtain ⟨x, hx, ho⟩ := hsubs.2 p i hp
          rw [← hg i (List.mem_of_getElem? hp), hb] at ho
          obtain ⟨b', rfl, h1, h2⟩ := oblkRen_of ho
          exact ⟨b', by simp [subGet, hx], h1, h2⟩
        have hinj : ∀ (p p' i : Nat), ids[p]? = some i → ids[p']? = some i → p = p' := by
          intro p p' i hp hp'
          exact (List.getElem?_inj (getElem?_lt hp) hnd).1 (hp.trans hp'.symm)
        have hisub : Inv ρs (subGet sub) w := by
          refine ⟨fun p b hb => ?_, fun p p' b b' r s hpp hb hb' hr hs hrs hss hro => ?_⟩
          · obtain ⟨i, b0, hp, h0, h1, h2⟩ := hsubg p b hb
            obtain ⟨r, hr, hh⟩ := hi.blk i b0 h0
            exact ⟨r, by rw [hρs p i hp]; exact hr, hh.ren hfit h1 h2⟩
          · obtain ⟨i, b0, hp, h0, h1, _⟩ := hsubg p b hb
            obtain ⟨i', b0', hp', h0', h1', _⟩ := hsubg p' b' hb'
            rw [hρs p i hp] at hr; rw [hρs p' i' hp'] at hs
            exact hi.apart i i' b0 b0' r s (fun e => hpp (hinj p p' i hp (by rw [e]; exact hp'))) h0 h0' hr hs hrs hss (by rw [h1]; exact hro)
        have hfs : ∀ p, sub.length ≤ p → ρs p = none := fun p hp => by simp only [ρs]; rw [List.getElem?_eq_none (by omega)]; rfl
        have hargsR : LR (AR ρs) args' cargs.toList := (avsRen_spec hargs).comp hargs' fun a b c h1 h2 => AR_ren hfit h1 h2
        refine (hcs ρs w cargs hisub hfs hargsR).mono ?_
        rintro e w' ⟨cv, ρs', rfl, post⟩
        have hnl : news.length = qb.length - ids.length := by
          have := (backNew_spec hnews).1
          simp only [List.length_drop] at this
          exact this.symm
        have hql : ids.length ≤ qb.length := by have := post.len; simp only at this; omega
        -- the caller's places behind the call
        let ρ' : Rho := fun i => if nx ≤ i ∧ i < nx + news.length then ρs' (ids.length + (i - nx)) else ρ i
        have hnew : ∀ i, nx ≤ i → i < nx + news.length → ρ i = none := fun i h1 h2 => by rcases hf i h1 with h | h; exact h; omega
        have hle : le ρ ρ' := fun i r hr => by
          show (if nx ≤ i ∧ i < nx + news.length then _ else ρ i) = some r
          rw [if_neg]; exact hr
          intro hc; rw [hnew i hc.1 hc.2] at hr; cases hr
        have hold : ∀ (p i : Nat) (r : Pl), ids[p]? = some i → ρs' p = some r → ρ i = some r ∧ ρ' i = some r := by
          intro p i r hp hr
          have h1 : ρ i = some r := by
            rcases post.dom p r hr with h | h
            · rw [hρs p i hp] at h; exact h
            · have := getElem?_lt hp; omega
          exact ⟨h1, hle i r h1⟩
        have hback : ∀ p i, backOf ids nx p = some i → ∀ r, ρs' p = some r → ρ' i = some r := by
          intro p i hp r hr
          unfold backOf at hp
          split at hp
          · rename_i j hj
            injection hp with hp; subst hp
            exact (hold p j r hj hr).2
          · rename_i hj
            injection hp with hp; subst hp
            have hge : ids.length ≤ p := by
              rcases Nat.lt_or_ge p ids.length with h | h
              · rw [List.getElem?_eq_getElem h] at hj; cases hj
              · exact h
            have hlt : p < qb.length := by
              rcases post.dom p r hr with h | h
              · rw [hfs p (by omega)] at h; cases h
              · exact h.2
            show (if nx ≤ nx + (p - ids.length) ∧ nx + (p - ids.length) < nx + news.length then ρs' (ids.length + (nx + (p - ids.length) - nx)) else ρ _) = some r
            rw [if_pos (by omega), show ids.length + (nx + (p - ids.length) - nx) = p from by omega]; exact hr
        have hfit2 : Fits (backOf ids nx) ρs' ρ' := hback
        have hfitb2 : FitsBack (posOf ids) ρ' ρs' := fun i p hp r hr => (hold p i r (posOf_spec hp) hr).2
        obtain ⟨hu1, hu2, hu3⟩ := backOld_spec hupd hnd
        have hns := backNew_spec hnews
        -- whose block is it?
        have hcase : ∀ (i : Nat) (b : Block), updg g' nx ⟨v, upd, ids, news⟩ i = some b →
            (∃ p b1, resGet sub qb p = some b1 ∧ b1.ro = b.ro ∧ (∀ r, ρs' p = some r → ρ' i = some r) ∧ (∀ r, Holds ρs' w' r b1 → Holds ρ' w' r b) ∧ ((nx ≤ i ∧ i < nx + news.length ∧ p = ids.length + (i - nx)) ∨ (¬ (nx ≤ i ∧ i < nx + news.length) ∧ ids[p]? = some i))) ∨
            (i ∉ ids ∧ ¬ (nx ≤ i ∧ i < nx + news.length) ∧ g' i = some b) := by
          intro i b hb
          unfold updg at hb
          simp only at hb
          split at hb
          · rename_i hin
            left
            cases hnk : news[i - nx]? with
            | none => simp [hnk] at hb
            | some x =>
              simp only [hnk, Option.join_some] at hb
              subst hb
              have hlt : i - nx < (qb.drop ids.length).length := by rw [hns.1]; exact getElem?_lt hnk
              obtain ⟨y, hy, ho⟩ := hns.2 (i - nx) _ (List.getElem?_eq_getElem hlt)
              rw [hnk] at hy; injection hy with hy; subst hy
              obtain ⟨b1, h1, h2, h3⟩ := oblkRen_some ho
              refine ⟨ids.length + (i - nx), b1, ?_, h2, fun r hr => ?_, fun r hh => hh.ren hfit2 h2 h3, .inl ⟨hin.1, hin.2, rfl⟩⟩
              · unfold resGet
                have e : qb[ids.length + (i - nx)]? = some ((qb.drop ids.length)[i - nx]'hlt) := by
                  rw [← List.getElem?_drop, List.getElem?_eq_getElem hlt]
                rw [e]
                simp only [Option.join_some]
                cases hx : (qb.drop ids.length)[i - nx] with
                | none => rw [hx] at h1; cases h1
                | some z => rw [hx] at h1; exact h1
              · show (if nx ≤ i ∧ i < nx + news.length then ρs' (ids.length + (i - nx)) else ρ i) = some r
                rw [if_pos hin]; exact hr
          · rename_i hin
            by_cases hm : i ∈ ids
            · left
              obtain ⟨p, hp, rfl⟩ := List.getElem_of_mem hm
              have hpi : ids[p]? = some ids[p] := List.getElem?_eq_getElem hp
              cases hx : (qb[p]?).join with
              | some x =>
                obtain ⟨y, hy, ho⟩ := hu1 p _ hpi x hx
                rw [hy] at hb
                simp only at hb
                subst hb
                obtain ⟨b1, rfl, h2, h3⟩ := oblkRen_some ho
                exact ⟨p, b1, by simp [resGet, hx], h2, fun r hr => (hold p _ r hpi hr).2, fun r hh => hh.ren hfit2 h2 h3, .inr ⟨hin, hpi⟩⟩
              | none =>
                rw [hu2 p _ hpi hx] at hb
                simp only at hb
                obtain ⟨b1, hb1, h2, h3⟩ := hsubg' p _ b hpi hb
                exact ⟨p, b1, by simp [resGet, hx, hb1], h2.symm, fun r hr => (hold p _ r hpi hr).2, fun r hh => hh.renBack hfitb2 h2 h3, .inr ⟨hin, hpi⟩⟩
            · right
              rw [hu3 i hm] at hb
              exact ⟨hm, hin, hb⟩
        have hρ'old : ∀ i, ¬ (nx ≤ i ∧ i < nx + news.length) → ρ' i = ρ i := fun i h => by show (if _ then _ else _) = _; rw [if_neg h]
        have hliveSub : ∀ k, Live ρs (subGet sub) k → ∃ i b r, i ∈ ids ∧ g' i = some b ∧ ρ i = some r ∧ 0 < r.size ∧ r.blk = k := by
          rintro k ⟨p, b, r, hb, hr, hs, rfl⟩
          obtain ⟨i, b0, hp, h0, _, _⟩ := hsubg p b hb
          rw [hρs p i hp] at hr
          exact ⟨i, b0, r, List.mem_of_getElem? hp, h0, hr, hs, rfl⟩
        have hownSub : ∀ k, Own ρs (subGet sub) k → ∃ i b r, i ∈ ids ∧ g' i = some b ∧ b.ro = false ∧ ρ i = some r ∧ 0 < r.size ∧ r.blk = k := by
          rintro k ⟨p, b, r, hb, hro, hr, hs, rfl⟩
          obtain ⟨i, b0, hp, h0, h1, _⟩ := hsubg p b hb
          rw [hρs p i hp] at hr
          exact ⟨i, b0, r, List.mem_of_getElem? hp, h0, h1.trans hro, hr, hs, rfl⟩
        have houtside : ∀ (i : Nat) (b : Block) (r : Pl), i ∉ ids → g' i = some b → ρ i = some r → 0 < r.size → w'.heap[r.blk]? = w.heap[r.blk]? := by
          intro i b r hm hb hr hs
          obtain ⟨r', hr', hh⟩ := hi.blk i b hb
          rw [hr] at hr'; injection hr' with hr'; subst hr'
          refine post.kept.block _ (hh.lt hs) fun ho => ?_
          obtain ⟨j, c, s, hj, hc, hro, hs', hss, e⟩ := hownSub _ ho
          exact hi.apart j i c b s r (fun e => hm (by rw [← e]; exact hj)) hc hb hs' hr hss hs hro e
        refine ⟨cv, ρ', rfl, ⟨hle, fun i r hr => ?_, AR_ren hfit2 hv post.val, ⟨fun i b hb => ?_, fun i j b c r s hij hb hc hr hs hrs hss hro => ?_⟩, ⟨post.kept.os, post.kept.tape, post.kept.output, post.kept.size, fun k hk hn => post.kept.block k hk fun ho => hn ?_⟩, fun k hk => ?_, fun k hk => ?_⟩⟩
        · by_cases hin : nx ≤ i ∧ i < nx + news.length
          · exact .inr hin
          · rw [hρ'old i hin] at hr; exact .inl hr
        · rcases hcase i b hb with ⟨p, b1, h1, h2, h3, h4, _⟩ | ⟨hm, hin, hgi⟩
          · obtain ⟨r, hr, hh⟩ := post.inv.blk p b1 h1
            exact ⟨r, h3 r hr, h4 r hh⟩
          · obtain ⟨r, hr, hh⟩ := hi.blk i b hgi
            exact ⟨r, hle _ _ hr, hh.keep hle fun hs => houtside i b r hm hgi hr hs⟩
        · rcases hcase i b hb with ⟨p, b1, h1, h2, h3, _, h5⟩ | ⟨hm, hin, hgi⟩
          · obtain ⟨r1, hr1, _⟩ := post.inv.blk p b1 h1
            have := h3 r1 hr1
            rw [hr] at this; injection this with this; subst this
            rcases hcase j c hc with ⟨p', c1, g1, g2, g3, _, g5⟩ | ⟨hm', hin', hgj⟩
            · obtain ⟨s1, hs1, _⟩ := post.inv.blk p' c1 g1
              have := g3 s1 hs1
              rw [hs] at this; injection this with this; subst this
              refine post.inv.apart p p' b1 c1 r s (fun e => ?_) h1 g1 hr1 hs1 hrs hss (by rw [h2]; exact hro)
              subst e
              rcases h5 with ⟨a1, a2, a3⟩ | ⟨a1, a2⟩ <;> rcases g5 with ⟨c1, c2, c3⟩ | ⟨c1, c2⟩
              · omega
              · have := getElem?_lt c2; omega
              · have := getElem?_lt a2; omega
              · rw [a2] at c2; injection c2 with c2; exact hij c2
            · rw [hρ'old j hin'] at hs
              rcases post.own r.blk ⟨p, b1, r, h1, by rw [h2]; exact hro, hr1, hrs, rfl⟩ with ho | ho
              · obtain ⟨k, d, t, hk, hd, hdro, ht, hts, e⟩ := hownSub _ ho
                intro e'
                exact hi.apart k j d c t s (fun e => hm' (by rw [← e]; exact hk)) hd hgj ht hs hts hss hdro (e.trans e')
              · obtain ⟨s1, hs1, hh⟩ := hi.blk j c hgj
                rw [hs] at hs1; injection hs1 with hs1; subst hs1
                have := hh.lt hss; omega
          · rw [hρ'old i hin] at hr
            obtain ⟨r1, hr1, hh⟩ := hi.blk i b hgi
            rw [hr] at hr1; injection hr1 with hr1; subst hr1
            rcases hcase j c hc with ⟨p', c1, g1, g2, g3, _, g5⟩ | ⟨hm', hin', hgj⟩
            · obtain ⟨s1, hs1, _⟩ := post.inv.blk p' c1 g1
              have := g3 s1 hs1
              rw [hs] at this; injection this with this; subst this
              rcases post.live s.blk ⟨p', c1, s, g1, hs1, hss, rfl⟩ with ho | ho
              · obtain ⟨k, d, t, hk, hd, ht, hts, e⟩ := hliveSub _ ho
                rw [← e]
                exact hi.apart i k b d r t (fun e => hm (by rw [e]; exact hk)) hgi hd hr ht hrs hts hro
              · have := hh.lt hrs; omega
            · rw [hρ'old j hin'] at hs
              exact hi.apart i j b c r s hij hgi hgj hr hs hrs hss hro
        · obtain ⟨j, c, s, _, hc, hro, hs', hss, e⟩ := hownSub _ ho
          exact ⟨j, c, s, hc, hro, hs', hss, e⟩
        · obtain ⟨i, b, r, hb, hro, hr, hrs, rfl⟩ := hk
          rcases hcase i b hb with ⟨p, b1, h1, h2, h3, _, _⟩ | ⟨hm, hin, hgi⟩
          · obtain ⟨r1, hr1, _⟩ := post.inv.blk p b1 h1
            have := h3 r1 hr1
            rw [hr] at this; injection this with this; subst this
            rcases post.own r.blk ⟨p, b1, r, h1, by rw [h2]; exact hro, hr1, hrs, rfl⟩ with ho | ho
            · obtain ⟨j, c, s, _, hc, hro, hs', hss, e⟩ := hownSub _ ho
              exact .inl ⟨j, c, s, hc, hro, hs', hss, e⟩
            · exact .inr ho
          · rw [hρ'old i hin] at hr
            exact .inl ⟨i, b, r, hgi, hro, hr, hrs, rfl⟩
        · obtain ⟨i, b, r, hb, hr, hrs, rfl⟩ := hk
          rcases hcase i b hb with ⟨p, b1, h1, h2, h3, _, _⟩ | ⟨hm, hin, hgi⟩
          · obtain ⟨r1, hr1, _⟩ := post.inv.blk p b1 h1
            have := h3 r1 hr1
            rw [hr] at this; injection this with this; subst this
            rcases post.live r.blk ⟨p, b1, r, h1, hr1, hrs, rfl⟩ with ho | ho
            · obtain ⟨j, c, s, _, hc, hs', hss, e⟩ := hliveSub _ ho
              exact .inl ⟨j, c, s, hc, hs', hss, e⟩
            · exact .inr ho
          · rw [hρ'old i hin] at hr
            exact .inl ⟨i, b, r, hgi, hr, hrs, rfl⟩
      · cases hq
    · cases h

/- A walker of Go functions over data: operations in a row. -/
/-- A function that is entered when it is called. -/
def Enters (P : Program) (f : FuncId) : Prop := ∃ fn c, P.funcs[f]? = some fn ∧ fn.body = some c ∧ fn.name ≠ "runtime.NumGoroutine"

def SummOk (P : Program) (S : Summ) : Prop := ∀ f F, S f = some F → FunSound P f F ∧ Enters P f

theorem opC_sound {P : Program} {S : Summ} (hS : SummOk P S) {o : Oper} {ev : Operand → Option AV} {g : Get} {nx : Nat} {κ : Eff → Option Res} {r : Res} (h : opC P S o ev g nx κ = some r) :
    ∃ E, κ E = some r ∧ OpSound P o ev g nx E := by
  unfold opC at h
  split at h
  · rename_i x args ts ho
    split at h
    · rename_i f cs as hx has
      unfold callC at h
      split at h
      · rename_i F hF
        obtain ⟨hFS, fn, c, hfn, hbody, hname⟩ := hS f F hF
        obtain ⟨E, hE, hcall⟩ := callF_sound hFS h
        refine ⟨E, hE, fun g' ρ w a next Q hg hev hi hf hn => ?_⟩
        have hfx := hev x (by simp [ho, Op.operands, Call.operands]) _ hx
        obtain ⟨vs, hvx, hvs⟩ := hfx
        have hargs := evs_spec has (ρ := ρ) (a := a) (fun y hy => hev y (by simp only [ho, Op.operands, Call.operands, Array.toList_append, List.mem_append]; exact .inr hy))
        have hall : LR (AR ρ) (as ++ cs.map fun l => acv (.ptr l)) (args.map a.eval ++ vs).toList := by
          rw [Array.toList_append, Array.toList_map]
          refine hargs.append ⟨by simpa using hvs.1, fun i v hv => ?_⟩
          simp only [List.getElem?_map, Option.map_eq_some_iff] at hv
          obtain ⟨l, hl, rfl⟩ := hv
          exact hvs.2 i l hl
        have hrun : (execOp a.eval o).run P w = .ok (.enter f (args.map a.eval ++ vs)) w := by
          simp [execOp, ho, resolve, Deferred.ofValue, hvx, invoke, callFunc, hfn, hname, hbody]
        simp only [Oper.wp, hrun, Oper.upon_enter]
        refine (hcall g' ρ w _ hg hall hi hf).mono ?_
        rintro e w' ⟨cv, ρ', rfl, ha⟩
        exact hn cv w' ρ' ha
      · cases h
    · cases h
  · obtain ⟨E, hsel, hE⟩ := Out.run_sel h
    exact ⟨E, hE, astep_sound hsel⟩

/-- An operation, the number of blocks ahead of it, and what it did ('none': its guard passed it over). -/
structure It where
  o : Oper
  nx : Nat
  E : Option Eff

def It.v (it : It) : AV := match it.E with | some E => E.v | none => undefA
def It.news (it : It) : Nat := match it.E with | some E => E.news.length | none => 0

/-- Does the guard let it run? -/
def guardA (all : List Oper) (tmps : List AV) (o : Oper) : Option Bool :=
  match o.guard with
  | none => some true
  | some (j, want) => match (all[j]?).bind (·.dst) with
    | none => none
    | some d => match tmps[d]? with
      | some (.e (.c (.bool b))) => some (b == want)
      | some (.tup []) => some false
      | _ => none

inductive Runs (P : Program) (all : List Oper) : List Oper → St → List It → St → Prop where
  | nil (s : St) : Runs P all [] s [] s
  | did {o : Oper} {r : List Oper} {s s' : St} {E : Eff} {l : List It} (hg : guardA all s.tmps o = some true) (hs : OpSound P o (evv s.tmps) (hget s.heap) s.nx E)
      (hu : ∀ i b, (i, b) ∈ E.upd → i < s.nx) (hr : Runs P all r (s.after o E) l s') : Runs P all (o :: r) s (⟨o, s.nx, some E⟩ :: l) s'
  | skip {o : Oper} {r : List Oper} {s s' : St} {l : List It} (hg : guardA all s.tmps o = some false) (hr : Runs P all r (s.skip o) l s') : Runs P all (o :: r) s (⟨o, s.nx, none⟩ :: l) s'

def It.touch (it : It) : Touch := match it.E with | some E => E.touch it.nx | none => ([], [])

theorem thenC_eq {s : St} {o : Oper} {tr : List Touch} {κ : St → List Touch → Option Res} {E : Eff} {r : Res} (h : thenC s o tr κ E = some r) :
    (∀ i b, (i, b) ∈ E.upd → i < s.nx) ∧ κ (s.after o E) (E.touch s.nx :: tr) = some r := by
  obtain ⟨v, upd, rd, news⟩ := E
  unfold thenC at h
  simp only at h
  split at h
  · rename_i hall
    simp only [putK_eq, hsetsK_eq, newsK_eq] at h
    refine ⟨fun i b hb => ?_, h⟩
    have := List.all_eq_true.1 hall (i, b) hb
    simpa using this
  · cases h

theorem opsC_runs {P : Program} {S : Summ} (hS : SummOk P S) {all : List Oper} : ∀ {ops : List Oper} {tr : List Touch} {s : St} {κ : St → List Touch → Option Res} {r : Res}, opsC P S all ops tr s κ = some r →
    ∃ l s', Runs P all ops s l s' ∧ κ s' ((l.map It.touch).reverse ++ tr) = some r
  | [], tr, s, κ, r, h => ⟨[], s, .nil s, by simpa [opsC] using h⟩
  | o :: ops, tr, s, κ, r, h => by
    have run : ∀ {s0 : St}, s0 = s → guardA all s.tmps o = some true → opC P S o (evv s0.tmps) (hget s0.heap) s0.nx (thenC s0 o tr fun s tr => opsC P S all ops tr s κ) = some r →
        ∃ l s', Runs P all (o :: ops) s l s' ∧ κ s' ((l.map It.touch).reverse ++ tr) = some r := by
      intro s0 hs0 hgu hh
      rw [hs0] at hh
      obtain ⟨E, hE, hsound⟩ := opC_sound hS hh
      obtain ⟨hu, hκ⟩ := thenC_eq hE
      obtain ⟨l, s', hr, hk⟩ := opsC_runs hS hκ
      exact ⟨_, s', .did hgu hsound hu hr, by simpa [It.touch] using hk⟩
    have skp : ∀ {s0 : St}, s0 = s → guardA all s.tmps o = some false → skipC s0 o tr (fun s tr => opsC P S all ops tr s κ) = some r →
        ∃ l s', Runs P all (o :: ops) s l s' ∧ κ s' ((l.map It.touch).reverse ++ tr) = some r := by
      intro s0 hs0 hgu hh
      rw [hs0] at hh
      unfold skipC at hh
      rw [putK_eq] at hh
      obtain ⟨l, s', hr, hk⟩ := opsC_runs hS hh
      exact ⟨_, s', .skip hgu hr, by simpa [It.touch] using hk⟩
    simp only [opsC] at h
    split at h
    · rename_i hg
      exact run rfl (by simp [guardA, hg]) h
    · rename_i j want hg
      split at h
      · cases h
      · rename_i d hd
        split at h
        · rename_i b hb
          have hsame : ∀ (x : Bool), x = b → ({ tmps := s.tmps.set d (acv (.bool x)), heap := s.heap, nx := s.nx } : St) = s := by
            intro x hx
            subst hx
            have : s.tmps.set d (acv (.bool x)) = s.tmps := set_same hb
            rw [this]
          split at h
          · rw [setK_eq] at h
            split at h
            · exact run (hsame true rfl) (by simp [guardA, hg, hd, hb]) h
            · exact skp (hsame true rfl) (by simp [guardA, hg, hd, hb]) h
          · rw [setK_eq] at h
            split at h
            · exact skp (hsame false rfl) (by simp [guardA, hg, hd, hb]) h
            · exact run (hsame false rfl) (by simp [guardA, hg, hd, hb]) h
        · rename_i hb
          exact skp rfl (by simp [guardA, hg, hd, hb]) h
        · cases h

/-- What is known of memory all the while. -/
structure Prog (n : Nat) (ρ : Rho) (g : Get) (w : World) (ρ' : Rho) (g' : Get) (w' : World) : Prop where
  ext : le ρ ρ'
  kept : Kept (Own ρ g) w w'
  own : ∀ k, Own ρ' g' k → Own ρ g k ∨ w.heap.size ≤ k
  live : ∀ k, Live ρ' g' k → Live ρ g k ∨ w.heap.size ≤ k
  dom : ∀ i r, ρ' i = some r → ρ i = some r ∨ n ≤ i

theorem Prog.refl (n : Nat) (ρ : Rho) (g : Get) (w : World) : Prog n ρ g w ρ g w := ⟨le.refl _, Kept.refl _ _, fun _ h => .inl h, fun _ h => .inl h, fun _ _ h => .inl h⟩

theorem Prog.trans {n m : Nat} {ρ1 ρ2 ρ3 : Rho} {g1 g2 g3 : Get} {w1 w2 w3 : World} (h : Prog n ρ1 g1 w1 ρ2 g2 w2) (k : Prog m ρ2 g2 w2 ρ3 g3 w3) (hnm : n ≤ m) : Prog n ρ1 g1 w1 ρ3 g3 w3 :=
  ⟨h.ext.trans k.ext, h.kept.trans k.kept h.own, fun b hb => (k.own b hb).elim (h.own b) (fun e => .inr (Nat.le_trans h.kept.size e)), fun b hb => (k.live b hb).elim (h.live b) (fun e => .inr (Nat.le_trans h.kept.size e)), fun i r hr => (k.dom i r hr).elim (h.dom i r) (fun e => .inr (Nat.le_trans hnm e))⟩

theorem Aft.prog {ρ : Rho} {g : Get} {w : World} {nx : Nat} {E : Eff} {ρ' : Rho} {w' : World} {cv : Value} (h : Aft ρ g w nx E ρ' w' cv) : Prog nx ρ g w ρ' (updg g nx E) w' := ⟨h.ext, h.kept, h.own, h.live, fun i r hr => (h.dom i r hr).imp (fun h => h) (fun h => h.1)⟩

/-- How a frame and a world stand to data. -/
structure SR (ρ : Rho) (s : St) (a : Act) (w : World) : Prop where
  tmp : ∀ t v, s.tmps[t]? = some v → AR ρ v (a.tmps.getD t undef)
  len : s.tmps.length = a.tmps.size
  def_ : a.defers = []
  inv : Inv ρ (hget s.heap) w
  nx : s.nx = s.heap.length
  fresh : ∀ i, s.nx ≤ i → ρ i = none

theorem hsets_len : ∀ {u : List (Nat × Option Block)} {h : Heap}, (hsets h u).length = h.length
  | [], h => rfl
  | (i, b) :: r, h => by simp [hsets, hsets_len]

theorem hsets_get : ∀ {u : List (Nat × Option Block)} {h : Heap} (i : Nat), (∀ j b, (j, b) ∈ u → j < h.length) → hget (hsets h u) i = match lookupU u i with | some b => b | none => hget h i
  | [], h, i, _ => rfl
  | (j, b) :: r, h, i, hu => by
    have hj := hu j b (by simp)
    rw [hsets, hsets_get i (fun k c hk => by rw [List.length_set]; exact hu k c (by simp [hk]))]
    simp only [lookupU]
    cases hl : lookupU r i with
    | some x => rfl
    | none =>
      simp only [hget, List.getElem?_set]
      by_cases e : j = i
      · subst e; simp [hj]
      · simp [e]

theorem happ_get {h : Heap} {E : Eff} (hu : ∀ i b, (i, b) ∈ E.upd → i < h.length) : hget (happ h E) = updg (hget h) h.length E := by
  funext i
  unfold happ updg
  by_cases hi : i < h.length
  · rw [if_neg (by omega)]
    have := hsets_get (u := E.upd) (h := h) i hu
    unfold hget at this ⊢
    rw [List.getElem?_append_left (by rw [hsets_len]; exact hi)]
    exact this
  · have hr : (hsets h E.upd ++ E.news.map fun b => (true, b))[i]? = (E.news[i - h.length]?).map fun b => (true, b) := by
      rw [List.getElem?_append_right (by rw [hsets_len]; omega), hsets_len, List.getElem?_map]
    by_cases h2 : i < h.length + E.news.length
    · rw [if_pos ⟨by omega, h2⟩]
      unfold hget
      rw [hr]
      rw [List.getElem?_eq_getElem (show i - h.length < E.news.length by omega)]
      rfl
    · rw [if_neg (by omega)]
      unfold hget
      rw [hr, List.getElem?_eq_none (by omega), List.getElem?_eq_none (by omega)]
      have : lookupU E.upd i = none := by
        have gen : ∀ (u : List (Nat × Option Block)), (∀ j b, (j, b) ∈ u → j < h.length) → lookupU u i = none := by
          intro u
          induction u with
          | nil => intro _; rfl
          | cons x r ih =>
            intro hx
            obtain ⟨j, b⟩ := x
            have := hx j b (by simp)
            simp only [lookupU, ih (fun k c hk => hx k c (by simp [hk]))]
            rw [if_neg (by omega)]
        exact gen _ hu
      rw [this]; rfl

theorem happ_len {h : Heap} {E : Eff} : (happ h E).length = h.length + E.news.length := by
  simp [happ, hsets_len]

theorem put_tmps {a : Act} {d : Option Tmp} {v : Value} : (a.put d v).tmps = match d with | some d => a.tmps.setIfInBounds d v | none => a.tmps := by
  cases d <;> rfl

theorem put_defers {a : Act} {d : Option Tmp} {v : Value} : (a.put d v).defers = a.defers := by cases d <;> rfl

theorem putT_len {l : List AV} {d : Option Tmp} {v : AV} : (putT l d v).length = l.length := by cases d <;> simp [putT]

theorem getD_some {c : Array Value} {t : Nat} (h : t < c.size) : c.getD t undef = c[t] := by simp [Array.getD, h]

theorem getD_opt {c : Array Value} {t : Nat} : c.getD t undef = (c[t]?).getD undef := by
  simp [Array.getD]; split <;> simp_all

theorem put_rel {ρ : Rho} {l : List AV} {a : Act} {d : Option Tmp} {v : AV} {cv : Value} (h : ∀ t u, l[t]? = some u → AR ρ u (a.tmps.getD t undef)) (hl : l.length = a.tmps.size) (hv : AR ρ v cv) :
    ∀ t u, (putT l d v)[t]? = some u → AR ρ u ((a.put d cv).tmps.getD t undef) := by
  intro t u hu
  rw [put_tmps]
  cases d with
  | none => exact h t u hu
  | some d =>
    simp only [putT, List.getElem?_set] at hu
    simp only [getD_opt, Array.getElem?_setIfInBounds]
    by_cases e : d = t
    · subst e
      by_cases hd : d < l.length
      · rw [if_pos rfl, if_pos hd] at hu
        injection hu with hu; subst hu
        rw [if_pos rfl, if_pos (by rw [← hl]; exact hd)]; exact hv
      · rw [if_pos rfl, if_neg hd] at hu; cases hu
    · rw [if_neg e] at hu
      have := h t u hu
      rw [getD_opt] at this
      rw [if_neg e]; exact this

theorem SR.after {ρ ρ' : Rho} {s : St} {a : Act} {w w' : World} {o : Oper} {E : Eff} {cv : Value} (h : SR ρ s a w) (hu : ∀ i b, (i, b) ∈ E.upd → i < s.nx) (ha : Aft ρ (hget s.heap) w s.nx E ρ' w' cv) : SR ρ' (s.after o E) (a.put o.dst cv) w' := by
  refine ⟨put_rel (fun t u hu => (h.tmp t u hu).mono ha.ext) h.len ha.val, ?_, by rw [put_defers]; exact h.def_, ?_, ?_, fun i hi => ?_⟩
  · simp only [St.after, putT_len, put_tmps]
    rw [h.len]; cases o.dst <;> simp
  · simp only [St.after]
    rw [happ_get (by rw [← h.nx]; exact hu), ← h.nx]
    exact ha.inv
  · simp only [St.after, happ_len, h.nx]
  · simp only [St.after] at hi
    cases hr : ρ' i with
    | none => rfl
    | some r =>
      rcases ha.dom i r hr with h1 | h1
      · rw [h.fresh i (by omega)] at h1; cases h1
      · omega

theorem SR.skip {ρ : Rho} {s : St} {a : Act} {w : World} {o : Oper} (h : SR ρ s a w) : SR ρ (s.skip o) (a.put o.dst undef) w := by
  refine ⟨put_rel h.tmp h.len ⟨#[], rfl, LR.nil⟩, ?_, by rw [put_defers]; exact h.def_, h.inv, h.nx, h.fresh⟩
  simp only [St.skip, putT_len, put_tmps]
  rw [h.len]; cases o.dst <;> simp

theorem guard_wanted {ρ : Rho} {all : List Oper} {s : St} {a : Act} {o : Oper} {b : Bool} (h : ∀ t v, s.tmps[t]? = some v → AR ρ v (a.tmps.getD t undef)) (hl : s.tmps.length = a.tmps.size) (hg : guardA all s.tmps o = some b) :
    Region.wanted o (yielded all.toArray a.tmps) = b := by
  unfold guardA at hg
  unfold Region.wanted
  split at hg
  · rename_i hn; rw [hn]; injection hg
  · rename_i j want hn
    rw [hn]
    simp only
    split at hg
    · cases hg
    · rename_i d hd
      have hyield : ∀ {v : AV}, s.tmps[d]? = some v → yielded all.toArray a.tmps j = match a.tmps.getD d undef with | .bool b => some b | _ => none := by
        intro v hv
        have hlt : d < a.tmps.size := by rw [← hl]; exact getElem?_lt hv
        unfold yielded
        rw [List.getElem?_toArray, hd]
        simp only [Option.bind_some, Array.getElem?_eq_getElem hlt, getD_some hlt]
        split <;> rename_i hx
        · injection hx with hx; rw [hx]
        · split
          · rename_i b' hb'; exact absurd (by rw [hb']) (hx b')
          · rfl
      split at hg
      · rename_i x hx
        injection hg with hg; subst hg
        rw [hyield hx]
        have := h d _ hx
        simp only [AR, ER, CR] at this
        rw [this]
        cases x <;> cases want <;> rfl
      · rename_i hx
        injection hg with hg; subst hg
        rw [hyield hx]
        obtain ⟨vs, hvs, _⟩ := h d _ hx
        rw [hvs]; rfl
      · cases hg

/-- Operations in the order of the text. -/
theorem runs_wp {P : Program} {all : List Oper} {Q : Exit → Act → World → Prop} : ∀ {ops : List Oper} {s : St} {l : List It} {s' : St}, Runs P all ops s l s' → ∀ (k : Nat) (ρ : Rho) (a : Act) (w : World), (∀ i, ops[i]? = all[k + i]?) →
    SR ρ s a w → (∀ ρ' a' w', SR ρ' s' a' w' → Prog s.nx ρ (hget s.heap) w ρ' (hget s'.heap) w' → Q .normal a' w') → wpOps P all.toArray Q (List.range' k ops.length) a w := by
  intro ops s l s' h
  induction h with
  | nil s => intro k ρ a w hk hs hq; exact hq ρ a w hs (Prog.refl _ _ _ _)
  | @did o r s s' E l hg hsnd hu hr ih =>
    intro k ρ a w hk hs hq
    have ho : all.toArray[k]? = some o := by rw [List.getElem?_toArray]; have := hk 0; simpa using this.symm
    have hw := guard_wanted hs.tmp hs.len hg
    simp only [List.length_cons, List.range'_succ, wpOps, ho, hw, if_true]
    refine .inl (hsnd (hget s.heap) ρ w a _ Q (fun _ _ => rfl) (fun x _ v hv => evv_AR hs.tmp x v hv) hs.inv (fun i hi => .inl (hs.fresh i hi)) fun cv w' ρ' ha => ?_)
    have hs' := hs.after (o := o) hu ha
    refine ih (k + 1) ρ' _ w' (fun i => by have := hk (i + 1); simpa [Nat.add_assoc, Nat.add_comm 1] using this) hs' fun ρ2 a2 w2 h2 hp => hq ρ2 a2 w2 h2 (Prog.trans ?_ hp (by simp [St.after]))
    have := ha.prog
    have e : updg (hget s.heap) s.nx E = hget (s.after o E).heap := by
      show _ = hget (happ s.heap E)
      rw [happ_get (by rw [← hs.nx]; exact hu), hs.nx]
    rw [e] at this
    exact this
  | @skip o r s s' l hg hr ih =>
    intro k ρ a w hk hs hq
    have ho : all.toArray[k]? = some o := by rw [List.getElem?_toArray]; have := hk 0; simpa using this.symm
    have hw := guard_wanted hs.tmp hs.len hg
    simp only [List.length_cons, List.range'_succ, wpOps, ho, hw, Bool.false_eq_true, if_false]
    exact ih (k + 1) ρ _ w (fun i => by have := hk (i + 1); simpa [Nat.add_assoc, Nat.add_comm 1] using this) hs.skip hq

/- A walker of Go functions over data: regions that draw their order. -/
abbrev Sem2 := (Nat → Option AV) × Get

def app1 (n : Nat) (x : Sem2) (it : It) : Sem2 :=
  (fun t => if it.o.dst = some t ∧ t < n then some it.v else x.1 t, match it.E with | some E => updg x.2 it.nx E | none => x.2)

def foldL (n : Nat) (L : Nat → Bool) : List It → Nat → Sem2 → Sem2
  | [], _, x => x
  | it :: r, k, x => foldL n L r (k + 1) (if L k then app1 n x it else x)

def toSem (s : St) : Sem2 := (fun t => s.tmps[t]?, hget s.heap)

theorem lookupU_none {u : List (Nat × Option Block)} {i : Nat} : lookupU u i = none ↔ i ∉ u.map (·.1) := by
  induction u with
  | nil => simp [lookupU]
  | cons x r ih =>
    obtain ⟨j, b⟩ := x
    simp only [lookupU, List.map_cons, List.mem_cons, not_or]
    cases h : lookupU r i with
    | some y =>
      rw [h] at ih
      simp at ih ⊢
      intro _; exact ih
    | none =>
      rw [h] at ih
      simp only [true_iff] at ih
      by_cases e : j = i
      · subst e; simp
      · simp only [if_neg e, true_iff]
        exact ⟨fun h => e h.symm, ih⟩

def It.wrs (it : It) : List Nat := it.touch.2
def It.rds (it : It) : List Nat := it.touch.1

theorem wrs_some {o : Oper} {nx : Nat} {E : Eff} {i : Nat} : i ∈ (It.wrs ⟨o, nx, some E⟩) ↔ i ∈ E.upd.map (·.1) ∨ (nx ≤ i ∧ i < nx + E.news.length) := by
  simp only [It.wrs, It.touch, Eff.touch, List.mem_append]
  constructor
  · rintro (h | h)
    · exact .inl h
    · simp only [List.mem_map, List.mem_range] at h
      obtain ⟨k, hk, rfl⟩ := h
      exact .inr (by omega)
  · rintro (h | h)
    · exact .inl h
    · right
      simp only [List.mem_map, List.mem_range]
      exact ⟨i - nx, by omega, by omega⟩

theorem app1_g_not {n : Nat} {x : Sem2} {it : It} {i : Nat} (h : i ∉ it.wrs) : (app1 n x it).2 i = x.2 i := by
  obtain ⟨o, nx, E⟩ := it
  cases E with
  | none => rfl
  | some E =>
    rw [wrs_some] at h
    simp only [not_or] at h
    simp only [app1, updg]
    rw [if_neg h.2, lookupU_none.2 h.1]

theorem app1_g_in {n : Nat} {x y : Sem2} {it : It} {i : Nat} (h : i ∈ it.wrs) : (app1 n x it).2 i = (app1 n y it).2 i := by
  obtain ⟨o, nx, E⟩ := it
  cases E with
  | none => simp [It.wrs, It.touch] at h
  | some E =>
    rw [wrs_some] at h
    simp only [app1, updg]
    split
    · rfl
    · rename_i hn
      have hm := h.resolve_right hn
      cases hl : lookupU E.upd i with
      | some b => rfl
      | none => exact absurd hm (lookupU_none.1 hl)

theorem foldL_T {n : Nat} {L M : Nat → Bool} {t : Nat} : ∀ {l : List It} {k : Nat} {x y : Sem2}, x.1 t = y.1 t → (∀ (i : Nat) (it : It), l[i]? = some it → L (k + i) ≠ M (k + i) → it.o.dst ≠ some t) → (foldL n L l k x).1 t = (foldL n M l k y).1 t
  | [], k, x, y, hxy, _ => hxy
  | it :: r, k, x, y, hxy, h => by
    simp only [foldL]
    refine foldL_T ?_ (fun i it' hi hne => h (i + 1) it' (by simpa using hi) (by rw [show k + (i + 1) = k + 1 + i from by omega]; exact hne))
    have h0 := h 0 it rfl
    simp only [Nat.add_zero] at h0
    cases hl : L k <;> cases hm : M k <;> simp only [Bool.false_eq_true, if_false, if_true]
    · exact hxy
    · have := h0 (by rw [hl, hm]; simp)
      simp only [app1]; rw [if_neg (fun c => this c.1)]; exact hxy
    · have := h0 (by rw [hl, hm]; simp)
      simp only [app1]; rw [if_neg (fun c => this c.1)]; exact hxy
    · simp only [app1]; split
      · rfl
      · exact hxy

theorem foldL_G {n : Nat} {L M : Nat → Bool} {t : Nat} : ∀ {l : List It} {k : Nat} {x y : Sem2}, x.2 t = y.2 t → (∀ (i : Nat) (it : It), l[i]? = some it → L (k + i) ≠ M (k + i) → t ∉ it.wrs) → (foldL n L l k x).2 t = (foldL n M l k y).2 t
  | [], k, x, y, hxy, _ => hxy
  | it :: r, k, x, y, hxy, h => by
    simp only [foldL]
    refine foldL_G ?_ (fun i it' hi hne => h (i + 1) it' (by simpa using hi) (by rw [show k + (i + 1) = k + 1 + i from by omega]; exact hne))
    have h0 := h 0 it rfl
    simp only [Nat.add_zero] at h0
    cases hl : L k <;> cases hm : M k <;> simp only [Bool.false_eq_true, if_false, if_true]
    · exact hxy
    · rw [app1_g_not (h0 (by rw [hl, hm]; simp))]; exact hxy
    · rw [app1_g_not (h0 (by rw [hl, hm]; simp))]; exact hxy
    · by_cases hw : t ∈ it.wrs
      · exact app1_g_in hw
      · rw [app1_g_not hw, app1_g_not hw]; exact hxy

theorem foldL_none {n : Nat} {L : Nat → Bool} : ∀ {l : List It} {k : Nat} {x : Sem2}, (∀ i, k ≤ i → L i = false) → foldL n L l k x = x
  | [], _, _, _ => rfl
  | it :: r, k, x, h => by
    simp only [foldL, h k (Nat.le_refl _), Bool.false_eq_true, if_false]
    exact foldL_none fun i hi => h i (by omega)

theorem foldL_lastT {n : Nat} {L : Nat → Bool} {t : Nat} {it : It} : ∀ {l : List It} {k j : Nat} {x : Sem2}, l[j]? = some it → L (k + j) = true → it.o.dst = some t → t < n →
    (∀ (i : Nat) (it' : It), l[i]? = some it' → j < i → L (k + i) = true → it'.o.dst ≠ some t) → (foldL n L l k x).1 t = some it.v
  | [], k, j, x, hj, _, _, _, _ => by simp at hj
  | it' :: r, k, 0, x, hj, hL, hd, ht, h => by
    simp at hj; subst hj
    simp only [Nat.add_zero] at hL
    simp only [foldL, hL, if_true]
    rw [foldL_T (M := fun _ => false) (y := app1 n x it') rfl (fun i it2 hi hne => h (i + 1) it2 (by simpa using hi) (by omega) (by rw [show k + (i + 1) = k + 1 + i from by omega]; simpa using hne)), foldL_none (fun _ _ => rfl)]
    simp only [app1]; rw [if_pos ⟨hd, ht⟩]
  | it' :: r, k, j + 1, x, hj, hL, hd, ht, h => by
    simp only [foldL]
    exact foldL_lastT (j := j) (by simpa using hj) (by rw [show k + 1 + j = k + (j + 1) from by omega]; exact hL) hd ht (fun i it2 hi hji hl => h (i + 1) it2 (by simpa using hi) (by omega) (by rw [show k + (i + 1) = k + 1 + i from by omega]; exact hl))

theorem foldL_lastG {n : Nat} {L : Nat → Bool} {t : Nat} {it : It} {y : Sem2} : ∀ {l : List It} {k j : Nat} {x : Sem2}, l[j]? = some it → L (k + j) = true → t ∈ it.wrs →
    (∀ (i : Nat) (it' : It), l[i]? = some it' → j < i → L (k + i) = true → t ∉ it'.wrs) → (foldL n L l k x).2 t = (app1 n y it).2 t
  | [], k, j, x, hj, _, _, _ => by simp at hj
  | it' :: r, k, 0, x, hj, hL, hd, h => by
    simp at hj; subst hj
    simp only [Nat.add_zero] at hL
    simp only [foldL, hL, if_true]
    rw [foldL_G (M := fun _ => false) (y := app1 n x it') rfl (fun i it2 hi hne => h (i + 1) it2 (by simpa using hi) (by omega) (by rw [show k + (i + 1) = k + 1 + i from by omega]; simpa using hne)), foldL_none (fun _ _ => rfl)]
    exact app1_g_in hd
  | it' :: r, k, j + 1, x, hj, hL, hd, h => by
    simp only [foldL]
    exact foldL_lastG (j := j) (by simpa using hj) (by rw [show k + 1 + j = k + (j + 1) from by omega]; exact hL) hd (fun i it2 hi hji hl => h (i + 1) it2 (by simpa using hi) (by omega) (by rw [show k + (i + 1) = k + 1 + i from by omega]; exact hl))

/-- One more operation, in the fold. -/
theorem foldL_more {n : Nat} {L L' : Nat → Bool} {l : List It} {x : Sem2} {j : Nat} {it : It} (hj : l[j]? = some it) (hL : L j = false) (hL' : ∀ i, L' i = (L i || i == j))
    (hT : ∀ (i : Nat) (it' : It), l[i]? = some it' → j < i → L i = true → ∀ d, it.o.dst = some d → it'.o.dst ≠ some d)
    (hG : ∀ (i : Nat) (it' : It), l[i]? = some it' → j < i → L i = true → ∀ d, d ∈ it.wrs → d ∉ it'.wrs) :
    (∀ t, (foldL n L' l 0 x).1 t = (app1 n (foldL n L l 0 x) it).1 t) ∧ ∀ t, (foldL n L' l 0 x).2 t = (app1 n (foldL n L l 0 x) it).2 t := by
  have hne : ∀ i, L' (0 + i) ≠ L (0 + i) → i = j := by
    intro i h
    rw [Nat.zero_add, hL'] at h
    by_cases e : i = j
    · exact e
    · exfalso; apply h; simp [e]
  have hLj : L' j = true := by rw [hL']; simp
  refine ⟨fun t => ?_, fun t => ?_⟩
  · by_cases hd : it.o.dst = some t ∧ t < n
    · rw [foldL_lastT (j := j) hj (by rw [Nat.zero_add]; exact hLj) hd.1 hd.2]
      · simp only [app1]; rw [if_pos hd]
      · intro i it' hi hji hl
        rw [Nat.zero_add, hL'] at hl
        have : L i = true := by
          have hb : (i == j) = false := by simp; omega
          simpa [hb] using hl
        exact hT i it' hi hji this t hd.1
    · simp only [app1]; rw [if_neg hd]
      by_cases hd1 : it.o.dst = some t
      · -- out of range: nobody writes there
        have hn : ¬ t < n := fun h => hd ⟨hd1, h⟩
        have key : ∀ (M : Nat → Bool) (l : List It) (k : Nat) (x : Sem2), (foldL n M l k x).1 t = x.1 t := by
          intro M l
          induction l with
          | nil => intro k x; rfl
          | cons a r ih =>
            intro k x
            simp only [foldL]
            rw [ih]
            split
            · simp only [app1]; rw [if_neg (fun c => hn c.2)]
            · rfl
        rw [key, key]
      · refine foldL_T rfl fun i it' hi hne' => ?_
        have := hne i hne'
        subst this
        rw [hj] at hi; injection hi with hi; subst hi; exact hd1
  · by_cases hd : t ∈ it.wrs
    · refine foldL_lastG (j := j) hj (by rw [Nat.zero_add]; exact hLj) hd fun i it' hi hji hl => ?_
      rw [Nat.zero_add, hL'] at hl
      have : L i = true := by
        have hb : (i == j) = false := by simp; omega
        simpa [hb] using hl
      exact hG i it' hi hji this t hd
    · rw [app1_g_not hd]
      refine foldL_G rfl fun i it' hi hne' => ?_
      have := hne i hne'
      subst this
      rw [hj] at hi; injection hi with hi; subst hi; exact hd

theorem toSem_after {s : St} {o : Oper} {E : Eff} (hn : s.nx = s.heap.length) (hu : ∀ i b, (i, b) ∈ E.upd → i < s.nx) : toSem (s.after o E) = app1 s.tmps.length (toSem s) ⟨o, s.nx, some E⟩ := by
  unfold toSem app1
  simp only [St.after, Prod.mk.injEq]
  refine ⟨?_, ?_⟩
  · funext t
    simp only [It.v]
    cases hd : o.dst with
    | none => simp [putT]
    | some d =>
      simp only [putT, List.getElem?_set, Option.some.injEq]
      by_cases e : d = t
      · subst e
        by_cases h : d < s.tmps.length
        · simp [h]
        · simp [h, List.getElem?_eq_none (Nat.le_of_not_lt h)]
      · simp [e]
  · rw [happ_get (by rw [← hn]; exact hu), hn]

theorem toSem_skip {s : St} {o : Oper} : toSem (s.skip o) = app1 s.tmps.length (toSem s) ⟨o, s.nx, none⟩ := by
  unfold toSem app1
  simp only [St.skip, Prod.mk.injEq, and_true]
  funext t
  simp only [It.v]
  cases hd : o.dst with
  | none => simp [putT]
  | some d =>
    simp only [putT, List.getElem?_set, Option.some.injEq]
    by_cases e : d = t
    · subst e
      by_cases h : d < s.tmps.length
      · simp [h]
      · simp [h, List.getElem?_eq_none (Nat.le_of_not_lt h)]
    · simp [e]

/-- The state ahead of an operation. -/
structure Ahead (P : Program) (all : List Oper) (it : It) (sj : St) : Prop where
  nx : it.nx = sj.nx
  heap : sj.nx = sj.heap.length
  run : ∀ E, it.E = some E → guardA all sj.tmps it.o = some true ∧ OpSound P it.o (evv sj.tmps) (hget sj.heap) it.nx E ∧ ∀ i b, (i, b) ∈ E.upd → i < it.nx
  skip : it.E = none → guardA all sj.tmps it.o = some false

theorem runs_fold {P : Program} {all : List Oper} : ∀ {ops : List Oper} {s : St} {l : List It} {s' : St}, Runs P all ops s l s' → s.nx = s.heap.length → ∀ k,
    toSem s' = foldL s.tmps.length (fun _ => true) l k (toSem s) ∧ s'.nx = s'.heap.length ∧ s'.tmps.length = s.tmps.length ∧ s.nx ≤ s'.nx ∧ l.length = ops.length ∧
    (∀ (j : Nat) (it : It), l[j]? = some it → ops[j]? = some it.o ∧ s.nx ≤ it.nx ∧ it.nx + it.news ≤ s'.nx ∧ ∃ sj, Ahead P all it sj ∧ sj.tmps.length = s.tmps.length ∧ toSem sj = foldL s.tmps.length (fun i => decide (i < k + j)) l k (toSem s)) ∧
    (∀ (i j : Nat) (x y : It), l[i]? = some x → l[j]? = some y → i < j → x.nx + x.news ≤ y.nx) := by
  intro ops s l s' h
  induction h with
  | nil s => intro hn k; exact ⟨rfl, hn, rfl, Nat.le_refl _, rfl, fun j it hj => by simp at hj, fun i j x y hx => by simp at hx⟩
  | @did o r s s' E l hg hs hu hr ih =>
    intro hn k
    have hn' : (s.after o E).nx = (s.after o E).heap.length := by simp [St.after, happ_len, hn]
    have htl : (s.after o E).tmps.length = s.tmps.length := by simp [St.after, putT_len]
    obtain ⟨h1, h2, h3, h4, h5, h6, h7⟩ := ih hn' (k + 1)
    rw [htl] at h1 h3 h6
    have hnx : (s.after o E).nx = s.nx + E.news.length := rfl
    refine ⟨?_, h2, h3, by omega, by simp [h5], fun j it hj => ?_, fun i j x y hx hy hij => ?_⟩
    · rw [h1, toSem_after hn hu]; simp [foldL]
    · cases j with
      | zero =>
        simp at hj; subst hj
        refine ⟨rfl, Nat.le_refl _, by simp only [It.news]; omega, s, ⟨rfl, hn, fun E' hE => ?_, fun hE => by simp at hE⟩, rfl, ?_⟩
        · simp at hE; subst hE; exact ⟨hg, hs, hu⟩
        · rw [foldL_none]; intro i hi; simp; omega
      | succ j =>
        obtain ⟨a1, a2, a3, sj, a4, a5, a6⟩ := h6 j it (by simpa using hj)
        refine ⟨by simpa using a1, by omega, a3, sj, a4, a5, ?_⟩
        rw [a6, toSem_after hn hu]
        simp only [foldL]
        rw [if_pos (by simp)]
        have e : (fun i => decide (i < k + 1 + j)) = (fun i => decide (i < k + (j + 1))) := by funext i; rw [show k + 1 + j = k + (j + 1) from by omega]
        rw [e]
    · cases j with
      | zero => omega
      | succ j =>
        cases i with
        | zero =>
          simp at hx; subst hx
          obtain ⟨_, a2, _⟩ := h6 j y (by simpa using hy)
          simp only [It.news]; omega
        | succ i => exact h7 i j x y (by simpa using hx) (by simpa using hy) (by omega)
  | @skip o r s s' l hg hr ih =>
    intro hn k
    have htl : (s.skip o).tmps.length = s.tmps.length := by simp [St.skip, putT_len]
    obtain ⟨h1, h2, h3, h4, h5, h6, h7⟩ := ih hn (k + 1)
    rw [htl] at h1 h3 h6
    have hnx : (s.skip o).nx = s.nx := rfl
    refine ⟨?_, h2, h3, by omega, by simp [h5], fun j it hj => ?_, fun i j x y hx hy hij => ?_⟩
    · rw [h1, toSem_skip]; simp [foldL]
    · cases j with
      | zero =>
        simp at hj; subst hj
        refine ⟨rfl, Nat.le_refl _, by simp only [It.news]; omega, s, ⟨rfl, hn, fun E' hE => by simp at hE, fun _ => hg⟩, rfl, ?_⟩
        rw [foldL_none]; intro i hi; simp; omega
      | succ j =>
        obtain ⟨a1, a2, a3, sj, a4, a5, a6⟩ := h6 j it (by simpa using hj)
        refine ⟨by simpa using a1, by omega, a3, sj, a4, a5, ?_⟩
        rw [a6, toSem_skip]
        simp only [foldL]
        rw [if_pos (by simp)]
        have e : (fun i => decide (i < k + 1 + j)) = (fun i => decide (i < k + (j + 1))) := by funext i; rw [show k + 1 + j = k + (j + 1) from by omega]
        rw [e]
    · cases j with
      | zero => omega
      | succ j =>
        cases i with
        | zero =>
          simp at hx; subst hx
          obtain ⟨_, a2, _⟩ := h6 j y (by simpa using hy)
          simp only [It.news]; omega
        | succ i => exact h7 i j x y (by simpa using hx) (by simpa using hy) (by omega)

/- which operations stand before which -/
theorem predFold {j : Nat} {acc : List Nat} : ∀ {es : List Edge} {m0 : Option Nat} {m : Nat}, es.foldl (fun m e => match m with
    | none => none
    | some m => if Region.binds .any e then (if e.on < j then some (m ||| 2 ^ e.on ||| acc.getD e.on 0) else none) else some m) m0 = some m →
    ∃ m1, m0 = some m1 ∧ (∀ e, e ∈ es → Region.binds .any e = true → e.on < j) ∧ ∀ i, m.testBit i = true → m1.testBit i = true ∨ ∃ e, e ∈ es ∧ Region.binds .any e = true ∧ (i = e.on ∨ (acc.getD e.on 0).testBit i = true)
  | [], m0, m, h => ⟨m, by simpa using h, fun e he => by simp at he, fun i hi => .inl hi⟩
  | e :: es, m0, m, h => by
    simp only [List.foldl_cons] at h
    obtain ⟨m2, h2, h3, h4⟩ := predFold h
    cases m0 with
    | none => simp at h2
    | some m1 =>
      simp only at h2
      by_cases hb : Region.binds .any e = true
      · rw [if_pos hb] at h2
        by_cases hlt : e.on < j
        · rw [if_pos hlt] at h2
          injection h2 with h2; subst h2
          refine ⟨m1, rfl, fun e' he' hb' => ?_, fun i hi => ?_⟩
          · rcases List.mem_cons.1 he' with rfl | he'
            · exact hlt
            · exact h3 e' he' hb'
          · rcases h4 i hi with h | ⟨e', he', hb', h⟩
            · simp only [Nat.testBit_or, Bool.or_eq_true, Nat.testBit_two_pow, decide_eq_true_eq] at h
              rcases h with (h | h) | h
              · exact .inl h
              · exact .inr ⟨e, by simp, hb, .inl h.symm⟩
              · exact .inr ⟨e, by simp, hb, .inr h⟩
            · exact .inr ⟨e', by simp [he'], hb', h⟩
        · rw [if_neg hlt] at h2; cases h2
      · rw [if_neg hb] at h2
        injection h2 with h2; subst h2
        refine ⟨m1, rfl, fun e' he' hb' => ?_, fun i hi => ?_⟩
        · rcases List.mem_cons.1 he' with rfl | he'
          · exact absurd hb' hb
          · exact h3 e' he' hb'
        · rcases h4 i hi with h | ⟨e', he', hb', h⟩
          · exact .inl h
          · exact .inr ⟨e', by simp [he'], hb', h⟩

theorem predMasks_spec : ∀ {ops : List Oper} {acc ms : List Nat}, predMasks ops acc = some ms → (∀ i, i < acc.length → ms[i]? = acc[i]?) ∧ ms.length = acc.length + ops.length ∧
    ∀ (k : Nat) (o : Oper), ops[k]? = some o → (∀ e, e ∈ o.after.toList → Region.binds .any e = true → e.on < acc.length + k) ∧
      ∀ i, (ms.getD (acc.length + k) 0).testBit i = true → ∃ e, e ∈ o.after.toList ∧ Region.binds .any e = true ∧ (i = e.on ∨ (ms.getD e.on 0).testBit i = true)
  | [], acc, ms, h => by simp [predMasks] at h; subst h; exact ⟨fun _ _ => rfl, by simp, fun k o h => by simp at h⟩
  | o :: r, acc, ms, h => by
    simp only [predMasks] at h
    split at h
    · rename_i m hm
      obtain ⟨h1, h2, h3⟩ := predMasks_spec h
      simp only [List.length_append, List.length_cons, List.length_nil] at h1 h2 h3
      have hpre : ∀ i, i < acc.length → ms[i]? = acc[i]? := fun i hi => by rw [h1 i (by omega), List.getElem?_append_left hi]
      refine ⟨hpre, by simp only [List.length_cons]; omega, fun k o' ho' => ?_⟩
      cases k with
      | zero =>
        simp at ho'; subst ho'
        unfold predMask at hm
        obtain ⟨m1, e1, h4, h5⟩ := predFold hm
        injection e1 with e1; subst e1
        refine ⟨by simpa using h4, fun i hi => ?_⟩
        have hms : ms.getD (acc.length + 0) 0 = m := by
          have := h1 acc.length (by omega)
          simp only [List.getD_eq_getElem?_getD, Nat.add_zero, this]
          simp
        rw [hms] at hi
        rcases h5 i hi with h | ⟨e, he, hb, h⟩
        · simp at h
        · refine ⟨e, he, hb, h.imp id fun h => ?_⟩
          have hlt := h4 e he hb
          simp only [List.getD_eq_getElem?_getD] at h ⊢
          rw [hpre _ hlt]; exact h
      | succ k =>
        have := h3 k o' (by simpa using ho')
        rw [show acc.length + 1 + k = acc.length + (k + 1) from by omega] at this
        exact this
    · cases h

def cnt (L : Nat → Bool) : Nat → Nat
  | 0 => 0
  | m + 1 => cnt L m + if L m then 0 else 1

theorem cnt_zero {L : Nat → Bool} : ∀ {m : Nat}, cnt L m = 0 → ∀ i, i < m → L i = true
  | 0, _, i, hi => by omega
  | m + 1, h, i, hi => by
    simp only [cnt] at h
    cases hm : L m with
    | false => simp [hm] at h
    | true =>
      by_cases e : i = m
      · subst e; exact hm
      · exact cnt_zero (m := m) (by simp [hm] at h; exact h) i (by omega)

theorem cnt_set {L L' : Nat → Bool} {j : Nat} (hj : L j = false) (h : ∀ i, L' i = (L i || i == j)) : ∀ {m : Nat}, (j < m → cnt L' m + 1 = cnt L m) ∧ (m ≤ j → cnt L' m = cnt L m)
  | 0 => ⟨fun h => by omega, fun _ => rfl⟩
  | m + 1 => by
    obtain ⟨h1, h2⟩ := cnt_set (m := m) hj h
    simp only [cnt, h]
    constructor
    · intro hlt
      by_cases e : j = m
      · subst e
        rw [h2 (Nat.le_refl _)]; simp [hj]
      · have := h1 (by omega)
        have e' : (m == j) = false := by simp; omega
        simp only [e', Bool.or_false]; omega
    · intro hle
      have := h2 (by omega)
      have e' : (m == j) = false := by simp; omega
      simp only [e', Bool.or_false]; omega

/- A walker of Go functions over data: regions, code, functions are right. -/
theorem disj_spec {a b : List Nat} (h : disj a b = true) : ∀ d, d ∈ a → d ∉ b := by
  intro d hd
  have := List.all_eq_true.1 h d hd
  simpa using this

/-- What a frame holds in the midst of a region: the operations that ran say so. -/
def semList (n : Nat) (x : Sem2) : List AV := (List.range n).map fun t => (x.1 t).getD undefA

theorem semList_get {n : Nat} {x : Sem2} (h : ∀ t, (x.1 t).isSome = decide (t < n)) (t : Nat) : (semList n x)[t]? = x.1 t := by
  have := h t
  unfold semList
  rw [List.getElem?_map]
  by_cases ht : t < n
  · rw [List.getElem?_range ht]
    simp only [ht, decide_true] at this
    obtain ⟨v, hv⟩ := Option.isSome_iff_exists.1 this
    simp [hv]
  · rw [List.getElem?_eq_none (by simp; omega)]
    simp only [ht, decide_false] at this
    cases hx : x.1 t with
    | none => rfl
    | some v => rw [hx] at this; simp at this

theorem app1_some {n : Nat} {x : Sem2} {it : It} (h : ∀ t, (x.1 t).isSome = decide (t < n)) : ∀ t, ((app1 n x it).1 t).isSome = decide (t < n) := by
  intro t
  simp only [app1]
  split
  · rename_i hc; simp [hc.2]
  · exact h t

theorem foldL_some {n : Nat} {L : Nat → Bool} : ∀ {l : List It} {k : Nat} {x : Sem2}, (∀ t, (x.1 t).isSome = decide (t < n)) → ∀ t, ((foldL n L l k x).1 t).isSome = decide (t < n)
  | [], _, _, h => h
  | it :: r, k, x, h => by
    simp only [foldL]
    refine foldL_some ?_
    split
    · exact app1_some h
    · exact h

theorem draw_wp {P : Program} {all : List Oper} {s s' : St} {l : List It} {Q : Exit → Act → World → Prop} (hr : Runs P all all s l s') (hd : drawOk all.toArray (l.map It.touch) = true) {ρ0 : Rho} {a0 : Act} {w0 : World} (hs : SR ρ0 s a0 w0)
    (hq : ∀ ρ' a' w', SR ρ' s' a' w' → Prog s.nx ρ0 (hget s.heap) w0 ρ' (hget s'.heap) w' → Q .normal a' w') : wpAny P .any all.toArray Q all.toArray.size (Array.replicate all.toArray.size false) a0 w0 := by
  obtain ⟨f1, f2, f3, f4, f5, f6, f7⟩ := runs_fold hr hs.nx 0
  simp only [Nat.zero_add] at f6
  unfold drawOk at hd
  split at hd
  · cases hd
  · rename_i ms hms
    have hms' : predMasks all [] = some ms := by simpa using hms
    obtain ⟨_, hmlen, hpred⟩ := predMasks_spec hms'
    simp only [List.length_nil, Nat.zero_add] at hpred hmlen
    have hpair : ∀ i j, i < j → j < all.length → pairOk all.toArray ms (l.map It.touch) i j = true := by
      intro i j hij hj
      have h1 := List.all_eq_true.1 hd j (by simpa using hj)
      exact List.all_eq_true.1 h1 i (by simpa using hij)
    -- what two operations without an order do not share
    have hun : ∀ (i j : Nat) (x y : It), i < j → l[i]? = some x → l[j]? = some y → (ms.getD j 0).testBit i = false →
        x.o.apart all.toArray y.o = true ∧ (∀ d, d ∈ x.wrs → d ∉ y.rds) ∧ (∀ d, d ∈ x.wrs → d ∉ y.wrs) ∧ (∀ d, d ∈ y.wrs → d ∉ x.rds) := by
      intro i j x y hij hx hy hb
      have hp := hpair i j hij (by rw [← f5]; exact getElem?_lt hy)
      have ox := (f6 i x hx).1
      have oy := (f6 j y hy).1
      unfold pairOk at hp
      rw [hb] at hp
      simp only [Bool.false_or, List.getElem?_toArray, ox, oy, List.getElem?_map, hx, hy, Option.map_some, Bool.and_eq_true] at hp
      obtain ⟨⟨⟨h1, h2⟩, h3⟩, h4⟩ := hp
      exact ⟨h1, disj_spec h2, disj_spec h3, disj_spec h4⟩
    let n := s.tmps.length
    let X0 := toSem s
    have hX0 : ∀ t, (X0.1 t).isSome = decide (t < n) := by
      intro t
      show (s.tmps[t]?).isSome = decide (t < s.tmps.length)
      by_cases h : t < s.tmps.length <;> simp [h]
    let F : (Nat → Bool) → Sem2 := fun L => foldL n L l 0 X0
    have hF : ∀ L t, ((F L).1 t).isSome = decide (t < n) := fun L => foldL_some hX0
    have hL : ∀ (listed : Array Bool) (i : Nat), listed.size = all.length → i < all.length → listed.getD i true = listed.getD i false := by
      intro listed i h1 h2
      simp [Array.getD, show i < listed.size by omega]
    have hready : ∀ (listed : Array Bool) (j : Nat), listed.size = all.length → (j ∈ Region.ready .any all.toArray listed ↔ ∃ o, all[j]? = some o ∧ listed.getD j false = false ∧ ∀ e, e ∈ o.after.toList → Region.binds .any e = true → listed.getD e.on false = true) := by
      intro listed j hsz
      unfold Region.ready
      simp only [List.mem_filter, List.mem_range, List.size_toArray, Bool.and_eq_true, Bool.not_eq_true', List.getElem?_toArray]
      constructor
      · rintro ⟨hj, h1, h2⟩
        rw [List.getElem?_eq_getElem hj] at h2 ⊢
        rw [hL listed j hsz hj] at h1
        refine ⟨_, rfl, h1, fun e he hb => ?_⟩
        simp only [Option.map_some, Option.getD_some, Array.all_eq_true_iff_forall_mem] at h2
        have := h2 e (by simpa using he)
        rw [hb] at this; simpa using this
      · rintro ⟨o, ho, h1, h2⟩
        have hj := getElem?_lt ho
        refine ⟨hj, by rw [hL listed j hsz hj]; exact h1, ?_⟩
        rw [ho]
        simp only [Option.map_some, Option.getD_some, Array.all_eq_true_iff_forall_mem]
        intro e he
        cases hb : Region.binds .any e with
        | false => simp
        | true => simpa using h2 e (by simpa using he) hb
    have hdone : ∀ (listed : Array Bool) (ρ : Rho) (a : Act) (w : World), listed.size = all.length → (∀ j, j < all.length → listed.getD j false = true) →
        (∀ t v, (semList n (F fun i => listed.getD i false))[t]? = some v → AR ρ v (a.tmps.getD t undef)) → n = a.tmps.size → a.defers = [] →
        Inv ρ (F fun i => listed.getD i false).2 w →
        (∀ d r, ρ d = some r → d < s.nx ∨ ∃ (i : Nat) (x : It), listed.getD i false = true ∧ l[i]? = some x ∧ x.nx ≤ d ∧ d < x.nx + x.news) →
        Prog s.nx ρ0 (hget s.heap) w0 ρ (F fun i => listed.getD i false).2 w → Q .normal a w := by
      intro listed ρ a w hsz hall htm hln hdf hiv hdom hpr
      have hsame : F (fun i => listed.getD i false) = toSem s' := by
        rw [f1]
        refine Prod.ext (funext fun t => foldL_T rfl fun i it hi hne => absurd (hall i (by rw [← f5]; exact getElem?_lt hi)) (by simpa using hne)) (funext fun t => foldL_G rfl fun i it hi hne => absurd (hall i (by rw [← f5]; exact getElem?_lt hi)) (by simpa using hne))
      rw [hsame] at hiv hpr
      refine hq ρ a w ⟨fun t v hv => ?_, by rw [f3]; exact hln, hdf, hiv, f2, fun d hd => ?_⟩ hpr
      · refine htm t v ?_
        rw [semList_get (hF _), hsame]; exact hv
      · cases hρ : ρ d with
        | none => rfl
        | some r =>
          rcases hdom d r hρ with h | ⟨i, x, _, hx, _, h⟩
          · omega
          · have := (f6 i x hx).2.2.1; omega
    -- the invariant
    have main : ∀ (fuel : Nat) (listed : Array Bool) (ρ : Rho) (a : Act) (w : World), listed.size = all.length → cnt (fun i => listed.getD i false) all.length ≤ fuel →
        (∀ (j : Nat) (o : Oper), listed.getD j false = true → all[j]? = some o → ∀ e, e ∈ o.after.toList → Region.binds .any e = true → listed.getD e.on false = true) →
        (∀ t v, (semList n (F fun i => listed.getD i false))[t]? = some v → AR ρ v (a.tmps.getD t undef)) → n = a.tmps.size → a.defers = [] →
        Inv ρ (F fun i => listed.getD i false).2 w →
        (∀ d r, ρ d = some r → d < s.nx ∨ ∃ (i : Nat) (x : It), listed.getD i false = true ∧ l[i]? = some x ∧ x.nx ≤ d ∧ d < x.nx + x.news) →
        Prog s.nx ρ0 (hget s.heap) w0 ρ (F fun i => listed.getD i false).2 w → wpAny P .any all.toArray Q fuel listed a w := by
      intro fuel
      induction fuel with
      | zero =>
        intro listed ρ a w hsz hcnt hcl htm hln hdf hiv hdom hpr
        have hall := cnt_zero (Nat.le_zero.1 hcnt)
        refine ⟨?_, hdone listed ρ a w hsz hall htm hln hdf hiv hdom hpr⟩
        cases hrd : Region.ready .any all.toArray listed with
        | nil => rfl
        | cons j r =>
          obtain ⟨o, ho, h1, _⟩ := (hready listed j hsz).1 (by rw [hrd]; simp)
          rw [hall j (getElem?_lt ho)] at h1; cases h1
      | succ fuel ih =>
        intro listed ρ a w hsz hcnt hcl htm hln hdf hiv hdom hpr
        refine ⟨fun hnil => ?_, fun j hj => ?_⟩
        · refine hdone listed ρ a w hsz (fun j => ?_) htm hln hdf hiv hdom hpr
          induction j using Nat.strongRecOn with
          | _ j ihj =>
            intro hjl
            cases hlj : listed.getD j false with
            | true => rfl
            | false =>
              exfalso
              have : j ∈ Region.ready .any all.toArray listed := by
                rw [hready listed j hsz]
                refine ⟨all[j], List.getElem?_eq_getElem hjl, hlj, fun e he hb => ?_⟩
                have hlt := (hpred j _ (List.getElem?_eq_getElem hjl)).1 e he hb
                exact ihj e.on hlt (by omega)
              rw [hnil] at this; cases this
        · obtain ⟨o, ho, hlj, hed⟩ := (hready listed j hsz).1 hj
          have hjl := getElem?_lt ho
          have hitj : l[j]? = some (l[j]'(by omega)) := List.getElem?_eq_getElem _
          generalize l[j]'(by omega) = it at hitj
          obtain ⟨g1, g2, g3, sj, ahead, g5, g6⟩ := f6 j it hitj
          rw [ho] at g1; injection g1 with g1
          -- closure under what stands before
          have hclos : ∀ k, k < all.length → listed.getD k false = true → ∀ i, (ms.getD k 0).testBit i = true → listed.getD i false = true := by
            intro k
            induction k using Nat.strongRecOn with
            | _ k ihk =>
              intro hk hlk i hi
              obtain ⟨h1, h2⟩ := hpred k _ (List.getElem?_eq_getElem hk)
              obtain ⟨e, he, hb, h⟩ := h2 i hi
              have hle := hcl k _ hlk (List.getElem?_eq_getElem hk) e he hb
              rcases h with rfl | h
              · exact hle
              · have hlt := h1 e he hb
                exact ihk e.on hlt (by omega) hle i h
          have hclosj : ∀ i, (ms.getD j 0).testBit i = true → listed.getD i false = true := by
            intro i hi
            obtain ⟨h1, h2⟩ := hpred j o ho
            obtain ⟨e, he, hb, h⟩ := h2 i hi
            have hle := hed e he hb
            rcases h with rfl | h
            · exact hle
            · have hlt := h1 e he hb
              exact hclos e.on (by omega) hle i h
          -- whoever differs from the text's order shares nothing with it
          have hdiff : ∀ (i : Nat) (x : It), l[i]? = some x → listed.getD i false ≠ decide (i < j) →
              (∀ d, x.o.dst = some d → d ∉ it.o.looksAt all.toArray) ∧ (∀ d, d ∈ x.wrs → d ∉ it.rds) := by
            intro i x hx hne
            rcases Nat.lt_trichotomy i j with hij | rfl | hij
            · have hli : listed.getD i false = false := by
                cases hli : listed.getD i false with
                | false => rfl
                | true => exfalso; apply hne; simp [hli, hij]
              have hb : (ms.getD j 0).testBit i = false := by
                cases hb : (ms.getD j 0).testBit i with
                | false => rfl
                | true => rw [hclosj i hb] at hli; cases hli
              obtain ⟨h1, h2, h3, h4⟩ := hun i j x it hij hx hitj hb
              exact ⟨(Oper.apart_spec h1).1, h2⟩
            · exfalso; apply hne; simp [hlj]
            · have hli : listed.getD i false = true := by
                cases hli : listed.getD i false with
                | true => rfl
                | false => exfalso; apply hne; simp [hli]; omega
              have hb : (ms.getD i 0).testBit j = false := by
                cases hb : (ms.getD i 0).testBit j with
                | false => rfl
                | true =>
                  have := hclos i (by rw [← f5]; exact getElem?_lt hx) hli j hb
                  rw [hlj] at this; cases this
              obtain ⟨h1, h2, h3, h4⟩ := hun j i it x hij hitj hx hb
              exact ⟨(Oper.apart_spec h1).2.2, h4⟩
          have hlater : ∀ (i : Nat) (x : It), l[i]? = some x → j < i → listed.getD i false = true → (∀ d, it.o.dst = some d → x.o.dst ≠ some d) ∧ (∀ d, d ∈ it.wrs → d ∉ x.wrs) := by
            intro i x hx hij hli
            have hb : (ms.getD i 0).testBit j = false := by
              cases hb : (ms.getD i 0).testBit j with
              | false => rfl
              | true =>
                have := hclos i (by rw [← f5]; exact getElem?_lt hx) hli j hb
                rw [hlj] at this; cases this
            obtain ⟨h1, h2, h3, h4⟩ := hun j i it x hij hitj hx hb
            exact ⟨(Oper.apart_spec h1).2.1, h3⟩
          let L : Nat → Bool := fun i => listed.getD i false
          have hTat : ∀ t, t ∈ it.o.looksAt all.toArray → (F L).1 t = sj.tmps[t]? := by
            intro t ht
            have : (toSem sj).1 t = sj.tmps[t]? := rfl
            rw [← this, g6]
            exact foldL_T rfl fun i x hx hne hd => (hdiff i x hx (by have h := hne; simp only [Nat.zero_add] at h; exact h)).1 t hd ht
          have hGat : ∀ d, d ∈ it.rds → (F L).2 d = hget sj.heap d := by
            intro d hd
            have : (toSem sj).2 d = hget sj.heap d := rfl
            rw [← this, g6]
            exact foldL_G rfl fun i x hx hne hw => (hdiff i x hx (by have h := hne; simp only [Nat.zero_add] at h; exact h)).2 d hw hd
          let tl := semList n (F L)
          have htl : ∀ t, tl[t]? = (F L).1 t := semList_get (hF L)
          have htlen : tl.length = n := by simp [tl, semList]
          have hguard : guardA all tl it.o = guardA all sj.tmps it.o := by
            unfold guardA
            cases hgd : it.o.guard with
            | none => rfl
            | some p =>
              obtain ⟨gi, want⟩ := p
              simp only
              cases hdd : (all[gi]?).bind (·.dst) with
              | none => rfl
              | some d =>
                simp only
                rw [htl, hTat d (by unfold Oper.looksAt; rw [hgd]; simp [hdd])]
          have hevv : ∀ x, x ∈ it.o.op.operands.toList → evv sj.tmps x = evv tl x := by
            intro x hx
            cases x with
            | tmp t =>
              simp only [evv]
              rw [htl, hTat t]
              unfold Oper.looksAt
              rw [List.mem_append]; left
              rw [List.mem_filterMap]
              exact ⟨.tmp t, hx, rfl⟩
            | _ => rfl
          let L' : Nat → Bool := fun i => (listed.setIfInBounds j true).getD i false
          have hL' : ∀ i, L' i = (L i || i == j) := by
            intro i
            show (listed.setIfInBounds j true).getD i false = (listed.getD i false || i == j)
            by_cases e : i = j
            · subst e
              simp [Array.getD, show i < listed.size by omega]
            · have : (i == j) = false := by simp [e]
              rw [this, Bool.or_false, Array.getD_eq_getD_getElem?, Array.getD_eq_getD_getElem?, Array.getElem?_setIfInBounds_ne (fun h => e h.symm)]
          obtain ⟨hT', hG'⟩ := foldL_more (n := n) (L := L) (L' := L') (x := X0) hitj hlj hL' (fun i x hx hij hl => (hlater i x hx hij hl).1) (fun i x hx hij hl => (hlater i x hx hij hl).2)
          have hcnt' : cnt L' all.length ≤ fuel := by
            have := (cnt_set (m := all.length) hlj hL').1 hjl
            have : cnt L all.length ≤ fuel + 1 := hcnt
            omega
          have hcl' : ∀ (k : Nat) (o : Oper), L' k = true → all[k]? = some o → ∀ e, e ∈ o.after.toList → Region.binds .any e = true → L' e.on = true := by
            intro k o' hk ho' e he hb
            rw [hL'] at hk ⊢
            by_cases ek : k = j
            · subst ek
              rw [ho] at ho'; injection ho' with ho'; subst ho'
              have : L e.on = true := hed e he hb
              simp [this]
            · have hk' : L k = true := by simpa [ek] using hk
              have : L e.on = true := hcl k o' hk' ho' e he hb
              simp [this]
          have hsz' : (listed.setIfInBounds j true).size = all.length := by simpa using hsz
          have hdomL : ∀ d r, ρ d = some r → d < s.nx ∨ ∃ (i : Nat) (x : It), L' i = true ∧ l[i]? = some x ∧ x.nx ≤ d ∧ d < x.nx + x.news := by
            intro d r hdr
            rcases hdom d r hdr with h | ⟨i, x, h1, h2, h3⟩
            · exact .inl h
            · exact .inr ⟨i, x, by rw [hL']; show (listed.getD i false || _) = true; rw [h1]; rfl, h2, h3⟩
          have hLj' : L' j = true := by rw [hL']; simp
          unfold wpOp
          rw [List.getElem?_toArray, ho]
          simp only
          subst g1
          have hw := guard_wanted (s := ⟨tl, [], 0⟩) (all := all) (o := it.o) (a := a) (b := (guardA all sj.tmps it.o).getD false) htm (by rw [htlen]; exact hln)
          cases hE : it.E with
          | none =>
            have hsk := ahead.skip hE
            have hw' := hw (by rw [hguard, hsk]; rfl)
            rw [hw', hsk]
            simp only [Option.getD_some, Bool.false_eq_true, if_false]
            refine ih _ ρ _ w hsz' hcnt' hcl' ?_ ?_ (by rw [put_defers]; exact hdf) ?_ hdomL ?_
            · intro t v hv
              have hv' : (putT tl it.o.dst undefA)[t]? = some v := by
                rw [semList_get (hF L')] at hv
                have h1 := hT' t
                rw [show (F L').1 t = (foldL n L' l 0 X0).1 t from rfl, h1] at hv
                simp only [app1, It.v, hE] at hv
                rw [show (foldL n L l 0 X0).1 t = tl[t]? from (htl t).symm] at hv
                cases hdst : it.o.dst with
                | none => simp [hdst] at hv; simpa [putT] using hv
                | some d =>
                  simp only [hdst, Option.some.injEq] at hv
                  simp only [putT, List.getElem?_set]
                  by_cases e : d = t
                  · subst e
                    by_cases hdn : d < n
                    · rw [if_pos ⟨rfl, hdn⟩] at hv
                      rw [if_pos rfl, if_pos (by rw [htlen]; exact hdn)]; exact hv
                    · exfalso
                      rw [if_neg (fun c => hdn c.2)] at hv
                      exact hdn (by rw [← htlen]; exact getElem?_lt hv)
                  · rw [if_neg (fun c => e c.1)] at hv
                    rw [if_neg e]; exact hv
              have hund : AR ρ undefA undef := ⟨#[], rfl, LR.nil⟩
              exact put_rel (v := undefA) (cv := undef) htm (by rw [htlen]; exact hln) hund t v hv'
            · rw [put_tmps]; cases it.o.dst <;> simp [hln]
            · have : (F L').2 = (F L).2 := by
                funext t; have := hG' t; simp only [app1, hE] at this; exact this
              show Inv ρ (F L').2 w
              rw [this]; exact hiv
            · have : (F L').2 = (F L).2 := by
                funext t; have := hG' t; simp only [app1, hE] at this; exact this
              show Prog s.nx ρ0 (hget s.heap) w0 ρ (F L').2 w
              rw [this]; exact hpr
          | some E =>
            obtain ⟨hsk, hsnd, hu⟩ := ahead.run E hE
            have hw' := hw (by rw [hguard, hsk]; rfl)
            rw [hw', hsk]
            simp only [Option.getD_some, if_true]
            have hrd : it.rds = E.rd := by simp [It.rds, It.touch, hE, Eff.touch]
            have hnw : it.news = E.news.length := by simp [It.news, hE]
            refine .inl (hsnd (F L).2 ρ w a _ Q (fun d hd => hGat d (by rw [hrd]; exact hd)) (fun x hx v hv => ?_) hiv (fun d hd => ?_) fun cv w' ρ' haft => ?_)
            · rw [hevv x hx] at hv
              exact evv_AR htm x v hv
            · cases hρd : ρ d with
              | none => exact .inl rfl
              | some r =>
                right
                rcases hdom d r hρd with h | ⟨i, x, h1, h2, h3, h4⟩
                · omega
                · rcases Nat.lt_trichotomy i j with hij | rfl | hij
                  · have := f7 i j x it h2 hitj hij; omega
                  · rw [hlj] at h1; cases h1
                  · have := f7 j i it x hitj h2 hij; omega
            · have hG2 : (F L').2 = updg (F L).2 it.nx E := by
                funext t; have := hG' t; simp only [app1, hE] at this; exact this
              refine ih _ ρ' _ w' hsz' hcnt' hcl' ?_ ?_ (by rw [put_defers]; exact hdf) ?_ ?_ ?_
              · intro t v hv
                have hv' : (putT tl it.o.dst E.v)[t]? = some v := by
                  rw [semList_get (hF L')] at hv
                  have h1 := hT' t
                  rw [show (F L').1 t = (foldL n L' l 0 X0).1 t from rfl, h1] at hv
                  simp only [app1, It.v, hE] at hv
                  rw [show (foldL n L l 0 X0).1 t = tl[t]? from (htl t).symm] at hv
                  cases hdst : it.o.dst with
                  | none => simp [hdst] at hv; simpa [putT] using hv
                  | some d =>
                    simp only [hdst, Option.some.injEq] at hv
                    simp only [putT, List.getElem?_set]
                    by_cases e : d = t
                    · subst e
                      by_cases hdn : d < n
                      · rw [if_pos ⟨rfl, hdn⟩] at hv
                        rw [if_pos rfl, if_pos (by rw [htlen]; exact hdn)]; exact hv
                      · exfalso
                        rw [if_neg (fun c => hdn c.2)] at hv
                        exact hdn (by rw [← htlen]; exact getElem?_lt hv)
                    · rw [if_neg (fun c => e c.1)] at hv
                      rw [if_neg e]; exact hv
                exact put_rel (fun t v hv => (htm t v hv).mono haft.ext) (by rw [htlen]; exact hln) haft.val t v hv'
              · rw [put_tmps]; cases it.o.dst <;> simp [hln]
              · show Inv ρ' (F L').2 w'
                rw [hG2]; exact haft.inv
              · intro d r hdr
                rcases haft.dom d r hdr with h | h
                · exact hdomL d r h
                · exact .inr ⟨j, it, hLj', hitj, h.1, by rw [hnw]; exact h.2⟩
              · show Prog s.nx ρ0 (hget s.heap) w0 ρ' (F L').2 w'
                rw [hG2]; exact hpr.trans haft.prog g2
    have hnone : (F fun i => (Array.replicate all.toArray.size false).getD i false) = X0 := by
      show foldL n _ l 0 X0 = X0
      refine foldL_none fun i _ => ?_
      simp [Array.getD]
    refine main _ _ ρ0 a0 w0 (by simp) ?_ ?_ ?_ hs.len hs.def_ ?_ ?_ ?_
    · have gen : ∀ (L : Nat → Bool) (m : Nat), cnt L m ≤ m := by
        intro L m
        induction m with
        | zero => exact Nat.le_refl _
        | succ m ih => simp only [cnt]; split <;> omega
      simpa using gen _ all.length
    · intro j o hj
      simp [Array.getD] at hj
    · intro t v hv
      rw [semList_get (hF _), hnone] at hv
      exact hs.tmp t v hv
    · rw [hnone]; exact hs.inv
    · intro d r hd
      left
      rcases Nat.lt_or_ge d s.nx with h | h
      · exact h
      · rw [hs.fresh d h] at hd; cases hd
    · rw [hnone]; exact Prog.refl _ _ _ _

/- A walker of Go functions over data: code and functions are right. -/
def Ex.out : Ex → Exit
  | .normal => .normal
  | .exit id => .exit id
  | .goto l => .goto l
  | .ret => .ret

def CodeSound (P : Program) (c : Code) (s : St) (e : Ex) (s' : St) : Prop :=
  ∀ (ρ : Rho) (a : Act) (w : World) (Q : Exit → Act → World → Prop), SR ρ s a w → (∀ ρ' a' w', SR ρ' s' a' w' → Prog s.nx ρ (hget s.heap) w ρ' (hget s'.heap) w' → Q e.out a' w') → c.wp P Q a w

theorem SR.drew {ρ : Rho} {s : St} {a : Act} {w : World} (h : SR ρ s a w) : SR ρ s a { w with drawn := w.drawn + 1 } :=
  ⟨h.tmp, h.len, h.def_, h.inv.drew, h.nx, h.fresh⟩

theorem Prog.drewFirst {n : Nat} {ρ ρ' : Rho} {g g' : Get} {w w' : World} (h : Prog n ρ g { w with drawn := w.drawn + 1 } ρ' g' w') : Prog n ρ g w ρ' g' w' :=
  ⟨h.ext, ⟨h.kept.os, h.kept.tape, h.kept.output, h.kept.size, h.kept.block⟩, h.own, h.live, h.dom⟩

/-- What is not marked is as it was. -/
def Clean (h h' : Heap) : Prop := (∀ (i : Nat) (b : Option Block), h'[i]? = some (false, b) → h[i]? = some (false, b)) ∧ h.length ≤ h'.length

theorem Clean.refl (h : Heap) : Clean h h := ⟨fun _ _ e => e, Nat.le_refl _⟩
theorem Clean.trans {a b c : Heap} (h : Clean a b) (k : Clean b c) : Clean a c := ⟨fun i x e => h.1 i x (k.1 i x e), Nat.le_trans h.2 k.2⟩

theorem hsets_clean : ∀ {u : List (Nat × Option Block)} {h : Heap}, Clean h (hsets h u)
  | [], h => Clean.refl h
  | (j, b) :: r, h => by
    refine Clean.trans ⟨fun i x e => ?_, by simp⟩ (hsets_clean (u := r) (h := h.set j (true, b)))
    rw [List.getElem?_set] at e
    split at e
    · split at e
      · simp at e
      · cases e
    · exact e

theorem happ_clean {h : Heap} {E : Eff} : Clean h (happ h E) := by
  refine Clean.trans (hsets_clean (u := E.upd)) ⟨fun i x e => ?_, by simp [happ]⟩
  unfold happ at e
  rw [List.getElem?_append] at e
  split at e
  · exact e
  · simp only [List.getElem?_map, Option.map_eq_some_iff, Prod.mk.injEq] at e
    obtain ⟨_, _, h, _⟩ := e
    cases h

theorem runs_clean {P : Program} {all ops : List Oper} {s : St} {l : List It} {s' : St} (h : Runs P all ops s l s') : Clean s.heap s'.heap := by
  induction h with
  | nil s => exact Clean.refl _
  | did hg hs hu hr ih => exact Clean.trans happ_clean ih
  | skip hg hr ih => exact ih

/-- A select of one case, with a default. -/
def SelSound (P : Program) (o : Oper) (ev : Operand → Option AV) (g : Get) (nx : Nat) (E : Eff) : Prop :=
  ∀ (ρ : Rho) (w : World) (a : Act), (∀ x, x ∈ o.op.operands.toList → ∀ v, ev x = some v → AR ρ v (a.eval x)) → Inv ρ g w →
    ∃ cv w', Aft ρ g w nx E ρ w' cv ∧ ∀ (b : Frame) (k : List Item) (cs : List Frame) (ops : Array Oper) (i : Nat) (rest : List Nat), ops[i]? = some o → Region.wanted o (yielded ops a.tmps) = true →
      step P (lone (b.at a (.inRegion ops (i :: rest) :: k)) cs w) = .next (lone (b.at (a.put o.dst cv) (.inRegion ops rest :: k)) cs w')

theorem stepG_sel {P : Program} {b : Frame} {a : Act} {k : List Item} {cs : List Frame} {w : World} {ops : Array Oper} {i : Nat} {rest : List Nat} {o : Oper} {cases : Array CommCase}
    (ho : ops[i]? = some o) (hw : Region.wanted o (yielded ops a.tmps) = true) (hr : (execOp a.eval o).run P w = .ok (.comm cases false .select) w) :
    ∃ es, stepG P true (Conc.G (b.at a (.inRegion ops (i :: rest) :: k)) cs) w = .comm (Conc.G (b.at a (.inRegion ops (i :: rest) :: k)) cs) cases false .select w es := by
  refine ⟨?_, ?_⟩
  rotate_left
  · unfold Conc.G
    rw [stepG_op ho hw]
    simp only [stepG.apply, Sem.runT_eq, hr]
    rfl

theorem sel_sound {P : Program} {o : Oper} {ev : Operand → Option AV} {g : Get} {nx : Nat} {E : Eff} (h : (selA P ev g o.op).sel = some E) : SelSound P o ev g nx E := by
  unfold selA at h
  split at h
  · rename_i op cs ho
    split at h
    · rename_i c hc
      have hcs : cs = #[c] := by apply Array.toList_inj.1; simpa using hc
      subst hcs
      split at h
      · rename_i l hl hz
        have hfin : ∀ {b : Frame} {a : Act} {k : List Item} {ops : Array Oper} {i : Nat} {rest : List Nat} (v : Value), ops[i]? = some o → (b.at a (.inRegion ops (i :: rest) :: k)).finish v = b.at (a.put o.dst v) (.inRegion ops rest :: k) := by
          intro b a k ops i rest v hi; rw [Frame.finish_at, hi]; rfl
        split at h
        · rename_i cap n x hb hs
          split at h
          · rename_i hx
            intro ρ w a hev hi
            have hch := hev c.chan (by rw [ho]; simp [Op.operands]) _ hl
            have hxv := hev x (by rw [ho]; simp [Op.operands, hs]) _ hx
            obtain ⟨r, hr, hch⟩ := hch
            obtain ⟨vs, hxv, hvs⟩ := hxv
            have hvs0 : vs = #[] := by have := hvs.1; apply Array.eq_empty_of_size_eq_zero; simpa using this.symm
            subst hvs0
            obtain ⟨r', hr', hold⟩ := hi.blk _ _ hb
            rw [hr] at hr'; injection hr' with hr'; subst hr'
            obtain ⟨h0, hn, s, q, hheap⟩ := hold.1
            obtain ⟨zv, hzv, _⟩ := zero_run (P := P) w ρ hz
            have hrun : (execOp a.eval o).run P w = .ok (.comm #[Conc.scase r.blk (.agg #[]) zv] false .select) w := by
              simp [execOp, ho, hch, hxv, hs, hzv, Conc.scase]
            simp only [Out.sel] at h
            split at h
            · rename_i hble
              have hlt : n < cap := Nat.le_of_ble_eq_true hble
              injection h with h; subst h
              refine ⟨.tuple #[goInt 0, .bool false], wr w r.blk (.chan cap (Array.replicate (n + 1) (.agg #[])) false (s + 1) q false), aft_wrO hi hb hr ⟨?_, fun i a ha => by cases ha⟩ h0 ⟨_, rfl, LR.cons rfl (LR.cons rfl LR.nil)⟩, fun b k cs ops i rest hoi hw => ?_⟩
              · exact ⟨h0, hlt, s + 1, q, by rw [wr_heap, if_pos rfl, if_pos (lt_of_heap hheap)]⟩
              · obtain ⟨es, hes⟩ := stepG_sel (b := b) (k := k) (cs := cs) (rest := rest) hoi hw hrun
                have := Conc.step_lone_select_send_room hes hheap (by simpa using hlt)
                rw [hfin _ hoi] at this
                rw [← Array.replicate_succ] at this
                exact this
            · rename_i hble
              have hge : cap ≤ n := by
                rcases Nat.lt_or_ge n cap with h | h
                · rw [Nat.ble_eq_true_of_le h] at hble; cases hble
                · exact h
              injection h with h; subst h
              refine ⟨.tuple #[goInt (-1), .bool false], w, Aft.quiet hi ⟨_, rfl, LR.cons rfl (LR.cons rfl LR.nil)⟩, fun b k cs ops i rest hoi hw => ?_⟩
              obtain ⟨es, hes⟩ := stepG_sel (b := b) (k := k) (cs := cs) (rest := rest) hoi hw hrun
              have := Conc.step_lone_select_send_full hes hheap (by simpa using hge)
              rw [hfin _ hoi] at this
              exact this
          · exact (sel_fail h).elim
        · rename_i cap n hb hs
          intro ρ w a hev hi
          have hch := hev c.chan (by rw [ho]; simp [Op.operands]) _ hl
          obtain ⟨r, hr, hch⟩ := hch
          obtain ⟨r', hr', hold⟩ := hi.blk _ _ hb
          rw [hr] at hr'; injection hr' with hr'; subst hr'
          obtain ⟨h0, hn, s, q, hheap⟩ := hold.1
          obtain ⟨zv, hzv, vs, rfl, hvs⟩ := zero_run (P := P) w ρ hz
          have hvs0 : vs = #[] := by have := hvs.1; apply Array.eq_empty_of_size_eq_zero; simpa using this.symm
          subst hvs0
          have hrun : (execOp a.eval o).run P w = .ok (.comm #[Conc.rcase r.blk (.agg #[])] false .select) w := by
            simp [execOp, ho, hch, hs, hzv, Conc.rcase]
          have hagg : ER ρ (.agg []) (.agg #[]) := ⟨_, rfl, LR.nil⟩
          simp only [Out.sel] at h
          split at h
          · rename_i hble
            have hlt : 0 < n := Nat.le_of_ble_eq_true hble
            injection h with h; subst h
            refine ⟨.tuple #[goInt 0, .bool true, .agg #[]], wr w r.blk (.chan cap (Array.replicate (n - 1) (.agg #[])) false s (q + 1) false), aft_wrO hi hb hr ⟨?_, fun i a ha => by cases ha⟩ h0 ⟨_, rfl, LR.cons rfl (LR.cons rfl (LR.cons hagg LR.nil))⟩, fun b k cs ops i rest hoi hw => ?_⟩
            · exact ⟨h0, by omega, s, q + 1, by rw [wr_heap, if_pos rfl, if_pos (lt_of_heap hheap)]⟩
            · obtain ⟨es, hes⟩ := stepG_sel (b := b) (k := k) (cs := cs) (rest := rest) hoi hw hrun
              have := Conc.step_lone_select_recv_buf hes hheap (by simpa using hlt)
              rw [hfin _ hoi] at this
              have e1 : (Array.replicate n (Value.agg #[])).getD 0 undef = .agg #[] := by simp [Array.getD, hlt]
              have e2 : (Array.replicate n (Value.agg #[])).extract 1 (Array.replicate n (Value.agg #[])).size = Array.replicate (n - 1) (.agg #[]) := by simp
              rw [e1, e2] at this
              exact this
          · rename_i hble
            have hn0 : n = 0 := by
              rcases Nat.eq_zero_or_pos n with h | h
              · exact h
              · rw [Nat.ble_eq_true_of_le h] at hble; cases hble
            subst hn0
            injection h with h; subst h
            refine ⟨.tuple #[goInt (-1), .bool false, .agg #[]], w, Aft.quiet hi ⟨_, rfl, LR.cons rfl (LR.cons rfl (LR.cons hagg LR.nil))⟩, fun b k cs ops i rest hoi hw => ?_⟩
            obtain ⟨es, hes⟩ := stepG_sel (b := b) (k := k) (cs := cs) (rest := rest) hoi hw hrun
            have := Conc.step_lone_select_default hes (by simpa using hheap)
            rw [hfin _ hoi] at this
            exact this
        · exact (sel_fail h).elim
      · exact (sel_fail h).elim
    · exact (sel_fail h).elim
  · exact (sel_fail h).elim

theorem regionSel_sound {P : Program} {S : Summ} (hS : SummOk P S) {id : Nat} {o : Oper} {r : List Oper} {s : St} {κ : St → Option Res} {q : Res} (hg : o.guard = none)
    (h : (selA P (evv s.tmps) (hget s.heap) o.op).run (thenC s o [] fun s' _ => opsC P S (o :: r) r [] s' fun s'' _ => κ s'') = some q) :
    ∃ s', κ s' = some q ∧ CodeSound P (.region id (o :: r).toArray false) s .normal s' ∧ Clean s.heap s'.heap := by
  obtain ⟨E, hsel, hE⟩ := Out.run_sel h
  obtain ⟨hu, hκ⟩ := thenC_eq hE
  obtain ⟨l, s', hr, hk⟩ := opsC_runs hS hκ
  refine ⟨s', hk, fun ρ a w Q hs hq => ?_, Clean.trans happ_clean (runs_clean hr)⟩
  obtain ⟨cv, w1, ha, hstep⟩ := sel_sound (nx := s.nx) hsel ρ w a (fun x _ v hv => evv_AR hs.tmp x v hv) hs.inv
  have hs1 := hs.after (o := o) hu ha
  have hp := ha.prog
  have e : updg (hget s.heap) s.nx E = hget (s.after o E).heap := by
    show _ = hget (happ s.heap E)
    rw [happ_get (by rw [← hs.nx]; exact hu), hs.nx]
  rw [e] at hp
  have hops := runs_wp (Q := Q) hr 1 ρ _ w1 (fun i => by rw [Nat.add_comm]; rfl) hs1 fun ρ2 a2 w2 h2 hp2 => hq ρ2 a2 w2 h2 (Prog.trans hp hp2 (by simp [St.after]))
  intro b k cs
  obtain ⟨e2, a2, w2, hq2, harr⟩ := wp_ops _ _ _ hops b k cs
  refine ⟨e2, a2, w2, hq2, .of_steps (.one step_region) (.of_steps (.one ?_) harr)⟩
  have hlen : List.range (o :: r).toArray.size = 0 :: List.range' 1 r.length := by simp [List.range_eq_range', List.range'_succ]
  rw [hlen]
  exact hstep b k cs _ 0 _ rfl (by simp [Region.wanted, hg])

theorem isSel_spec {draw : Bool} {l : List Oper} (h : isSel draw l = true) : ∃ o r, l = o :: r ∧ o.guard = none ∧ draw = false := by
  unfold isSel at h
  split at h
  · exact ⟨_, _, rfl, rfl, by simpa using h⟩
  · cases h

theorem regionC_sound {P : Program} {S : Summ} (hS : SummOk P S) (hmix : P.follows .mixedOrders = true) {id : Nat} {ops : Array Oper} {draw : Bool} {s : St} {κ : St → Option Res} {r : Res} (h : regionC P S ops draw s κ = some r) :
    ∃ s', κ s' = some r ∧ CodeSound P (.region id ops draw) s .normal s' ∧ Clean s.heap s'.heap := by
  unfold regionC at h
  have hops : ops.toList.toArray = ops := by simp
  split at h
  · rename_i o r hsel hl
    obtain ⟨o', r', e1, e2, e3⟩ := isSel_spec hsel
    rw [hl] at e1
    injection e1 with e1 e1'; subst e1 e1' e3
    rw [← hops, hl]
    exact regionSel_sound hS e2 h
  obtain ⟨l, s', hr, hk⟩ := opsC_runs hS h
  split at hk
  · refine ⟨s', hk, fun ρ a w Q hs hq => ?_, runs_clean hr⟩
    have := runs_wp (Q := Q) hr 0 ρ a w (fun i => by simp) hs (fun ρ' a' w' h1 h2 => hq ρ' a' w' h1 h2)
    rw [hops] at this
    refine wp_region ?_
    rw [List.range_eq_range']
    simpa using this
  · split at hk
    · rename_i hd
      refine ⟨s', hk, fun ρ a w Q hs hq => ?_, runs_clean hr⟩
      have hd' : drawOk ops.toList.toArray (l.map It.touch) = true := by rw [hops]; simpa using hd
      have := draw_wp (Q := Q) hr hd' hs.drew (fun ρ' a' w' h1 h2 => hq ρ' a' w' h1 h2.drewFirst)
      rw [hops] at this
      exact wp_region_any hmix this
    · cases hk

/-- A scope that is being run. -/
def ScopeWp (P : Program) (body cur : Code) (Q : Exit → Act → World → Prop) (a : Act) (w : World) : Prop :=
  ∀ (b : Frame) (k : List Item) (cs : List Frame), ∃ e a' w', Q e a' w' ∧ Arrives P (lone (b.at a (.code cur :: .inScope body :: k)) cs w) b k cs e a' w'

theorem wp_scope_of {P : Program} {c : Code} {Q : Exit → Act → World → Prop} {a : Act} {w : World} (h : ScopeWp P c c Q a w) : (Code.scope c).wp P Q a w :=
  fun b k cs => let ⟨e, a', w', q, r⟩ := h b k cs; ⟨e, a', w', q, .of_steps (.one step_scope) r⟩

def scopePost (P : Program) (body : Code) (Q : Exit → Act → World → Prop) : Exit → Act → World → Prop
  | .goto l, a, w => ∃ rest, findLabel body l = some rest ∧ ScopeWp P body rest Q a w
  | e, a, w => Q e a w

theorem scopeWp_of {P : Program} {body cur : Code} {Q : Exit → Act → World → Prop} {a : Act} {w : World} (h : cur.wp P (scopePost P body Q) a w) : ScopeWp P body cur Q a w := by
  intro b k cs
  obtain ⟨e, a₁, w₁, hq, harr⟩ := h b (.inScope body :: k) cs
  cases e with
  | normal => exact ⟨.normal, a₁, w₁, hq, Steps.trans harr (.one step_inScope)⟩
  | exit id => exact ⟨.exit id, a₁, w₁, hq, fun k' hk => harr k' (by simp [exitTo, hk])⟩
  | goto l' =>
    obtain ⟨rest, hf, hs⟩ := hq
    obtain ⟨e₂, a₂, w₂, hq₂, harr₂⟩ := hs b k cs
    exact ⟨e₂, a₂, w₂, hq₂, .of_steps (harr _ (by simp [gotoIn, hf])) harr₂⟩
  | ret => exact ⟨_, a₁, w₁, hq, harr⟩
  | panic ch => exact ⟨_, a₁, w₁, hq, harr⟩
  | outgrown => exact ⟨_, a₁, w₁, hq, harr⟩

def LoopSound (P : Program) (c : Code) (s : St) (e : Ex) (s' : St) : Prop :=
  ∃ m, ∀ (ρ : Rho) (a : Act) (w : World) (Q : Exit → Act → World → Prop), SR ρ s a w → (∀ ρ' a' w', SR ρ' s' a' w' → Prog s.nx ρ (hget s.heap) w ρ' (hget s'.heap) w' → Q e.out a' w') → Code.rounds P c Q m a w

def ScopeSound (P : Program) (body cur : Code) (s : St) (e : Ex) (s' : St) : Prop :=
  ∀ (ρ : Rho) (a : Act) (w : World) (Q : Exit → Act → World → Prop), SR ρ s a w → (∀ ρ' a' w', SR ρ' s' a' w' → Prog s.nx ρ (hget s.heap) w ρ' (hget s'.heap) w' → Q e.out a' w') → ScopeWp P body cur Q a w

theorem exec_both {P : Program} {S : Summ} (hS : SummOk P S) (hmix : P.follows .mixedOrders = true) : ∀ (n : Nat),
    (∀ {c : Code} {s : St} {κ : Ex → St → Option Res} {r : Res}, exec P S n c s κ = some r → ∃ e s', κ e s' = some r ∧ CodeSound P c s e s' ∧ Clean s.heap s'.heap ∧ ∀ body, c = .loop body → LoopSound P body s e s') ∧
    (∀ {body c : Code} {s : St} {κ : Ex → St → Option Res} {r : Res}, execS P S n body c s κ = some r → ∃ e s', κ e s' = some r ∧ ScopeSound P body c s e s' ∧ Clean s.heap s'.heap)
  | 0 => ⟨fun h => by simp [exec] at h, fun h => by simp [execS] at h⟩
  | n + 1 => by
    obtain ⟨ih, ihS⟩ := exec_both hS hmix n
    refine ⟨?_, ?_⟩
    · intro c s κ r h
      cases c <;> simp only [exec] at h
      case skip => exact ⟨_, s, h, fun ρ a w Q hs hq => wp_skip (hq ρ a w hs (Prog.refl _ _ _ _)), Clean.refl _, fun b hb => by cases hb⟩
      case label l => exact ⟨_, s, h, fun ρ a w Q hs hq => wp_label (hq ρ a w hs (Prog.refl _ _ _ _)), Clean.refl _, fun b hb => by cases hb⟩
      case exit id => exact ⟨_, s, h, fun ρ a w Q hs hq => wp_exit (hq ρ a w hs (Prog.refl _ _ _ _)), Clean.refl _, fun b hb => by cases hb⟩
      case goto l => exact ⟨_, s, h, fun ρ a w Q hs hq => wp_goto (hq ρ a w hs (Prog.refl _ _ _ _)), Clean.refl _, fun b hb => by cases hb⟩
      case ret => exact ⟨_, s, h, fun ρ a w Q hs hq => wp_ret (hq ρ a w hs (Prog.refl _ _ _ _)), Clean.refl _, fun b hb => by cases hb⟩
      case region id ops draw =>
        obtain ⟨s', hk, hc, hcl⟩ := regionC_sound (id := id) hS hmix h
        exact ⟨_, s', hk, hc, hcl, fun b hb => by cases hb⟩
      case seq x y =>
        obtain ⟨e, s1, hk, hc, hcl, _⟩ := ih h
        cases e with
        | normal =>
          obtain ⟨e2, s2, hk2, hc2, hcl2, _⟩ := ih hk
          refine ⟨e2, s2, hk2, fun ρ a w Q hs hq => ?_, hcl.trans hcl2, fun b hb => by cases hb⟩
          refine wp_seq (hc ρ a w _ hs fun ρ1 a1 w1 h1 p1 => ?_)
          exact hc2 ρ1 a1 w1 Q h1 fun ρ2 a2 w2 h2 p2 => hq ρ2 a2 w2 h2 (p1.trans p2 (by rw [hs.nx, h1.nx]; exact hcl.2))
        | exit id => exact ⟨_, s1, hk, fun ρ a w Q hs hq => wp_seq (hc ρ a w _ hs fun ρ1 a1 w1 h1 p1 => hq ρ1 a1 w1 h1 p1), hcl, fun b hb => by cases hb⟩
        | goto l => exact ⟨_, s1, hk, fun ρ a w Q hs hq => wp_seq (hc ρ a w _ hs fun ρ1 a1 w1 h1 p1 => hq ρ1 a1 w1 h1 p1), hcl, fun b hb => by cases hb⟩
        | ret => exact ⟨_, s1, hk, fun ρ a w Q hs hq => wp_seq (hc ρ a w _ hs fun ρ1 a1 w1 h1 p1 => hq ρ1 a1 w1 h1 p1), hcl, fun b hb => by cases hb⟩
      case cond x y z =>
        split at h
        · rename_i b hb
          have hev : ∀ (ρ : Rho) (a : Act) (w : World), SR ρ s a w → a.eval x = .bool b := fun ρ a w hs => evv_AR hs.tmp x _ hb
          split at h
          · obtain ⟨e, s1, hk, hc, hcl, _⟩ := ih h
            exact ⟨e, s1, hk, fun ρ a w Q hs hq => wp_cond_true (hev ρ a w hs) (hc ρ a w Q hs hq), hcl, fun b hb => by cases hb⟩
          · obtain ⟨e, s1, hk, hc, hcl, _⟩ := ih h
            exact ⟨e, s1, hk, fun ρ a w Q hs hq => wp_cond_false (hev ρ a w hs) (hc ρ a w Q hs hq), hcl, fun b hb => by cases hb⟩
        · cases h
      case block id x =>
        obtain ⟨e, s1, hk, hc, hcl, _⟩ := ih h
        cases e with
        | exit i =>
          simp only at hk
          by_cases hi : i = id
          · rw [if_pos hi] at hk
            exact ⟨_, s1, hk, fun ρ a w Q hs hq => wp_block (hc ρ a w _ hs fun ρ1 a1 w1 h1 p1 => by simp only [Ex.out, Exit.inBlock, hi, if_true]; exact hq ρ1 a1 w1 h1 p1), hcl, fun b hb => by cases hb⟩
          · rw [if_neg hi] at hk
            exact ⟨_, s1, hk, fun ρ a w Q hs hq => wp_block (hc ρ a w _ hs fun ρ1 a1 w1 h1 p1 => by simp only [Ex.out, Exit.inBlock, hi, if_false]; exact hq ρ1 a1 w1 h1 p1), hcl, fun b hb => by cases hb⟩
        | normal => exact ⟨_, s1, hk, fun ρ a w Q hs hq => wp_block (hc ρ a w _ hs fun ρ1 a1 w1 h1 p1 => hq ρ1 a1 w1 h1 p1), hcl, fun b hb => by cases hb⟩
        | goto l => exact ⟨_, s1, hk, fun ρ a w Q hs hq => wp_block (hc ρ a w _ hs fun ρ1 a1 w1 h1 p1 => hq ρ1 a1 w1 h1 p1), hcl, fun b hb => by cases hb⟩
        | ret => exact ⟨_, s1, hk, fun ρ a w Q hs hq => wp_block (hc ρ a w _ hs fun ρ1 a1 w1 h1 p1 => hq ρ1 a1 w1 h1 p1), hcl, fun b hb => by cases hb⟩
      case loop x =>
        have key : ∃ e s', κ e s' = some r ∧ LoopSound P x s e s' ∧ Clean s.heap s'.heap := by
          obtain ⟨e, s1, hk, hc, hcl, _⟩ := ih h
          have out : ∀ (e : Ex), e ≠ .normal → CodeSound P x s e s1 → LoopSound P x s e s1 := by
            intro e he hc
            refine ⟨1, fun ρ a w Q hs hq => ?_⟩
            rw [rounds_succ]
            refine hc ρ a w _ hs fun ρ1 a1 w1 h1 p1 => ?_
            have := hq ρ1 a1 w1 h1 p1
            cases e <;> first | exact absurd rfl he | exact this
          cases e with
          | normal =>
            obtain ⟨e2, s2, hk2, _, hcl2, hl⟩ := ih hk
            obtain ⟨m, hm⟩ := hl x rfl
            refine ⟨e2, s2, hk2, ⟨m + 1, fun ρ a w Q hs hq => ?_⟩, hcl.trans hcl2⟩
            rw [rounds_succ]
            refine hc ρ a w _ hs fun ρ1 a1 w1 h1 p1 => ?_
            exact hm ρ1 a1 w1 Q h1 fun ρ2 a2 w2 h2 p2 => hq ρ2 a2 w2 h2 (p1.trans p2 (by rw [hs.nx, h1.nx]; exact hcl.2))
          | exit id => exact ⟨_, s1, hk, out _ (by simp) hc, hcl⟩
          | goto l => exact ⟨_, s1, hk, out _ (by simp) hc, hcl⟩
          | ret => exact ⟨_, s1, hk, out _ (by simp) hc, hcl⟩
        obtain ⟨e, s', hk, hl, hcl⟩ := key
        refine ⟨e, s', hk, fun ρ a w Q hs hq => ?_, hcl, fun b hb => by injection hb with hb; subst hb; exact hl⟩
        obtain ⟨m, hm⟩ := hl
        exact wp_loop_rounds m (hm ρ a w Q hs hq)
      case scope x =>
        obtain ⟨e, s', hk, hs', hcl⟩ := ihS h
        exact ⟨e, s', hk, fun ρ a w Q hs hq => wp_scope_of (hs' ρ a w Q hs hq), hcl, fun b hb => by cases hb⟩
      all_goals simp at h
    · intro body c s κ r h
      simp only [execS] at h
      obtain ⟨e, s1, hk, hc, hcl, _⟩ := ih h
      cases e with
      | goto l =>
        simp only at hk
        split at hk
        · rename_i rest hf
          obtain ⟨e2, s2, hk2, hs2, hcl2⟩ := ihS hk
          refine ⟨e2, s2, hk2, fun ρ a w Q hs hq => scopeWp_of (hc ρ a w _ hs fun ρ1 a1 w1 h1 p1 => ?_), hcl.trans hcl2⟩
          exact ⟨rest, hf, hs2 ρ1 a1 w1 Q h1 fun ρ2 a2 w2 h2 p2 => hq ρ2 a2 w2 h2 (p1.trans p2 (by rw [hs.nx, h1.nx]; exact hcl.2))⟩
        · cases hk
      | normal => exact ⟨_, s1, hk, fun ρ a w Q hs hq => scopeWp_of (hc ρ a w _ hs fun ρ1 a1 w1 h1 p1 => hq ρ1 a1 w1 h1 p1), hcl⟩
      | exit id => exact ⟨_, s1, hk, fun ρ a w Q hs hq => scopeWp_of (hc ρ a w _ hs fun ρ1 a1 w1 h1 p1 => hq ρ1 a1 w1 h1 p1), hcl⟩
      | ret => exact ⟨_, s1, hk, fun ρ a w Q hs hq => scopeWp_of (hc ρ a w _ hs fun ρ1 a1 w1 h1 p1 => hq ρ1 a1 w1 h1 p1), hcl⟩

def resOne (tmps : Array Value) : ResultVar → Sem Value
  | .tmp t => pure (tmps.getD t undef)
  | .cell a t => do loadVar t (← asAddr (tmps.getD a undef))

theorem resultsC_sound {P : Program} {tmps : List AV} {g : Get} : ∀ {rs : List ResultVar} {κ : List AE → Option Res} {r : Res}, resultsC P tmps g rs κ = some r →
    ∃ l, κ l = some r ∧ ∀ (ρ : Rho) (c : Array Value) (w : World), (∀ t v, tmps[t]? = some v → AR ρ v (c.getD t undef)) → Inv ρ g w → ∃ vs, (rs.mapM (resOne c)).run P w = .ok vs w ∧ LR (ER ρ) l vs
  | [], κ, r, h => ⟨[], h, fun ρ c w _ _ => ⟨[], by simp, LR.nil⟩⟩
  | .tmp t :: rs, κ, r, h => by
    simp only [resultsC] at h
    split at h
    · rename_i x hx
      obtain ⟨l, hl, hr⟩ := resultsC_sound h
      refine ⟨x :: l, hl, fun ρ c w hc hi => ?_⟩
      obtain ⟨vs, h1, h2⟩ := hr ρ c w hc hi
      exact ⟨c.getD t undef :: vs, by simp only [List.mapM_cons, resOne, Sem.run_bind, Sem.run_pure, Result.andThen_ok, h1], LR.cons (hc t _ hx) h2⟩
    · cases h
  | .cell a t :: rs, κ, r, h => by
    simp only [resultsC] at h
    split at h
    · rename_i p hp
      obtain ⟨E, hE, hk⟩ := Out.run_sel h
      split at hk
      · rename_i x hx
        obtain ⟨l, hl, hr⟩ := resultsC_sound hk
        refine ⟨x :: l, hl, fun ρ c w hc hi => ?_⟩
        obtain ⟨vs, h1, h2⟩ := hr ρ c w hc hi
        obtain ⟨_, _, h3⟩ := load_run hE
        obtain ⟨ad, cv, h4, h5, h6⟩ := h3 g ρ w _ (fun _ _ => rfl) (hc a _ hp) hi
        rw [hx] at h6
        exact ⟨cv :: vs, by simp only [List.mapM_cons, resOne, Sem.run_bind, Sem.run_pure, Result.andThen_ok, h1, h4, asAddr, h5], LR.cons h6 h2⟩
      · cases hk
    · cases h

theorem finish_sound {P : Program} {fn : Func} {s : St} {κ : Res → Option Res} {r : Res} (h : finish P fn s κ = some r) :
    ∃ v, κ ⟨v, finalBlks s.heap⟩ = some r ∧ ∀ (ρ : Rho) (a : Act) (w : World), SR ρ s a w → ∃ cv, (results fn a.tmps).run P w = .ok cv w ∧ AR ρ v cv := by
  unfold finish at h
  obtain ⟨l, hl, hr⟩ := resultsC_sound h
  have hres : ∀ (c : Array Value) (w : World) (vs : List Value), (fn.results.toList.mapM (resOne c)).run P w = .ok vs w →
      (results fn c).run P w = .ok (if h : vs.toArray.size = 1 then vs.toArray[0] else .tuple vs.toArray) w := by
    intro c w vs hv
    have he : results fn c = (do let vs ← fn.results.mapM (resOne c); pure (if h : vs.size = 1 then vs[0] else .tuple vs)) := by
      unfold results
      congr 1
    rw [he]
    simp only [Sem.run_bind, Array.mapM_eq_mapM_toList, Sem.run_map, hv, Result.andThen_ok, Sem.run_pure]
  split at hl
  · rename_i x
    refine ⟨.e x, hl, fun ρ a w hs => ?_⟩
    obtain ⟨vs, h1, h2⟩ := hr ρ a.tmps w hs.tmp hs.inv
    obtain ⟨cv, m, rfl, hx, hm⟩ := h2.cons_inv
    rw [hm.nil_inv] at h1
    exact ⟨cv, by rw [hres _ _ _ h1]; simp, hx⟩
  · rename_i hne
    refine ⟨.tup l, hl, fun ρ a w hs => ?_⟩
    obtain ⟨vs, h1, h2⟩ := hr ρ a.tmps w hs.tmp hs.inv
    refine ⟨.tuple vs.toArray, ?_, _, rfl, by simpa using h2⟩
    rw [hres _ _ _ h1, dif_neg]
    intro h3
    have hl1 : l.length = 1 := by rw [h2.1]; simpa using h3
    cases l with
    | nil => simp at hl1
    | cons x r => cases r with
      | nil => exact hne x rfl
      | cons => simp at hl1

/-- A function that is walked is right. -/
theorem runF_sound {P : Program} {S : Summ} (hS : SummOk P S) (hmix : P.follows .mixedOrders = true) (fuel : Nat) (f : FuncId) : FunSound P f (runF P S fuel f) := by
  intro args sub κ r h
  unfold runF at h
  split at h
  · cases h
  · rename_i fn hfn
    split at h
    · cases h
    · rename_i c hc
      obtain ⟨e, s', hk, hcode, hcl, _⟩ := (exec_both hS hmix fuel).1 h
      have hfin : (e = .normal ∨ e = .ret) ∧ finish P fn s' κ = some r := by
        cases e <;> simp only at hk
        · exact ⟨.inl rfl, hk⟩
        · cases hk
        · cases hk
        · exact ⟨.inr rfl, hk⟩
      obtain ⟨v, hv, hres⟩ := finish_sound hfin.2
      refine ⟨_, hv, fun ρ w cargs hi hf hargs => ?_⟩
      have hsubget : hget (sub.map fun b => (false, b)) = subGet sub := by
        funext i
        unfold hget subGet
        rw [List.getElem?_map]
        cases sub[i]? <;> rfl
      refine calls_of_wp hfn hc ?_
      have hlen : args.length = cargs.size := by simpa using hargs.1
      refine hcode ρ _ w _ ⟨fun t u hu => ?_, by simp [hlen], rfl, by rw [hsubget]; exact hi, by simp, hf⟩ fun ρ' a' w' hsr hpr => ?_
      · simp only at hu
        rw [getD_opt, Array.getElem?_append]
        rw [List.getElem?_append] at hu
        split at hu
        · rename_i ht
          rw [if_pos (by omega)]
          obtain ⟨b, hb, hr⟩ := hargs.2 t u hu
          rw [Array.getElem?_toList] at hb
          rw [hb]; exact hr
        · rename_i ht
          rw [if_neg (by omega)]
          rw [List.getElem?_replicate] at hu
          split at hu
          · injection hu with hu; subst hu
            rename_i hlt
            rw [Array.getElem?_replicate, if_pos (by omega)]
            exact ⟨#[], rfl, LR.nil⟩
          · cases hu
      · obtain ⟨cv, h1, h2⟩ := hres ρ' a' w' hsr
        have hrg : resGet sub (finalBlks s'.heap) = hget s'.heap := by
          funext i
          unfold resGet finalBlks hget
          rw [List.getElem?_map]
          cases hx : s'.heap[i]? with
          | none =>
            simp only [Option.map_none, Option.join_none]
            have hle := hcl.2
            simp only [List.length_map] at hle
            have : s'.heap.length ≤ i := by
              rcases Nat.lt_or_ge i s'.heap.length with h | h
              · rw [List.getElem?_eq_getElem h] at hx; cases hx
              · exact h
            unfold subGet
            rw [List.getElem?_eq_none (by omega)]; rfl
          | some x =>
            obtain ⟨d, b⟩ := x
            cases d with
            | true => simp
            | false =>
              have := hcl.1 i b hx
              simp only [List.getElem?_map, Option.map_eq_some_iff, Prod.mk.injEq, true_and] at this
              obtain ⟨y, hy, rfl⟩ := this
              simp [subGet, hy]
        rw [hsubget] at hpr
        have hpost : CallPost ρ sub w ⟨v, finalBlks s'.heap⟩ ρ' w' cv := by
          refine ⟨hpr.ext, fun i r hr => ?_, h2, by rw [hrg]; exact hsr.inv, hpr.kept, by rw [hrg]; exact hpr.own, by rw [hrg]; exact hpr.live, ?_⟩
          · have hlt : i < s'.nx := by
              rcases Nat.lt_or_ge i s'.nx with h | h
              · exact h
              · rw [hsr.fresh i h] at hr; cases hr
            rw [hsr.nx] at hlt
            exact (hpr.dom i r hr).imp (fun h => h) (fun h => ⟨h, by simpa [finalBlks] using hlt⟩)
          · have := hcl.2; simpa [finalBlks] using this
        rcases hfin.1 with rfl | rfl
        · exact ⟨hsr.def_, cv, h1, cv, ρ', rfl, hpost⟩
        · exact ⟨hsr.def_, cv, h1, cv, ρ', rfl, hpost⟩

end Go.Eng
