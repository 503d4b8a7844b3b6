/- A walker of Go functions over data: tables of functions, some told in short. -/
import Derived.Test.YtanchmbopllimaaEngD
set_option linter.unusedVariables false
set_option linter.unusedSimpArgs false
namespace Go.Eng
open Go

/-- A function told in short: wherever that has an answer, the function has the same. -/
theorem FunSound.short {P : Program} {f : FuncId} {F G : Fun} (h : FunSound P f F) (hle : ∀ args sub κ r, G args sub κ = some r → F args sub κ = some r) : FunSound P f G :=
  fun args sub κ r hr => h args sub κ r (hle args sub κ r hr)

def sNil : Summ := fun _ => none
def sAdd (S : Summ) (f : FuncId) (F : Fun) : Summ := fun g => match Nat.beq g f with | true => some F | false => S g

theorem sNil_ok {P : Program} : SummOk P sNil := fun f F h => by cases h

theorem sAdd_ok {P : Program} {S : Summ} {f : FuncId} {F : Fun} (hS : SummOk P S) (hF : FunSound P f F) (he : Enters P f) : SummOk P (sAdd S f F) := by
  intro g G hg
  unfold sAdd at hg
  split at hg
  · rename_i hb
    have : g = f := Nat.eq_of_beq_eq_true hb
    subst this
    injection hg with hg
    subst hg
    exact ⟨hF, he⟩
  · exact hS g G hg

theorem enters {P : Program} {f : FuncId} {fn : Func} {c : Code} (h : P.funcs[f]? = some fn) (hc : fn.body = some c) (hn : (fn.name == "runtime.NumGoroutine") = false) : Enters P f :=
  ⟨fn, c, h, hc, by simpa using hn⟩


/- what nobody can name any more is forgotten -/
def okIds (n : Nat) : Option Block → Bool
  | none => true
  | some b => b.d.ids.all fun i => Nat.blt i n
def gcOld (σ : Ren) (n : Nat) : List (Option Block) → List (Option (Option Block)) → Option (List (Option (Option Block)))
  | [], _ => some []
  | _ :: _, [] => none
  | s :: r, none :: q => match okIds n s, gcOld σ n r q with
    | true, some l => some (none :: l)
    | _, _ => none
  | _ :: r, some b :: q => match oblkRen σ b, gcOld σ n r q with
    | some b, some l => some (some b :: l)
    | _, _ => none
def isPre : Nat → Nat → List Nat → Bool
  | _, 0, _ => true
  | _, _ + 1, [] => false
  | i, n + 1, x :: r => match Nat.beq x i with | true => isPre (i + 1) n r | false => false
def gcSome : List (Option Block) → List (Option (Option Block))
  | [] => []
  | a :: r => some a :: gcSome r
def gcApp : List (Option (Option Block)) → List (Option (Option Block)) → List (Option (Option Block))
  | [], l => l
  | a :: r, l => a :: gcApp r l

def gcF (F : Fun) : Fun := fun args sub κ => F args sub fun ⟨qv, qb⟩ =>
  match reach (resGet sub qb) reachFuel (List.range sub.length ++ qv.ids) [] with
  | none => none
  | some ids => forceNats ids fun ids => match isPre 0 sub.length ids, qv.ren (posOf ids), gcOld (posOf ids) sub.length sub qb, subRen (posOf ids) (resGet sub qb) (ids.drop sub.length) with
    | true, some v, some old, some new => κ ⟨v, gcApp old (gcSome new)⟩
    | _, _, _, _ => none

theorem isPre_spec : ∀ {i n : Nat} {l : List Nat}, isPre i n l = true → n ≤ l.length ∧ ∀ p, p < n → l[p]? = some (i + p)
  | i, 0, l, _ => ⟨Nat.zero_le _, fun p hp => by omega⟩
  | i, n + 1, [], h => by simp [isPre] at h
  | i, n + 1, x :: r, h => by
    simp only [isPre] at h
    split at h
    · rename_i hb
      have hx : x = i := Nat.eq_of_beq_eq_true hb
      subst hx
      obtain ⟨h1, h2⟩ := isPre_spec h
      refine ⟨by simp; omega, fun p hp => ?_⟩
      cases p with
      | zero => simp
      | succ p => rw [List.getElem?_cons_succ, h2 p (by omega)]; congr 1; omega
    · cases h

theorem gcSome_get : ∀ (l : List (Option Block)) (p : Nat), (gcSome l)[p]? = (l[p]?).map some
  | [], p => by simp [gcSome]
  | a :: r, 0 => by simp [gcSome]
  | a :: r, p + 1 => by simp [gcSome, gcSome_get r p]
theorem gcSome_len : ∀ l : List (Option Block), (gcSome l).length = l.length
  | [] => rfl
  | a :: r => by simp [gcSome, gcSome_len r]
theorem gcApp_eq : ∀ a b : List (Option (Option Block)), gcApp a b = a ++ b
  | [], b => rfl
  | x :: a, b => by simp [gcApp, gcApp_eq a b]

theorem gcOld_spec {σ : Ren} {n : Nat} : ∀ {sub : List (Option Block)} {q l : List (Option (Option Block))}, gcOld σ n sub q = some l → l.length = sub.length ∧
    ∀ p, p < sub.length → ((l[p]? = some none ∧ (q[p]?).join = none ∧ okIds n ((sub[p]?).join) = true) ∨ ∃ b b', l[p]? = some (some b') ∧ (q[p]?).join = some b ∧ oblkRen σ b = some b')
  | [], q, l, h => by simp [gcOld] at h; subst h; exact ⟨rfl, fun p hp => by simp at hp⟩
  | s :: r, [], l, h => by simp [gcOld] at h
  | s :: r, none :: q, l, h => by
    simp only [gcOld] at h
    split at h
    · rename_i l' ho hl
      injection h with h; subst h
      obtain ⟨h1, h2⟩ := gcOld_spec hl
      refine ⟨by simp [h1], fun p hp => ?_⟩
      cases p with
      | zero => exact .inl ⟨rfl, rfl, ho⟩
      | succ p => simpa using h2 p (by simpa using hp)
    · cases h
  | s :: r, some b :: q, l, h => by
    simp only [gcOld] at h
    split at h
    · rename_i b' l' ho hl
      injection h with h; subst h
      obtain ⟨h1, h2⟩ := gcOld_spec hl
      refine ⟨by simp [h1], fun p hp => ?_⟩
      cases p with
      | zero => exact .inr ⟨b, b', rfl, rfl, ho⟩
      | succ p => simpa using h2 p (by simpa using hp)
    · cases h

theorem acsIds_mem : ∀ {l : List AC} {i : Nat} {a : AC}, l[i]? = some a → ∀ x ∈ a.ids, x ∈ acsIds l
  | [], i, a, h, _, _ => by simp at h
  | b :: r, 0, a, h, x, hx => by simp at h; subst h; simp [acsIds, hx]
  | b :: r, i + 1, a, h, x, hx => by simp only [acsIds, List.mem_append]; exact .inr (acsIds_mem (by simpa using h) x hx)
theorem colsIds_mem : ∀ {l : List Col} {i j : Nat} {c : Col} {a : AC}, l[i]? = some c → c.get? j = some a → ∀ x ∈ a.ids, x ∈ colsIds l
  | [], i, j, c, a, h, _, _, _ => by simp at h
  | b :: r, 0, j, c, a, h, hc, x, hx => by
    simp at h; subst h
    cases b with
    | acs l => simp only [colsIds, List.mem_append]; exact .inl (acsIds_mem hc x hx)
    | ints k l => simp only [Col.get?, Option.map_eq_some_iff] at hc; obtain ⟨_, _, rfl⟩ := hc; simp [AC.ids] at hx
    | bools l => simp only [Col.get?, Option.map_eq_some_iff] at hc; obtain ⟨_, _, rfl⟩ := hc; simp [AC.ids] at hx
  | b :: r, i + 1, j, c, a, h, hc, x, hx => by
    have := colsIds_mem (l := r) (i := i) (by simpa using h) hc x hx
    cases b <;> simp [colsIds, this]
theorem flat_ids {d : Data} {i : Nat} {a : AC} (h : d.flat i = some a) : ∀ x ∈ a.ids, x ∈ d.ids := by
  cases d with
  | mix cs => exact acsIds_mem h
  | rows cs =>
    simp only [Data.flat] at h
    split at h
    · cases h
    · obtain ⟨c, hc, ha⟩ := Option.bind_eq_some_iff.1 h
      exact colsIds_mem hc ha
  | chan c n => cases h

theorem CR_low {ρ ρ2 : Rho} {n : Nat} (hn : ∀ i, i < n → ρ2 i = ρ i) {a : AC} {v : Value} (ha : ∀ x ∈ a.ids, x < n) (h : CR ρ a v) : CR ρ2 a v := by
  have hp : ∀ (l : Loc) v, l.id < n → PR ρ l v → PR ρ2 l v := fun l v hl ⟨r, hr, e⟩ => ⟨r, by rw [hn _ hl]; exact hr, e⟩
  cases a with
  | ptr l => exact hp l v (ha _ (by simp [AC.ids])) h
  | slice l es n' e nn =>
    obtain ⟨ca, cap, rfl, a1, a2, a3, a4⟩ := h
    exact ⟨ca, cap, rfl, a1, a2, a3, fun hc => let ⟨r, hr, e1, e2⟩ := a4 hc; ⟨r, by rw [hn _ (ha _ (by simp [AC.ids]))]; exact hr, e1, e2⟩⟩
  | clos f cs =>
    obtain ⟨vs, rfl, hl, hv⟩ := h
    refine ⟨vs, rfl, hl, fun i x hx => ?_⟩
    obtain ⟨y, hy, hr⟩ := hv i x hx
    exact ⟨y, hy, hp _ _ (ha _ (by simp only [AC.ids, List.mem_map]; exact ⟨x, List.mem_of_getElem? hx, rfl⟩)) hr⟩
  | chan l =>
    obtain ⟨r, hr, e⟩ := h
    exact ⟨r, by rw [hn _ (ha _ (by simp [AC.ids]))]; exact hr, e⟩
  | _ => exact h

theorem FunSound.gc {P : Program} {f : FuncId} {F : Fun} (hF : FunSound P f F) : FunSound P f (gcF F) := by
  intro args sub κ r h
  unfold gcF at h
  obtain ⟨⟨qv, qb⟩, hq, hcs⟩ := hF _ _ _ _ h
  simp only at hq
  split at hq
  · cases hq
  rename_i ids hids
  have hnd := reach_nodup hids List.nodup_nil
  rw [forceNats_eq] at hq
  split at hq
  · rename_i v old new hpre hv hold hnew
    refine ⟨_, hq, fun ρ w cargs hi hf ha => (hcs ρ w cargs hi hf ha).mono ?_⟩
    rintro e w' ⟨cv, ρ', rfl, post⟩
    obtain ⟨hpl, hpg⟩ := isPre_spec hpre
    obtain ⟨hol, hog⟩ := gcOld_spec hold
    have hns := subRen_spec hnew
    have hnl : new.length = ids.length - sub.length := by have := hns.1; simp only [List.length_drop] at this; exact this.symm
    let ρ2 : Rho := fun p => (ids[p]?).bind ρ'
    have h2 : ∀ (p i : Nat), ids[p]? = some i → ρ2 p = ρ' i := fun p i hp => by simp [ρ2, hp]
    have hlow : ∀ p, p < sub.length → ρ2 p = ρ' p := fun p hp => by rw [h2 p p (by simpa using hpg p hp)]
    have hfit : Fits (posOf ids) ρ' ρ2 := fun i p hp r hr => by rw [h2 p i (posOf_spec hp)]; exact hr
    have hinj : ∀ (p p' i : Nat), ids[p]? = some i → ids[p']? = some i → p = p' := fun p p' i hp hp' => (List.getElem?_inj (getElem?_lt hp) hnd).1 (hp.trans hp'.symm)
    have hget : ∀ (p : Nat) (b : Block), resGet sub (gcApp old (gcSome new)) p = some b → ∃ i b0, ids[p]? = some i ∧ resGet sub qb i = some b0 ∧ b0.ro = b.ro ∧ ∀ r, Holds ρ' w' r b0 → Holds ρ2 w' r b := by
      intro p b hb
      rw [gcApp_eq] at hb
      rcases Nat.lt_or_ge p sub.length with hp | hp
      · have hip : ids[p]? = some p := by simpa using hpg p hp
        unfold resGet at hb
        rw [List.getElem?_append_left (by omega)] at hb
        rcases hog p hp with ⟨h1, h3, h4⟩ | ⟨b1, b2, h1, h3, h4⟩
        · rw [h1] at hb
          simp only [Option.join_some] at hb
          refine ⟨p, b, hip, by unfold resGet; rw [h3]; exact hb, rfl, fun r hh => ⟨hh.1, fun i a ha => ?_⟩⟩
          obtain ⟨g1, v, g2, g3⟩ := hh.2 i a ha
          refine ⟨g1, v, g2, CR_low hlow (fun x hx => ?_) g3⟩
          unfold subGet at hb
          rw [hb] at h4
          simp only [okIds, List.all_eq_true] at h4
          have := h4 x (flat_ids ha x hx)
          simpa [Nat.blt_eq] using this
        · rw [h1] at hb
          simp only [Option.join_some] at hb
          subst hb
          obtain ⟨b0, rfl, g1, g2⟩ := oblkRen_some h4
          exact ⟨p, b0, hip, by unfold resGet; rw [h3], g1, fun r hh => hh.ren hfit g1 g2⟩
      · unfold resGet at hb
        rw [List.getElem?_append_right (by omega), gcSome_get] at hb
        cases hn : new[p - old.length]? with
        | none =>
          rw [hn] at hb
          simp only [Option.map_none, Option.join_none] at hb
          unfold subGet at hb
          rw [List.getElem?_eq_none hp] at hb
          cases hb
        | some x =>
          rw [hn] at hb
          simp only [Option.map_some, Option.join_some] at hb
          subst hb
          have hlt : p - old.length < (ids.drop sub.length).length := by rw [hns.1]; exact getElem?_lt hn
          obtain ⟨y, hy, ho⟩ := hns.2 _ _ (List.getElem?_eq_getElem hlt)
          rw [hn] at hy; injection hy with hy; subst hy
          obtain ⟨b0, g0, g1, g2⟩ := oblkRen_some ho
          refine ⟨(ids.drop sub.length)[p - old.length], b0, ?_, g0, g1, fun r hh => hh.ren hfit g1 g2⟩
          rw [← List.getElem?_eq_getElem hlt, List.getElem?_drop, hol, show sub.length + (p - sub.length) = p from by omega]
    have hlen : (gcApp old (gcSome new)).length = ids.length := by rw [gcApp_eq, List.length_append, gcSome_len, hol, hnl]; omega
    have hdom : ∀ p r, ρ2 p = some r → ∃ i, ids[p]? = some i ∧ ρ' i = some r := by
      intro p r hr
      cases hx : ids[p]? with
      | none => simp [ρ2, hx] at hr
      | some i => exact ⟨i, rfl, by rw [← h2 p i hx]; exact hr⟩
    refine ⟨cv, ρ2, rfl, ⟨fun i r hr => ?_, fun p r hr => ?_, AR_ren hfit hv post.val, ⟨fun p b hb => ?_, fun p p' b c r s hpp hb hc hr hs hrs hss hro => ?_⟩, post.kept, fun k hk => post.own k ?_, fun k hk => post.live k ?_, by simp only [hlen]; exact hpl⟩⟩
    · have hlt : i < sub.length := by
        rcases Nat.lt_or_ge i sub.length with h | h
        · exact h
        · rw [hf i h] at hr; cases hr
      rw [hlow i hlt]; exact post.ext i r hr
    · obtain ⟨i, hx, hr'⟩ := hdom p r hr
      rcases Nat.lt_or_ge p sub.length with hp | hp
      · left
        have : ids[p]? = some p := by simpa using hpg p hp
        rw [this] at hx; injection hx with hx; subst hx
        rcases post.dom p r hr' with h | h
        · exact h
        · omega
      · right; simp only [hlen]; exact ⟨hp, getElem?_lt hx⟩
    · obtain ⟨i, b0, g1, g2, g3, g4⟩ := hget p b hb
      obtain ⟨r, hr, hh⟩ := post.inv.blk i b0 g2
      exact ⟨r, by rw [h2 p i g1]; exact hr, g4 r hh⟩
    · obtain ⟨i, b0, g1, g2, g3, g4⟩ := hget p b hb
      obtain ⟨j, c0, k1, k2, k3, k4⟩ := hget p' c hc
      rw [h2 p i g1] at hr; rw [h2 p' j k1] at hs
      exact post.inv.apart i j b0 c0 r s (fun e => hpp (hinj p p' i g1 (by rw [e]; exact k1))) g2 k2 hr hs hrs hss (by rw [g3]; exact hro)
    · obtain ⟨p, b, r, hb, hro, hr, hrs, e⟩ := hk
      obtain ⟨i, b0, g1, g2, g3, g4⟩ := hget p b hb
      exact ⟨i, b0, r, g2, by rw [g3]; exact hro, by rw [← h2 p i g1]; exact hr, hrs, e⟩
    · obtain ⟨p, b, r, hb, hr, hrs, e⟩ := hk
      obtain ⟨i, b0, g1, g2, g3, g4⟩ := hget p b hb
      exact ⟨i, b0, r, g2, by rw [← h2 p i g1]; exact hr, hrs, e⟩
  · cases hq

/-- A function walked, and what is left over forgotten. -/
def runG (P : Program) (S : Summ) (fuel : Nat) (f : FuncId) : Fun := gcF (runF P S fuel f)
theorem runG_sound {P : Program} {S : Summ} (hS : SummOk P S) (hmix : P.follows .mixedOrders = true) (fuel : Nat) (f : FuncId) : FunSound P f (runG P S fuel f) := (runF_sound hS hmix fuel f).gc

/- the machine's numbers -/
theorem wrap_u64_emod (n : Int) : IntKind.u64.wrap n = n % 18446744073709551616 := by
  simp [IntKind.wrap, IntKind.bits, IntKind.signed]

theorem wrap_i64_eq (n : Int) : IntKind.i64.wrap n = if 9223372036854775808 ≤ n % 18446744073709551616 then n % 18446744073709551616 - 18446744073709551616 else n % 18446744073709551616 := by
  simp [IntKind.wrap, IntKind.bits, IntKind.signed]

theorem wrap_u64 {n : Int} (h0 : 0 ≤ n) (h : n < 18446744073709551616) : IntKind.u64.wrap n = n := by
  rw [wrap_u64_emod]; omega

theorem wrap_i64 {n : Int} (h0 : -9223372036854775808 ≤ n) (h : n < 9223372036854775808) : IntKind.i64.wrap n = n := by
  rw [wrap_i64_eq]; split <;> omega

theorem ofInt_toNat {a : Int} (h0 : 0 ≤ a) (h : a < 2 ^ 64) : (BitVec.ofInt 64 a).toNat = a.toNat := by
  rw [BitVec.toNat_ofInt]; omega

theorem and_low {a : Int} {n : Nat} (h0 : 0 ≤ a) (h : a < 2 ^ 64) (hn : n ≤ 64) : ((BitVec.ofInt 64 a &&& BitVec.ofInt 64 (2 ^ n - 1)).toNat : Int) = a % 2 ^ n := by
  have hp : (0 : Int) < 2 ^ n := by exact_mod_cast Nat.two_pow_pos n
  have hle : (2 : Int) ^ n ≤ 2 ^ 64 := by exact_mod_cast Nat.pow_le_pow_right (by omega) hn
  obtain ⟨m, rfl⟩ : ∃ m : Nat, (m : Int) = a := ⟨a.toNat, by omega⟩
  rw [BitVec.toNat_and, ofInt_toNat h0 h, ofInt_toNat (by omega) (by omega)]
  have e : ((2 : Int) ^ n - 1).toNat = 2 ^ n - 1 := by
    have : ((2 : Int) ^ n) = ((2 ^ n : Nat) : Int) := by simp
    rw [this]; omega
  rw [e, Int.toNat_natCast, Nat.and_two_pow_sub_one_eq_mod]
  simp

end Go.Eng
