/- A walker of Go functions over data: loops that are told in short; what nobody can name at a loop's head is forgotten. -/
import Derived.Test.YtanchmbopllimaaEngE
set_option linter.unusedVariables false
set_option linter.unusedSimpArgs false
namespace Go.Eng
open Go

/-- What is known of memory all the while, of the first blocks alone. -/
structure ProgN (n : Nat) (ρ : Rho) (g : Get) (w : World) (ρ' : Rho) (g' : Get) (w' : World) : Prop where
  low : ∀ i, i < n → ρ' i = ρ i
  kept : Kept (Own ρ g) w w'
  own : ∀ k, Own ρ' g' k → Own ρ g k ∨ w.heap.size ≤ k
  live : ∀ k, Live ρ' g' k → Live ρ g k ∨ w.heap.size ≤ k

theorem Prog.toN {n m : Nat} {ρ ρ' : Rho} {g g' : Get} {w w' : World} (h : Prog m ρ g w ρ' g' w') (hnm : n ≤ m) : ProgN n ρ g w ρ' g' w' := by
  refine ⟨fun i hi => ?_, h.kept, h.own, h.live⟩
  cases hr : ρ' i with
  | some r =>
    rcases h.dom i r hr with h1 | h1
    · exact h1.symm
    · omega
  | none =>
    cases hq : ρ i with
    | none => rfl
    | some r => have := h.ext i r hq; rw [hr] at this; cases this

theorem ProgN.refl (n : Nat) (ρ : Rho) (g : Get) (w : World) : ProgN n ρ g w ρ g w := ⟨fun _ _ => rfl, Kept.refl _ _, fun _ h => .inl h, fun _ h => .inl h⟩
theorem ProgN.trans {n : Nat} {ρ1 ρ2 ρ3 : Rho} {g1 g2 g3 : Get} {w1 w2 w3 : World} (h : ProgN n ρ1 g1 w1 ρ2 g2 w2) (k : ProgN n ρ2 g2 w2 ρ3 g3 w3) : ProgN n ρ1 g1 w1 ρ3 g3 w3 :=
  ⟨fun i hi => (k.low i hi).trans (h.low i hi), h.kept.trans k.kept h.own, fun b hb => (k.own b hb).elim (h.own b) (fun e => .inr (Nat.le_trans h.kept.size e)), fun b hb => (k.live b hb).elim (h.live b) (fun e => .inr (Nat.le_trans h.kept.size e))⟩

def CleanN (n : Nat) (h h' : Heap) : Prop := (∀ (i : Nat) (b : Option Block), h'[i]? = some (false, b) → h[i]? = some (false, b)) ∧ n ≤ h'.length
theorem CleanN.refl {n : Nat} {h : Heap} (hn : n ≤ h.length) : CleanN n h h := ⟨fun _ _ e => e, hn⟩
theorem CleanN.trans {n : Nat} {a b c : Heap} (h : CleanN n a b) (k : CleanN n b c) : CleanN n a c := ⟨fun i x e => h.1 i x (k.1 i x e), k.2⟩
theorem Clean.toN {n : Nat} {a b : Heap} (h : Clean a b) (hn : n ≤ a.length) : CleanN n a b := ⟨h.1, Nat.le_trans hn h.2⟩

def CodeSoundN (n : Nat) (P : Program) (c : Code) (s : St) (e : Ex) (s' : St) : Prop :=
  ∀ (ρ : Rho) (a : Act) (w : World) (Q : Exit → Act → World → Prop), SR ρ s a w → (∀ ρ' a' w', SR ρ' s' a' w' → ProgN n ρ (hget s.heap) w ρ' (hget s'.heap) w' → Q e.out a' w') → c.wp P Q a w
def LoopSoundN (n : Nat) (P : Program) (c : Code) (s : St) (e : Ex) (s' : St) : Prop :=
  ∃ m, ∀ (ρ : Rho) (a : Act) (w : World) (Q : Exit → Act → World → Prop), SR ρ s a w → (∀ ρ' a' w', SR ρ' s' a' w' → ProgN n ρ (hget s.heap) w ρ' (hget s'.heap) w' → Q e.out a' w') → Code.rounds P c Q m a w

theorem CodeSound.toN {n : Nat} {P : Program} {c : Code} {s s' : St} {e : Ex} (h : CodeSound P c s e s') (hn : n ≤ s.heap.length) : CodeSoundN n P c s e s' :=
  fun ρ a w Q hs hq => h ρ a w Q hs fun ρ' a' w' h1 h2 => hq ρ' a' w' h1 (h2.toN (by rw [hs.nx]; exact hn))

/-- A block told in short. -/
abbrev Orc := St → (Ex → St → Option Res) → Option Res
def OrcSound (n : Nat) (P : Program) (c : Code) (O : Orc) : Prop :=
  ∀ s κ r, n ≤ s.heap.length → O s κ = some r → ∃ e s', κ e s' = some r ∧ CodeSoundN n P c s e s' ∧ CleanN n s.heap s'.heap

inductive Sub : Code → Code → Prop where
  | refl (c) : Sub c c
  | seqL {x a b} : Sub x a → Sub x (.seq a b)
  | seqR {x a b} : Sub x b → Sub x (.seq a b)
  | condL {x c a b} : Sub x a → Sub x (.cond c a b)
  | condR {x c a b} : Sub x b → Sub x (.cond c a b)
  | block {x id a} : Sub x a → Sub x (.block id a)
  | loop {x a} : Sub x a → Sub x (.loop a)

def blockIds : Code → List Nat
  | .seq a b => blockIds a ++ blockIds b
  | .cond _ a b => blockIds a ++ blockIds b
  | .block id a => id :: blockIds a
  | .loop a => blockIds a
  | _ => []

def findB (id : Nat) : Code → Option Code
  | .seq a b => match findB id a with | some x => some x | none => findB id b
  | .cond _ a b => match findB id a with | some x => some x | none => findB id b
  | .block i a => match Nat.beq i id with | true => some a | false => findB id a
  | .loop a => findB id a
  | _ => none

theorem findB_mem {id : Nat} : ∀ {c x : Code}, findB id c = some x → id ∈ blockIds c
  | .seq a b, x, h => by
    simp only [findB] at h
    split at h
    · rename_i y hy; simp only [blockIds, List.mem_append]; exact .inl (findB_mem hy)
    · simp only [blockIds, List.mem_append]; exact .inr (findB_mem h)
  | .cond _ a b, x, h => by
    simp only [findB] at h
    split at h
    · rename_i y hy; simp only [blockIds, List.mem_append]; exact .inl (findB_mem hy)
    · simp only [blockIds, List.mem_append]; exact .inr (findB_mem h)
  | .block i a, x, h => by
    simp only [findB] at h
    split at h
    · rename_i hb; have := Nat.eq_of_beq_eq_true hb; subst this; simp [blockIds]
    · simp only [blockIds, List.mem_cons]; exact .inr (findB_mem h)
  | .loop a, x, h => by simp only [findB] at h; simp only [blockIds]; exact findB_mem h
  | .skip, x, h => by simp [findB] at h
  | .label _, x, h => by simp [findB] at h
  | .exit _, x, h => by simp [findB] at h
  | .goto _, x, h => by simp [findB] at h
  | .ret, x, h => by simp [findB] at h
  | .region _ _ _, x, h => by simp [findB] at h
  | .scope _, x, h => by simp [findB] at h

theorem sub_mem {id : Nat} {x c : Code} (h : Sub (.block id x) c) : id ∈ blockIds c := by
  induction h with
  | refl => simp [blockIds]
  | seqL _ ih => simp only [blockIds, List.mem_append]; exact .inl ih
  | seqR _ ih => simp only [blockIds, List.mem_append]; exact .inr ih
  | condL _ ih => simp only [blockIds, List.mem_append]; exact .inl ih
  | condR _ ih => simp only [blockIds, List.mem_append]; exact .inr ih
  | block _ ih => simp only [blockIds, List.mem_cons]; exact .inr ih
  | loop _ ih => simp only [blockIds]; exact ih

theorem sub_find {id : Nat} {x c : Code} (h : Sub (.block id x) c) (hn : (blockIds c).Nodup) : findB id c = some x := by
  induction h with
  | refl => simp [findB]
  | @seqL a b hs ih =>
    simp only [blockIds] at hn
    simp only [findB, ih (List.nodup_append.1 hn).1]
  | @seqR a b hs ih =>
    simp only [blockIds] at hn
    have hd := (List.nodup_append.1 hn).2.2
    simp only [findB]
    split
    · rename_i y hy'; exact absurd rfl (hd _ (findB_mem hy') _ (sub_mem hs))
    · exact ih (List.nodup_append.1 hn).2.1
  | @condL _ a b hs ih =>
    simp only [blockIds] at hn
    simp only [findB, ih (List.nodup_append.1 hn).1]
  | @condR _ a b hs ih =>
    simp only [blockIds] at hn
    have hd := (List.nodup_append.1 hn).2.2
    simp only [findB]
    split
    · rename_i y hy'; exact absurd rfl (hd _ (findB_mem hy') _ (sub_mem hs))
    · exact ih (List.nodup_append.1 hn).2.1
  | @block i a hs ih =>
    simp only [blockIds, List.nodup_cons] at hn
    simp only [findB]
    split
    · rename_i hb
      have := Nat.eq_of_beq_eq_true hb
      subst this
      exact absurd (sub_mem hs) hn.1
    · exact ih hn.2
  | loop hs ih => simp only [blockIds] at hn; simp only [findB]; exact ih hn

def execL (P : Program) (S : Summ) (L : Nat → Option Orc) : Nat → Code → St → (Ex → St → Option Res) → Option Res
  | 0, _, _, _ => none
  | n + 1, c, s, κ => match c with
    | .skip => κ .normal s
    | .label _ => κ .normal s
    | .exit id => κ (.exit id) s
    | .goto l => κ (.goto l) s
    | .ret => κ .ret s
    | .region _ ops draw => regionC P S ops draw s (κ .normal)
    | .seq a b => execL P S L n a s fun e s' => match e with
      | .normal => execL P S L n b s' κ
      | e => κ e s'
    | .cond c x y => match evv s.tmps c with
      | some (.e (.c (.bool b))) => match b with
        | true => execL P S L n x s κ
        | false => execL P S L n y s κ
      | _ => none
    | .block id c => match L id with
      | some O => O s κ
      | none => execL P S L n c s fun e s' => match e with
        | .exit i => if i = id then κ .normal s' else κ (.exit i) s'
        | e => κ e s'
    | .loop c => execL P S L n c s fun e s' => match e with
      | .normal => execL P S L n (.loop c) s' κ
      | e => κ e s'
    | .scope c => execS P S n c c s κ
    | _ => none

def LOk (n : Nat) (P : Program) (L : Nat → Option Orc) (c : Code) : Prop := ∀ id x O, Sub (.block id x) c → L id = some O → OrcSound n P (.block id x) O

theorem execL_sound {P : Program} {S : Summ} {L : Nat → Option Orc} {k : Nat} (hS : SummOk P S) (hmix : P.follows .mixedOrders = true) : ∀ (n : Nat) {c : Code} {s : St} {κ : Ex → St → Option Res} {r : Res}, LOk k P L c → k ≤ s.heap.length → execL P S L n c s κ = some r →
    ∃ e s', κ e s' = some r ∧ CodeSoundN k P c s e s' ∧ CleanN k s.heap s'.heap ∧ ∀ body, c = .loop body → LoopSoundN k P body s e s'
  | 0, c, s, κ, r, _, _, h => by simp [execL] at h
  | n + 1, c, s, κ, r, hL, hk, h => by
    have ih := @execL_sound P S L k hS hmix n
    have L1 : ∀ {y : Code}, (∀ x, Sub x y → Sub x c) → LOk k P L y := fun hy id x O hs hO => hL id x O (hy _ hs) hO
    cases c <;> simp only [execL] at h
    case skip => exact ⟨_, s, h, fun ρ a w Q hs hq => wp_skip (hq ρ a w hs (ProgN.refl _ _ _ _)), CleanN.refl hk, fun b hb => by cases hb⟩
    case label l => exact ⟨_, s, h, fun ρ a w Q hs hq => wp_label (hq ρ a w hs (ProgN.refl _ _ _ _)), CleanN.refl hk, fun b hb => by cases hb⟩
    case exit id => exact ⟨_, s, h, fun ρ a w Q hs hq => wp_exit (hq ρ a w hs (ProgN.refl _ _ _ _)), CleanN.refl hk, fun b hb => by cases hb⟩
    case goto l => exact ⟨_, s, h, fun ρ a w Q hs hq => wp_goto (hq ρ a w hs (ProgN.refl _ _ _ _)), CleanN.refl hk, fun b hb => by cases hb⟩
    case ret => exact ⟨_, s, h, fun ρ a w Q hs hq => wp_ret (hq ρ a w hs (ProgN.refl _ _ _ _)), CleanN.refl hk, fun b hb => by cases hb⟩
    case region id ops draw =>
      obtain ⟨s', hk', hc, hcl⟩ := regionC_sound (id := id) hS hmix h
      exact ⟨_, s', hk', hc.toN hk, hcl.toN hk, fun b hb => by cases hb⟩
    case seq x y =>
      obtain ⟨e, s1, hk1, hc, hcl, _⟩ := ih (L1 fun _ => Sub.seqL) hk h
      cases e with
      | normal =>
        obtain ⟨e2, s2, hk2, hc2, hcl2, _⟩ := ih (L1 fun _ => Sub.seqR) hcl.2 hk1
        refine ⟨e2, s2, hk2, fun ρ a w Q hs hq => ?_, hcl.trans hcl2, fun b hb => by cases hb⟩
        refine wp_seq (hc ρ a w _ hs fun ρ1 a1 w1 h1 p1 => ?_)
        exact hc2 ρ1 a1 w1 Q h1 fun ρ2 a2 w2 h2 p2 => hq ρ2 a2 w2 h2 (p1.trans p2)
      | exit id => exact ⟨_, s1, hk1, fun ρ a w Q hs hq => wp_seq (hc ρ a w _ hs fun ρ1 a1 w1 h1 p1 => hq ρ1 a1 w1 h1 p1), hcl, fun b hb => by cases hb⟩
      | goto l => exact ⟨_, s1, hk1, fun ρ a w Q hs hq => wp_seq (hc ρ a w _ hs fun ρ1 a1 w1 h1 p1 => hq ρ1 a1 w1 h1 p1), hcl, fun b hb => by cases hb⟩
      | ret => exact ⟨_, s1, hk1, fun ρ a w Q hs hq => wp_seq (hc ρ a w _ hs fun ρ1 a1 w1 h1 p1 => hq ρ1 a1 w1 h1 p1), hcl, fun b hb => by cases hb⟩
    case cond x y z =>
      split at h
      · rename_i b hb
        have hev : ∀ (ρ : Rho) (a : Act) (w : World), SR ρ s a w → a.eval x = .bool b := fun ρ a w hs => evv_AR hs.tmp x _ hb
        split at h
        · obtain ⟨e, s1, hk1, hc, hcl, _⟩ := ih (L1 fun _ => Sub.condL) hk h
          exact ⟨e, s1, hk1, fun ρ a w Q hs hq => wp_cond_true (hev ρ a w hs) (hc ρ a w Q hs hq), hcl, fun b hb => by cases hb⟩
        · obtain ⟨e, s1, hk1, hc, hcl, _⟩ := ih (L1 fun _ => Sub.condR) hk h
          exact ⟨e, s1, hk1, fun ρ a w Q hs hq => wp_cond_false (hev ρ a w hs) (hc ρ a w Q hs hq), hcl, fun b hb => by cases hb⟩
      · cases h
    case block id x =>
      split at h
      · rename_i O hO
        obtain ⟨e, s1, h1, h2, h3⟩ := hL id x O (Sub.refl _) hO s κ r hk h
        exact ⟨e, s1, h1, h2, h3, fun b hb => by cases hb⟩
      · obtain ⟨e, s1, hk1, hc, hcl, _⟩ := ih (L1 fun _ => Sub.block) hk h
        cases e with
        | exit i =>
          simp only at hk1
          by_cases hi : i = id
          · rw [if_pos hi] at hk1
            exact ⟨_, s1, hk1, fun ρ a w Q hs hq => wp_block (hc ρ a w _ hs fun ρ1 a1 w1 h1 p1 => by simp only [Ex.out, Exit.inBlock, hi, if_true]; exact hq ρ1 a1 w1 h1 p1), hcl, fun b hb => by cases hb⟩
          · rw [if_neg hi] at hk1
            exact ⟨_, s1, hk1, fun ρ a w Q hs hq => wp_block (hc ρ a w _ hs fun ρ1 a1 w1 h1 p1 => by simp only [Ex.out, Exit.inBlock, hi, if_false]; exact hq ρ1 a1 w1 h1 p1), hcl, fun b hb => by cases hb⟩
        | normal => exact ⟨_, s1, hk1, fun ρ a w Q hs hq => wp_block (hc ρ a w _ hs fun ρ1 a1 w1 h1 p1 => hq ρ1 a1 w1 h1 p1), hcl, fun b hb => by cases hb⟩
        | goto l => exact ⟨_, s1, hk1, fun ρ a w Q hs hq => wp_block (hc ρ a w _ hs fun ρ1 a1 w1 h1 p1 => hq ρ1 a1 w1 h1 p1), hcl, fun b hb => by cases hb⟩
        | ret => exact ⟨_, s1, hk1, fun ρ a w Q hs hq => wp_block (hc ρ a w _ hs fun ρ1 a1 w1 h1 p1 => hq ρ1 a1 w1 h1 p1), hcl, fun b hb => by cases hb⟩
    case loop x =>
      have key : ∃ e s', κ e s' = some r ∧ LoopSoundN k P x s e s' ∧ CleanN k s.heap s'.heap := by
        obtain ⟨e, s1, hk1, hc, hcl, _⟩ := ih (L1 fun _ => Sub.loop) hk h
        have out : ∀ (e : Ex), e ≠ .normal → CodeSoundN k P x s e s1 → LoopSoundN k P x s e s1 := by
          intro e he hc
          refine ⟨1, fun ρ a w Q hs hq => ?_⟩
          rw [rounds_succ]
          refine hc ρ a w _ hs fun ρ1 a1 w1 h1 p1 => ?_
          have := hq ρ1 a1 w1 h1 p1
          cases e <;> first | exact absurd rfl he | exact this
        cases e with
        | normal =>
          obtain ⟨e2, s2, hk2, _, hcl2, hl⟩ := ih hL hcl.2 hk1
          obtain ⟨m, hm⟩ := hl x rfl
          refine ⟨e2, s2, hk2, ⟨m + 1, fun ρ a w Q hs hq => ?_⟩, hcl.trans hcl2⟩
          rw [rounds_succ]
          refine hc ρ a w _ hs fun ρ1 a1 w1 h1 p1 => ?_
          exact hm ρ1 a1 w1 Q h1 fun ρ2 a2 w2 h2 p2 => hq ρ2 a2 w2 h2 (p1.trans p2)
        | exit id => exact ⟨_, s1, hk1, out _ (by simp) hc, hcl⟩
        | goto l => exact ⟨_, s1, hk1, out _ (by simp) hc, hcl⟩
        | ret => exact ⟨_, s1, hk1, out _ (by simp) hc, hcl⟩
      obtain ⟨e, s', hk', hl, hcl⟩ := key
      refine ⟨e, s', hk', fun ρ a w Q hs hq => ?_, hcl, fun b hb => by injection hb with hb; subst hb; exact hl⟩
      obtain ⟨m, hm⟩ := hl
      exact wp_loop_rounds m (hm ρ a w Q hs hq)
    case scope x =>
      obtain ⟨e, s', hk', hs', hcl⟩ := (exec_both hS hmix n).2 h
      exact ⟨e, s', hk', fun ρ a w Q hs hq => wp_scope_of (hs' ρ a w Q hs fun ρ' a' w' h1 h2 => hq ρ' a' w' h1 (h2.toN (by rw [hs.nx]; exact hk))), hcl.toN hk, fun b hb => by cases hb⟩
    all_goals simp at h

/- what is kept at a loop's head -/
def getsT (tmps : List AV) : List Nat → Option (List AV)
  | [] => some []
  | t :: r => match tmps[t]?, getsT tmps r with
    | some v, some l => some (v :: l)
    | _, _ => none
def pickT (N : Nat) (live : List Nat) (tmps : List AV) : Option (List AV) := match Nat.beq tmps.length N with
  | true => getsT tmps live
  | false => none
def blankT : Nat → List AV
  | 0 => []
  | n + 1 => .any :: blankT n
def setsT : List Nat → List AV → List AV → List AV
  | t :: r, v :: l, tmps => setsT r l (tmps.set t v)
  | _, _, tmps => tmps
def setsTK {β : Type} : List Nat → List AV → List AV → (List AV → β) → β
  | t :: r, v :: l, tmps, κ => v.force fun v => setK tmps t v fun tmps => setsTK r l tmps κ
  | _, _, tmps, κ => κ tmps
theorem setsTK_eq {β : Type} : ∀ (ts : List Nat) (vs tmps : List AV) (κ : List AV → β), setsTK ts vs tmps κ = κ (setsT ts vs tmps)
  | t :: r, v :: l, tmps, κ => by simp [setsTK, setsT, AV.force_eq, setK_eq, setsTK_eq r]
  | [], _, _, _ => rfl
  | _ :: _, [], _, _ => rfl
def blankK {β : Type} : Nat → (List AV → β) → β
  | 0, κ => κ []
  | n + 1, κ => blankK n fun l => κ (.any :: l)
theorem blankK_eq {β : Type} : ∀ (n : Nat) (κ : List AV → β), blankK n κ = κ (blankT n)
  | 0, _ => rfl
  | n + 1, κ => by simp [blankK, blankT, blankK_eq n]
def stOf (N : Nat) (live : List Nat) (vs : List AV) (h : Heap) : St := ⟨setsT live vs (blankT N), h, h.length⟩
def lenK {α β : Type} : List α → Nat → (Nat → β) → β
  | [], n, κ => κ n
  | _ :: r, n, κ => lenK r (n + 1) κ
theorem lenK_eq {α β : Type} : ∀ (l : List α) (n : Nat) (κ : Nat → β), lenK l n κ = κ (n + l.length)
  | [], _, _ => rfl
  | _ :: r, n, κ => by simp only [lenK, lenK_eq r, List.length_cons]; congr 1; omega
def stK {β : Type} (N : Nat) (live : List Nat) (vs : List AV) (h : Heap) (κ : St → β) : β := blankK N fun b => setsTK live vs b fun t => lenK h 0 fun n => κ ⟨t, h, n⟩
theorem stK_eq {β : Type} (N : Nat) (live : List Nat) (vs : List AV) (h : Heap) (κ : St → β) : stK N live vs h κ = κ (stOf N live vs h) := by
  simp [stK, stOf, blankK_eq, setsTK_eq, lenK_eq]

theorem blankT_len : ∀ n, (blankT n).length = n
  | 0 => rfl
  | n + 1 => by simp [blankT, blankT_len n]
theorem blankT_get : ∀ {n t : Nat} {v : AV}, (blankT n)[t]? = some v → v = .any
  | 0, t, v, h => by simp [blankT] at h
  | n + 1, 0, v, h => by simp [blankT] at h; exact h.symm
  | n + 1, t + 1, v, h => by simp [blankT] at h; exact blankT_get h
theorem setsT_len : ∀ {ts : List Nat} {vs tmps : List AV}, (setsT ts vs tmps).length = tmps.length
  | t :: r, v :: l, tmps => by simp [setsT, setsT_len]
  | [], _, _ => rfl
  | _ :: _, [], _ => rfl
theorem setsT_get : ∀ {ts : List Nat} {vs tmps : List AV} {t : Nat} {v : AV}, (setsT ts vs tmps)[t]? = some v → tmps[t]? = some v ∨ ∃ j : Nat, ts[j]? = some t ∧ vs[j]? = some v
  | u :: r, x :: l, tmps, t, v, h => by
    rcases setsT_get (ts := r) (vs := l) h with h1 | ⟨j, h1, h2⟩
    · rw [List.getElem?_set] at h1
      split at h1
      · rename_i hu
        split at h1
        · injection h1 with h1; exact .inr ⟨0, by simp [hu], by simp [h1]⟩
        · cases h1
      · exact .inl h1
    · exact .inr ⟨j + 1, by simpa using h1, by simpa using h2⟩
  | [], _, _, _, _, h => .inl h
  | _ :: _, [], _, _, _, h => .inl h
theorem getsT_spec {tmps : List AV} : ∀ {ts : List Nat} {vs : List AV}, getsT tmps ts = some vs → LR (fun t v => tmps[t]? = some v) ts vs
  | [], vs, h => by simp [getsT] at h; subst h; exact LR.nil
  | t :: r, vs, h => by
    simp only [getsT] at h
    split at h
    · rename_i v l hv hl
      injection h with h; subst h
      exact LR.cons hv (getsT_spec hl)
    · cases h

/- forgetting -/
def gcLow (σ : Ren) (n : Nat) : Nat → Heap → Option Heap
  | 0, _ => some []
  | _ + 1, [] => none
  | m + 1, (false, b) :: r => match okIds n b, gcLow σ n m r with
    | true, some l => some ((false, b) :: l)
    | _, _ => none
  | m + 1, (true, b) :: r => match oblkRen σ b, gcLow σ n m r with
    | some b, some l => some ((true, b) :: l)
    | _, _ => none
def forceNew {β : Type} : List (Option Block) → (Heap → β) → β
  | [], κ => κ []
  | b :: r, κ => forceBlk (fun b => forceNew r fun r => κ ((true, b) :: r)) b
theorem forceNew_eq {β : Type} : ∀ (new : List (Option Block)) (κ : Heap → β), forceNew new κ = κ (new.map fun b => (true, b))
  | [], κ => by simp [forceNew]
  | b :: r, κ => by simp [forceNew, forceBlk_eq, forceNew_eq r]
def forceHeap {β : Type} : Heap → List (Option Block) → (Heap → β) → β
  | [], new, κ => forceNew new κ
  | (d, b) :: r, new, κ => forceBlk (fun b => forceHeap r new fun r => κ ((d, b) :: r)) b
theorem forceHeap_eq {β : Type} : ∀ (h : Heap) (new : List (Option Block)) (κ : Heap → β), forceHeap h new κ = κ (h ++ new.map fun b => (true, b))
  | [], new, κ => by simp [forceHeap, forceNew_eq]
  | (d, b) :: r, new, κ => by simp [forceHeap, forceBlk_eq, forceHeap_eq r]
def forceAvs {β : Type} : List AV → (List AV → β) → β
  | [], κ => κ []
  | a :: r, κ => a.force fun a => forceAvs r fun r => κ (a :: r)
theorem forceAvs_eq {β : Type} : ∀ (l : List AV) (κ : List AV → β), forceAvs l κ = κ l
  | [], _ => rfl
  | a :: r, κ => by simp [forceAvs, AV.force_eq, forceAvs_eq r]

def normH (n : Nat) (vs : List AV) (h : Heap) (κ : List AV → Heap → Option Res) : Option Res :=
  match reach (hget h) reachFuel (List.range n ++ avsIds vs) [] with
  | none => none
  | some ids => forceNats ids fun ids => match isPre 0 n ids, avsRen (posOf ids) vs, gcLow (posOf ids) n n h, subRen (posOf ids) (hget h) (ids.drop n) with
    | true, some vs', some low, some new => forceAvs vs' fun vs' => forceHeap low new fun h' => κ vs' h'
    | _, _, _, _ => none

theorem gcLow_spec {σ : Ren} {n : Nat} : ∀ {m : Nat} {h l : Heap}, gcLow σ n m h = some l → l.length = m ∧ m ≤ h.length ∧
    ∀ p, p < m → ((∃ b, l[p]? = some (false, b) ∧ h[p]? = some (false, b) ∧ okIds n b = true) ∨ ∃ b b', l[p]? = some (true, b') ∧ h[p]? = some (true, b) ∧ oblkRen σ b = some b')
  | 0, h, l, e => by simp [gcLow] at e; subst e; exact ⟨rfl, Nat.zero_le _, fun p hp => by omega⟩
  | m + 1, [], l, e => by simp [gcLow] at e
  | m + 1, (false, b) :: r, l, e => by
    simp only [gcLow] at e
    split at e
    · rename_i l' ho hl
      injection e with e; subst e
      obtain ⟨h1, h2, h3⟩ := gcLow_spec hl
      refine ⟨by simp [h1], by simp; omega, fun p hp => ?_⟩
      cases p with
      | zero => exact .inl ⟨b, rfl, rfl, ho⟩
      | succ p => simpa using h3 p (by omega)
    · cases e
  | m + 1, (true, b) :: r, l, e => by
    simp only [gcLow] at e
    split at e
    · rename_i b' l' ho hl
      injection e with e; subst e
      obtain ⟨h1, h2, h3⟩ := gcLow_spec hl
      refine ⟨by simp [h1], by simp; omega, fun p hp => ?_⟩
      cases p with
      | zero => exact .inr ⟨b, b', rfl, rfl, ho⟩
      | succ p => simpa using h3 p (by omega)
    · cases e

theorem normH_sound {n N : Nat} {live : List Nat} {vs : List AV} {s : St} {κ : List AV → Heap → Option Res} {r : Res} (hn : n ≤ s.heap.length) (hp : pickT N live s.tmps = some vs) (h : normH n vs s.heap κ = some r) :
    ∃ vs' h', κ vs' h' = some r ∧ CleanN n s.heap h' ∧ ∀ ρ a w, SR ρ s a w → ∃ ρ', SR ρ' (stOf N live vs' h') a w ∧ ProgN n ρ (hget s.heap) w ρ' (hget h') w := by
  unfold normH at h
  split at h
  · cases h
  rename_i ids hids
  have hnd := reach_nodup hids List.nodup_nil
  rw [forceNats_eq] at h
  split at h
  · rename_i vs' low new hpre hvs hlow hnew
    rw [forceAvs_eq, forceHeap_eq] at h
    obtain ⟨hpl, hpg⟩ := isPre_spec hpre
    obtain ⟨hll, hln, hlg⟩ := gcLow_spec hlow
    have hns := subRen_spec hnew
    have hnl : new.length = ids.length - n := by have := hns.1; simp only [List.length_drop] at this; exact this.symm
    let h' : Heap := low ++ new.map fun b => (true, b)
    have hlen' : h'.length = ids.length := by simp only [h', List.length_append, List.length_map, hll, hnl]; omega
    refine ⟨vs', h', h, ⟨fun i b hb => ?_, by rw [hlen']; exact hpl⟩, fun ρ a w hs => ?_⟩
    · simp only [h', List.getElem?_append] at hb
      split at hb
      · rename_i hi
        rcases hlg i (by omega) with ⟨b', h1, h2, h3⟩ | ⟨b0, b', h1, h2, h3⟩
        · rw [h1] at hb; injection hb with hb; injection hb with _ hb; subst hb; exact h2
        · rw [h1] at hb; injection hb with hb; injection hb with hb _; cases hb
      · simp only [List.getElem?_map, Option.map_eq_some_iff, Prod.mk.injEq] at hb
        obtain ⟨_, _, hb, _⟩ := hb; cases hb
    · let ρ2 : Rho := fun p => (ids[p]?).bind ρ
      have h2 : ∀ (p i : Nat), ids[p]? = some i → ρ2 p = ρ i := fun p i hp => by simp [ρ2, hp]
      have hlo : ∀ p, p < n → ρ2 p = ρ p := fun p hp => by rw [h2 p p (by simpa using hpg p hp)]
      have hfit : Fits (posOf ids) ρ ρ2 := fun i p hp r hr => by rw [h2 p i (posOf_spec hp)]; exact hr
      have hinj : ∀ (p p' i : Nat), ids[p]? = some i → ids[p']? = some i → p = p' := fun p p' i hp hp' => (List.getElem?_inj (getElem?_lt hp) hnd).1 (hp.trans hp'.symm)
      have hget' : ∀ (p : Nat) (b : Block), hget h' p = some b → ∃ i b0, ids[p]? = some i ∧ hget s.heap i = some b0 ∧ b0.ro = b.ro ∧ ∀ r, Holds ρ w r b0 → Holds ρ2 w r b := by
        intro p b hb
        unfold hget at hb
        rcases Nat.lt_or_ge p n with hp | hp
        · have hip : ids[p]? = some p := by simpa using hpg p hp
          simp only [h'] at hb
          rw [List.getElem?_append_left (by omega)] at hb
          rcases hlg p hp with ⟨b', h1, h3, h4⟩ | ⟨b0, b', h1, h3, h4⟩
          · rw [h1] at hb
            simp only at hb
            subst hb
            refine ⟨p, b, hip, by unfold hget; rw [h3], rfl, fun r hh => ⟨hh.1, fun i a ha => ?_⟩⟩
            obtain ⟨g1, v, g2, g3⟩ := hh.2 i a ha
            refine ⟨g1, v, g2, CR_low hlo (fun x hx => ?_) g3⟩
            simp only [okIds, List.all_eq_true] at h4
            have := h4 x (flat_ids ha x hx)
            simpa [Nat.blt_eq] using this
          · rw [h1] at hb
            simp only at hb
            subst hb
            obtain ⟨b1, rfl, g1, g2⟩ := oblkRen_some h4
            exact ⟨p, b1, hip, by unfold hget; rw [h3], g1, fun r hh => hh.ren hfit g1 g2⟩
        · simp only [h'] at hb
          rw [List.getElem?_append_right (by omega), List.getElem?_map] at hb
          cases hnw : new[p - low.length]? with
          | none => rw [hnw] at hb; simp at hb
          | some x =>
            rw [hnw] at hb
            simp only [Option.map_some] at hb
            subst hb
            have hlt : p - low.length < (ids.drop n).length := by rw [hns.1]; exact getElem?_lt hnw
            obtain ⟨y, hy, ho⟩ := hns.2 _ _ (List.getElem?_eq_getElem hlt)
            rw [hnw] at hy; injection hy with hy; subst hy
            obtain ⟨b0, g0, g1, g2⟩ := oblkRen_some ho
            refine ⟨(ids.drop n)[p - low.length], b0, ?_, g0, g1, fun r hh => hh.ren hfit g1 g2⟩
            rw [← List.getElem?_eq_getElem hlt, List.getElem?_drop, hll, show n + (p - n) = p from by omega]
      have hdom : ∀ p r, ρ2 p = some r → ∃ i, ids[p]? = some i ∧ ρ i = some r := by
        intro p r hr
        cases hx : ids[p]? with
        | none => simp [ρ2, hx] at hr
        | some i => exact ⟨i, rfl, by rw [← h2 p i hx]; exact hr⟩
      have hN : s.tmps.length = N ∧ getsT s.tmps live = some vs := by
        unfold pickT at hp
        split at hp
        · rename_i hb; exact ⟨Nat.eq_of_beq_eq_true hb, hp⟩
        · cases hp
      have hgt := getsT_spec hN.2
      have hvr := avsRen_spec hvs
      refine ⟨ρ2, ⟨fun t v hv => ?_, ?_, hs.def_, ⟨fun p b hb => ?_, fun p p' b c r s' hpp hb hc hr hs' hrs hss hro => ?_⟩, rfl, fun i hi => ?_⟩, hlo, Kept.refl _ _, fun k hk => .inl ?_, fun k hk => .inl ?_⟩
      · rcases setsT_get hv with h3 | ⟨j, h3, h4⟩
        · rw [blankT_get h3]; trivial
        · obtain ⟨u, hu, hu2⟩ := hgt.2 j t h3
          obtain ⟨v', hv', hr⟩ := hvr.2 j u hu
          rw [h4] at hv'; injection hv' with hv'; subst hv'
          exact AR_ren hfit hr (hs.tmp t u hu2)
      · simp only [stOf, setsT_len, blankT_len]; rw [← hN.1]; exact hs.len
      · obtain ⟨i, b0, g1, g2, g3, g4⟩ := hget' p b hb
        obtain ⟨r, hr, hh⟩ := hs.inv.blk i b0 g2
        exact ⟨r, by rw [h2 p i g1]; exact hr, g4 r hh⟩
      · obtain ⟨i, b0, g1, g2, g3, g4⟩ := hget' p b hb
        obtain ⟨j, c0, k1, k2, k3, k4⟩ := hget' p' c hc
        rw [h2 p i g1] at hr; rw [h2 p' j k1] at hs'
        exact hs.inv.apart i j b0 c0 r s' (fun e => hpp (hinj p p' i g1 (by rw [e]; exact k1))) g2 k2 hr hs' hrs hss (by rw [g3]; exact hro)
      · simp only [stOf] at hi
        rw [hlen'] at hi
        simp only [ρ2]
        rw [List.getElem?_eq_none hi]; rfl
      · obtain ⟨p, b, r, hb, hro, hr, hrs, e⟩ := hk
        obtain ⟨i, b0, g1, g2, g3, g4⟩ := hget' p b hb
        exact ⟨i, b0, r, g2, by rw [g3]; exact hro, by rw [← h2 p i g1]; exact hr, hrs, e⟩
      · obtain ⟨p, b, r, hb, hr, hrs, e⟩ := hk
        obtain ⟨i, b0, g1, g2, g3, g4⟩ := hget' p b hb
        exact ⟨i, b0, r, g2, by rw [← h2 p i g1]; exact hr, hrs, e⟩
  · cases h

/-- A loop: how many blocks there were, how many temporaries; which of these are asked for at its head, behind it, at a return. -/
structure LI where
  n : Nat
  N : Nat
  live : List Nat
  lout : List Nat
  lret : List Nat
def LI.of (I : LI) : Ex → List Nat
  | .normal => I.live
  | .exit _ => I.lout
  | .ret => I.lret
  | .goto _ => []

abbrev HeadK := Ex → List AV → Heap → Option Res
abbrev HeadO := List AV → Heap → HeadK → Option Res

def bodyR (P : Program) (S : Summ) (L : Nat → Option Orc) (I : LI) (F : Nat) (y : Code) : HeadO := fun vs h K =>
  stK I.N I.live vs h fun s => execL P S L F y s fun e s' => match pickT I.N (I.of e) s'.tmps with
    | some vs' => normH I.n vs' s'.heap (K e)
    | none => none
def iterR (P : Program) (S : Summ) (L : Nat → Option Orc) (I : LI) (F : Nat) (y : Code) : Nat → HeadO
  | 0 => fun _ _ _ => none
  | m + 1 => fun vs h K => bodyR P S L I F y vs h fun e vs' h' => match e with
    | .normal => iterR P S L I F y m vs' h' K
    | .exit i => K (.exit i) vs' h'
    | .ret => K .ret vs' h'
    | .goto _ => none
/-- The block of a loop. -/
def wrapO (I : LI) (id : Nat) (H : HeadO) : Orc := fun s κ => match pickT I.N I.live s.tmps with
  | some vs => normH I.n vs s.heap fun vs h => H vs h fun e vs' h' => match e with
    | .exit i => match Nat.beq i id with
      | true => stK I.N I.lout vs' h' (κ .normal)
      | false => stK I.N I.lout vs' h' (κ (.exit i))
    | .ret => stK I.N I.lret vs' h' (κ .ret)
    | _ => none
  | none => none

def HeadSound (P : Program) (I : LI) (y : Code) (H : HeadO) : Prop :=
  ∀ vs h K r, I.n ≤ h.length → H vs h K = some r → ∃ e vs' h', K e vs' h' = some r ∧ LoopSoundN I.n P y (stOf I.N I.live vs h) e (stOf I.N (I.of e) vs' h') ∧ CleanN I.n h h'

theorem iterR_sound {P : Program} {S : Summ} {L : Nat → Option Orc} {I : LI} {F : Nat} {y : Code} (hS : SummOk P S) (hmix : P.follows .mixedOrders = true) (hL : LOk I.n P L y) : ∀ m, HeadSound P I y (iterR P S L I F y m)
  | 0, vs, h, K, r, hn, e => by simp [iterR] at e
  | m + 1, vs, h, K, r, hn, e => by
    simp only [iterR, bodyR, stK_eq] at e
    obtain ⟨ex, s', hk, hc, hcl, _⟩ := execL_sound hS hmix F hL (by exact hn) e
    split at hk
    · rename_i vs' hp
      obtain ⟨vs2, h2, hk2, hcl2, hsr⟩ := normH_sound hcl.2 hp hk
      have hc2 : CodeSoundN I.n P y (stOf I.N I.live vs h) ex (stOf I.N (I.of ex) vs2 h2) := fun ρ a w Q hs hq => hc ρ a w Q hs fun ρ1 a1 w1 h1 p1 => by
        obtain ⟨ρ2, g1, g2⟩ := hsr ρ1 a1 w1 h1
        exact hq ρ2 a1 w1 g1 (p1.trans g2)
      have out : ex ≠ .normal → LoopSoundN I.n P y (stOf I.N I.live vs h) ex (stOf I.N (I.of ex) vs2 h2) := by
        intro he
        refine ⟨1, fun ρ a w Q hs hq => ?_⟩
        rw [rounds_succ]
        refine hc2 ρ a w _ hs fun ρ1 a1 w1 h1 p1 => ?_
        have := hq ρ1 a1 w1 h1 p1
        cases ex <;> first | exact absurd rfl he | exact this
      have hcl3 : CleanN I.n h h2 := hcl.trans hcl2
      cases ex with
      | normal =>
        obtain ⟨e3, vs3, h3, hk3, ⟨m', hm⟩, hcl4⟩ := iterR_sound hS hmix hL m vs2 h2 K r hcl2.2 hk2
        refine ⟨e3, vs3, h3, hk3, ⟨m' + 1, fun ρ a w Q hs hq => ?_⟩, hcl3.trans hcl4⟩
        rw [rounds_succ]
        refine hc2 ρ a w _ hs fun ρ1 a1 w1 h1 p1 => ?_
        exact hm ρ1 a1 w1 Q h1 fun ρ2 a2 w2 h2 p2 => hq ρ2 a2 w2 h2 (p1.trans p2)
      | exit i => exact ⟨_, vs2, h2, hk2, out (by simp), hcl3⟩
      | ret => exact ⟨_, vs2, h2, hk2, out (by simp), hcl3⟩
      | goto l => simp at hk2
    · cases hk

/-- A loop told in short. -/
theorem HeadSound.short {P : Program} {I : LI} {y : Code} {C : HeadO} {H : Nat → HeadO} (hH : ∀ m, HeadSound P I y (H m)) (h : ∀ vs g K r, C vs g K = some r → ∃ m, H m vs g K = some r) : HeadSound P I y C :=
  fun vs g K r hn e => let ⟨m, hm⟩ := h vs g K r e; hH m vs g K r hn hm

theorem wrapO_sound {P : Program} {I : LI} {id : Nat} {y : Code} {H : HeadO} (hH : HeadSound P I y H) : OrcSound I.n P (.block id (.loop y)) (wrapO I id H) := by
  intro s κ r hn h
  unfold wrapO at h
  split at h
  · rename_i vs hp
    obtain ⟨vs1, h1, hk1, hcl1, hsr⟩ := normH_sound hn hp h
    obtain ⟨e, vs2, h2, hk2, ⟨m, hm⟩, hcl2⟩ := hH _ _ _ _ hcl1.2 hk1
    have key : ∀ ρ a w (Q : Exit → Act → World → Prop), SR ρ s a w → (∀ ρ' a' w', SR ρ' (stOf I.N (I.of e) vs2 h2) a' w' → ProgN I.n ρ (hget s.heap) w ρ' (hget h2) w' → Q e.out a' w') → (Code.loop y).wp P Q a w := by
      intro ρ a w Q hs hq
      obtain ⟨ρ2, g1, g2⟩ := hsr ρ a w hs
      exact wp_loop_rounds m (hm ρ2 a w Q g1 fun ρ' a' w' k1 k2 => hq ρ' a' w' k1 (g2.trans k2))
    have hcl := hcl1.trans hcl2
    cases e with
    | exit i =>
      simp only at hk2
      split at hk2
      · rename_i hb
        have := Nat.eq_of_beq_eq_true hb
        subst this
        rw [stK_eq] at hk2
        exact ⟨_, _, hk2, fun ρ a w Q hs hq => wp_block (key ρ a w _ hs fun ρ1 a1 w1 k1 p1 => by simp only [Ex.out, Exit.inBlock, if_true]; exact hq ρ1 a1 w1 k1 p1), hcl⟩
      · rename_i hb
        have hi : ¬ i = id := fun e => by subst e; simp at hb
        rw [stK_eq] at hk2
        exact ⟨_, _, hk2, fun ρ a w Q hs hq => wp_block (key ρ a w _ hs fun ρ1 a1 w1 k1 p1 => by simp only [Ex.out, Exit.inBlock, hi, if_false]; exact hq ρ1 a1 w1 k1 p1), hcl⟩
    | ret =>
      simp only [stK_eq] at hk2
      exact ⟨_, _, hk2, fun ρ a w Q hs hq => wp_block (key ρ a w _ hs fun ρ1 a1 w1 k1 p1 => hq ρ1 a1 w1 k1 p1), hcl⟩
    | normal => simp at hk2
    | goto l => simp at hk2
  · cases h

/-- A function walked, its loops told in short, of n blocks. -/
def runL (P : Program) (S : Summ) (L : Nat → Option Orc) (n : Nat) (fuel : Nat) (f : FuncId) : Fun := fun args sub κ =>
  match Nat.beq sub.length n with
  | false => none
  | true => match P.funcs[f]? with
    | none => none
    | some fn => match fn.body with
      | none => none
      | some c => execL P S L fuel c { tmps := args ++ List.replicate (fn.ntmps - args.length) undefA, heap := sub.map fun b => (false, b), nx := sub.length } fun e s =>
          match e with
          | .normal => finish P fn s κ
          | .ret => finish P fn s κ
          | _ => none

def codeOf (P : Program) (f : FuncId) : Code := match P.funcs[f]? with
  | some fn => match fn.body with
    | some c => c
    | none => .skip
  | none => .skip
/-- The body of the loop of a block. -/
def loopOf (P : Program) (f : FuncId) (id : Nat) : Code := match findB id (codeOf P f) with
  | some (.loop y) => y
  | _ => .skip
def isLoop (P : Program) (f : FuncId) (id : Nat) : Bool := match findB id (codeOf P f) with
  | some (.loop _) => true
  | _ => false
theorem isLoop_spec {P : Program} {f : FuncId} {id : Nat} (h : isLoop P f id = true) : findB id (codeOf P f) = some (.loop (loopOf P f id)) := by
  unfold isLoop at h
  unfold loopOf
  split at h
  · rename_i y hy; rw [hy]
  · cases h

def distinct : List Nat → Bool
  | [] => true
  | a :: r => !r.contains a && distinct r
theorem distinct_spec : ∀ {l : List Nat}, distinct l = true → l.Nodup
  | [], _ => List.nodup_nil
  | a :: r, h => by
    simp only [distinct, Bool.and_eq_true, Bool.not_eq_true', List.contains_eq_mem, decide_eq_false_iff_not] at h
    exact List.nodup_cons.2 ⟨h.1, distinct_spec h.2⟩

theorem runL_sound {P : Program} {S : Summ} {L : Nat → Option Orc} {n : Nat} (hS : SummOk P S) (hmix : P.follows .mixedOrders = true) (fuel : Nat) (f : FuncId) (hd : distinct (blockIds (codeOf P f)) = true)
    (hL : ∀ id x O, findB id (codeOf P f) = some x → L id = some O → OrcSound n P (.block id x) O) : FunSound P f (runL P S L n fuel f) := by
  intro args sub κ r h
  unfold runL at h
  split at h
  · cases h
  rename_i hsn
  have hsn : sub.length = n := Nat.eq_of_beq_eq_true hsn
  split at h
  · cases h
  · rename_i fn hfn
    split at h
    · cases h
    · rename_i c hc
      have hco : codeOf P f = c := by unfold codeOf; rw [hfn]; simp only; rw [hc]
      rw [hco] at hd hL
      obtain ⟨e, s', hk, hcode, hcl, _⟩ := execL_sound hS hmix fuel (k := n) (fun id x O hs hO => hL id x O (sub_find hs (distinct_spec hd)) hO) (by simp [hsn]) h
      have hfin : (e = .normal ∨ e = .ret) ∧ finish P fn s' κ = some r := by
        cases e <;> simp only at hk
        · exact ⟨.inl rfl, hk⟩
        · cases hk
        · cases hk
        · exact ⟨.inr rfl, hk⟩
      obtain ⟨v, hv, hres⟩ := finish_sound hfin.2
      refine ⟨_, hv, fun ρ w cargs hi hf hargs => ?_⟩
      have hsubget : hget (sub.map fun b => (false, b)) = subGet sub := by
        funext i
        unfold hget subGet
        rw [List.getElem?_map]
        cases sub[i]? <;> rfl
      refine calls_of_wp hfn hc ?_
      have hlen : args.length = cargs.size := by simpa using hargs.1
      refine hcode ρ _ w _ ⟨fun t u hu => ?_, by simp [hlen], rfl, by rw [hsubget]; exact hi, by simp, hf⟩ fun ρ' a' w' hsr hpr => ?_
      · simp only at hu
        rw [getD_opt, Array.getElem?_append]
        rw [List.getElem?_append] at hu
        split at hu
        · rename_i ht
          rw [if_pos (by omega)]
          obtain ⟨b, hb, hr⟩ := hargs.2 t u hu
          rw [Array.getElem?_toList] at hb
          rw [hb]; exact hr
        · rename_i ht
          rw [if_neg (by omega)]
          rw [List.getElem?_replicate] at hu
          split at hu
          · injection hu with hu; subst hu
            rename_i hlt
            rw [Array.getElem?_replicate, if_pos (by omega)]
            exact ⟨#[], rfl, LR.nil⟩
          · cases hu
      · obtain ⟨cv, h1, h2⟩ := hres ρ' a' w' hsr
        have hrg : resGet sub (finalBlks s'.heap) = hget s'.heap := by
          funext i
          unfold resGet finalBlks hget
          rw [List.getElem?_map]
          cases hx : s'.heap[i]? with
          | none =>
            simp only [Option.map_none, Option.join_none]
            have hle := hcl.2
            have : s'.heap.length ≤ i := by
              rcases Nat.lt_or_ge i s'.heap.length with h | h
              · rw [List.getElem?_eq_getElem h] at hx; cases hx
              · exact h
            unfold subGet
            rw [List.getElem?_eq_none (by omega)]; rfl
          | some x =>
            obtain ⟨d, b⟩ := x
            cases d with
            | true => simp
            | false =>
              have := hcl.1 i b hx
              simp only [List.getElem?_map, Option.map_eq_some_iff, Prod.mk.injEq, true_and] at this
              obtain ⟨y, hy, rfl⟩ := this
              simp [subGet, hy]
        rw [hsubget] at hpr
        have hpost : CallPost ρ sub w ⟨v, finalBlks s'.heap⟩ ρ' w' cv := by
          refine ⟨fun i r hr => ?_, fun i r hr => ?_, h2, by rw [hrg]; exact hsr.inv, hpr.kept, by rw [hrg]; exact hpr.own, by rw [hrg]; exact hpr.live, ?_⟩
          · have hlt : i < n := by
              rcases Nat.lt_or_ge i n with h | h
              · exact h
              · rw [hf i (by omega)] at hr; cases hr
            rw [hpr.low i hlt]; exact hr
          · have hlt : i < s'.nx := by
              rcases Nat.lt_or_ge i s'.nx with h | h
              · exact h
              · rw [hsr.fresh i h] at hr; cases hr
            rw [hsr.nx] at hlt
            rcases Nat.lt_or_ge i n with h | h
            · left; rw [← hpr.low i h]; exact hr
            · right; exact ⟨by omega, by simpa [finalBlks] using hlt⟩
          · have := hcl.2; simpa [finalBlks, hsn] using this
        rcases hfin.1 with rfl | rfl
        · exact ⟨hsr.def_, cv, h1, cv, ρ', rfl, hpost⟩
        · exact ⟨hsr.def_, cv, h1, cv, ρ', rfl, hpost⟩

def runLG (P : Program) (S : Summ) (L : Nat → Option Orc) (n : Nat) (fuel : Nat) (f : FuncId) : Fun := gcF (runL P S L n fuel f)
def lNil : Nat → Option Orc := fun _ => none
def lAdd (L : Nat → Option Orc) (id : Nat) (O : Orc) : Nat → Option Orc := fun i => match Nat.beq i id with | true => some O | false => L i
theorem lNil_ok {n : Nat} {P : Program} {c : Code} : LOk n P lNil c := fun id x O _ h => by cases h
/-- A table of loops of a function. -/
def LFor (n : Nat) (P : Program) (f : FuncId) (L : Nat → Option Orc) : Prop := ∀ id x O, findB id (codeOf P f) = some x → L id = some O → OrcSound n P (.block id x) O
theorem lNil_for {n : Nat} {P : Program} {f : FuncId} : LFor n P f lNil := fun id x O _ h => by cases h
theorem lAdd_for {I : LI} {P : Program} {f : FuncId} {L : Nat → Option Orc} {id : Nat} {H : HeadO} (hL : LFor I.n P f L) (hi : isLoop P f id = true) (hH : HeadSound P I (loopOf P f id) H) : LFor I.n P f (lAdd L id (wrapO I id H)) := by
  intro i x O hx hO
  unfold lAdd at hO
  split at hO
  · rename_i hb
    have := Nat.eq_of_beq_eq_true hb
    subst this
    injection hO with hO
    subst hO
    rw [isLoop_spec hi] at hx
    injection hx with hx
    subst hx
    exact wrapO_sound hH
  · exact hL i x O hx hO
theorem sub_trans {a b c : Code} (h : Sub a b) (k : Sub b c) : Sub a c := by
  induction k with
  | refl => exact h
  | seqL _ ih => exact .seqL ih
  | seqR _ ih => exact .seqR ih
  | condL _ ih => exact .condL ih
  | condR _ ih => exact .condR ih
  | block _ ih => exact .block ih
  | loop _ ih => exact .loop ih
theorem findB_sub {id : Nat} : ∀ {c x : Code}, findB id c = some x → Sub (.block id x) c
  | .seq a b, x, h => by
    simp only [findB] at h
    split at h
    · rename_i y hy; injection h with h; subst h; exact .seqL (findB_sub hy)
    · exact .seqR (findB_sub h)
  | .cond _ a b, x, h => by
    simp only [findB] at h
    split at h
    · rename_i y hy; injection h with h; subst h; exact .condL (findB_sub hy)
    · exact .condR (findB_sub h)
  | .block i a, x, h => by
    simp only [findB] at h
    split at h
    · rename_i hb; have := Nat.eq_of_beq_eq_true hb; subst this; injection h with h; subst h; exact .refl _
    · exact .block (findB_sub h)
  | .loop a, x, h => by simp only [findB] at h; exact .loop (findB_sub h)
  | .skip, x, h => by simp [findB] at h
  | .label _, x, h => by simp [findB] at h
  | .exit _, x, h => by simp [findB] at h
  | .goto _, x, h => by simp [findB] at h
  | .ret, x, h => by simp [findB] at h
  | .region _ _ _, x, h => by simp [findB] at h
  | .scope _, x, h => by simp [findB] at h
/-- Loops within a loop of a function. -/
theorem LFor.inner {n : Nat} {P : Program} {f : FuncId} {L : Nat → Option Orc} {id : Nat} (hL : LFor n P f L) (hd : distinct (blockIds (codeOf P f)) = true) (hi : isLoop P f id = true) : LOk n P L (loopOf P f id) := by
  intro i x O hs hO
  exact hL i x O (sub_find (sub_trans hs (sub_trans (.loop (.refl _)) (sub_trans (.block (.refl _)) (findB_sub (isLoop_spec hi))))) (distinct_spec hd)) hO

/- what was not written is told again -/
def fillB : List (Option Block) → List (Option (Option Block)) → List (Option (Option Block))
  | s :: r, none :: q => some s :: fillB r q
  | _ :: r, some b :: q => some b :: fillB r q
  | [], q => q
  | _ :: _, [] => []
def fillF (F : Fun) : Fun := fun args sub κ => F args sub fun ⟨v, q⟩ => κ ⟨v, fillB sub q⟩
theorem fillB_len : ∀ {sub : List (Option Block)} {q : List (Option (Option Block))}, (fillB sub q).length = q.length
  | [], q => by simp [fillB]
  | s :: r, [] => by simp [fillB]
  | s :: r, none :: q => by simp [fillB, fillB_len]
  | s :: r, some b :: q => by simp [fillB, fillB_len]
theorem fillB_get : ∀ {sub : List (Option Block)} {q : List (Option (Option Block))} (i : Nat), resGet sub (fillB sub q) i = resGet sub q i
  | [], q, i => by simp [fillB]
  | s :: r, [], i => by simp [fillB]
  | s :: r, none :: q, 0 => by simp [fillB, resGet, subGet]
  | s :: r, some b :: q, 0 => by simp [fillB, resGet]
  | s :: r, none :: q, i + 1 => by
    have := fillB_get (sub := r) (q := q) i
    simpa [fillB, resGet, subGet] using this
  | s :: r, some b :: q, i + 1 => by
    have := fillB_get (sub := r) (q := q) i
    simpa [fillB, resGet, subGet] using this
theorem FunSound.fill {P : Program} {f : FuncId} {F : Fun} (hF : FunSound P f F) : FunSound P f (fillF F) := by
  intro args sub κ r h
  unfold fillF at h
  obtain ⟨⟨v, q⟩, hq, hcs⟩ := hF _ _ _ _ h
  refine ⟨_, hq, fun ρ w cargs hi hf ha => (hcs ρ w cargs hi hf ha).mono ?_⟩
  rintro e w' ⟨cv, ρ', rfl, post⟩
  have hg : resGet sub (fillB sub q) = resGet sub q := funext fun i => fillB_get i
  refine ⟨cv, ρ', rfl, ⟨post.ext, fun i r hr => ?_, post.val, ?_, post.kept, ?_, ?_, ?_⟩⟩
  · have := post.dom i r hr; simpa [fillB_len] using this
  · show Inv ρ' (resGet sub (fillB sub q)) w'; rw [hg]; exact post.inv
  · show ∀ k, Own ρ' (resGet sub (fillB sub q)) k → _; rw [hg]; exact post.own
  · show ∀ k, Live ρ' (resGet sub (fillB sub q)) k → _; rw [hg]; exact post.live
  · have := post.len; simpa [fillB_len] using this
end Go.Eng
