/- The law of what is listed: the plain part. -/
import Derived.Test.YtmpmnjekcajlgaaSpR
set_option linter.unusedVariables false
set_option linter.unusedSimpArgs false
set_option maxRecDepth 100000
namespace Go.Proofs.Ytmpmnjekcajlgaa.Wlk
open Go Go.Eng Go.Proofs Go.RowKit
/-- Two lists, one with a page more. -/
theorem insOk_of (L A B : List Nat) (x : Nat) (hL : L = A ++ x :: B) (nA : ∀ y ∈ A, y ≠ x) (nB : ∀ y ∈ B, y ≠ x) (fa fa' : Nat → Int) (fb fb' : Nat → Bool) (f : Int) (wr : Bool) (h1 : fa' x = f) (h2 : fb' x = wr) (h3 : ∀ y, y ≠ x → fa' y = fa y) (h4 : ∀ y, y ≠ x → fb' y = fb y) :
    ∀ j i : Nat, i + j = L.length → ∀ kk, kk = (if i ≤ A.length then i else i - 1) → insOk (L.map fun (p : Nat) => (p : Int)) (L.map fa') (L.map fb') ((A ++ B).map fun (p : Nat) => (p : Int)) ((A ++ B).map fa) ((A ++ B).map fb) x f wr j i kk = true
  | 0, _, _, _, _ => rfl
  | j + 1, i, hi, kk, hk => by
    have ll : L.length = A.length + (B.length + 1) := by rw [hL, List.length_append, List.length_cons]
    have lab : (A ++ B).length = A.length + B.length := List.length_append
    have g : ∀ {α : Type} (M : List Nat) (h : Nat → α) (d : α) (n : Nat) (hn : n < M.length), (M.map h).getD n d = h M[n] := by
      intro α M h d n hn
      rw [List.getD_eq_getElem?_getD, List.getElem?_map, List.getElem?_eq_getElem hn]; rfl
    have hi' : i < L.length := by omega
    rw [insOk, g L _ 0 i hi', g L _ 0 i hi', g L _ false i hi']
    by_cases c : i = A.length
    · have e : L[i] = x := by
        subst c
        simp only [hL]
        rw [List.getElem_append_right (Nat.le_refl _)]; simp
      have ih := insOk_of L A B x hL nA nB fa fa' fb fb' f wr h1 h2 h3 h4 j (i + 1) (by omega) kk (by rw [hk, if_pos (by omega), if_neg (by omega)]; omega)
      rw [e, h1, h2, ih]; simp
    · have ih := insOk_of L A B x hL nA nB fa fa' fb fb' f wr h1 h2 h3 h4 j (i + 1) (by omega) (kk + 1) (by
        rw [hk]
        by_cases c2 : i ≤ A.length
        · rw [if_pos c2, if_pos (by omega)]
        · rw [if_neg c2, if_neg (by omega)]; omega)
      have hk2 : kk < (A ++ B).length := by
        rw [lab, hk]
        split <;> omega
      have e : L[i] = (A ++ B)[kk] := by
        by_cases c2 : i < A.length
        · have : kk = i := by rw [hk, if_pos (by omega)]
          subst this
          simp only [hL]
          rw [List.getElem_append_left c2, List.getElem_append_left c2]
        · have : kk = i - 1 := by rw [hk, if_neg (by omega)]
          subst this
          simp only [hL]
          rw [List.getElem_append_right (by omega), List.getElem_append_right (by omega), List.getElem_cons, dif_neg (by omega)]
          congr 1
          omega
      have nx : (A ++ B)[kk] ≠ x := by
        have m := List.getElem_mem hk2
        rcases List.mem_append.mp m with h | h
        · exact nA _ h
        · exact nB _ h
      rw [g _ _ 0 kk hk2, g _ _ 0 kk hk2, g _ _ false kk hk2, e, h3 _ nx, h4 _ nx, ih]
      have : ((((A ++ B)[kk] : Nat) : Int) == (x : Int)) = false := by simpa using fun h => nx (by omega)
      rw [this, cF, List.length_map, decide_eq_true hk2]
      simp
/-- Pages listed with one page more. -/
theorem pgL_ins (W V : List Int) (x : Nat) (hy : ∀ y : Nat, y < 256 → y ≠ x → (pgE V 0 (16 * (y : Int)) = 0 ↔ pgE W 0 (16 * (y : Int)) = 0)) (h1 : pgE V 0 (16 * (x : Int)) = 0) (h2 : pgE W 0 (16 * (x : Int)) ≠ 0) :
    ∀ n, n ≤ 256 → (n ≤ x → pgL V 0 n = pgL W 0 n ∧ ∀ y ∈ pgL W 0 n, y < n) ∧ (x < n → ∃ A B, pgL V 0 n = A ++ x :: B ∧ pgL W 0 n = A ++ B ∧ (∀ y ∈ A, y ≠ x) ∧ (∀ y ∈ B, y ≠ x))
  | 0, _ => ⟨fun _ => ⟨rfl, fun y h => by cases h⟩, fun h => absurd h (Nat.not_lt_zero _)⟩
  | n + 1, hn => by
    obtain ⟨i1, i2⟩ := pgL_ins W V x hy h1 h2 n (by omega)
    constructor
    · intro h
      obtain ⟨e, m⟩ := i1 (by omega)
      have q := hy n (by omega) (by omega)
      simp only [pgL]
      rw [e]
      constructor
      · by_cases c : pgE W 0 (16 * (n : Int)) = 0
        · rw [if_pos c, if_pos (q.mpr c)]
        · rw [if_neg c, if_neg (fun h => c (q.mp h))]
      · intro y hy'
        rcases List.mem_append.mp hy' with h | h
        · have := m y h; omega
        · split at h
          · have := List.mem_singleton.mp h; omega
          · cases h
    · intro h
      by_cases c : n = x
      · subst c
        obtain ⟨e, m⟩ := i1 (Nat.le_refl _)
        refine ⟨pgL W 0 n, [], ?_, ?_, fun y h => by have := m y h; omega, fun y h => by cases h⟩
        · simp only [pgL]; rw [if_pos h1, e]
        · simp only [pgL]; rw [if_neg h2]
      · obtain ⟨A, B, e1, e2, nA, nB⟩ := i2 (by omega)
        have q := hy n (by omega) c
        simp only [pgL]
        rw [e1, e2]
        by_cases c2 : pgE W 0 (16 * (n : Int)) = 0
        · refine ⟨A, B ++ [n], ?_, ?_, nA, fun y h => ?_⟩
          · rw [if_pos (q.mpr c2)]; simp
          · rw [if_pos c2]; simp
          · rcases List.mem_append.mp h with h | h
            · exact nB y h
            · rw [List.mem_singleton.mp h]; exact c
        · exact ⟨A, B, by rw [if_neg (fun h => c2 (q.mp h))]; simp, by rw [if_neg c2]; simp, nA, nB⟩
theorem pgL_mem (W : List Int) (x : Nat) (h : pgE W 0 (16 * (x : Int)) = 0) : ∀ n, x < n → x ∈ pgL W 0 n
  | 0, hx => absurd hx (Nat.not_lt_zero _)
  | n + 1, hx => by
    simp only [pgL]
    by_cases c : n = x
    · subst c; rw [if_pos h]; simp
    · exact List.mem_append.mpr (Or.inl (pgL_mem W x h n (by omega)))
def lok5 (w : Int) : Bool := eV w && inM 512 (eA w) 16
def dir3 (j : Int) : Int := if j = 0 then 17 else if j = 1 then 33 else if j = 2 then 49 else 0
theorem dir3_at {j : Int} (h0 : 0 ≤ j) (h1 : j < 3) : dir3 j = epW true false (16 + 16 * j) := by
  have : j = 0 ∨ j = 1 ∨ j = 2 := by omega
  rcases this with rfl | rfl | rfl <;> decide
structure Tabs (ws : List Int) : Prop where
  dirs : Dirs dir3 ws
  tab : ∀ y, 0 ≤ y → y < 48 → getW ws (16 + y) = 0 ∨ lok5 (getW ws (16 + y)) = true
theorem Tabs.put {ws : List Int} {y v : Int} (h : Tabs ws) (h0 : 0 ≤ y) (h1 : y < 48) (hv : word v = true) (hl : v = 0 ∨ lok5 v = true) : Tabs (putW ws (16 + y) v) := by
  have i : inM ws.length (16 + y) 1 = true := by rw [h.dirs.len]; exact in512 (by omega) (by omega)
  refine ⟨h.dirs.put (by omega) (by omega) hv, fun z z0 z1 => ?_⟩
  rw [getW_put i]
  split
  · exact hl
  · exact h.tab z z0 z1
theorem sp3_of {a : Int} (h0 : 0 ≤ a) (h1 : a < 768) : spOk a = true ∧ 0 ≤ sp1 a ∧ sp1 a < 3 ∧ 16 + 16 * sp1 a + sp2 a = 16 + a / 16 := by
  have s : spOk a = true := by
    have : 0 ≤ a ∧ a < 4096 := by omega
    simp [spOk, this]
  refine ⟨s, ?_⟩
  unfold sp1 sp2; rw [if_pos s, if_pos s]; omega
theorem epW_lok {f : Int} (w : Bool) (h0 : 0 ≤ f) (h1 : f + 16 ≤ 512) (h2 : f % 16 = 0) : lok5 (epW true w f) = true := by
  obtain ⟨q1, q2, q3, _⟩ := epW_facts w h0 (by omega) h2
  unfold lok5; rw [q1, q3]; simp [inM, h0, h1]
theorem Tabs.se {ws : List Int} {a o : Int} (h : Tabs ws) (a0 : 0 ≤ a) (a1 : a < 768) (h0 : 0 ≤ o) (h1 : o + 16 ≤ 512) (h2 : o % 16 = 0) : seE ws 0 a o = 0 ∧ seA ws 0 a o = 16 + a / 16 := by
  obtain ⟨s, s0, s1, s2⟩ := sp3_of a0 a1
  obtain ⟨e1, e2⟩ := h.dirs.se s h0 h1 h2 (dir3_at s0 s1) (by omega) (by omega) (by omega)
  exact ⟨e1, e2.trans s2⟩
theorem Tabs.map {ws : List Int} {a o : Int} (w : Bool) (h : Tabs ws) (a0 : 0 ≤ a) (a1 : a < 768) (h0 : 0 ≤ o) (h1 : o + 16 ≤ 512) (h2 : o % 16 = 0) : Tabs (opMW ws 0 a o w) := by
  obtain ⟨e1, e2⟩ := h.se a0 a1 h0 h1 h2
  unfold opMW setWs
  rw [if_pos e1, e2]
  split
  · exact h.put (by omega) (by omega) (epW_word _ _) (Or.inr (epW_lok w h0 h1 h2))
  · exact h
theorem hdG_tabs (a t : List Int) (w : List Bool) : ∀ j i ws, Tabs ws → Tabs (hdG a t w j i ws)
  | 0, _, ws, h => h
  | j + 1, i, ws, h => by
    simp only [hdG]
    split
    · obtain ⟨g1, g2⟩ := q768_facts (a.getD i 0)
      obtain ⟨g3, g4, g5⟩ := frm_facts (t.getD i 0)
      exact hdG_tabs a t w j (i + 1) _ (h.map _ g1 g2 (by omega) g4 g5)
    · exact h
/-- What a page is, told by its word. -/
theorem Tabs.pg {ws : List Int} (h : Tabs ws) {y : Int} (y0 : 0 ≤ y) (y1 : y < 48) :
    pgE ws 0 (16 * y) = (if lok5 (getW ws (16 + y)) = true then 0 else 12) ∧ (lok5 (getW ws (16 + y)) = true → pgA ws 0 (16 * y) = eA (getW ws (16 + y)) ∧ pgW ws 0 (16 * y) = eWr (getW ws (16 + y))) := by
  obtain ⟨s, s0, s1, s2⟩ := sp3_of (a := 16 * y) (by omega) (by omega)
  have d : w1 ws 0 (16 * y) = epW true false (16 + 16 * sp1 (16 * y)) := by unfold w1; rw [Int.zero_add, h.dirs.dir _ s0 (by omega), dir3_at s0 s1]
  obtain ⟨q1, q2, q3, _⟩ := epW_facts false (f := 16 + 16 * sp1 (16 * y)) (by omega) (by omega) (by omega)
  have e2 : w2 ws 0 (16 * y) = getW ws (16 + y) := by
    unfold w2; rw [d, q3, s2]; congr 1; omega
  have i : inM 512 (16 + 16 * sp1 (16 * y)) 16 = true := by
    have : 0 ≤ 16 + 16 * sp1 (16 * y) ∧ 16 + 16 * sp1 (16 * y) + 16 ≤ 512 := by omega
    simp [inM, this]
  have ok : pgOk ws 0 (16 * y) = lok5 (getW ws (16 + y)) := by
    unfold pgOk lokW lok5; rw [d, e2, h.dirs.len, q1, q2, q3, i]; simp
  have E : pgE ws 0 (16 * y) = (if lok5 (getW ws (16 + y)) = true then 0 else 12) := by
    unfold pgE; rw [if_pos s, h.dirs.len, if_pos ⟨by decide, by decide⟩, ok]
  refine ⟨E, fun hk => ?_⟩
  rw [if_pos hk] at E
  exact ⟨by unfold pgA; rw [if_pos E, e2], by unfold pgW; rw [E, e2]; rfl⟩
theorem Tabs.pg_hi {ws : List Int} (h : Tabs ws) {y : Int} (y0 : 48 ≤ y) (y1 : y < 256) : pgE ws 0 (16 * y) = 12 := by
  have s : spOk (16 * y) = true := by
    have : 0 ≤ 16 * y ∧ 16 * y < 4096 := by omega
    simp [spOk, this]
  have k : 3 ≤ sp1 (16 * y) ∧ sp1 (16 * y) < 16 := by unfold sp1; rw [if_pos s]; omega
  have e : w1 ws 0 (16 * y) = 0 := by
    unfold w1; rw [Int.zero_add, h.dirs.dir _ (by omega) k.2]
    unfold dir3; rw [if_neg (by omega), if_neg (by omega), if_neg (by omega)]
  have ok : pgOk ws 0 (16 * y) = false := by
    unfold pgOk lokW; rw [e, show eV 0 = false from by decide]; rfl
  unfold pgE; rw [if_pos s, h.dirs.len, if_pos ⟨by decide, by decide⟩, if_neg (by rw [ok]; decide)]
end Go.Proofs.Ytmpmnjekcajlgaa.Wlk
