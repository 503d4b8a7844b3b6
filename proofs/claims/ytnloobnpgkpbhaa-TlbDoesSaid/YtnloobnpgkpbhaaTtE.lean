/- What is kept agrees: so answers are those of a walk. -/
import Derived.Test.YtnloobnpgkpbhaaTtD
set_option linter.unusedVariables false
set_option linter.unusedSimpArgs false
set_option maxRecDepth 100000
namespace Go.Proofs.Ytnloobnpgkpbhaa.Wlk
open Go Go.Eng Go.Proofs Go.RowKit
theorem spOk_iff {a : Int} (h : spOk a = true) : 0 ≤ a ∧ a < 4096 := by
  simpa [spOk] using h
theorem spE_ok {a : Int} : spE a = 0 ↔ spOk a = true := by
  unfold spE
  by_cases c : spOk a = true
  · simp [c]
  · simp [c]
theorem pgN_ok {a : Int} (h : spOk a = true) : pgN a = a / 16 := by
  have := spOk_iff h
  unfold pgN
  rw [Int.tdiv_eq_ediv_of_nonneg this.1, wrap_i64 (by omega) (by omega)]
theorem w16_ok {p : Int} (h : 0 ≤ p ∧ p < 256) : w16 p = p * 16 := by
  unfold w16
  rw [wrap_i64 (by omega) (by omega)]
theorem spOk_of {a : Int} (h : 0 ≤ a ∧ a < 4096) : spOk a = true := by simp [spOk, h]
theorem sp_same {a b : Int} (ha : spOk a = true) (hb : spOk b = true) (h : a / 16 = b / 16) : sp1 a = sp1 b ∧ sp2 a = sp2 b := by
  unfold sp1 sp2
  rw [if_pos ha, if_pos hb, if_pos ha, if_pos hb, h]
  refine ⟨?_, rfl⟩
  omega
theorem pg_same {a b : Int} (ws : List Int) (d : Int) (ha : spOk a = true) (hb : spOk b = true) (h : a / 16 = b / 16) : pgE ws d a = pgE ws d b ∧ pgV ws d a = pgV ws d b ∧ pgW ws d a = pgW ws d b ∧ pgA ws d a = pgA ws d b := by
  obtain ⟨e1, e2⟩ := sp_same ha hb h
  have f1 : w1 ws d a = w1 ws d b := by unfold w1; rw [e1]
  have f2 : w2 ws d a = w2 ws d b := by unfold w2; rw [f1, e2]
  have f3 : pgOk ws d a = pgOk ws d b := by unfold pgOk; rw [f1, f2]
  have f4 : pgE ws d a = pgE ws d b := by unfold pgE; rw [ha, hb, f3]
  refine ⟨f4, ?_, ?_, ?_⟩
  · unfold pgV; rw [f4]
  · unfold pgW; rw [f4, f2]
  · unfold pgA; rw [f4, f2]
theorem pg_w16 {a : Int} (ws : List Int) (d : Int) (ha : spOk a = true) : pgE ws d (w16 (pgN a)) = pgE ws d a ∧ pgV ws d (w16 (pgN a)) = pgV ws d a ∧ pgW ws d (w16 (pgN a)) = pgW ws d a ∧ pgA ws d (w16 (pgN a)) = pgA ws d a := by
  have h := spOk_iff ha
  rw [pgN_ok ha, w16_ok (by omega)]
  exact pg_same ws d (spOk_of (by omega)) ha (by omega)
theorem kt_row {x y : Int} {L : List Ro} (h : ktI x y L = true) : ∃ r ∈ L, r.s = x ∧ r.p = y ∧ ktV x y L = r.v ∧ ktW x y L = r.w ∧ ktA x y L = r.a := by
  unfold ktI at h
  split at h
  · rename_i r hr
    have h2 := List.find?_some hr
    simp only [Bool.and_eq_true, beq_iff_eq] at h2
    refine ⟨r, List.mem_of_find?_eq_some hr, h2.1, h2.2, ?_, ?_, ?_⟩
    · unfold ktV; rw [hr]
    · unfold ktW; rw [hr]
    · unfold ktA; rw [hr]
  · cases h
theorem agR_of {ws : List Int} {sp d : Int} {r : Ro} (h : agR ws sp d r = true) (hs : r.s = sp) : pgE ws d (w16 r.p) = 0 ∧ pgV ws d (w16 r.p) = r.v ∧ pgW ws d (w16 r.p) = r.w ∧ pgA ws d (w16 r.p) = r.a := by
  unfold agR at h
  rw [if_pos hs] at h
  split at h
  · rename_i c
    simp only [Bool.and_eq_true, beq_iff_eq] at h
    exact ⟨c, h.1, h.2.1, h.2.2.1⟩
  · cases h
theorem rgt_ok {sp a : Int} (hs : 0 ≤ sp ∧ sp < 64) (ha : spOk a = true) : rgt sp (pgN a) = true := by
  have h := spOk_iff ha
  rw [pgN_ok ha]
  unfold rgt
  simp only [Bool.and_eq_true, decide_eq_true_eq]
  omega
theorem hit_pg {ws : List Int} {L : List Ro} {sp d a : Int} (hag : agL ws sp d L = true) (ha : spOk a = true) (hk : ktI sp (pgN a) L = true) : pgE ws d a = 0 ∧ ktV sp (pgN a) L = pgV ws d a ∧ ktW sp (pgN a) L = pgW ws d a ∧ ktA sp (pgN a) L = pgA ws d a := by
  obtain ⟨r, hr, e1, e2, e3, e4, e5⟩ := kt_row hk
  have hR : agR ws sp d r = true := List.all_eq_true.1 hag r hr
  obtain ⟨f1, f2, f3, f4⟩ := agR_of hR e1
  obtain ⟨g1, g2, g3, g4⟩ := pg_w16 ws d ha
  rw [e2] at f1 f2 f3 f4
  exact ⟨by rw [← g1]; exact f1, by rw [e3, ← f2, g2], by rw [e4, ← f3, g3], by rw [e5, ← f4, g4]⟩
/-- Where all that is kept agrees, each answer is that of a walk. -/
theorem to_agree {m : Nat} {ws : List Int} {L : List Ro} {sp d a : Int} {wr : Bool} (hm : okM m ws = true) (hag : agL ws sp d L = true) (hs : 0 ≤ sp ∧ sp < 64) : tE ws L sp d a wr = toE ws d a wr ∧ tA ws L sp d a wr = toA ws d a wr := by
  have hlen : ws.length ≤ 65536 := by simp [okM] at hm; omega
  by_cases ha : spOk a = true
  · have hb : toB sp a = true := by unfold toB; rw [decide_eq_true (spE_ok.2 ha), rgt_ok hs ha]; rfl
    have noWrap : pgE ws d a = 0 → IntKind.wrap IntKind.i64 (pgA ws d a + sp3 a) = pgA ws d a + sp3 a := fun h => by
      have := pg_in h
      exact wrap_i64 (by omega) (by omega)
    cases hk : ktI sp (pgN a) L with
    | true =>
      obtain ⟨p1, p2, p3, p4⟩ := hit_pg hag ha hk
      obtain ⟨q1, q2, _⟩ := hit_E (ws := ws) (d := d) (wr := wr) hb hk
      have e1 : tE ws L sp d a wr = toE ws d a wr := by
        rw [q1, p3]; unfold toE wrE; rw [if_pos p1]
      refine ⟨e1, ?_⟩
      rw [q2, ← q1, e1, p4, noWrap p1]; rfl
    | false =>
      by_cases hp : pgE ws d a = 0
      · obtain ⟨q1, q2, _⟩ := miss_E (ws := ws) (d := d) (wr := wr) hb hk hp
        have e1 : tE ws L sp d a wr = toE ws d a wr := by
          rw [q1]; unfold toE wrE; rw [if_pos hp]
        refine ⟨e1, ?_⟩
        rw [q2, ← q1, e1, noWrap hp]; rfl
      · obtain ⟨q1, q2, _⟩ := fail_E (ws := ws) (d := d) (wr := wr) hb hk hp
        have e1 : tE ws L sp d a wr = toE ws d a wr := by
          rw [q1]; unfold toE; rw [if_neg hp]
        refine ⟨e1, ?_⟩
        rw [q2]; unfold toA; rw [← e1, q1, if_neg hp]
  · have hb : toB sp a = false := by unfold toB; rw [decide_eq_false (fun c => ha (spE_ok.1 c))]; rfl
    obtain ⟨q1, q2, _⟩ := out_E (ws := ws) (L := L) (d := d) (wr := wr) hb
    have e0 : pgE ws d a = 1 := by unfold pgE; rw [if_neg ha]
    have e1 : toE ws d a wr = 1 := by unfold toE; rw [e0, if_neg (by decide)]
    refine ⟨by rw [q1, e1], ?_⟩
    rw [q2]; unfold toA; rw [e1]; rfl
theorem mem_fillL {x y : Int} {v w : Bool} {a : Int} {L : List Ro} {r : Ro} (h : r ∈ fillL x y v w a L) : r ∈ L ∨ r = ⟨x, y, v, w, a⟩ := by
  unfold fillL addL at h
  have h' : r ∈ dropL x y L ++ [⟨x, y, v, w, a⟩] := by
    split at h
    · exact List.mem_of_mem_drop h
    · exact h
  rw [List.mem_append, List.mem_singleton] at h'
  rcases h' with h1 | h1
  · exact .inl (List.mem_filter.1 h1).1
  · exact .inr h1
theorem tC_ok {ws : List Int} {L : List Ro} {sp d a : Int} (h : tC ws L sp d a = true) : spOk a = true ∧ pgE ws d a = 0 := by
  unfold tC toB at h
  simp only [Bool.and_eq_true, decide_eq_true_eq] at h
  exact ⟨spE_ok.1 h.1.1.1.1, h.1.2⟩
/-- What is filled in by a walk agrees. -/
theorem ag_fill {ws : List Int} {L : List Ro} {sp d a sp' d' : Int} (h : tC ws L sp d a = true) (hag : agL ws sp' d' L = true) (hd : sp' = sp → d' = d) : agL ws sp' d' (tL ws L sp d a) = true := by
  obtain ⟨ha, hp⟩ := tC_ok h
  refine List.all_eq_true.2 fun r hr => ?_
  rcases mem_fillL hr with h1 | h1
  · exact List.all_eq_true.1 hag r h1
  · subst h1
    unfold agR
    by_cases c : sp = sp'
    · subst c
      have e := hd rfl
      subst e
      obtain ⟨g1, g2, g3, g4⟩ := pg_w16 ws d' ha
      simp only [if_true]
      rw [g1, if_pos hp, g2, g3, g4]
      simp
    · rw [if_neg c]
theorem ag_sub {ws : List Int} {L M : List Ro} {sp d : Int} (hag : agL ws sp d L = true) (h : ∀ r ∈ M, r ∈ L) : agL ws sp d M = true :=
  List.all_eq_true.2 fun r hr => List.all_eq_true.1 hag r (h r hr)
end Go.Proofs.Ytnloobnpgkpbhaa.Wlk
