/- The law of what is listed. -/
import Derived.Test.YtmpmnjekcajlgaaSpS
set_option linter.unusedVariables false
set_option linter.unusedSimpArgs false
set_option maxRecDepth 100000
namespace Go.Proofs.Ytmpmnjekcajlgaa.Wlk
open Go Go.Eng Go.Proofs Go.RowKit
theorem Dirs.table {f : Int → Int} {ws : List Int} (h : Dirs f ws) {p t : Int} (h0 : 0 ≤ p) (h1 : p < 16) (hf : f p = 0) (t0 : 0 ≤ t) (t1 : t + 16 ≤ 512) (t2 : t % 16 = 0) : opTE ws 0 (256 * p) t = 0 ∧ opTW ws 0 (256 * p) t = putW ws p (epW true false t) := by
  obtain ⟨sa, sb⟩ := sp_hi h0 h1 (show 256 * p ≤ 256 * p by omega) (by omega)
  obtain ⟨c1, c2⟩ := fi_0 (ws := ws) (a := 256 * p) (o := t) h.len sa t0 t1 t2
  rw [sb, Int.zero_add] at c2
  have z : getW ws p = 0 := (h.dir p h0 h1).trans hf
  exact ⟨by unfold opTE setE; rw [if_pos c1, c2, if_pos z], by unfold opTW setWs; rw [if_pos c1, c2, if_pos z]⟩
theorem pg_same {V W : List Int} (hV : Tabs V) (hW : Tabs W) (y : Nat) (e : (y : Int) < 48 → getW V (16 + y) = getW W (16 + y)) :
    pgE V 0 (16 * (y : Int)) = pgE W 0 (16 * (y : Int)) ∧ pgA V 0 (16 * (y : Int)) = pgA W 0 (16 * (y : Int)) ∧ pgW V 0 (16 * (y : Int)) = pgW W 0 (16 * (y : Int)) := by
  have off : ∀ a b : Int, pgE V 0 a = b → pgE W 0 a = b → b ≠ 0 → pgE V 0 a = pgE W 0 a ∧ pgA V 0 a = pgA W 0 a ∧ pgW V 0 a = pgW W 0 a := by
    intro a b e1 e2 hb
    refine ⟨e1.trans e2.symm, ?_, ?_⟩
    · unfold pgA; rw [e1, e2, if_neg hb, if_neg hb]
    · unfold pgW; rw [e1, e2, decide_eq_false hb]; rfl
  by_cases c : (y : Int) < 48
  · obtain ⟨E3, F3⟩ := hV.pg (y := y) (by omega) c
    obtain ⟨E2, F2⟩ := hW.pg (y := y) (by omega) c
    rw [e c] at E3 F3
    by_cases l : lok5 (getW W (16 + y)) = true
    · exact ⟨E3.trans E2.symm, (F3 l).1.trans (F2 l).1.symm, (F3 l).2.trans (F2 l).2.symm⟩
    · rw [if_neg l] at E3 E2
      exact off _ _ E3 E2 (by decide)
  · by_cases c2 : (y : Int) < 256
    · exact off _ _ (hV.pg_hi (by omega) c2) (hW.pg_hi (by omega) c2) (by decide)
    · have s : spOk (16 * (y : Int)) = false := by
        have : ¬ 16 * (y : Int) < 4096 := by omega
        simp [spOk, this]
      exact off _ 1 (by unfold pgE; rw [s]; rfl) (by unfold pgE; rw [s]; rfl) (by decide)
theorem getW_new (b : Int) : getW (newZ 512) b = 0 := by
  unfold getW newZ
  split
  · rw [List.getD_eq_getElem?_getD, List.getElem?_replicate]; split <;> rfl
  · rfl
theorem lists_walk (y : Option Addr) (len1 cap1 : Nat) (at0 fr0 : Int) (wr : Bool) (W : World) (hg : IsGrid [.int .i64, .int .i64, .int .i64, .int .i64, .bool] W y len1 cap1) (hs1 : len1 * 40 ≤ 140737488351232) (h0 : (Lit.int .i64 at0).wf = true) (h1 : (Lit.int .i64 fr0).wf = true) :
    Calls Try.prog 3 #[.slice y len1 cap1, .int .i64 at0, .int .i64 fr0, .bool wr] W fun e w' => e = .returned (.bool true) ∧ Below W.heap.size W w' := by
  obtain ⟨k, d, a, t, w, ok1, lk, ld, la, lt, lw, fk, fd, fa, ft⟩ := acts_of hg
  refine of_rows (sl := [⟨y, len1, cap1, [.ints .i64 k, .ints .i64 d, .ints .i64 a, .ints .i64 t, .bools w]⟩]) (args := [.e (.c (.slice ⟨0, 0, 5, 0, 0, 0, 0⟩ 5 len1 0 false)), aint .i64 at0, aint .i64 fr0, .e (.c (.bool wr))])
    (blks := [none]) (runL_sound sHd_ok mix 150 3 a_dis lA_for).gc (Go.Eng.ok1 ok1) ?_ ((t_lists newZ opTE opTW opUE opUW opME opMW opNE opNW lEM lLN lCP lCA lCB hdG at0 fr0 wr len1 k d a t w some).trans ?_)
  · exact LR.cons (args_slice (i := 0) rfl ok1 rfl) (LR.cons rfl (LR.cons rfl (LR.cons rfl LR.nil)))
  obtain ⟨p0, p1⟩ := q768_facts at0
  obtain ⟨f0, f1, f2⟩ := frm_facts fr0
  have eq7 : IntKind.wrap IntKind.i64 (Int.tmod (IntKind.wrap IntKind.u64 at0) 768) = q768 at0 := rfl
  have efr : IntKind.wrap IntKind.i64 (64 + IntKind.wrap IntKind.i64 (16 * IntKind.wrap IntKind.i64 (Int.tmod (IntKind.wrap IntKind.u64 fr0) 20))) = frm fr0 := rfl
  rw [eq7, efr]
  generalize q768 at0 = A at p0 p1 ⊢
  generalize frm fr0 = f at f0 f1 f2 ⊢
  obtain ⟨x, hx⟩ : ∃ x : Nat, A / 16 = (x : Int) := ⟨(A / 16).toNat, by omega⟩
  have ex : IntKind.wrap IntKind.i64 (Int.tdiv A 16) = (x : Int) := by
    rw [Int.tdiv_eq_ediv_of_nonneg p0, wrap_i64 (by omega) (by omega), hx]
  -- the tables laid
  have N := Dirs.new
  obtain ⟨a1, a2⟩ := N.table (p := 0) (t := 16) (by decide) (by decide) rfl (by decide) (by decide) (by decide)
  have D1 : Dirs (fun j => if j = 0 then 17 else 0) (putW (newZ 512) 0 (epW true false 16)) := N.lay (by decide) (by decide) (by decide) (fun j _ _ => by rw [show epW true false 16 = 17 from by decide])
  obtain ⟨b1, b2⟩ := D1.table (p := 1) (t := 32) (by decide) (by decide) rfl (by decide) (by decide) (by decide)
  have D2 : Dirs (fun j => if j = 1 then 33 else if j = 0 then 17 else 0) (putW (putW (newZ 512) 0 (epW true false 16)) 1 (epW true false 32)) := D1.lay (by decide) (by decide) (by decide) (fun j _ _ => by rw [show epW true false 32 = 33 from by decide])
  obtain ⟨c1, c2⟩ := D2.table (p := 2) (t := 48) (by decide) (by decide) rfl (by decide) (by decide) (by decide)
  have D3 : Dirs dir3 (putW (putW (putW (newZ 512) 0 (epW true false 16)) 1 (epW true false 32)) 2 (epW true false 48)) := D2.lay (by decide) (by decide) (by decide) (fun j _ _ => by
    rw [show epW true false 48 = 49 from by decide]
    unfold dir3
    by_cases c0 : j = 0
    · subst c0; rfl
    · by_cases c1 : j = 1
      · subst c1; rfl
      · rw [if_neg c0, if_neg c1, if_neg c1, if_neg c0])
  have T1 : Tabs (putW (putW (putW (newZ 512) 0 (epW true false 16)) 1 (epW true false 32)) 2 (epW true false 48)) := by
    refine ⟨D3, fun y y0 y1 => Or.inl ?_⟩
    rw [getW_put (by rw [D2.len]; decide), if_neg (by omega), getW_put (by rw [D1.len]; decide), if_neg (by omega), getW_put (by rw [N.len]; decide), if_neg (by omega), getW_new]
  rw [show (256 : Int) * 0 = 0 from rfl] at a1 a2
  rw [show (256 : Int) * 1 = 256 from rfl] at b1 b2
  rw [show (256 : Int) * 2 = 512 from rfl] at c1 c2
  have l0 := N.len
  have l1 := D1.len
  have l2 := D2.len
  have l3 := D3.len
  have v0 := N.all
  have v1 := D1.all
  have v2 := D2.all
  have v3 := D3.all
  rw [a2, b2, c2, a1, b1, c1]
  have T2 := hdG_tabs a t w 30 0 _ T1
  generalize hZ : newZ 512 = Z at *
  generalize putW Z 0 (epW true false 16) = Wa at *
  generalize putW Wa 1 (epW true false 32) = Wb at *
  generalize putW Wb 2 (epW true false 48) = W1 at *
  have l4 := T2.dirs.len
  have v4 := T2.dirs.all
  generalize hdG a t w 30 0 W1 = W2 at l4 v4 T2 ⊢
  obtain ⟨s1, s2⟩ := T2.se (a := A) (o := f) p0 p1 (by omega) f1 f2
  have T3 := T2.map (a := A) (o := f) wr p0 p1 (by omega) f1 f2
  have okm : ∀ ws : List Int, ws.length = 512 → okM 512 ws = true := fun ws h => by simp [okM, h]
  have j1 : inI A = true := inI_of (by omega) (by omega)
  have j2 : inI f = true := inI_of (by omega) (by omega)
  obtain ⟨m1, m2, m3, m4⟩ := l_len W2 0
  have m5 : lLN W2 0 ≤ 256 := pgL_len W2 0 256
  rw [hx] at s2
  have sT := T2.tab x (by omega) (by omega)
  by_cases g : getW W2 (16 + x) = 0
  · have mE : opME W2 0 A f = 0 := by unfold opME setE; rw [if_pos s1, s2, if_pos g]
    have mW : opMW W2 0 A f wr = putW W2 (16 + x) (epW true wr f) := by unfold opMW setWs; rw [if_pos s1, s2, if_pos g]
    rw [mW] at T3
    rw [mW, mE]
    have i2 : inM W2.length (16 + x) 1 = true := by rw [l4]; exact in512 (by omega) (by omega)
    have g3 : getW (putW W2 (16 + x) (epW true wr f)) (16 + x) = epW true wr f := by rw [getW_put i2, if_pos rfl]
    have back : putW (putW W2 (16 + x) (epW true wr f)) (16 + x) 0 = W2 := put_put g i2 _
    obtain ⟨e1, e2, e3, e4, e5, e6⟩ := epW_facts wr (f := f) (by omega) (by omega) f2
    have other : ∀ y : Nat, y ≠ x → getW (putW W2 (16 + x) (epW true wr f)) (16 + y) = getW W2 (16 + y) := fun y h => by rw [getW_put i2, if_neg (by omega)]
    generalize putW W2 (16 + x) (epW true wr f) = W3 at *
    have l5 := T3.dirs.len
    have v5 := T3.dirs.all
    obtain ⟨z1, z2⟩ := T3.se (a := A) (o := 0) p0 p1 (by decide) (by decide) (by decide)
    rw [hx] at z2
    have nE : opNE W3 0 A = 0 := by unfold opNE goneE; rw [if_pos z1, z2, g3, if_neg e5]
    have nW : opNW W3 0 A = W2 := by unfold opNW goneWs; rw [if_pos z1, z2, g3, if_neg e5, back]
    rw [nE, nW]
    obtain ⟨P3, Q3⟩ := T3.pg (y := x) (by omega) (by omega)
    obtain ⟨P2, _⟩ := T2.pg (y := x) (by omega) (by omega)
    have lk3 : lok5 (epW true wr f) = true := epW_lok wr (by omega) f1 f2
    rw [g3, if_pos lk3] at P3
    rw [g3] at Q3
    rw [g, if_neg (by decide)] at P2
    obtain ⟨Q4, Q5⟩ := Q3 lk3
    have same : ∀ y : Nat, y ≠ x → pgE W3 0 (16 * (y : Int)) = pgE W2 0 (16 * (y : Int)) ∧ pgA W3 0 (16 * (y : Int)) = pgA W2 0 (16 * (y : Int)) ∧ pgW W3 0 (16 * (y : Int)) = pgW W2 0 (16 * (y : Int)) := fun y h => pg_same T3 T2 y (fun _ => other y h)
    obtain ⟨A', B', r1, r2, r3, r4⟩ := (pgL_ins W2 W3 x (fun y _ h => by rw [(same y h).1]) P3 (by rw [P2]; decide) 256 (Nat.le_refl _)).2 (by omega)
    have ins : insOk (lCP W3 0) (lCA W3 0) (lCB W3 0) (lCP W2 0) (lCA W2 0) (lCB W2 0) x f wr (lCP W3 0).length 0 0 = true := by
      have := insOk_of (pgL W3 0 256) A' B' x r1 r3 r4 (fun p => pgA W2 0 (16 * (p : Int))) (fun p => pgA W3 0 (16 * (p : Int))) (fun p => pgW W2 0 (16 * (p : Int))) (fun p => pgW W3 0 (16 * (p : Int))) f wr (Q4.trans e3) (Q5.trans e2) (fun y h => (same y h).2.1) (fun y h => (same y h).2.2) (pgL W3 0 256).length 0 (by omega) 0 (by simp)
      rw [← r2] at this
      unfold lCP lCA lCB cP cA cB
      rw [List.length_map]
      exact this
    obtain ⟨n1, n2, n3, n4⟩ := l_len W3 0
    have ln : lLN W3 0 = lLN W2 0 + 1 := by
      unfold lLN; rw [r1, r2, List.length_append, List.length_append, List.length_cons]; omega
    have em3 : lEM W3 0 = false := by unfold lEM; rw [r1]; cases A' <;> rfl
    have em2 : lEM W2 0 = true → lCP W2 0 = [] ∧ lCA W2 0 = [] ∧ lCB W2 0 = [] ∧ lLN W2 0 = 0 := by
      intro h
      have : pgL W2 0 256 = [] := by simpa [lEM] using h
      unfold lCP lCA lCB lLN cP cA cB; rw [this]; exact ⟨rfl, rfl, rfl, rfl⟩
    rw [okm _ l0, okm _ l1, okm _ l2, okm _ l3, okm _ l4, okm _ l5, v0, v1, v2, v3, v4, v5, j1, j2, show inI 0 = true from rfl, ex, em3]
    rw [n1] at ins
    cases h : lEM W2 0 with
    | true =>
      obtain ⟨x1, x2, x3, x4⟩ := em2 h
      rw [x1, x2, x3] at ins
      have ln1 : ((lLN W3 0 : Nat) : Int) = 1 := by omega
      rw [n1, n2, n3, ins, ln1]
      simp only [lk, la, lt, lw, l4, decide_eq_true n4, Nat.beq_refl, decide_true, bne_self_eq_false, beq_self_eq_true, Bool.and_self, Bool.not_true, cT, cF, decide_eq_true (show (512 : Nat) < 4611686018427387904 by decide)]
    | false =>
      have ln2 : ((lLN W3 0 : Nat) : Int) = IntKind.wrap IntKind.i64 ((lLN W2 0 : Nat) + 1) := by rw [wrap_i64 (by omega) (by omega)]; omega
      rw [n1, n2, n3, m1, m2, m3, ins, ← ln2]
      simp only [lk, la, lt, lw, l4, decide_eq_true n4, Nat.beq_refl, decide_true, bne_self_eq_false, beq_self_eq_true, Bool.and_self, Bool.not_true, cT, cF, decide_eq_true (show (512 : Nat) < 4611686018427387904 by decide)]
  · have mE : opME W2 0 A f = 4 := by unfold opME setE; rw [if_pos s1, s2, if_neg g]
    have mW : opMW W2 0 A f wr = W2 := by unfold opMW setWs; rw [if_pos s1, s2, if_neg g]
    rw [mW, mE]
    have lk2 : lok5 (getW W2 (16 + x)) = true := by
      rcases sT with h | h
      · exact absurd h g
      · exact h
    obtain ⟨P2, _⟩ := T2.pg (y := x) (by omega) (by omega)
    rw [if_pos lk2] at P2
    have mem := pgL_mem W2 x P2 256 (by omega)
    have em : lEM W2 0 = false := by
      unfold lEM
      cases h : pgL W2 0 256 with
      | nil => rw [h] at mem; cases mem
      | cons q r => rfl
    have mem2 : (x : Int) ∈ lCP W2 0 := by unfold lCP cP; exact List.mem_map.mpr ⟨x, mem, rfl⟩
    rw [okm _ l0, okm _ l1, okm _ l2, okm _ l3, okm _ l4, v0, v1, v2, v3, v4, j1, j2, show inI 0 = true from rfl, ex, em, m1, decide_eq_true mem2, show ((4 : Int) != 0) = true from rfl, show ((4 : Int) == 4) = true from rfl]
    simp only [lk, la, lt, lw, decide_eq_true m4, Nat.beq_refl, decide_true, beq_self_eq_true, Bool.and_self, cT, cF]
end Go.Proofs.Ytmpmnjekcajlgaa.Wlk
