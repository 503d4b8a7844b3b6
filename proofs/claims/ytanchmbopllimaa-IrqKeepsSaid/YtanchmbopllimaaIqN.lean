/- Lines of interrupts: none is lost: what the round does. -/
import Derived.Test.YtanchmbopllimaaIqM
set_option linter.unusedVariables false
set_option linter.unusedSimpArgs false
set_option maxRecDepth 100000
namespace Go.Proofs.Ytanchmbopllimaa.Wlk
open Go Go.Eng Go.Proofs Go.RowKit
/-- One round, then what follows. -/
def stepR (P : Program) (S : Summ) (L : Nat → Option Orc) (I : LI) (F : Nat) (y : Code) (H : HeadO) : HeadO := fun vs h K => bodyR P S L I F y vs h fun e vs' h' => match e with
  | .normal => H vs' h' K
  | .exit i => K (.exit i) vs' h'
  | .ret => K .ret vs' h'
  | .goto _ => none
theorem stepR_sound {P : Program} {S : Summ} {L : Nat → Option Orc} {I : LI} {F : Nat} {y : Code} {H : HeadO} (hS : SummOk P S) (hmix : P.follows .mixedOrders = true) (hL : LOk I.n P L y) (hH : HeadSound P I y H) : HeadSound P I y (stepR P S L I F y H) := by
  intro vs h K r hn e
  simp only [stepR, bodyR, stK_eq] at e
  obtain ⟨ex, s', hk, hc, hcl, _⟩ := execL_sound hS hmix F hL (by exact hn) e
  split at hk
  · rename_i vs' hp
    obtain ⟨vs2, h2, hk2, hcl2, hsr⟩ := normH_sound hcl.2 hp hk
    have hc2 : CodeSoundN I.n P y (stOf I.N I.live vs h) ex (stOf I.N (I.of ex) vs2 h2) := fun ρ a w Q hs hq => hc ρ a w Q hs fun ρ1 a1 w1 h1 p1 => by
      obtain ⟨ρ2, g1, g2⟩ := hsr ρ1 a1 w1 h1
      exact hq ρ2 a1 w1 g1 (p1.trans g2)
    have out : ex ≠ .normal → LoopSoundN I.n P y (stOf I.N I.live vs h) ex (stOf I.N (I.of ex) vs2 h2) := by
      intro he
      refine ⟨1, fun ρ a w Q hs hq => ?_⟩
      rw [rounds_succ]
      refine hc2 ρ a w _ hs fun ρ1 a1 w1 h1 p1 => ?_
      have := hq ρ1 a1 w1 h1 p1
      cases ex <;> first | exact absurd rfl he | exact this
    have hcl3 : CleanN I.n h h2 := hcl.trans hcl2
    cases ex with
    | normal =>
      obtain ⟨e3, vs3, h3, hk3, ⟨m', hm⟩, hcl4⟩ := hH vs2 h2 K r hcl2.2 hk2
      refine ⟨e3, vs3, h3, hk3, ⟨m' + 1, fun ρ a w Q hs hq => ?_⟩, hcl3.trans hcl4⟩
      rw [rounds_succ]
      refine hc2 ρ a w _ hs fun ρ1 a1 w1 h1 p1 => ?_
      exact hm ρ1 a1 w1 Q h1 fun ρ2 a2 w2 h2 p2 => hq ρ2 a2 w2 h2 (p1.trans p2)
    | exit i => exact ⟨_, vs2, h2, hk2, out (by simp), hcl3⟩
    | ret => exact ⟨_, vs2, h2, hk2, out (by simp), hcl3⟩
    | goto l => simp at hk2
  · cases hk
theorem HeadSound.any {P : Program} {I : LI} {y : Code} {C : HeadO} (h : ∀ vs g K r, C vs g K = some r → ∃ H, HeadSound P I y H ∧ H vs g K = some r) : HeadSound P I y C :=
  fun vs g K r hn e => let ⟨H, h1, h2⟩ := h vs g K r e; h1 vs g K r hn h2
def tkR : List Bool → List Bool → List Bool
  | h :: hs, m :: ms => (h && m) :: tkR hs ms
  | _, _ => []
theorem tk_get : ∀ {hs ms : List Bool} {n : Nat}, n < hs.length → n < ms.length → (tkR hs ms).getD n false = (hs.getD n false && ms.getD n false)
  | [], _, n, h, _ => absurd h (Nat.not_lt_zero _)
  | _ :: _, [], n, _, h => absurd h (Nat.not_lt_zero _)
  | h :: hs, m :: ms, 0, _, _ => rfl
  | h :: hs, m :: ms, n + 1, h1, h2 => @tk_get hs ms n (Nat.lt_of_succ_lt_succ h1) (Nat.lt_of_succ_lt_succ h2)
theorem setN_lt {α : Type} (ix : Nat) (x : α) : ∀ (j : Nat) (l : List α), ix < j → setN ix x j l = l
  | _, [], _ => rfl
  | j, y :: r, h => by rw [setN, if_neg (by omega), setN_lt ix x (j + 1) r (by omega)]
theorem tk_own (ix : Nat) : ∀ (j : Nat) (hs ms : List Bool), j ≤ ix → hs.getD (ix - j) false = false → tkR (setN ix true j hs) (setN ix false j ms) = tkR hs ms
  | j, [], ms, _, _ => rfl
  | j, _ :: _, [], _, _ => rfl
  | j, h :: hs, m :: ms, hj, hg => by
    rw [setN, setN, tkR, tkR]
    by_cases c : ix = j
    · subst c
      rw [Nat.sub_self] at hg
      have hg : h = false := hg
      rw [if_pos rfl, if_pos rfl, hg, setN_lt _ _ _ _ (Nat.lt_succ_self _), setN_lt _ _ _ _ (Nat.lt_succ_self _)]
      rfl
    · rw [if_neg c, if_neg c]
      obtain ⟨q, hq⟩ : ∃ q, ix - j = q + 1 := ⟨ix - j - 1, by omega⟩
      rw [hq] at hg
      have hq2 : ix - (j + 1) = q := by omega
      have hg : hs.getD q false = false := hg
      rw [tk_own ix (j + 1) hs ms (by omega) (by rw [hq2]; exact hg)]
theorem tk_next (ix : Nat) : ∀ (j : Nat) (hs ms : List Bool), j ≤ ix → hs.getD (ix - j) false = true → tkR hs (setN ix true j ms) = setN ix true j (tkR hs ms)
  | j, [], ms, _, _ => by cases ms <;> rfl
  | j, _ :: _, [], _, _ => rfl
  | j, h :: hs, m :: ms, hj, hg => by
    rw [tkR, setN, setN, tkR]
    by_cases c : ix = j
    · subst c
      rw [Nat.sub_self] at hg
      have hg : h = true := hg
      rw [if_pos rfl, if_pos rfl, hg, setN_lt _ _ _ _ (Nat.lt_succ_self _), setN_lt _ _ _ _ (Nat.lt_succ_self _)]
      rfl
    · rw [if_neg c, if_neg c]
      obtain ⟨q, hq⟩ : ∃ q, ix - j = q + 1 := ⟨ix - j - 1, by omega⟩
      rw [hq] at hg
      have hq2 : ix - (j + 1) = q := by omega
      have hg : hs.getD q false = true := hg
      rw [tk_next ix (j + 1) hs ms (by omega) (by rw [hq2]; exact hg)]
theorem tk_ack (ix : Nat) : ∀ (j : Nat) (hs ms : List Bool), tkR hs (setN ix false j ms) = setN ix false j (tkR hs ms)
  | j, [], ms => by cases ms <;> rfl
  | j, _ :: _, [] => rfl
  | j, h :: hs, m :: ms => by
    rw [tkR, setN, setN, tkR, tk_ack ix (j + 1) hs ms]
    by_cases c : ix = j
    · rw [if_pos c, if_pos c]; cases h <;> rfl
    · rw [if_neg c, if_neg c]
theorem inL_d {n : Int} (h : inL n = true) : 0 ≤ n ∧ n < 8 := by
  unfold inL at h
  simp only [Bool.and_eq_true, decide_eq_true_eq] at h
  exact h
theorem own_ok {n d : Int} {hs : List Bool} (c : rOwnE n d hs = 0) : 0 ≤ n ∧ n < 8 ∧ hs.getD n.toNat false = false ∧ rOwnIx n d hs = n.toNat := by
  have q : rOwnIx n d hs = n.toNat := by unfold rOwnIx; rw [if_pos c]
  unfold rOwnE at c
  split at c
  · rename_i a
    split at c
    · omega
    · rename_i b
      exact ⟨(inL_d a.1).1, (inL_d a.1).2, by simpa using b, q⟩
  · omega
theorem own_no {n d : Int} {hs : List Bool} (c : ¬ rOwnE n d hs = 0) : rOwnIx n d hs = 8 := by unfold rOwnIx; rw [if_neg c]
theorem ack_ok {n : Int} {hs mk : List Bool} (c : rAckE n hs mk = 0) : 0 ≤ n ∧ n < 8 ∧ hs.getD n.toNat false = true ∧ mk.getD n.toNat false = true ∧ rAckIx n hs mk = n.toNat := by
  have q : rAckIx n hs mk = n.toNat := by unfold rAckIx; rw [if_pos c]
  unfold rAckE at c
  split at c
  · rename_i a
    split at c
    · omega
    · rename_i b
      refine ⟨(inL_d a).1, (inL_d a).2, ?_, ?_, q⟩
      · cases e : hs.getD n.toNat false with
        | true => rfl
        | false => exact absurd (.inl e) b
      · cases e : mk.getD n.toNat false with
        | true => rfl
        | false => exact absurd (.inr e) b
  · omega
theorem ack_no {n : Int} {hs mk : List Bool} (c : ¬ rAckE n hs mk = 0) : rAckIx n hs mk = 8 := by unfold rAckIx; rw [if_neg c]
theorem rnI_some (d : Int) : ∀ (j : Nat) (hs : List Bool) (ow : List Int) (is mk : List Bool), rnI d j hs ow is mk < 8 → ∃ t, rnI d j hs ow is mk = j + t ∧ t < hs.length ∧ hs.getD t false = true ∧ ow.getD t 0 = d ∧ is.getD t false = true ∧ mk.getD t false = false
  | j, [], ow, is, mk, h => by simp [rnI] at h
  | j, _ :: _, [], is, mk, h => by simp [rnI] at h
  | j, _ :: _, _ :: _, [], mk, h => by simp [rnI] at h
  | j, _ :: _, _ :: _, _ :: _, [], h => by simp [rnI] at h
  | j, a :: hs, w :: ow, i :: is, k :: mk, h => by
    rw [rnI] at h ⊢
    by_cases c : a = true ∧ w = d ∧ i = true ∧ k = false
    · rw [if_pos c]
      exact ⟨0, rfl, Nat.zero_lt_succ _, c.1, c.2.1, c.2.2.1, c.2.2.2⟩
    · rw [if_neg c] at h ⊢
      obtain ⟨t, e, h1, h2⟩ := rnI_some d (j + 1) hs ow is mk h
      exact ⟨t + 1, by omega, Nat.succ_lt_succ h1, h2⟩
theorem rnI_none (d : Int) : ∀ (j : Nat) (hs : List Bool) (ow : List Int) (is mk : List Bool), j + hs.length ≤ 8 → ow.length = hs.length → is.length = hs.length → mk.length = hs.length → ¬ rnI d j hs ow is mk < 8 → ∀ t, t < hs.length → ¬ (hs.getD t false = true ∧ ow.getD t 0 = d ∧ is.getD t false = true ∧ mk.getD t false = false)
  | j, [], ow, is, mk, _, _, _, _, _, t, ht => absurd ht (Nat.not_lt_zero _)
  | j, _ :: _, [], is, mk, _, h, _, _, _, t, ht => nomatch h
  | j, _ :: _, _ :: _, [], mk, _, _, h, _, _, t, ht => nomatch h
  | j, _ :: _, _ :: _, _ :: _, [], _, _, _, h, _, t, ht => nomatch h
  | j, a :: hs, w :: ow, i :: is, k :: mk, hj, h1, h2, h3, h, t, ht => by
    rw [rnI] at h
    simp only [List.length_cons] at hj
    by_cases c : a = true ∧ w = d ∧ i = true ∧ k = false
    · rw [if_pos c] at h; omega
    · rw [if_neg c] at h
      cases t with
      | zero => exact c
      | succ t => exact rnI_none d (j + 1) hs ow is mk (by omega) (Nat.succ.inj h1) (Nat.succ.inj h2) (Nat.succ.inj h3) h t (Nat.lt_of_succ_lt_succ ht)
theorem k3c {h i m : Bool} {w d : Int} (c : ¬ (h = true ∧ w = d ∧ i = true ∧ m = false)) : ¬ (h = true ∧ w = d ∧ i = true ∧ (h && m) = false) :=
  fun ⟨a, b, e, f⟩ => c ⟨a, b, e, by subst a; exact f⟩
theorem beq_no {a b : Int} (h : a = b) (c : ¬ b = 0) : (a == 0) = false := by subst h; simpa using c
theorem wd_bits : ∀ e0 e1 e2 e3 e4 e5 e6 e7 : Bool, (Int.tmod (Int.fdiv (wd 0 0 [e0, e1, e2, e3, e4, e5, e6, e7]) 1) 2 == 1) = e0 ∧ (Int.tmod (Int.fdiv (wd 0 0 [e0, e1, e2, e3, e4, e5, e6, e7]) 2) 2 == 1) = e1 ∧ (Int.tmod (Int.fdiv (wd 0 0 [e0, e1, e2, e3, e4, e5, e6, e7]) 4) 2 == 1) = e2 ∧ (Int.tmod (Int.fdiv (wd 0 0 [e0, e1, e2, e3, e4, e5, e6, e7]) 8) 2 == 1) = e3 ∧ (Int.tmod (Int.fdiv (wd 0 0 [e0, e1, e2, e3, e4, e5, e6, e7]) 16) 2 == 1) = e4 ∧ (Int.tmod (Int.fdiv (wd 0 0 [e0, e1, e2, e3, e4, e5, e6, e7]) 32) 2 == 1) = e5 ∧ (Int.tmod (Int.fdiv (wd 0 0 [e0, e1, e2, e3, e4, e5, e6, e7]) 64) 2 == 1) = e6 ∧ (Int.tmod (Int.fdiv (wd 0 0 [e0, e1, e2, e3, e4, e5, e6, e7]) 128) 2 == 1) = e7 := by decide +kernel
theorem keepG {ul : Nat} {i : Int} {ok on od os os' : List Int} {ms ms' : List Bool} {ts ts' : List Nat} {is is' tk tk' hs hs' : List Bool} {ow ow' : List Int} (e1 : os = os') (e2 : ms = ms') (e3 : ts = ts') (e4 : is = is') (e5 : tk = tk') (e6 : hs = hs') (e7 : ow = ow') (eb : bitsT ts' = is') :
    isQ (vK5 ul i (wd 0 0 (bitsT ts)) 0 = vK5 ul i (wd 0 0 is') 0 ∧ hK ok on od os ms ts is tk hs ow = hK ok on od os' ms' ts' is' tk' hs' ow') = true := by
  subst e1 e2 e3 e4 e5 e6 e7
  rw [eb]; exact isQ_of ⟨rfl, rfl⟩
abbrev hSK (ok on od : List Int) (s : Li) : Heap := hK ok on od (oR s.hs s.ow) s.ms (tR s.is) s.is (tkR s.hs s.ms) s.hs s.ow
set_option maxHeartbeats 4000000 in
theorem kp_round (ul i : Nat) (dd : Int) (ok on od : List Int) (i0 i1 i2 i3 i4 i5 i6 i7 m0 m1 m2 m3 m4 m5 m6 m7 h0 h1 h2 h3 h4 h5 h6 h7 e0 e1 e2 e3 e4 e5 e6 e7 b0 b1 b2 b3 b4 b5 b6 b7 g0 g1 g2 g3 g4 g5 g6 g7 : Bool) (w0 w1 w2 w3 w4 w5 w6 w7 x0 x1 x2 x3 x4 x5 x6 x7 : Int) (K : HeadK) (g : gd [h0, h1, h2, h3, h4, h5, h6, h7] [w0, w1, w2, w3, w4, w5, w6, w7]) (l1 : ul = ok.length) (l2 : ul = on.length) (l3 : ul = od.length) (y1 : i < ul) (y2 : i < 100)
    (hd : ¬ rnI (List.getD od (0 + Int.toNat i) 0) 0 [h0, h1, h2, h3, h4, h5, h6, h7] [w0, w1, w2, w3, w4, w5, w6, w7] [i0, i1, i2, i3, i4, i5, i6, i7] [m0, m1, m2, m3, m4, m5, m6, m7] < 8 → dd = List.getD od (0 + Int.toNat i) 0) (he : act (List.getD ok (0 + Int.toNat i) 0) (List.getD on (0 + Int.toNat i) 0) (List.getD od (0 + Int.toNat i) 0) ⟨[i0, i1, i2, i3, i4, i5, i6, i7], [m0, m1, m2, m3, m4, m5, m6, m7], [h0, h1, h2, h3, h4, h5, h6, h7], [w0, w1, w2, w3, w4, w5, w6, w7]⟩ = ⟨[e0, e1, e2, e3, e4, e5, e6, e7], [b0, b1, b2, b3, b4, b5, b6, b7], [g0, g1, g2, g3, g4, g5, g6, g7], [x0, x1, x2, x3, x4, x5, x6, x7]⟩) :
    bodyR Try.prog sW (lK (vK3 ul i 0) (hK3 (List.getD ok (0 + Int.toNat i) 0) (List.getD on (0 + Int.toNat i) 0) dd ok on od (oR [h0, h1, h2, h3, h4, h5, h6, h7] [w0, w1, w2, w3, w4, w5, w6, w7]) [m0, m1, m2, m3, m4, m5, m6, m7] (tR [i0, i1, i2, i3, i4, i5, i6, i7]) [i0, i1, i2, i3, i4, i5, i6, i7] (tkR [h0, h1, h2, h3, h4, h5, h6, h7] [m0, m1, m2, m3, m4, m5, m6, m7]) [h0, h1, h2, h3, h4, h5, h6, h7] [w0, w1, w2, w3, w4, w5, w6, w7]) (vK ul i) (hSK ok on od ⟨[i0, i1, i2, i3, i4, i5, i6, i7], [m0, m1, m2, m3, m4, m5, m6, m7], [h0, h1, h2, h3, h4, h5, h6, h7], [w0, w1, w2, w3, w4, w5, w6, w7]⟩) (vK5 ul i (wd 0 0 [e0, e1, e2, e3, e4, e5, e6, e7]) 0) (hSK ok on od ⟨[e0, e1, e2, e3, e4, e5, e6, e7], [b0, b1, b2, b3, b4, b5, b6, b7], [g0, g1, g2, g3, g4, g5, g6, g7], [x0, x1, x2, x3, x4, x5, x6, x7]⟩) (vK ul i) (hSK ok on od ⟨[e0, e1, e2, e3, e4, e5, e6, e7], [b0, b1, b2, b3, b4, b5, b6, b7], [g0, g1, g2, g3, g4, g5, g6, g7], [x0, x1, x2, x3, x4, x5, x6, x7]⟩)) iKp 60 (loopOf Try.prog 3 0) (vK ul i) (hSK ok on od ⟨[i0, i1, i2, i3, i4, i5, i6, i7], [m0, m1, m2, m3, m4, m5, m6, m7], [h0, h1, h2, h3, h4, h5, h6, h7], [w0, w1, w2, w3, w4, w5, w6, w7]⟩) K = K .normal (vK ul (i + 1 : Nat)) (hSK ok on od ⟨[e0, e1, e2, e3, e4, e5, e6, e7], [b0, b1, b2, b3, b4, b5, b6, b7], [g0, g1, g2, g3, g4, g5, g6, g7], [x0, x1, x2, x3, x4, x5, x6, x7]⟩) := by
  have wi : IntKind.wrap IntKind.i64 ((i : Int) + 1) = ((i + 1 : Nat) : Int) := by rw [wrap_i64 (by omega) (by omega)]; omega
  refine (t_kp ul i (wd 0 0 [e0, e1, e2, e3, e4, e5, e6, e7]) (List.getD ok (0 + Int.toNat i) 0) (List.getD on (0 + Int.toNat i) 0) dd ok on od (if h0 = true then w0 else -1) (if h1 = true then w1 else -1) (if h2 = true then w2 else -1) (if h3 = true then w3 else -1) (if h4 = true then w4 else -1) (if h5 = true then w5 else -1) (if h6 = true then w6 else -1) (if h7 = true then w7 else -1) m0 m1 m2 m3 m4 m5 m6 m7 (if i0 = true then 1 else 0) (if i1 = true then 1 else 0) (if i2 = true then 1 else 0) (if i3 = true then 1 else 0) (if i4 = true then 1 else 0) (if i5 = true then 1 else 0) (if i6 = true then 1 else 0) (if i7 = true then 1 else 0) i0 i1 i2 i3 i4 i5 i6 i7 (h0 && m0) (h1 && m1) (h2 && m2) (h3 && m3) (h4 && m4) (h5 && m5) (h6 && m6) (h7 && m7) h0 h1 h2 h3 h4 h5 h6 h7 w0 w1 w2 w3 w4 w5 w6 w7 (if g0 = true then x0 else -1) (if g1 = true then x1 else -1) (if g2 = true then x2 else -1) (if g3 = true then x3 else -1) (if g4 = true then x4 else -1) (if g5 = true then x5 else -1) (if g6 = true then x6 else -1) (if g7 = true then x7 else -1) b0 b1 b2 b3 b4 b5 b6 b7 (if e0 = true then 1 else 0) (if e1 = true then 1 else 0) (if e2 = true then 1 else 0) (if e3 = true then 1 else 0) (if e4 = true then 1 else 0) (if e5 = true then 1 else 0) (if e6 = true then 1 else 0) (if e7 = true then 1 else 0) e0 e1 e2 e3 e4 e5 e6 e7 (g0 && b0) (g1 && b1) (g2 && b2) (g3 && b3) (g4 && b4) (g5 && b5) (g6 && b6) (g7 && b7) g0 g1 g2 g3 g4 g5 g6 g7 x0 x1 x2 x3 x4 x5 x6 x7 K).trans ?_
  refine (ctr (decide_eq_true (by omega))).trans ?_
  refine (ctr (decide_eq_true (by omega))).trans ?_
  refine (ctr (by rw [decide_eq_true (show 0 ≤ (i : Int) by omega), decide_eq_true (show (i : Int) < (ul : Int) by omega)]; rfl)).trans ?_
  refine (ctr (by rw [decide_eq_true (show 0 + Int.toNat (i : Int) < ok.length by omega), decide_eq_true (show 0 + Int.toNat (i : Int) < on.length by omega), decide_eq_true (show 0 + Int.toNat (i : Int) < od.length by omega)]; rfl)).trans ?_
  revert hd he
  generalize List.getD ok (0 + Int.toNat (i : Int)) 0 = k
  generalize List.getD on (0 + Int.toNat (i : Int)) 0 = n
  generalize List.getD od (0 + Int.toNat (i : Int)) 0 = d
  intro hd he
  by_cases s : n ≥ 0
  · refine (ctr (decide_eq_true s)).trans ?_
    by_cases c0 : k = 0
    · refine (ctr (beq_iff_eq.2 c0)).trans ?_
      have a := he
      unfold act at a
      rw [if_pos c0] at a
      obtain ⟨a1, a2, a3, a4⟩ := Li.mk.inj a
      have a1 : [i0, i1, i2, i3, i4, i5, i6, i7] = [e0, e1, e2, e3, e4, e5, e6, e7] := a1
      have a2 : setN (rOwnIx n d [h0, h1, h2, h3, h4, h5, h6, h7]) false 0 [m0, m1, m2, m3, m4, m5, m6, m7] = [b0, b1, b2, b3, b4, b5, b6, b7] := a2
      have a3 : setN (rOwnIx n d [h0, h1, h2, h3, h4, h5, h6, h7]) true 0 [h0, h1, h2, h3, h4, h5, h6, h7] = [g0, g1, g2, g3, g4, g5, g6, g7] := a3
      have a4 : setN (rOwnIx n d [h0, h1, h2, h3, h4, h5, h6, h7]) d 0 [w0, w1, w2, w3, w4, w5, w6, w7] = [x0, x1, x2, x3, x4, x5, x6, x7] := a4
      have q2 := ownIx_eq (ow := [w0, w1, w2, w3, w4, w5, w6, w7]) g rfl rfl n d
      have q3 := oR_set (rOwnIx n d [h0, h1, h2, h3, h4, h5, h6, h7]) d 0 [h0, h1, h2, h3, h4, h5, h6, h7] [w0, w1, w2, w3, w4, w5, w6, w7]
      have oe := own_eq (hs := [h0, h1, h2, h3, h4, h5, h6, h7]) (ow := [w0, w1, w2, w3, w4, w5, w6, w7]) g rfl rfl n d
      by_cases cE : rOwnE n d [h0, h1, h2, h3, h4, h5, h6, h7] = 0
      · refine (ctr (beq_iff_eq.2 (oe.trans cE))).trans ?_
        obtain ⟨v1, v2, v3, q1⟩ := own_ok cE
        refine (cfr (by rw [decide_eq_true v2]; rfl)).trans ?_
        refine (ctr (by rw [decide_eq_true (show 0 ≤ n by omega), decide_eq_true (show n < 8 by omega)]; rfl)).trans ?_
        refine (ctr (decide_eq_true (show Int.toNat (n) < 8 by omega))).trans ?_
        refine (cfr v3).trans ?_
        refine (ctr (by rw [decide_eq_true (show 0 ≤ n by omega), decide_eq_true (show n < 8 by omega)]; rfl)).trans ?_
        refine (ctr (by rw [Bool.and_true]; exact decide_eq_true (show Int.toNat (n) < 8 by omega))).trans ?_
        refine (ctr (by rw [decide_eq_true (show 0 ≤ n by omega), decide_eq_true (show n < 8 by omega)]; rfl)).trans ?_
        refine (ctr (by rw [Bool.and_true]; exact decide_eq_true (show Int.toNat (n) < 8 by omega))).trans ?_
        refine (ctr (keepG (os := setN (ownIx n d (oR [h0, h1, h2, h3, h4, h5, h6, h7] [w0, w1, w2, w3, w4, w5, w6, w7])) d 0 (oR [h0, h1, h2, h3, h4, h5, h6, h7] [w0, w1, w2, w3, w4, w5, w6, w7])) (os' := oR [g0, g1, g2, g3, g4, g5, g6, g7] [x0, x1, x2, x3, x4, x5, x6, x7]) (ms := setN (ownIx n d (oR [h0, h1, h2, h3, h4, h5, h6, h7] [w0, w1, w2, w3, w4, w5, w6, w7])) false 0 [m0, m1, m2, m3, m4, m5, m6, m7]) (ms' := [b0, b1, b2, b3, b4, b5, b6, b7]) (ts := tR [i0, i1, i2, i3, i4, i5, i6, i7]) (ts' := tR [e0, e1, e2, e3, e4, e5, e6, e7]) (is := [i0, i1, i2, i3, i4, i5, i6, i7]) (is' := [e0, e1, e2, e3, e4, e5, e6, e7]) (tk := tkR [h0, h1, h2, h3, h4, h5, h6, h7] [m0, m1, m2, m3, m4, m5, m6, m7]) (tk' := tkR [g0, g1, g2, g3, g4, g5, g6, g7] [b0, b1, b2, b3, b4, b5, b6, b7]) (hs := setN n.toNat true 0 [h0, h1, h2, h3, h4, h5, h6, h7]) (hs' := [g0, g1, g2, g3, g4, g5, g6, g7]) (ow := setN n.toNat d 0 [w0, w1, w2, w3, w4, w5, w6, w7]) (ow' := [x0, x1, x2, x3, x4, x5, x6, x7]) (by rw [q2, q3, a3, a4]) (by rw [q2, a2]) (by rw [a1]) a1 (by rw [← a3, ← a2, q1]; exact (tk_own n.toNat 0 [h0, h1, h2, h3, h4, h5, h6, h7] [m0, m1, m2, m3, m4, m5, m6, m7] (Nat.zero_le _) v3).symm) (by rw [← a3, q1]) (by rw [← a4, q1]) (bits_tR _))).trans ?_
        rw [wi]; rfl
      · refine (cfr (beq_no oe cE)).trans ?_
        have q1 := own_no cE
        refine (ctr (keepG (os := setN (ownIx n d (oR [h0, h1, h2, h3, h4, h5, h6, h7] [w0, w1, w2, w3, w4, w5, w6, w7])) d 0 (oR [h0, h1, h2, h3, h4, h5, h6, h7] [w0, w1, w2, w3, w4, w5, w6, w7])) (os' := oR [g0, g1, g2, g3, g4, g5, g6, g7] [x0, x1, x2, x3, x4, x5, x6, x7]) (ms := setN (ownIx n d (oR [h0, h1, h2, h3, h4, h5, h6, h7] [w0, w1, w2, w3, w4, w5, w6, w7])) false 0 [m0, m1, m2, m3, m4, m5, m6, m7]) (ms' := [b0, b1, b2, b3, b4, b5, b6, b7]) (ts := tR [i0, i1, i2, i3, i4, i5, i6, i7]) (ts' := tR [e0, e1, e2, e3, e4, e5, e6, e7]) (is := [i0, i1, i2, i3, i4, i5, i6, i7]) (is' := [e0, e1, e2, e3, e4, e5, e6, e7]) (tk := tkR [h0, h1, h2, h3, h4, h5, h6, h7] [m0, m1, m2, m3, m4, m5, m6, m7]) (tk' := tkR [g0, g1, g2, g3, g4, g5, g6, g7] [b0, b1, b2, b3, b4, b5, b6, b7]) (hs := [h0, h1, h2, h3, h4, h5, h6, h7]) (hs' := [g0, g1, g2, g3, g4, g5, g6, g7]) (ow := [w0, w1, w2, w3, w4, w5, w6, w7]) (ow' := [x0, x1, x2, x3, x4, x5, x6, x7]) (by rw [q2, q3, a3, a4]) (by rw [q2, a2]) (by rw [a1]) a1 (by rw [← a3, ← a2, q1]; rfl) (by rw [← a3, q1]; rfl) (by rw [← a4, q1]; rfl) (bits_tR _))).trans ?_
        rw [wi]; rfl
    refine (cfr (by simpa using c0)).trans ?_
    by_cases c1 : k = 1
    · refine (ctr (beq_iff_eq.2 c1)).trans ?_
      have a := he
      unfold act at a
      rw [if_neg c0, if_pos c1] at a
      obtain ⟨a1, a2, a3, a4⟩ := Li.mk.inj a
      have a1 : setN (upIx n) true 0 [i0, i1, i2, i3, i4, i5, i6, i7] = [e0, e1, e2, e3, e4, e5, e6, e7] := a1
      have a2 : [m0, m1, m2, m3, m4, m5, m6, m7] = [b0, b1, b2, b3, b4, b5, b6, b7] := a2
      have a3 : [h0, h1, h2, h3, h4, h5, h6, h7] = [g0, g1, g2, g3, g4, g5, g6, g7] := a3
      have a4 : [w0, w1, w2, w3, w4, w5, w6, w7] = [x0, x1, x2, x3, x4, x5, x6, x7] := a4
      by_cases v2 : n < 8
      · have hin : inL n = true := inL_t (by omega) (by omega)
        have q1 : upIx n = n.toNat := by unfold upIx; rw [hin]; rfl
        refine (ctr (beq_iff_eq.2 (show upE n = 0 by unfold upE; rw [hin]; rfl))).trans ?_
        refine (ctr (decide_eq_true v2)).trans ?_
        refine (ctr (by rw [decide_eq_true (show 0 ≤ n by omega), decide_eq_true (show n < 8 by omega)]; rfl)).trans ?_
        refine (ctr (by rw [Bool.and_true]; exact decide_eq_true (show Int.toNat (n) < 8 by omega))).trans ?_
        refine (ctr (keepG (os := oR [h0, h1, h2, h3, h4, h5, h6, h7] [w0, w1, w2, w3, w4, w5, w6, w7]) (os' := oR [g0, g1, g2, g3, g4, g5, g6, g7] [x0, x1, x2, x3, x4, x5, x6, x7]) (ms := [m0, m1, m2, m3, m4, m5, m6, m7]) (ms' := [b0, b1, b2, b3, b4, b5, b6, b7]) (ts := upT (upIx n) 0 (tR [i0, i1, i2, i3, i4, i5, i6, i7])) (ts' := tR [e0, e1, e2, e3, e4, e5, e6, e7]) (is := setN n.toNat true 0 [i0, i1, i2, i3, i4, i5, i6, i7]) (is' := [e0, e1, e2, e3, e4, e5, e6, e7]) (tk := tkR [h0, h1, h2, h3, h4, h5, h6, h7] [m0, m1, m2, m3, m4, m5, m6, m7]) (tk' := tkR [g0, g1, g2, g3, g4, g5, g6, g7] [b0, b1, b2, b3, b4, b5, b6, b7]) (hs := [h0, h1, h2, h3, h4, h5, h6, h7]) (hs' := [g0, g1, g2, g3, g4, g5, g6, g7]) (ow := [w0, w1, w2, w3, w4, w5, w6, w7]) (ow' := [x0, x1, x2, x3, x4, x5, x6, x7]) (by rw [a3, a4]) a2 (by rw [tR_up, a1]) (by rw [← a1, q1]) (by rw [a3, a2]) a3 a4 (bits_tR _))).trans ?_
        rw [wi]; rfl
      · have hin : inL n = false := inL_f2 (by omega)
        have q1 : upIx n = 8 := by unfold upIx; rw [hin]; rfl
        refine (cfr (show (upE n == 0) = false by unfold upE; rw [hin]; rfl)).trans ?_
        refine (ctr (keepG (os := oR [h0, h1, h2, h3, h4, h5, h6, h7] [w0, w1, w2, w3, w4, w5, w6, w7]) (os' := oR [g0, g1, g2, g3, g4, g5, g6, g7] [x0, x1, x2, x3, x4, x5, x6, x7]) (ms := [m0, m1, m2, m3, m4, m5, m6, m7]) (ms' := [b0, b1, b2, b3, b4, b5, b6, b7]) (ts := upT (upIx n) 0 (tR [i0, i1, i2, i3, i4, i5, i6, i7])) (ts' := tR [e0, e1, e2, e3, e4, e5, e6, e7]) (is := [i0, i1, i2, i3, i4, i5, i6, i7]) (is' := [e0, e1, e2, e3, e4, e5, e6, e7]) (tk := tkR [h0, h1, h2, h3, h4, h5, h6, h7] [m0, m1, m2, m3, m4, m5, m6, m7]) (tk' := tkR [g0, g1, g2, g3, g4, g5, g6, g7] [b0, b1, b2, b3, b4, b5, b6, b7]) (hs := [h0, h1, h2, h3, h4, h5, h6, h7]) (hs' := [g0, g1, g2, g3, g4, g5, g6, g7]) (ow := [w0, w1, w2, w3, w4, w5, w6, w7]) (ow' := [x0, x1, x2, x3, x4, x5, x6, x7]) (by rw [a3, a4]) a2 (by rw [tR_up, a1]) (by rw [← a1, q1]; rfl) (by rw [a3, a2]) a3 a4 (bits_tR _))).trans ?_
        rw [wi]; rfl
    refine (cfr (by simpa using c1)).trans ?_
    by_cases c2 : k = 2
    · refine (ctr (beq_iff_eq.2 c2)).trans ?_
      have a := he
      unfold act at a
      rw [if_neg c0, if_neg c1, if_pos c2] at a
      obtain ⟨a1, a2, a3, a4⟩ := Li.mk.inj a
      have a1 : setN (rnI d 0 [h0, h1, h2, h3, h4, h5, h6, h7] [w0, w1, w2, w3, w4, w5, w6, w7] [i0, i1, i2, i3, i4, i5, i6, i7] [m0, m1, m2, m3, m4, m5, m6, m7]) false 0 [i0, i1, i2, i3, i4, i5, i6, i7] = [e0, e1, e2, e3, e4, e5, e6, e7] := a1
      have a2 : setN (rnI d 0 [h0, h1, h2, h3, h4, h5, h6, h7] [w0, w1, w2, w3, w4, w5, w6, w7] [i0, i1, i2, i3, i4, i5, i6, i7] [m0, m1, m2, m3, m4, m5, m6, m7]) true 0 [m0, m1, m2, m3, m4, m5, m6, m7] = [b0, b1, b2, b3, b4, b5, b6, b7] := a2
      have a3 : [h0, h1, h2, h3, h4, h5, h6, h7] = [g0, g1, g2, g3, g4, g5, g6, g7] := a3
      have a4 : [w0, w1, w2, w3, w4, w5, w6, w7] = [x0, x1, x2, x3, x4, x5, x6, x7] := a4
      have nq := nx_eq d 0 [h0, h1, h2, h3, h4, h5, h6, h7] [w0, w1, w2, w3, w4, w5, w6, w7] [i0, i1, i2, i3, i4, i5, i6, i7] [m0, m1, m2, m3, m4, m5, m6, m7] g
      by_cases cX : rnI d 0 [h0, h1, h2, h3, h4, h5, h6, h7] [w0, w1, w2, w3, w4, w5, w6, w7] [i0, i1, i2, i3, i4, i5, i6, i7] [m0, m1, m2, m3, m4, m5, m6, m7] < 8
      · obtain ⟨t, u1, u2, u3, u4, u5, u6⟩ := rnI_some d 0 [h0, h1, h2, h3, h4, h5, h6, h7] [w0, w1, w2, w3, w4, w5, w6, w7] [i0, i1, i2, i3, i4, i5, i6, i7] [m0, m1, m2, m3, m4, m5, m6, m7] cX
        rw [Nat.zero_add] at u1
        have cX' : t < 8 := u1 ▸ cX
        have nv : nxV (nxI d 0 (oR [h0, h1, h2, h3, h4, h5, h6, h7] [w0, w1, w2, w3, w4, w5, w6, w7]) [m0, m1, m2, m3, m4, m5, m6, m7] (tR [i0, i1, i2, i3, i4, i5, i6, i7])) = (t : Int) := by rw [nq, u1]; unfold nxV; rw [if_pos cX']
        refine (ctr (show Nat.ble (nxI d 0 (oR [h0, h1, h2, h3, h4, h5, h6, h7] [w0, w1, w2, w3, w4, w5, w6, w7]) [m0, m1, m2, m3, m4, m5, m6, m7] (tR [i0, i1, i2, i3, i4, i5, i6, i7]) + 1) 8 = true by rw [show nxI d 0 (oR [h0, h1, h2, h3, h4, h5, h6, h7] [w0, w1, w2, w3, w4, w5, w6, w7]) [m0, m1, m2, m3, m4, m5, m6, m7] (tR [i0, i1, i2, i3, i4, i5, i6, i7]) = t from nq.trans u1]; exact Nat.ble_eq_true_of_le (by omega))).trans ?_
        have nv2 : (nxV (nxI d 0 (oR [h0, h1, h2, h3, h4, h5, h6, h7] [w0, w1, w2, w3, w4, w5, w6, w7]) [m0, m1, m2, m3, m4, m5, m6, m7] (tR [i0, i1, i2, i3, i4, i5, i6, i7]))).toNat = t := by rw [nv]; omega
        have z1 : 0 ≤ nxV (nxI d 0 (oR [h0, h1, h2, h3, h4, h5, h6, h7] [w0, w1, w2, w3, w4, w5, w6, w7]) [m0, m1, m2, m3, m4, m5, m6, m7] (tR [i0, i1, i2, i3, i4, i5, i6, i7])) := by rw [nv]; omega
        have z2 : nxV (nxI d 0 (oR [h0, h1, h2, h3, h4, h5, h6, h7] [w0, w1, w2, w3, w4, w5, w6, w7]) [m0, m1, m2, m3, m4, m5, m6, m7] (tR [i0, i1, i2, i3, i4, i5, i6, i7])) < 8 := by rw [nv]; omega
        refine (cfr (decide_eq_false (show ¬ nxV (nxI d 0 (oR [h0, h1, h2, h3, h4, h5, h6, h7] [w0, w1, w2, w3, w4, w5, w6, w7]) [m0, m1, m2, m3, m4, m5, m6, m7] (tR [i0, i1, i2, i3, i4, i5, i6, i7])) < 0 by omega))).trans ?_
        refine (cfr (decide_eq_false (show ¬ nxV (nxI d 0 (oR [h0, h1, h2, h3, h4, h5, h6, h7] [w0, w1, w2, w3, w4, w5, w6, w7]) [m0, m1, m2, m3, m4, m5, m6, m7] (tR [i0, i1, i2, i3, i4, i5, i6, i7])) > 7 by omega))).trans ?_
        refine (ctr (show (decide (0 ≤ nxV (nxI d 0 (oR [h0, h1, h2, h3, h4, h5, h6, h7] [w0, w1, w2, w3, w4, w5, w6, w7]) [m0, m1, m2, m3, m4, m5, m6, m7] (tR [i0, i1, i2, i3, i4, i5, i6, i7]))) && decide (nxV (nxI d 0 (oR [h0, h1, h2, h3, h4, h5, h6, h7] [w0, w1, w2, w3, w4, w5, w6, w7]) [m0, m1, m2, m3, m4, m5, m6, m7] (tR [i0, i1, i2, i3, i4, i5, i6, i7])) < 8)) = true by rw [decide_eq_true z1, decide_eq_true z2]; rfl)).trans ?_
        refine (ctr (decide_eq_true (show (nxV (nxI d 0 (oR [h0, h1, h2, h3, h4, h5, h6, h7] [w0, w1, w2, w3, w4, w5, w6, w7]) [m0, m1, m2, m3, m4, m5, m6, m7] (tR [i0, i1, i2, i3, i4, i5, i6, i7]))).toNat < 8 by rw [nv2]; exact cX'))).trans ?_
        refine (cfr (show (!(List.getD [i0, i1, i2, i3, i4, i5, i6, i7] (nxV (nxI d 0 (oR [h0, h1, h2, h3, h4, h5, h6, h7] [w0, w1, w2, w3, w4, w5, w6, w7]) [m0, m1, m2, m3, m4, m5, m6, m7] (tR [i0, i1, i2, i3, i4, i5, i6, i7]))).toNat false)) = false by rw [nv2, u5]; rfl)).trans ?_
        refine (ctr (show (decide (0 ≤ nxV (nxI d 0 (oR [h0, h1, h2, h3, h4, h5, h6, h7] [w0, w1, w2, w3, w4, w5, w6, w7]) [m0, m1, m2, m3, m4, m5, m6, m7] (tR [i0, i1, i2, i3, i4, i5, i6, i7]))) && decide (nxV (nxI d 0 (oR [h0, h1, h2, h3, h4, h5, h6, h7] [w0, w1, w2, w3, w4, w5, w6, w7]) [m0, m1, m2, m3, m4, m5, m6, m7] (tR [i0, i1, i2, i3, i4, i5, i6, i7])) < 8)) = true by rw [decide_eq_true z1, decide_eq_true z2]; rfl)).trans ?_
        refine (ctr (decide_eq_true (show (nxV (nxI d 0 (oR [h0, h1, h2, h3, h4, h5, h6, h7] [w0, w1, w2, w3, w4, w5, w6, w7]) [m0, m1, m2, m3, m4, m5, m6, m7] (tR [i0, i1, i2, i3, i4, i5, i6, i7]))).toNat < 8 by rw [nv2]; exact cX'))).trans ?_
        refine (cfr (show List.getD (tkR [h0, h1, h2, h3, h4, h5, h6, h7] [m0, m1, m2, m3, m4, m5, m6, m7]) (nxV (nxI d 0 (oR [h0, h1, h2, h3, h4, h5, h6, h7] [w0, w1, w2, w3, w4, w5, w6, w7]) [m0, m1, m2, m3, m4, m5, m6, m7] (tR [i0, i1, i2, i3, i4, i5, i6, i7]))).toNat false = false by rw [nv2, tk_get (by exact cX') (by exact cX'), u3, u6]; rfl)).trans ?_
        refine (ctr (show (decide (0 ≤ nxV (nxI d 0 (oR [h0, h1, h2, h3, h4, h5, h6, h7] [w0, w1, w2, w3, w4, w5, w6, w7]) [m0, m1, m2, m3, m4, m5, m6, m7] (tR [i0, i1, i2, i3, i4, i5, i6, i7]))) && decide (nxV (nxI d 0 (oR [h0, h1, h2, h3, h4, h5, h6, h7] [w0, w1, w2, w3, w4, w5, w6, w7]) [m0, m1, m2, m3, m4, m5, m6, m7] (tR [i0, i1, i2, i3, i4, i5, i6, i7])) < 8)) = true by rw [decide_eq_true z1, decide_eq_true z2]; rfl)).trans ?_
        refine (ctr (decide_eq_true (show (nxV (nxI d 0 (oR [h0, h1, h2, h3, h4, h5, h6, h7] [w0, w1, w2, w3, w4, w5, w6, w7]) [m0, m1, m2, m3, m4, m5, m6, m7] (tR [i0, i1, i2, i3, i4, i5, i6, i7]))).toNat < 8 by rw [nv2]; exact cX'))).trans ?_
        refine (cfr (show (!(List.getD [h0, h1, h2, h3, h4, h5, h6, h7] (nxV (nxI d 0 (oR [h0, h1, h2, h3, h4, h5, h6, h7] [w0, w1, w2, w3, w4, w5, w6, w7]) [m0, m1, m2, m3, m4, m5, m6, m7] (tR [i0, i1, i2, i3, i4, i5, i6, i7]))).toNat false)) = false by rw [nv2, u3]; rfl)).trans ?_
        refine (ctr (show (decide (0 ≤ nxV (nxI d 0 (oR [h0, h1, h2, h3, h4, h5, h6, h7] [w0, w1, w2, w3, w4, w5, w6, w7]) [m0, m1, m2, m3, m4, m5, m6, m7] (tR [i0, i1, i2, i3, i4, i5, i6, i7]))) && decide (nxV (nxI d 0 (oR [h0, h1, h2, h3, h4, h5, h6, h7] [w0, w1, w2, w3, w4, w5, w6, w7]) [m0, m1, m2, m3, m4, m5, m6, m7] (tR [i0, i1, i2, i3, i4, i5, i6, i7])) < 8)) = true by rw [decide_eq_true z1, decide_eq_true z2]; rfl)).trans ?_
        refine (ctr (decide_eq_true (show (nxV (nxI d 0 (oR [h0, h1, h2, h3, h4, h5, h6, h7] [w0, w1, w2, w3, w4, w5, w6, w7]) [m0, m1, m2, m3, m4, m5, m6, m7] (tR [i0, i1, i2, i3, i4, i5, i6, i7]))).toNat < 8 by rw [nv2]; exact cX'))).trans ?_
        refine (cfr (show (List.getD [w0, w1, w2, w3, w4, w5, w6, w7] (nxV (nxI d 0 (oR [h0, h1, h2, h3, h4, h5, h6, h7] [w0, w1, w2, w3, w4, w5, w6, w7]) [m0, m1, m2, m3, m4, m5, m6, m7] (tR [i0, i1, i2, i3, i4, i5, i6, i7]))).toNat 0 != d) = false by rw [nv2, u4]; exact same_ff rfl)).trans ?_
        refine (ctr (show (decide (0 ≤ nxV (nxI d 0 (oR [h0, h1, h2, h3, h4, h5, h6, h7] [w0, w1, w2, w3, w4, w5, w6, w7]) [m0, m1, m2, m3, m4, m5, m6, m7] (tR [i0, i1, i2, i3, i4, i5, i6, i7]))) && decide (nxV (nxI d 0 (oR [h0, h1, h2, h3, h4, h5, h6, h7] [w0, w1, w2, w3, w4, w5, w6, w7]) [m0, m1, m2, m3, m4, m5, m6, m7] (tR [i0, i1, i2, i3, i4, i5, i6, i7])) < 8)) = true by rw [decide_eq_true z1, decide_eq_true z2]; rfl)).trans ?_
        refine (ctr (by rw [Bool.and_true]; exact decide_eq_true (show (nxV (nxI d 0 (oR [h0, h1, h2, h3, h4, h5, h6, h7] [w0, w1, w2, w3, w4, w5, w6, w7]) [m0, m1, m2, m3, m4, m5, m6, m7] (tR [i0, i1, i2, i3, i4, i5, i6, i7]))).toNat < 8 by rw [nv2]; exact cX'))).trans ?_
        refine (ctr (show (decide (0 ≤ nxV (nxI d 0 (oR [h0, h1, h2, h3, h4, h5, h6, h7] [w0, w1, w2, w3, w4, w5, w6, w7]) [m0, m1, m2, m3, m4, m5, m6, m7] (tR [i0, i1, i2, i3, i4, i5, i6, i7]))) && decide (nxV (nxI d 0 (oR [h0, h1, h2, h3, h4, h5, h6, h7] [w0, w1, w2, w3, w4, w5, w6, w7]) [m0, m1, m2, m3, m4, m5, m6, m7] (tR [i0, i1, i2, i3, i4, i5, i6, i7])) < 8)) = true by rw [decide_eq_true z1, decide_eq_true z2]; rfl)).trans ?_
        refine (ctr (by rw [Bool.and_true]; exact decide_eq_true (show (nxV (nxI d 0 (oR [h0, h1, h2, h3, h4, h5, h6, h7] [w0, w1, w2, w3, w4, w5, w6, w7]) [m0, m1, m2, m3, m4, m5, m6, m7] (tR [i0, i1, i2, i3, i4, i5, i6, i7]))).toNat < 8 by rw [nv2]; exact cX'))).trans ?_
        refine (ctr (keepG (os := oR [h0, h1, h2, h3, h4, h5, h6, h7] [w0, w1, w2, w3, w4, w5, w6, w7]) (os' := oR [g0, g1, g2, g3, g4, g5, g6, g7] [x0, x1, x2, x3, x4, x5, x6, x7]) (ms := setN (nxI d 0 (oR [h0, h1, h2, h3, h4, h5, h6, h7] [w0, w1, w2, w3, w4, w5, w6, w7]) [m0, m1, m2, m3, m4, m5, m6, m7] (tR [i0, i1, i2, i3, i4, i5, i6, i7])) true 0 [m0, m1, m2, m3, m4, m5, m6, m7]) (ms' := [b0, b1, b2, b3, b4, b5, b6, b7]) (ts := dnT (nxI d 0 (oR [h0, h1, h2, h3, h4, h5, h6, h7] [w0, w1, w2, w3, w4, w5, w6, w7]) [m0, m1, m2, m3, m4, m5, m6, m7] (tR [i0, i1, i2, i3, i4, i5, i6, i7])) 0 (tR [i0, i1, i2, i3, i4, i5, i6, i7])) (ts' := tR [e0, e1, e2, e3, e4, e5, e6, e7]) (is := setN (nxV (nxI d 0 (oR [h0, h1, h2, h3, h4, h5, h6, h7] [w0, w1, w2, w3, w4, w5, w6, w7]) [m0, m1, m2, m3, m4, m5, m6, m7] (tR [i0, i1, i2, i3, i4, i5, i6, i7]))).toNat false 0 [i0, i1, i2, i3, i4, i5, i6, i7]) (is' := [e0, e1, e2, e3, e4, e5, e6, e7]) (tk := setN (nxV (nxI d 0 (oR [h0, h1, h2, h3, h4, h5, h6, h7] [w0, w1, w2, w3, w4, w5, w6, w7]) [m0, m1, m2, m3, m4, m5, m6, m7] (tR [i0, i1, i2, i3, i4, i5, i6, i7]))).toNat true 0 (tkR [h0, h1, h2, h3, h4, h5, h6, h7] [m0, m1, m2, m3, m4, m5, m6, m7])) (tk' := tkR [g0, g1, g2, g3, g4, g5, g6, g7] [b0, b1, b2, b3, b4, b5, b6, b7]) (hs := [h0, h1, h2, h3, h4, h5, h6, h7]) (hs' := [g0, g1, g2, g3, g4, g5, g6, g7]) (ow := [w0, w1, w2, w3, w4, w5, w6, w7]) (ow' := [x0, x1, x2, x3, x4, x5, x6, x7]) (by rw [a3, a4]) (by rw [nq, a2]) (by rw [nq, tR_dn, a1]) (by rw [nv2, ← u1, a1]) (by rw [nv2, ← tk_next t 0 [h0, h1, h2, h3, h4, h5, h6, h7] [m0, m1, m2, m3, m4, m5, m6, m7] (Nat.zero_le _) (by rw [Nat.sub_zero]; exact u3), ← u1, a2, a3]) a3 a4 (bits_tR _))).trans ?_
        rw [wi]; rfl
      · have x8 : rnI d 0 [h0, h1, h2, h3, h4, h5, h6, h7] [w0, w1, w2, w3, w4, w5, w6, w7] [i0, i1, i2, i3, i4, i5, i6, i7] [m0, m1, m2, m3, m4, m5, m6, m7] = 8 := (rnI_le d 0 [h0, h1, h2, h3, h4, h5, h6, h7] [w0, w1, w2, w3, w4, w5, w6, w7] [i0, i1, i2, i3, i4, i5, i6, i7] [m0, m1, m2, m3, m4, m5, m6, m7]).resolve_right (fun h => cX h)
        refine (cfr (show Nat.ble (nxI d 0 (oR [h0, h1, h2, h3, h4, h5, h6, h7] [w0, w1, w2, w3, w4, w5, w6, w7]) [m0, m1, m2, m3, m4, m5, m6, m7] (tR [i0, i1, i2, i3, i4, i5, i6, i7]) + 1) 8 = false by rw [show nxI d 0 (oR [h0, h1, h2, h3, h4, h5, h6, h7] [w0, w1, w2, w3, w4, w5, w6, w7]) [m0, m1, m2, m3, m4, m5, m6, m7] (tR [i0, i1, i2, i3, i4, i5, i6, i7]) = 8 from nq.trans x8]; rfl)).trans ?_
        have hdd := hd cX
        refine (ctr (show isQ (vK3 ul i 0 = vK3 ul i 0 ∧ hK3 k n d ok on od (oR [h0, h1, h2, h3, h4, h5, h6, h7] [w0, w1, w2, w3, w4, w5, w6, w7]) (setN (nxI d 0 (oR [h0, h1, h2, h3, h4, h5, h6, h7] [w0, w1, w2, w3, w4, w5, w6, w7]) [m0, m1, m2, m3, m4, m5, m6, m7] (tR [i0, i1, i2, i3, i4, i5, i6, i7])) true 0 [m0, m1, m2, m3, m4, m5, m6, m7]) (dnT (nxI d 0 (oR [h0, h1, h2, h3, h4, h5, h6, h7] [w0, w1, w2, w3, w4, w5, w6, w7]) [m0, m1, m2, m3, m4, m5, m6, m7] (tR [i0, i1, i2, i3, i4, i5, i6, i7])) 0 (tR [i0, i1, i2, i3, i4, i5, i6, i7])) [i0, i1, i2, i3, i4, i5, i6, i7] (tkR [h0, h1, h2, h3, h4, h5, h6, h7] [m0, m1, m2, m3, m4, m5, m6, m7]) [h0, h1, h2, h3, h4, h5, h6, h7] [w0, w1, w2, w3, w4, w5, w6, w7] = hK3 k n dd ok on od (oR [h0, h1, h2, h3, h4, h5, h6, h7] [w0, w1, w2, w3, w4, w5, w6, w7]) [m0, m1, m2, m3, m4, m5, m6, m7] (tR [i0, i1, i2, i3, i4, i5, i6, i7]) [i0, i1, i2, i3, i4, i5, i6, i7] (tkR [h0, h1, h2, h3, h4, h5, h6, h7] [m0, m1, m2, m3, m4, m5, m6, m7]) [h0, h1, h2, h3, h4, h5, h6, h7] [w0, w1, w2, w3, w4, w5, w6, w7]) = true from isQ_of ⟨rfl, by rw [hdd, show nxI d 0 (oR [h0, h1, h2, h3, h4, h5, h6, h7] [w0, w1, w2, w3, w4, w5, w6, w7]) [m0, m1, m2, m3, m4, m5, m6, m7] (tR [i0, i1, i2, i3, i4, i5, i6, i7]) = 8 from nq.trans x8]; rfl⟩)).trans ?_
        have a1' : [i0, i1, i2, i3, i4, i5, i6, i7] = [e0, e1, e2, e3, e4, e5, e6, e7] := by rw [← a1, x8]; rfl
        have a2' : [m0, m1, m2, m3, m4, m5, m6, m7] = [b0, b1, b2, b3, b4, b5, b6, b7] := by rw [← a2, x8]; rfl
        refine (ctr (keepG (os := oR [h0, h1, h2, h3, h4, h5, h6, h7] [w0, w1, w2, w3, w4, w5, w6, w7]) (os' := oR [g0, g1, g2, g3, g4, g5, g6, g7] [x0, x1, x2, x3, x4, x5, x6, x7]) (ms := [m0, m1, m2, m3, m4, m5, m6, m7]) (ms' := [b0, b1, b2, b3, b4, b5, b6, b7]) (ts := tR [i0, i1, i2, i3, i4, i5, i6, i7]) (ts' := tR [e0, e1, e2, e3, e4, e5, e6, e7]) (is := [i0, i1, i2, i3, i4, i5, i6, i7]) (is' := [e0, e1, e2, e3, e4, e5, e6, e7]) (tk := tkR [h0, h1, h2, h3, h4, h5, h6, h7] [m0, m1, m2, m3, m4, m5, m6, m7]) (tk' := tkR [g0, g1, g2, g3, g4, g5, g6, g7] [b0, b1, b2, b3, b4, b5, b6, b7]) (hs := [h0, h1, h2, h3, h4, h5, h6, h7]) (hs' := [g0, g1, g2, g3, g4, g5, g6, g7]) (ow := [w0, w1, w2, w3, w4, w5, w6, w7]) (ow' := [x0, x1, x2, x3, x4, x5, x6, x7]) (by rw [a3, a4]) a2' (by rw [a1']) a1' (by rw [a3, a2']) a3 a4 (bits_tR _))).trans ?_
        rw [wi]; rfl
    refine (cfr (by simpa using c2)).trans ?_
    have a := he
    unfold act at a
    rw [if_neg c0, if_neg c1, if_neg c2] at a
    obtain ⟨a1, a2, a3, a4⟩ := Li.mk.inj a
    have a1 : [i0, i1, i2, i3, i4, i5, i6, i7] = [e0, e1, e2, e3, e4, e5, e6, e7] := a1
    have a2 : setN (rAckIx n [h0, h1, h2, h3, h4, h5, h6, h7] [m0, m1, m2, m3, m4, m5, m6, m7]) false 0 [m0, m1, m2, m3, m4, m5, m6, m7] = [b0, b1, b2, b3, b4, b5, b6, b7] := a2
    have a3 : [h0, h1, h2, h3, h4, h5, h6, h7] = [g0, g1, g2, g3, g4, g5, g6, g7] := a3
    have a4 : [w0, w1, w2, w3, w4, w5, w6, w7] = [x0, x1, x2, x3, x4, x5, x6, x7] := a4
    have q2 := ackIx_eq (ow := [w0, w1, w2, w3, w4, w5, w6, w7]) g rfl rfl n [m0, m1, m2, m3, m4, m5, m6, m7]
    have oe := ack_eq (hs := [h0, h1, h2, h3, h4, h5, h6, h7]) (ow := [w0, w1, w2, w3, w4, w5, w6, w7]) g rfl rfl n [m0, m1, m2, m3, m4, m5, m6, m7]
    by_cases cE : rAckE n [h0, h1, h2, h3, h4, h5, h6, h7] [m0, m1, m2, m3, m4, m5, m6, m7] = 0
    · refine (ctr (beq_iff_eq.2 (oe.trans cE))).trans ?_
      obtain ⟨v1, v2, v3, v4, q1⟩ := ack_ok cE
      refine (cfr (by rw [decide_eq_true v2]; rfl)).trans ?_
      refine (ctr (by rw [decide_eq_true (show 0 ≤ n by omega), decide_eq_true (show n < 8 by omega)]; rfl)).trans ?_
      refine (ctr (decide_eq_true (show Int.toNat (n) < 8 by omega))).trans ?_
      refine (cfr (show (!(List.getD (tkR [h0, h1, h2, h3, h4, h5, h6, h7] [m0, m1, m2, m3, m4, m5, m6, m7]) n.toNat false)) = false by rw [tk_get (show n.toNat < 8 by omega) (show n.toNat < 8 by omega), v3, v4]; rfl)).trans ?_
      refine (ctr (by rw [decide_eq_true (show 0 ≤ n by omega), decide_eq_true (show n < 8 by omega)]; rfl)).trans ?_
      refine (ctr (by rw [Bool.and_true]; exact decide_eq_true (show Int.toNat (n) < 8 by omega))).trans ?_
      refine (ctr (keepG (os := oR [h0, h1, h2, h3, h4, h5, h6, h7] [w0, w1, w2, w3, w4, w5, w6, w7]) (os' := oR [g0, g1, g2, g3, g4, g5, g6, g7] [x0, x1, x2, x3, x4, x5, x6, x7]) (ms := setN (ackIx n (oR [h0, h1, h2, h3, h4, h5, h6, h7] [w0, w1, w2, w3, w4, w5, w6, w7]) [m0, m1, m2, m3, m4, m5, m6, m7]) false 0 [m0, m1, m2, m3, m4, m5, m6, m7]) (ms' := [b0, b1, b2, b3, b4, b5, b6, b7]) (ts := tR [i0, i1, i2, i3, i4, i5, i6, i7]) (ts' := tR [e0, e1, e2, e3, e4, e5, e6, e7]) (is := [i0, i1, i2, i3, i4, i5, i6, i7]) (is' := [e0, e1, e2, e3, e4, e5, e6, e7]) (tk := setN n.toNat false 0 (tkR [h0, h1, h2, h3, h4, h5, h6, h7] [m0, m1, m2, m3, m4, m5, m6, m7])) (tk' := tkR [g0, g1, g2, g3, g4, g5, g6, g7] [b0, b1, b2, b3, b4, b5, b6, b7]) (hs := [h0, h1, h2, h3, h4, h5, h6, h7]) (hs' := [g0, g1, g2, g3, g4, g5, g6, g7]) (ow := [w0, w1, w2, w3, w4, w5, w6, w7]) (ow' := [x0, x1, x2, x3, x4, x5, x6, x7]) (by rw [a3, a4]) (by rw [q2, a2]) (by rw [a1]) a1 (by rw [← tk_ack, ← a3, ← a2, q1]) a3 a4 (bits_tR _))).trans ?_
      rw [wi]; rfl
    · refine (cfr (beq_no oe cE)).trans ?_
      have q1 := ack_no cE
      refine (ctr (keepG (os := oR [h0, h1, h2, h3, h4, h5, h6, h7] [w0, w1, w2, w3, w4, w5, w6, w7]) (os' := oR [g0, g1, g2, g3, g4, g5, g6, g7] [x0, x1, x2, x3, x4, x5, x6, x7]) (ms := setN (ackIx n (oR [h0, h1, h2, h3, h4, h5, h6, h7] [w0, w1, w2, w3, w4, w5, w6, w7]) [m0, m1, m2, m3, m4, m5, m6, m7]) false 0 [m0, m1, m2, m3, m4, m5, m6, m7]) (ms' := [b0, b1, b2, b3, b4, b5, b6, b7]) (ts := tR [i0, i1, i2, i3, i4, i5, i6, i7]) (ts' := tR [e0, e1, e2, e3, e4, e5, e6, e7]) (is := [i0, i1, i2, i3, i4, i5, i6, i7]) (is' := [e0, e1, e2, e3, e4, e5, e6, e7]) (tk := tkR [h0, h1, h2, h3, h4, h5, h6, h7] [m0, m1, m2, m3, m4, m5, m6, m7]) (tk' := tkR [g0, g1, g2, g3, g4, g5, g6, g7] [b0, b1, b2, b3, b4, b5, b6, b7]) (hs := [h0, h1, h2, h3, h4, h5, h6, h7]) (hs' := [g0, g1, g2, g3, g4, g5, g6, g7]) (ow := [w0, w1, w2, w3, w4, w5, w6, w7]) (ow' := [x0, x1, x2, x3, x4, x5, x6, x7]) (by rw [a3, a4]) (by rw [q2, a2]) (by rw [a1]) a1 (by rw [← a3, ← a2, q1]; rfl) a3 a4 (bits_tR _))).trans ?_
      rw [wi]; rfl
  · refine (cfr (decide_eq_false s)).trans ?_
    have hin : inL n = false := inL_f1 (by omega)
    by_cases c0 : k = 0
    · refine (ctr (beq_iff_eq.2 c0)).trans ?_
      have a := he
      unfold act at a
      rw [if_pos c0] at a
      obtain ⟨a1, a2, a3, a4⟩ := Li.mk.inj a
      have a1 : [i0, i1, i2, i3, i4, i5, i6, i7] = [e0, e1, e2, e3, e4, e5, e6, e7] := a1
      have a2 : setN (rOwnIx n d [h0, h1, h2, h3, h4, h5, h6, h7]) false 0 [m0, m1, m2, m3, m4, m5, m6, m7] = [b0, b1, b2, b3, b4, b5, b6, b7] := a2
      have a3 : setN (rOwnIx n d [h0, h1, h2, h3, h4, h5, h6, h7]) true 0 [h0, h1, h2, h3, h4, h5, h6, h7] = [g0, g1, g2, g3, g4, g5, g6, g7] := a3
      have a4 : setN (rOwnIx n d [h0, h1, h2, h3, h4, h5, h6, h7]) d 0 [w0, w1, w2, w3, w4, w5, w6, w7] = [x0, x1, x2, x3, x4, x5, x6, x7] := a4
      have q2 := ownIx_eq (ow := [w0, w1, w2, w3, w4, w5, w6, w7]) g rfl rfl n d
      have q3 := oR_set (rOwnIx n d [h0, h1, h2, h3, h4, h5, h6, h7]) d 0 [h0, h1, h2, h3, h4, h5, h6, h7] [w0, w1, w2, w3, w4, w5, w6, w7]
      have oe := own_eq (hs := [h0, h1, h2, h3, h4, h5, h6, h7]) (ow := [w0, w1, w2, w3, w4, w5, w6, w7]) g rfl rfl n d
      have cE : ¬ rOwnE n d [h0, h1, h2, h3, h4, h5, h6, h7] = 0 := fun c => by have := (own_ok c).1; omega
      refine (cfr (beq_no oe cE)).trans ?_
      have q1 := own_no cE
      refine (ctr (keepG (os := setN (ownIx n d (oR [h0, h1, h2, h3, h4, h5, h6, h7] [w0, w1, w2, w3, w4, w5, w6, w7])) d 0 (oR [h0, h1, h2, h3, h4, h5, h6, h7] [w0, w1, w2, w3, w4, w5, w6, w7])) (os' := oR [g0, g1, g2, g3, g4, g5, g6, g7] [x0, x1, x2, x3, x4, x5, x6, x7]) (ms := setN (ownIx n d (oR [h0, h1, h2, h3, h4, h5, h6, h7] [w0, w1, w2, w3, w4, w5, w6, w7])) false 0 [m0, m1, m2, m3, m4, m5, m6, m7]) (ms' := [b0, b1, b2, b3, b4, b5, b6, b7]) (ts := tR [i0, i1, i2, i3, i4, i5, i6, i7]) (ts' := tR [e0, e1, e2, e3, e4, e5, e6, e7]) (is := [i0, i1, i2, i3, i4, i5, i6, i7]) (is' := [e0, e1, e2, e3, e4, e5, e6, e7]) (tk := tkR [h0, h1, h2, h3, h4, h5, h6, h7] [m0, m1, m2, m3, m4, m5, m6, m7]) (tk' := tkR [g0, g1, g2, g3, g4, g5, g6, g7] [b0, b1, b2, b3, b4, b5, b6, b7]) (hs := [h0, h1, h2, h3, h4, h5, h6, h7]) (hs' := [g0, g1, g2, g3, g4, g5, g6, g7]) (ow := [w0, w1, w2, w3, w4, w5, w6, w7]) (ow' := [x0, x1, x2, x3, x4, x5, x6, x7]) (by rw [q2, q3, a3, a4]) (by rw [q2, a2]) (by rw [a1]) a1 (by rw [← a3, ← a2, q1]; rfl) (by rw [← a3, q1]; rfl) (by rw [← a4, q1]; rfl) (bits_tR _))).trans ?_
      rw [wi]; rfl
    refine (cfr (by simpa using c0)).trans ?_
    by_cases c1 : k = 1
    · refine (ctr (beq_iff_eq.2 c1)).trans ?_
      have a := he
      unfold act at a
      rw [if_neg c0, if_pos c1] at a
      obtain ⟨a1, a2, a3, a4⟩ := Li.mk.inj a
      have a1 : setN (upIx n) true 0 [i0, i1, i2, i3, i4, i5, i6, i7] = [e0, e1, e2, e3, e4, e5, e6, e7] := a1
      have a2 : [m0, m1, m2, m3, m4, m5, m6, m7] = [b0, b1, b2, b3, b4, b5, b6, b7] := a2
      have a3 : [h0, h1, h2, h3, h4, h5, h6, h7] = [g0, g1, g2, g3, g4, g5, g6, g7] := a3
      have a4 : [w0, w1, w2, w3, w4, w5, w6, w7] = [x0, x1, x2, x3, x4, x5, x6, x7] := a4
      have q1 : upIx n = 8 := by unfold upIx; rw [hin]; rfl
      refine (cfr (show (upE n == 0) = false by unfold upE; rw [hin]; rfl)).trans ?_
      refine (ctr (keepG (os := oR [h0, h1, h2, h3, h4, h5, h6, h7] [w0, w1, w2, w3, w4, w5, w6, w7]) (os' := oR [g0, g1, g2, g3, g4, g5, g6, g7] [x0, x1, x2, x3, x4, x5, x6, x7]) (ms := [m0, m1, m2, m3, m4, m5, m6, m7]) (ms' := [b0, b1, b2, b3, b4, b5, b6, b7]) (ts := upT (upIx n) 0 (tR [i0, i1, i2, i3, i4, i5, i6, i7])) (ts' := tR [e0, e1, e2, e3, e4, e5, e6, e7]) (is := [i0, i1, i2, i3, i4, i5, i6, i7]) (is' := [e0, e1, e2, e3, e4, e5, e6, e7]) (tk := tkR [h0, h1, h2, h3, h4, h5, h6, h7] [m0, m1, m2, m3, m4, m5, m6, m7]) (tk' := tkR [g0, g1, g2, g3, g4, g5, g6, g7] [b0, b1, b2, b3, b4, b5, b6, b7]) (hs := [h0, h1, h2, h3, h4, h5, h6, h7]) (hs' := [g0, g1, g2, g3, g4, g5, g6, g7]) (ow := [w0, w1, w2, w3, w4, w5, w6, w7]) (ow' := [x0, x1, x2, x3, x4, x5, x6, x7]) (by rw [a3, a4]) a2 (by rw [tR_up, a1]) (by rw [← a1, q1]; rfl) (by rw [a3, a2]) a3 a4 (bits_tR _))).trans ?_
      rw [wi]; rfl
    refine (cfr (by simpa using c1)).trans ?_
    by_cases c2 : k = 2
    · refine (ctr (beq_iff_eq.2 c2)).trans ?_
      have a := he
      unfold act at a
      rw [if_neg c0, if_neg c1, if_pos c2] at a
      obtain ⟨a1, a2, a3, a4⟩ := Li.mk.inj a
      have a1 : setN (rnI d 0 [h0, h1, h2, h3, h4, h5, h6, h7] [w0, w1, w2, w3, w4, w5, w6, w7] [i0, i1, i2, i3, i4, i5, i6, i7] [m0, m1, m2, m3, m4, m5, m6, m7]) false 0 [i0, i1, i2, i3, i4, i5, i6, i7] = [e0, e1, e2, e3, e4, e5, e6, e7] := a1
      have a2 : setN (rnI d 0 [h0, h1, h2, h3, h4, h5, h6, h7] [w0, w1, w2, w3, w4, w5, w6, w7] [i0, i1, i2, i3, i4, i5, i6, i7] [m0, m1, m2, m3, m4, m5, m6, m7]) true 0 [m0, m1, m2, m3, m4, m5, m6, m7] = [b0, b1, b2, b3, b4, b5, b6, b7] := a2
      have a3 : [h0, h1, h2, h3, h4, h5, h6, h7] = [g0, g1, g2, g3, g4, g5, g6, g7] := a3
      have a4 : [w0, w1, w2, w3, w4, w5, w6, w7] = [x0, x1, x2, x3, x4, x5, x6, x7] := a4
      have nq := nx_eq d 0 [h0, h1, h2, h3, h4, h5, h6, h7] [w0, w1, w2, w3, w4, w5, w6, w7] [i0, i1, i2, i3, i4, i5, i6, i7] [m0, m1, m2, m3, m4, m5, m6, m7] g
      by_cases cX : rnI d 0 [h0, h1, h2, h3, h4, h5, h6, h7] [w0, w1, w2, w3, w4, w5, w6, w7] [i0, i1, i2, i3, i4, i5, i6, i7] [m0, m1, m2, m3, m4, m5, m6, m7] < 8
      · obtain ⟨t, u1, u2, u3, u4, u5, u6⟩ := rnI_some d 0 [h0, h1, h2, h3, h4, h5, h6, h7] [w0, w1, w2, w3, w4, w5, w6, w7] [i0, i1, i2, i3, i4, i5, i6, i7] [m0, m1, m2, m3, m4, m5, m6, m7] cX
        rw [Nat.zero_add] at u1
        have cX' : t < 8 := u1 ▸ cX
        have nv : nxV (nxI d 0 (oR [h0, h1, h2, h3, h4, h5, h6, h7] [w0, w1, w2, w3, w4, w5, w6, w7]) [m0, m1, m2, m3, m4, m5, m6, m7] (tR [i0, i1, i2, i3, i4, i5, i6, i7])) = (t : Int) := by rw [nq, u1]; unfold nxV; rw [if_pos cX']
        refine (ctr (show Nat.ble (nxI d 0 (oR [h0, h1, h2, h3, h4, h5, h6, h7] [w0, w1, w2, w3, w4, w5, w6, w7]) [m0, m1, m2, m3, m4, m5, m6, m7] (tR [i0, i1, i2, i3, i4, i5, i6, i7]) + 1) 8 = true by rw [show nxI d 0 (oR [h0, h1, h2, h3, h4, h5, h6, h7] [w0, w1, w2, w3, w4, w5, w6, w7]) [m0, m1, m2, m3, m4, m5, m6, m7] (tR [i0, i1, i2, i3, i4, i5, i6, i7]) = t from nq.trans u1]; exact Nat.ble_eq_true_of_le (by omega))).trans ?_
        have nv2 : (nxV (nxI d 0 (oR [h0, h1, h2, h3, h4, h5, h6, h7] [w0, w1, w2, w3, w4, w5, w6, w7]) [m0, m1, m2, m3, m4, m5, m6, m7] (tR [i0, i1, i2, i3, i4, i5, i6, i7]))).toNat = t := by rw [nv]; omega
        have z1 : 0 ≤ nxV (nxI d 0 (oR [h0, h1, h2, h3, h4, h5, h6, h7] [w0, w1, w2, w3, w4, w5, w6, w7]) [m0, m1, m2, m3, m4, m5, m6, m7] (tR [i0, i1, i2, i3, i4, i5, i6, i7])) := by rw [nv]; omega
        have z2 : nxV (nxI d 0 (oR [h0, h1, h2, h3, h4, h5, h6, h7] [w0, w1, w2, w3, w4, w5, w6, w7]) [m0, m1, m2, m3, m4, m5, m6, m7] (tR [i0, i1, i2, i3, i4, i5, i6, i7])) < 8 := by rw [nv]; omega
        refine (cfr (decide_eq_false (show ¬ nxV (nxI d 0 (oR [h0, h1, h2, h3, h4, h5, h6, h7] [w0, w1, w2, w3, w4, w5, w6, w7]) [m0, m1, m2, m3, m4, m5, m6, m7] (tR [i0, i1, i2, i3, i4, i5, i6, i7])) < 0 by omega))).trans ?_
        refine (cfr (decide_eq_false (show ¬ nxV (nxI d 0 (oR [h0, h1, h2, h3, h4, h5, h6, h7] [w0, w1, w2, w3, w4, w5, w6, w7]) [m0, m1, m2, m3, m4, m5, m6, m7] (tR [i0, i1, i2, i3, i4, i5, i6, i7])) > 7 by omega))).trans ?_
        refine (ctr (show (decide (0 ≤ nxV (nxI d 0 (oR [h0, h1, h2, h3, h4, h5, h6, h7] [w0, w1, w2, w3, w4, w5, w6, w7]) [m0, m1, m2, m3, m4, m5, m6, m7] (tR [i0, i1, i2, i3, i4, i5, i6, i7]))) && decide (nxV (nxI d 0 (oR [h0, h1, h2, h3, h4, h5, h6, h7] [w0, w1, w2, w3, w4, w5, w6, w7]) [m0, m1, m2, m3, m4, m5, m6, m7] (tR [i0, i1, i2, i3, i4, i5, i6, i7])) < 8)) = true by rw [decide_eq_true z1, decide_eq_true z2]; rfl)).trans ?_
        refine (ctr (decide_eq_true (show (nxV (nxI d 0 (oR [h0, h1, h2, h3, h4, h5, h6, h7] [w0, w1, w2, w3, w4, w5, w6, w7]) [m0, m1, m2, m3, m4, m5, m6, m7] (tR [i0, i1, i2, i3, i4, i5, i6, i7]))).toNat < 8 by rw [nv2]; exact cX'))).trans ?_
        refine (cfr (show (!(List.getD [i0, i1, i2, i3, i4, i5, i6, i7] (nxV (nxI d 0 (oR [h0, h1, h2, h3, h4, h5, h6, h7] [w0, w1, w2, w3, w4, w5, w6, w7]) [m0, m1, m2, m3, m4, m5, m6, m7] (tR [i0, i1, i2, i3, i4, i5, i6, i7]))).toNat false)) = false by rw [nv2, u5]; rfl)).trans ?_
        refine (ctr (show (decide (0 ≤ nxV (nxI d 0 (oR [h0, h1, h2, h3, h4, h5, h6, h7] [w0, w1, w2, w3, w4, w5, w6, w7]) [m0, m1, m2, m3, m4, m5, m6, m7] (tR [i0, i1, i2, i3, i4, i5, i6, i7]))) && decide (nxV (nxI d 0 (oR [h0, h1, h2, h3, h4, h5, h6, h7] [w0, w1, w2, w3, w4, w5, w6, w7]) [m0, m1, m2, m3, m4, m5, m6, m7] (tR [i0, i1, i2, i3, i4, i5, i6, i7])) < 8)) = true by rw [decide_eq_true z1, decide_eq_true z2]; rfl)).trans ?_
        refine (ctr (decide_eq_true (show (nxV (nxI d 0 (oR [h0, h1, h2, h3, h4, h5, h6, h7] [w0, w1, w2, w3, w4, w5, w6, w7]) [m0, m1, m2, m3, m4, m5, m6, m7] (tR [i0, i1, i2, i3, i4, i5, i6, i7]))).toNat < 8 by rw [nv2]; exact cX'))).trans ?_
        refine (cfr (show List.getD (tkR [h0, h1, h2, h3, h4, h5, h6, h7] [m0, m1, m2, m3, m4, m5, m6, m7]) (nxV (nxI d 0 (oR [h0, h1, h2, h3, h4, h5, h6, h7] [w0, w1, w2, w3, w4, w5, w6, w7]) [m0, m1, m2, m3, m4, m5, m6, m7] (tR [i0, i1, i2, i3, i4, i5, i6, i7]))).toNat false = false by rw [nv2, tk_get (by exact cX') (by exact cX'), u3, u6]; rfl)).trans ?_
        refine (ctr (show (decide (0 ≤ nxV (nxI d 0 (oR [h0, h1, h2, h3, h4, h5, h6, h7] [w0, w1, w2, w3, w4, w5, w6, w7]) [m0, m1, m2, m3, m4, m5, m6, m7] (tR [i0, i1, i2, i3, i4, i5, i6, i7]))) && decide (nxV (nxI d 0 (oR [h0, h1, h2, h3, h4, h5, h6, h7] [w0, w1, w2, w3, w4, w5, w6, w7]) [m0, m1, m2, m3, m4, m5, m6, m7] (tR [i0, i1, i2, i3, i4, i5, i6, i7])) < 8)) = true by rw [decide_eq_true z1, decide_eq_true z2]; rfl)).trans ?_
        refine (ctr (decide_eq_true (show (nxV (nxI d 0 (oR [h0, h1, h2, h3, h4, h5, h6, h7] [w0, w1, w2, w3, w4, w5, w6, w7]) [m0, m1, m2, m3, m4, m5, m6, m7] (tR [i0, i1, i2, i3, i4, i5, i6, i7]))).toNat < 8 by rw [nv2]; exact cX'))).trans ?_
        refine (cfr (show (!(List.getD [h0, h1, h2, h3, h4, h5, h6, h7] (nxV (nxI d 0 (oR [h0, h1, h2, h3, h4, h5, h6, h7] [w0, w1, w2, w3, w4, w5, w6, w7]) [m0, m1, m2, m3, m4, m5, m6, m7] (tR [i0, i1, i2, i3, i4, i5, i6, i7]))).toNat false)) = false by rw [nv2, u3]; rfl)).trans ?_
        refine (ctr (show (decide (0 ≤ nxV (nxI d 0 (oR [h0, h1, h2, h3, h4, h5, h6, h7] [w0, w1, w2, w3, w4, w5, w6, w7]) [m0, m1, m2, m3, m4, m5, m6, m7] (tR [i0, i1, i2, i3, i4, i5, i6, i7]))) && decide (nxV (nxI d 0 (oR [h0, h1, h2, h3, h4, h5, h6, h7] [w0, w1, w2, w3, w4, w5, w6, w7]) [m0, m1, m2, m3, m4, m5, m6, m7] (tR [i0, i1, i2, i3, i4, i5, i6, i7])) < 8)) = true by rw [decide_eq_true z1, decide_eq_true z2]; rfl)).trans ?_
        refine (ctr (decide_eq_true (show (nxV (nxI d 0 (oR [h0, h1, h2, h3, h4, h5, h6, h7] [w0, w1, w2, w3, w4, w5, w6, w7]) [m0, m1, m2, m3, m4, m5, m6, m7] (tR [i0, i1, i2, i3, i4, i5, i6, i7]))).toNat < 8 by rw [nv2]; exact cX'))).trans ?_
        refine (cfr (show (List.getD [w0, w1, w2, w3, w4, w5, w6, w7] (nxV (nxI d 0 (oR [h0, h1, h2, h3, h4, h5, h6, h7] [w0, w1, w2, w3, w4, w5, w6, w7]) [m0, m1, m2, m3, m4, m5, m6, m7] (tR [i0, i1, i2, i3, i4, i5, i6, i7]))).toNat 0 != d) = false by rw [nv2, u4]; exact same_ff rfl)).trans ?_
        refine (ctr (show (decide (0 ≤ nxV (nxI d 0 (oR [h0, h1, h2, h3, h4, h5, h6, h7] [w0, w1, w2, w3, w4, w5, w6, w7]) [m0, m1, m2, m3, m4, m5, m6, m7] (tR [i0, i1, i2, i3, i4, i5, i6, i7]))) && decide (nxV (nxI d 0 (oR [h0, h1, h2, h3, h4, h5, h6, h7] [w0, w1, w2, w3, w4, w5, w6, w7]) [m0, m1, m2, m3, m4, m5, m6, m7] (tR [i0, i1, i2, i3, i4, i5, i6, i7])) < 8)) = true by rw [decide_eq_true z1, decide_eq_true z2]; rfl)).trans ?_
        refine (ctr (by rw [Bool.and_true]; exact decide_eq_true (show (nxV (nxI d 0 (oR [h0, h1, h2, h3, h4, h5, h6, h7] [w0, w1, w2, w3, w4, w5, w6, w7]) [m0, m1, m2, m3, m4, m5, m6, m7] (tR [i0, i1, i2, i3, i4, i5, i6, i7]))).toNat < 8 by rw [nv2]; exact cX'))).trans ?_
        refine (ctr (show (decide (0 ≤ nxV (nxI d 0 (oR [h0, h1, h2, h3, h4, h5, h6, h7] [w0, w1, w2, w3, w4, w5, w6, w7]) [m0, m1, m2, m3, m4, m5, m6, m7] (tR [i0, i1, i2, i3, i4, i5, i6, i7]))) && decide (nxV (nxI d 0 (oR [h0, h1, h2, h3, h4, h5, h6, h7] [w0, w1, w2, w3, w4, w5, w6, w7]) [m0, m1, m2, m3, m4, m5, m6, m7] (tR [i0, i1, i2, i3, i4, i5, i6, i7])) < 8)) = true by rw [decide_eq_true z1, decide_eq_true z2]; rfl)).trans ?_
        refine (ctr (by rw [Bool.and_true]; exact decide_eq_true (show (nxV (nxI d 0 (oR [h0, h1, h2, h3, h4, h5, h6, h7] [w0, w1, w2, w3, w4, w5, w6, w7]) [m0, m1, m2, m3, m4, m5, m6, m7] (tR [i0, i1, i2, i3, i4, i5, i6, i7]))).toNat < 8 by rw [nv2]; exact cX'))).trans ?_
        refine (ctr (keepG (os := oR [h0, h1, h2, h3, h4, h5, h6, h7] [w0, w1, w2, w3, w4, w5, w6, w7]) (os' := oR [g0, g1, g2, g3, g4, g5, g6, g7] [x0, x1, x2, x3, x4, x5, x6, x7]) (ms := setN (nxI d 0 (oR [h0, h1, h2, h3, h4, h5, h6, h7] [w0, w1, w2, w3, w4, w5, w6, w7]) [m0, m1, m2, m3, m4, m5, m6, m7] (tR [i0, i1, i2, i3, i4, i5, i6, i7])) true 0 [m0, m1, m2, m3, m4, m5, m6, m7]) (ms' := [b0, b1, b2, b3, b4, b5, b6, b7]) (ts := dnT (nxI d 0 (oR [h0, h1, h2, h3, h4, h5, h6, h7] [w0, w1, w2, w3, w4, w5, w6, w7]) [m0, m1, m2, m3, m4, m5, m6, m7] (tR [i0, i1, i2, i3, i4, i5, i6, i7])) 0 (tR [i0, i1, i2, i3, i4, i5, i6, i7])) (ts' := tR [e0, e1, e2, e3, e4, e5, e6, e7]) (is := setN (nxV (nxI d 0 (oR [h0, h1, h2, h3, h4, h5, h6, h7] [w0, w1, w2, w3, w4, w5, w6, w7]) [m0, m1, m2, m3, m4, m5, m6, m7] (tR [i0, i1, i2, i3, i4, i5, i6, i7]))).toNat false 0 [i0, i1, i2, i3, i4, i5, i6, i7]) (is' := [e0, e1, e2, e3, e4, e5, e6, e7]) (tk := setN (nxV (nxI d 0 (oR [h0, h1, h2, h3, h4, h5, h6, h7] [w0, w1, w2, w3, w4, w5, w6, w7]) [m0, m1, m2, m3, m4, m5, m6, m7] (tR [i0, i1, i2, i3, i4, i5, i6, i7]))).toNat true 0 (tkR [h0, h1, h2, h3, h4, h5, h6, h7] [m0, m1, m2, m3, m4, m5, m6, m7])) (tk' := tkR [g0, g1, g2, g3, g4, g5, g6, g7] [b0, b1, b2, b3, b4, b5, b6, b7]) (hs := [h0, h1, h2, h3, h4, h5, h6, h7]) (hs' := [g0, g1, g2, g3, g4, g5, g6, g7]) (ow := [w0, w1, w2, w3, w4, w5, w6, w7]) (ow' := [x0, x1, x2, x3, x4, x5, x6, x7]) (by rw [a3, a4]) (by rw [nq, a2]) (by rw [nq, tR_dn, a1]) (by rw [nv2, ← u1, a1]) (by rw [nv2, ← tk_next t 0 [h0, h1, h2, h3, h4, h5, h6, h7] [m0, m1, m2, m3, m4, m5, m6, m7] (Nat.zero_le _) (by rw [Nat.sub_zero]; exact u3), ← u1, a2, a3]) a3 a4 (bits_tR _))).trans ?_
        rw [wi]; rfl
      · have x8 : rnI d 0 [h0, h1, h2, h3, h4, h5, h6, h7] [w0, w1, w2, w3, w4, w5, w6, w7] [i0, i1, i2, i3, i4, i5, i6, i7] [m0, m1, m2, m3, m4, m5, m6, m7] = 8 := (rnI_le d 0 [h0, h1, h2, h3, h4, h5, h6, h7] [w0, w1, w2, w3, w4, w5, w6, w7] [i0, i1, i2, i3, i4, i5, i6, i7] [m0, m1, m2, m3, m4, m5, m6, m7]).resolve_right (fun h => cX h)
        refine (cfr (show Nat.ble (nxI d 0 (oR [h0, h1, h2, h3, h4, h5, h6, h7] [w0, w1, w2, w3, w4, w5, w6, w7]) [m0, m1, m2, m3, m4, m5, m6, m7] (tR [i0, i1, i2, i3, i4, i5, i6, i7]) + 1) 8 = false by rw [show nxI d 0 (oR [h0, h1, h2, h3, h4, h5, h6, h7] [w0, w1, w2, w3, w4, w5, w6, w7]) [m0, m1, m2, m3, m4, m5, m6, m7] (tR [i0, i1, i2, i3, i4, i5, i6, i7]) = 8 from nq.trans x8]; rfl)).trans ?_
        have hdd := hd cX
        refine (ctr (show isQ (vK3 ul i 0 = vK3 ul i 0 ∧ hK3 k n d ok on od (oR [h0, h1, h2, h3, h4, h5, h6, h7] [w0, w1, w2, w3, w4, w5, w6, w7]) (setN (nxI d 0 (oR [h0, h1, h2, h3, h4, h5, h6, h7] [w0, w1, w2, w3, w4, w5, w6, w7]) [m0, m1, m2, m3, m4, m5, m6, m7] (tR [i0, i1, i2, i3, i4, i5, i6, i7])) true 0 [m0, m1, m2, m3, m4, m5, m6, m7]) (dnT (nxI d 0 (oR [h0, h1, h2, h3, h4, h5, h6, h7] [w0, w1, w2, w3, w4, w5, w6, w7]) [m0, m1, m2, m3, m4, m5, m6, m7] (tR [i0, i1, i2, i3, i4, i5, i6, i7])) 0 (tR [i0, i1, i2, i3, i4, i5, i6, i7])) [i0, i1, i2, i3, i4, i5, i6, i7] (tkR [h0, h1, h2, h3, h4, h5, h6, h7] [m0, m1, m2, m3, m4, m5, m6, m7]) [h0, h1, h2, h3, h4, h5, h6, h7] [w0, w1, w2, w3, w4, w5, w6, w7] = hK3 k n dd ok on od (oR [h0, h1, h2, h3, h4, h5, h6, h7] [w0, w1, w2, w3, w4, w5, w6, w7]) [m0, m1, m2, m3, m4, m5, m6, m7] (tR [i0, i1, i2, i3, i4, i5, i6, i7]) [i0, i1, i2, i3, i4, i5, i6, i7] (tkR [h0, h1, h2, h3, h4, h5, h6, h7] [m0, m1, m2, m3, m4, m5, m6, m7]) [h0, h1, h2, h3, h4, h5, h6, h7] [w0, w1, w2, w3, w4, w5, w6, w7]) = true from isQ_of ⟨rfl, by rw [hdd, show nxI d 0 (oR [h0, h1, h2, h3, h4, h5, h6, h7] [w0, w1, w2, w3, w4, w5, w6, w7]) [m0, m1, m2, m3, m4, m5, m6, m7] (tR [i0, i1, i2, i3, i4, i5, i6, i7]) = 8 from nq.trans x8]; rfl⟩)).trans ?_
        have a1' : [i0, i1, i2, i3, i4, i5, i6, i7] = [e0, e1, e2, e3, e4, e5, e6, e7] := by rw [← a1, x8]; rfl
        have a2' : [m0, m1, m2, m3, m4, m5, m6, m7] = [b0, b1, b2, b3, b4, b5, b6, b7] := by rw [← a2, x8]; rfl
        refine (ctr (keepG (os := oR [h0, h1, h2, h3, h4, h5, h6, h7] [w0, w1, w2, w3, w4, w5, w6, w7]) (os' := oR [g0, g1, g2, g3, g4, g5, g6, g7] [x0, x1, x2, x3, x4, x5, x6, x7]) (ms := [m0, m1, m2, m3, m4, m5, m6, m7]) (ms' := [b0, b1, b2, b3, b4, b5, b6, b7]) (ts := tR [i0, i1, i2, i3, i4, i5, i6, i7]) (ts' := tR [e0, e1, e2, e3, e4, e5, e6, e7]) (is := [i0, i1, i2, i3, i4, i5, i6, i7]) (is' := [e0, e1, e2, e3, e4, e5, e6, e7]) (tk := tkR [h0, h1, h2, h3, h4, h5, h6, h7] [m0, m1, m2, m3, m4, m5, m6, m7]) (tk' := tkR [g0, g1, g2, g3, g4, g5, g6, g7] [b0, b1, b2, b3, b4, b5, b6, b7]) (hs := [h0, h1, h2, h3, h4, h5, h6, h7]) (hs' := [g0, g1, g2, g3, g4, g5, g6, g7]) (ow := [w0, w1, w2, w3, w4, w5, w6, w7]) (ow' := [x0, x1, x2, x3, x4, x5, x6, x7]) (by rw [a3, a4]) a2' (by rw [a1']) a1' (by rw [a3, a2']) a3 a4 (bits_tR _))).trans ?_
        rw [wi]; rfl
    refine (cfr (by simpa using c2)).trans ?_
    have a := he
    unfold act at a
    rw [if_neg c0, if_neg c1, if_neg c2] at a
    obtain ⟨a1, a2, a3, a4⟩ := Li.mk.inj a
    have a1 : [i0, i1, i2, i3, i4, i5, i6, i7] = [e0, e1, e2, e3, e4, e5, e6, e7] := a1
    have a2 : setN (rAckIx n [h0, h1, h2, h3, h4, h5, h6, h7] [m0, m1, m2, m3, m4, m5, m6, m7]) false 0 [m0, m1, m2, m3, m4, m5, m6, m7] = [b0, b1, b2, b3, b4, b5, b6, b7] := a2
    have a3 : [h0, h1, h2, h3, h4, h5, h6, h7] = [g0, g1, g2, g3, g4, g5, g6, g7] := a3
    have a4 : [w0, w1, w2, w3, w4, w5, w6, w7] = [x0, x1, x2, x3, x4, x5, x6, x7] := a4
    have q2 := ackIx_eq (ow := [w0, w1, w2, w3, w4, w5, w6, w7]) g rfl rfl n [m0, m1, m2, m3, m4, m5, m6, m7]
    have oe := ack_eq (hs := [h0, h1, h2, h3, h4, h5, h6, h7]) (ow := [w0, w1, w2, w3, w4, w5, w6, w7]) g rfl rfl n [m0, m1, m2, m3, m4, m5, m6, m7]
    have cE : ¬ rAckE n [h0, h1, h2, h3, h4, h5, h6, h7] [m0, m1, m2, m3, m4, m5, m6, m7] = 0 := fun c => by have := (ack_ok c).1; omega
    refine (cfr (beq_no oe cE)).trans ?_
    have q1 := ack_no cE
    refine (ctr (keepG (os := oR [h0, h1, h2, h3, h4, h5, h6, h7] [w0, w1, w2, w3, w4, w5, w6, w7]) (os' := oR [g0, g1, g2, g3, g4, g5, g6, g7] [x0, x1, x2, x3, x4, x5, x6, x7]) (ms := setN (ackIx n (oR [h0, h1, h2, h3, h4, h5, h6, h7] [w0, w1, w2, w3, w4, w5, w6, w7]) [m0, m1, m2, m3, m4, m5, m6, m7]) false 0 [m0, m1, m2, m3, m4, m5, m6, m7]) (ms' := [b0, b1, b2, b3, b4, b5, b6, b7]) (ts := tR [i0, i1, i2, i3, i4, i5, i6, i7]) (ts' := tR [e0, e1, e2, e3, e4, e5, e6, e7]) (is := [i0, i1, i2, i3, i4, i5, i6, i7]) (is' := [e0, e1, e2, e3, e4, e5, e6, e7]) (tk := tkR [h0, h1, h2, h3, h4, h5, h6, h7] [m0, m1, m2, m3, m4, m5, m6, m7]) (tk' := tkR [g0, g1, g2, g3, g4, g5, g6, g7] [b0, b1, b2, b3, b4, b5, b6, b7]) (hs := [h0, h1, h2, h3, h4, h5, h6, h7]) (hs' := [g0, g1, g2, g3, g4, g5, g6, g7]) (ow := [w0, w1, w2, w3, w4, w5, w6, w7]) (ow' := [x0, x1, x2, x3, x4, x5, x6, x7]) (by rw [a3, a4]) (by rw [q2, a2]) (by rw [a1]) a1 (by rw [← a3, ← a2, q1]; rfl) a3 a4 (bits_tR _))).trans ?_
    rw [wi]; rfl
end Go.Proofs.Ytanchmbopllimaa.Wlk
