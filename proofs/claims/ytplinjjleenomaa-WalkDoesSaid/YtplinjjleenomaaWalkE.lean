/- Laws of walks: their loops told in short; the laws walked. -/
import Derived.Test.YtplinjjleenomaaWalkD
set_option linter.unusedVariables false
set_option linter.unusedSimpArgs false
set_option maxRecDepth 100000
namespace Go.Proofs.Ytplinjjleenomaa.Wlk
open Go Go.Eng Go.Proofs Go.RowKit
theorem sp_in {a : Int} (h0 : 0 ≤ a) (h1 : a < 4096) : spOk a = true := by simp [spOk, h0, h1]
theorem same_page {ws : List Int} {d a i : Int} (h0 : 0 ≤ a) (h1 : a < 4096) (h2 : a % 16 = 0) (i0 : 0 ≤ i) (i1 : i < 16) :
    pgE ws d (a + i) = pgE ws d a ∧ pgW ws d (a + i) = pgW ws d a ∧ pgA ws d (a + i) = pgA ws d a ∧ sp3 (a + i) = i ∧ sp3 a = 0 := by
  have s0 := sp_in h0 h1
  have s1 : spOk (a + i) = true := sp_in (by omega) (by omega)
  have e1 : sp1 (a + i) = sp1 a := by unfold sp1; rw [if_pos s0, if_pos s1]; omega
  have e2 : sp2 (a + i) = sp2 a := by unfold sp2; rw [if_pos s0, if_pos s1]; omega
  have e3 : w1 ws d (a + i) = w1 ws d a := by unfold w1; rw [e1]
  have e4 : w2 ws d (a + i) = w2 ws d a := by unfold w2; rw [e3, e2]
  have e0 : pgOk ws d (a + i) = pgOk ws d a := by unfold pgOk; rw [e3, e4]
  have e5 : pgE ws d (a + i) = pgE ws d a := by unfold pgE; rw [s0, s1, e0]
  refine ⟨e5, ?_, ?_, ?_, ?_⟩
  · unfold pgW; rw [e4, e5]
  · unfold pgA; rw [e4, e5]
  · unfold sp3; rw [if_pos s1]; omega
  · unfold sp3; rw [if_pos s0]; omega
theorem pgA_mod {ws : List Int} {d a : Int} : pgA ws d a % 16 = 0 := by
  unfold pgA eA
  split
  · split <;> omega
  · rfl
theorem same_to {ws : List Int} {d a i : Int} {wr : Bool} (h0 : 0 ≤ a) (h1 : a < 4096) (h2 : a % 16 = 0) (i0 : 0 ≤ i) (i1 : i < 16) :
    toE ws d (a + i) wr = toE ws d a wr ∧ (toE ws d a wr = 0 → toA ws d (a + i) wr = toA ws d a wr + i ∧ toA ws d a wr % 16 = 0) := by
  obtain ⟨e1, e2, e3, e4, e5⟩ := same_page (ws := ws) (d := d) h0 h1 h2 i0 i1
  have e6 : toE ws d (a + i) wr = toE ws d a wr := by unfold toE; rw [e1, e2]
  refine ⟨e6, fun h => ?_⟩
  have e7 : toA ws d (a + i) wr = pgA ws d a + i := by unfold toA; rw [e6, if_pos h, e3, e4]
  have e8 : toA ws d a wr = pgA ws d a := by unfold toA; rw [if_pos h, e5]; omega
  rw [e7, e8]
  exact ⟨rfl, pgA_mod⟩
noncomputable abbrev sW : Summ := sWl mdN mdW toA toE pgV pgW pgA pgE ldV stW
theorem loopPages (d : Int) (wr : Bool) (a : Int) (l : List Int) (x : Nat) (ws : List Int) (hd : inI d = true) (hw : allW ws = true) (hl : ws.length ≤ 65536) (h0 : 0 ≤ a) (h1 : a < 4096) (h2 : a % 16 = 0) (K : HeadK) : ∀ j i : Nat, i + j = 16 →
    iterR Try.prog sW lNil iPages 60 (loopOf Try.prog 3 0) (j + 1) (pagesV d wr a (toA ws d a wr) (toE ws d a wr) i) (oneH l ws.length x ws) K = K (.exit 0) [] [(false, some ⟨true, .rows [.ints .u64 l]⟩)]
  | 0, i, hi => by
    rw [iterR]
    refine (t_pagesB mdN mdW toA toE pgV pgW pgA pgE ldV stW d wr a _ _ i l ws.length x ws _).trans ?_
    rw [decide_eq_false (show ¬ (i : Int) < 16 by omega), cond_false]
  | j + 1, i, hi => by
    rw [iterR]
    refine (t_pagesB mdN mdW toA toE pgV pgW pgA pgE ldV stW d wr a _ _ i l ws.length x ws _).trans ?_
    have ih := loopPages d wr a l x ws hd hw hl h0 h1 h2 K j (i + 1) (by omega)
    have f1 : okM ws.length ws = true := by simp [okM, hl]
    rw [decide_eq_true (show (i : Int) < 16 by omega), cond_true, wrap_i64 (n := a + i) (by omega) (by omega), wrap_i64 (n := (i : Int) + 1) (by omega) (by omega), show (i : Int) + 1 = ((i + 1 : Nat) : Int) from by omega,
      f1, hd, inI_of (n := a + i) (by omega) (by omega), hw, Bool.and_self, Bool.and_self, Bool.and_self, cond_true]
    obtain ⟨e1, e2⟩ := same_to (ws := ws) (d := d) (wr := wr) h0 h1 h2 (show (0 : Int) ≤ i by omega) (show (i : Int) < 16 by omega)
    rw [e1, show (toE ws d a wr != toE ws d a wr) = false from by simp, cond_false]
    by_cases c : toE ws d a wr = 0
    · obtain ⟨e3, e4⟩ := e2 c
      have hin := to_in c
      have e5 : Int.tmod (toA ws d a wr) 16 = 0 := by rw [Int.tmod_eq_emod_of_nonneg hin.2.1]; exact e4
      rw [show (toE ws d a wr == 0) = true from by simpa using c, cond_true, e3, wrap_i64 (n := toA ws d a wr + i) (by omega) (by omega), show (toA ws d a wr + (i : Int) != toA ws d a wr + i) = false from by simp, cond_false, e5, show ((0 : Int) != 0) = false from rfl, cond_false]
      exact ih
    · rw [show (toE ws d a wr == 0) = false from by simpa using c, cond_false]
      exact ih
def cPagesV (T U : TF) : HeadO := fun vs h K => match vs, h with
  | [.e (.c (.int .i64 d)), .e (.c (.bool wr)), .e (.c (.ptr ⟨1, 0, 0, 0, 0, 0, 0⟩)), .e (.c (.int .i64 a)), .e (.c (.int .i64 f)), .e (.c (.int .i64 e)), .e (.c (.int .i64 i))],
    [(false, some ⟨true, .rows [.ints .u64 l]⟩), (true, some ⟨false, .mix [.slice ⟨2, 0, 1, 0, 0, 0, 0⟩ 1 n x true]⟩), (true, some ⟨false, .rows [.ints .u64 ws]⟩)] =>
    match decide (i = 0) && okM n ws && inI d && allW ws && decide (0 ≤ a) && decide (a < 4096) && decide (a % 16 = 0) && decide (f = T ws d a wr) && decide (e = U ws d a wr) with
    | true => K (.exit 0) [] [(false, some ⟨true, .rows [.ints .u64 l]⟩)]
    | false => none
  | _, _ => none
theorem cPages_sound : HeadSound Try.prog iPages (loopOf Try.prog 3 0) (cPagesV toA toE) := by
  refine HeadSound.short (iterR_sound (F := 60) sWl_ok mix lNil_ok) fun vs h K r e => ?_
  unfold cPagesV at e
  split at e
  · rename_i d wr a f e' i l n x ws
    split at e
    · rename_i hc
      simp only [Bool.and_eq_true, decide_eq_true_eq] at hc
      obtain ⟨⟨⟨⟨⟨⟨⟨⟨rfl, c1⟩, c2⟩, c3⟩, c4⟩, c5⟩, c6⟩, rfl⟩, rfl⟩ := hc
      obtain ⟨rfl, hn⟩ := okM_spec c1
      exact ⟨17, (loopPages d wr a l x ws c2 c3 hn c4 c5 c6 K 16 0 (by omega)).trans e⟩
    · cases e
  · cases e
noncomputable def lPagesV (T U : TF) : Nat → Option Orc := lAdd lNil 0 (wrapO iPages 0 (cPagesV T U))
theorem lPages_for : LFor 1 Try.prog 3 (lPagesV toA toE) := lAdd_for (I := iPages) lNil_for (by kernel_rfl) cPages_sound
theorem pages_dis : Go.Eng.distinct (blockIds (codeOf Try.prog 3)) = true := by kernel_rfl

theorem loopStores (d a v t e : Int) (l : List Int) (n x : Nat) (was now ws : List Int) (hn : now.length = was.length) (hl : was.length ≤ 65536) (hq : ∀ i : Nat, was.getD i 0 ≠ now.getD i 0 → e = 0 ∧ (i : Int) = t) (K : HeadK) : ∀ j i : Nat, i + j = was.length →
    iterR Try.prog sW lNil iStores 60 (loopOf Try.prog 6 0) (j + 1) (storesV d a v was.length t e now.length i) (storesH l n x was now ws) K =
      K (.exit 0) [.e (.c (.int .i64 d)), .e (.c (.int .i64 a)), .e (.c (.int .u64 v)), .e (.c (.ptr ⟨1, 0, 0, 0, 0, 0, 0⟩)), .e (.c (.int .i64 t)), .e (.c (.int .i64 e)), .e (.c (.slice ⟨2, 0, 1, 0, 0, 0, 0⟩ 1 now.length 0 true))]
        [(false, some ⟨true, .rows [.ints .u64 l]⟩), (true, some ⟨false, .mix [.slice ⟨3, 0, 1, 0, 0, 0, 0⟩ 1 n x true]⟩), (true, some ⟨false, .rows [.ints .u64 now]⟩), (true, some ⟨false, .rows [.ints .u64 ws]⟩)]
  | 0, i, hi => by
    rw [iterR]
    refine (t_storesB mdN mdW toA toE pgV pgW pgA pgE ldV stW d a v t e i l n x was.length now.length was now ws _).trans ?_
    rw [decide_eq_false (show ¬ (i : Int) < (was.length : Int) by omega), cond_false]
  | j + 1, i, hi => by
    rw [iterR]
    refine (t_storesB mdN mdW toA toE pgV pgW pgA pgE ldV stW d a v t e i l n x was.length now.length was now ws _).trans ?_
    have ih := loopStores d a v t e l n x was now ws hn hl hq K j (i + 1) (by omega)
    rw [hn]
    rw [hn] at ih
    rw [decide_eq_true (show (i : Int) < (was.length : Int) by omega), cond_true, decide_eq_true (show (0 : Int) ≤ i by omega), Bool.and_self, cond_true, Int.toNat_natCast, Nat.zero_add, decide_eq_true (show i < was.length by omega), cond_true, cond_true, cond_true,
      wrap_i64 (n := (i : Int) + 1) (by omega) (by omega), show (i : Int) + 1 = ((i + 1 : Nat) : Int) from by omega]
    by_cases c : was.getD i 0 = now.getD i 0
    · rw [show (was.getD i 0 != now.getD i 0) = false from by simpa using c, cond_false]
      exact ih
    · obtain ⟨q1, q2⟩ := hq i c
      rw [show (was.getD i 0 != now.getD i 0) = true from by simpa using c, cond_true, show (e != 0) = false from by simpa using q1, cond_false, show ((i : Int) != t) = false from by simpa using q2, cond_false]
      exact ih
def stOk (T U : TF) (S : List Int → Int → Int → Int → List Int) (was now : List Int) (d a v t e : Int) : Bool := decide (now = S was d a v) && decide (t = T was d a true) && decide (e = U was d a true)
def cStoresV (T U : TF) (S : List Int → Int → Int → Int → List Int) : HeadO := fun vs h K => match vs, h with
  | [.e (.c (.int .i64 d)), .e (.c (.int .i64 a)), .e (.c (.int .u64 v)), .e (.c (.ptr ⟨1, 0, 0, 0, 0, 0, 0⟩)), .e (.c (.slice ⟨2, 0, 1, 0, 0, 0, 0⟩ 1 m 0 true)), .e (.c (.int .i64 t)), .e (.c (.int .i64 e)), .e (.c (.slice ⟨3, 0, 1, 0, 0, 0, 0⟩ 1 p 0 true)), .e (.c (.int .i64 i))],
    [(false, some ⟨true, .rows [.ints .u64 l]⟩), (true, some ⟨false, .mix [.slice ⟨4, 0, 1, 0, 0, 0, 0⟩ 1 n x true]⟩), (true, some ⟨false, .rows [.ints .u64 was]⟩), (true, some ⟨false, .rows [.ints .u64 now]⟩), (true, some ⟨false, .rows [.ints .u64 ws]⟩)] =>
    match decide (i = 0) && okM m was && Nat.beq p now.length && stOk T U S was now d a v t e with
    | true => K (.exit 0) [.e (.c (.int .i64 d)), .e (.c (.int .i64 a)), .e (.c (.int .u64 v)), .e (.c (.ptr ⟨1, 0, 0, 0, 0, 0, 0⟩)), .e (.c (.int .i64 t)), .e (.c (.int .i64 e)), .e (.c (.slice ⟨2, 0, 1, 0, 0, 0, 0⟩ 1 p 0 true))]
        [(false, some ⟨true, .rows [.ints .u64 l]⟩), (true, some ⟨false, .mix [.slice ⟨3, 0, 1, 0, 0, 0, 0⟩ 1 n x true]⟩), (true, some ⟨false, .rows [.ints .u64 now]⟩), (true, some ⟨false, .rows [.ints .u64 ws]⟩)]
    | false => none
  | _, _ => none
theorem stW_diff {ws : List Int} {d a v : Int} (i : Nat) (h : ws.getD i 0 ≠ (stW ws d a v).getD i 0) : toE ws d a true = 0 ∧ (i : Int) = toA ws d a true := by
  unfold stW at h
  split at h
  · rename_i c
    refine ⟨c, ?_⟩
    obtain ⟨b1, b2, b3⟩ := to_in c
    unfold putW at h
    rw [if_pos b1] at h
    rw [List.getD_eq_getElem?_getD, List.getD_eq_getElem?_getD, List.getElem?_set] at h
    split at h
    · omega
    · exact absurd rfl h
  · exact absurd rfl h
theorem cStores_sound : HeadSound Try.prog iStores (loopOf Try.prog 6 0) (cStoresV toA toE stW) := by
  refine HeadSound.short (iterR_sound (F := 60) sWl_ok mix lNil_ok) fun vs h K r e => ?_
  unfold cStoresV at e
  split at e
  · rename_i d a v m t e' p i l n x was now ws
    split at e
    · rename_i hc
      simp only [Bool.and_eq_true, decide_eq_true_eq, stOk] at hc
      obtain ⟨⟨⟨rfl, c1⟩, c2⟩, ⟨rfl, rfl⟩, rfl⟩ := hc
      obtain ⟨rfl, hn⟩ := okM_spec c1
      have c2 := Nat.eq_of_beq_eq_true c2
      subst c2
      exact ⟨was.length + 1, (loopStores d a v _ _ l n x was _ ws (stW_len _ _ _ _) hn (fun i h => stW_diff i h) K was.length 0 (by omega)).trans e⟩
    · cases e
  · cases e
noncomputable def lStoresV (T U : TF) (S : List Int → Int → Int → Int → List Int) : Nat → Option Orc := lAdd lNil 0 (wrapO iStores 0 (cStoresV T U S))
theorem lStores_for : LFor 1 Try.prog 6 (lStoresV toA toE stW) := lAdd_for (I := iStores) lNil_for (by kernel_rfl) cStores_sound
theorem stores_dis : Go.Eng.distinct (blockIds (codeOf Try.prog 6)) = true := by kernel_rfl
theorem t_pages (N : Int → Nat) (M : Int → List Int → List Int) (T U : TF) (PV PW : LB) (PA PE : LF) (L : LF) (S : List Int → Int → Int → Int → List Int) (n d p : Int) (wr : Bool) (ll : Nat) (l : List Int) (k : Res → Option Res) : runLG Try.prog (sWl N M T U PV PW PA PE L S) (lPagesV T U) 1 150 3 [aint .i64 n, .e (.c (.slice ⟨0, 0, 1, 0, 0, 0, 0⟩ 1 ll 0 false)), aint .i64 d, aint .i64 p, .e (.c (.bool wr))] [some ⟨true, .rows [.ints .u64 l]⟩] k = (cond (Nat.beq ll (List.length l) && decide (List.length l < 4611686018427387904)) (cond (Go.Proofs.Ytplinjjleenomaa.Wlk.okM (N n) (M n l) && inI d && inI (IntKind.wrap IntKind.i64 (16 * IntKind.wrap IntKind.i64 (Int.tmod (IntKind.wrap IntKind.u64 p) 256))) && Go.Proofs.Ytplinjjleenomaa.Wlk.allW (M n l)) (cond (true && Go.Proofs.Ytplinjjleenomaa.Wlk.okM (N n) (M n l) && inI d && Go.Proofs.Ytplinjjleenomaa.Wlk.allW (M n l) && decide (0 ≤ IntKind.wrap IntKind.i64 (16 * IntKind.wrap IntKind.i64 (Int.tmod (IntKind.wrap IntKind.u64 p) 256))) && decide (IntKind.wrap IntKind.i64 (16 * IntKind.wrap IntKind.i64 (Int.tmod (IntKind.wrap IntKind.u64 p) 256)) < 4096) && decide (IntKind.wrap IntKind.i64 (16 * IntKind.wrap IntKind.i64 (Int.tmod (IntKind.wrap IntKind.u64 p) 256)) % 16 = 0) && decide (T (M n l) d (IntKind.wrap IntKind.i64 (16 * IntKind.wrap IntKind.i64 (Int.tmod (IntKind.wrap IntKind.u64 p) 256))) wr = T (M n l) d (IntKind.wrap IntKind.i64 (16 * IntKind.wrap IntKind.i64 (Int.tmod (IntKind.wrap IntKind.u64 p) 256))) wr) && decide (U (M n l) d (IntKind.wrap IntKind.i64 (16 * IntKind.wrap IntKind.i64 (Int.tmod (IntKind.wrap IntKind.u64 p) 256))) wr = U (M n l) d (IntKind.wrap IntKind.i64 (16 * IntKind.wrap IntKind.i64 (Int.tmod (IntKind.wrap IntKind.u64 p) 256))) wr)) (k (Res.mk (AV.e (AE.c (AC.bool true))) [(none)])) none) none) none) := by kernel_rfl
theorem t_stores (N : Int → Nat) (M : Int → List Int → List Int) (T U : TF) (PV PW : LB) (PA PE : LF) (L : LF) (S : List Int → Int → Int → Int → List Int) (n d p v : Int) (ll : Nat) (l : List Int) (k : Res → Option Res) : runLG Try.prog (sWl N M T U PV PW PA PE L S) (lStoresV T U S) 1 150 6 [aint .i64 n, .e (.c (.slice ⟨0, 0, 1, 0, 0, 0, 0⟩ 1 ll 0 false)), aint .i64 d, aint .i64 p, aint .u64 v] [some ⟨true, .rows [.ints .u64 l]⟩] k = (cond (Nat.beq ll (List.length l) && decide (List.length l < 4611686018427387904)) (cond (Go.Proofs.Ytplinjjleenomaa.Wlk.okM (N n) (M n l)) (cond (Go.Proofs.Ytplinjjleenomaa.Wlk.okM (N n) (M n l) && inI d && inI (IntKind.wrap IntKind.i64 (Int.tmod (IntKind.wrap IntKind.u64 p) 4096)) && Go.Proofs.Ytplinjjleenomaa.Wlk.allW (M n l)) (cond (Go.Proofs.Ytplinjjleenomaa.Wlk.okM (N n) (M n l) && inI d && inI (IntKind.wrap IntKind.i64 (Int.tmod (IntKind.wrap IntKind.u64 p) 4096)) && Go.Proofs.Ytplinjjleenomaa.Wlk.allW (M n l)) (cond (Go.Proofs.Ytplinjjleenomaa.Wlk.okM (N n) (S (M n l) d (IntKind.wrap IntKind.i64 (Int.tmod (IntKind.wrap IntKind.u64 p) 4096)) v)) (cond (U (M n l) d (IntKind.wrap IntKind.i64 (Int.tmod (IntKind.wrap IntKind.u64 p) 4096)) true != U (M n l) d (IntKind.wrap IntKind.i64 (Int.tmod (IntKind.wrap IntKind.u64 p) 4096)) true) (k (Res.mk (AV.e (AE.c (AC.bool false))) [(none)])) (cond ((↑(N n) : Int) != (↑(N n) : Int)) (k (Res.mk (AV.e (AE.c (AC.bool false))) [(none)])) (cond (true && Go.Proofs.Ytplinjjleenomaa.Wlk.okM (N n) (M n l) && Nat.beq (N n) (List.length (S (M n l) d (IntKind.wrap IntKind.i64 (Int.tmod (IntKind.wrap IntKind.u64 p) 4096)) v)) && Go.Proofs.Ytplinjjleenomaa.Wlk.stOk T U S (M n l) (S (M n l) d (IntKind.wrap IntKind.i64 (Int.tmod (IntKind.wrap IntKind.u64 p) 4096)) v) d (IntKind.wrap IntKind.i64 (Int.tmod (IntKind.wrap IntKind.u64 p) 4096)) v (T (M n l) d (IntKind.wrap IntKind.i64 (Int.tmod (IntKind.wrap IntKind.u64 p) 4096)) true) (U (M n l) d (IntKind.wrap IntKind.i64 (Int.tmod (IntKind.wrap IntKind.u64 p) 4096)) true)) (cond (U (M n l) d (IntKind.wrap IntKind.i64 (Int.tmod (IntKind.wrap IntKind.u64 p) 4096)) true != 0) (k (Res.mk (AV.e (AE.c (AC.bool true))) [(none)])) (cond (decide (T (M n l) d (IntKind.wrap IntKind.i64 (Int.tmod (IntKind.wrap IntKind.u64 p) 4096)) true < 0)) (k (Res.mk (AV.e (AE.c (AC.bool false))) [(none)])) (cond (decide (T (M n l) d (IntKind.wrap IntKind.i64 (Int.tmod (IntKind.wrap IntKind.u64 p) 4096)) true ≥ (↑(N n) : Int))) (k (Res.mk (AV.e (AE.c (AC.bool false))) [(none)])) (cond (decide (0 ≤ T (M n l) d (IntKind.wrap IntKind.i64 (Int.tmod (IntKind.wrap IntKind.u64 p) 4096)) true) && decide (T (M n l) d (IntKind.wrap IntKind.i64 (Int.tmod (IntKind.wrap IntKind.u64 p) 4096)) true < (↑(N n) : Int))) (cond (decide (0 + Int.toNat (T (M n l) d (IntKind.wrap IntKind.i64 (Int.tmod (IntKind.wrap IntKind.u64 p) 4096)) true) < List.length (S (M n l) d (IntKind.wrap IntKind.i64 (Int.tmod (IntKind.wrap IntKind.u64 p) 4096)) v))) (cond (List.getD (S (M n l) d (IntKind.wrap IntKind.i64 (Int.tmod (IntKind.wrap IntKind.u64 p) 4096)) v) (0 + Int.toNat (T (M n l) d (IntKind.wrap IntKind.i64 (Int.tmod (IntKind.wrap IntKind.u64 p) 4096)) true)) 0 != v) (k (Res.mk (AV.e (AE.c (AC.bool false))) [(none)])) (cond (Go.Proofs.Ytplinjjleenomaa.Wlk.okM (N n) (S (M n l) d (IntKind.wrap IntKind.i64 (Int.tmod (IntKind.wrap IntKind.u64 p) 4096)) v) && inI d && inI (IntKind.wrap IntKind.i64 (Int.tmod (IntKind.wrap IntKind.u64 p) 4096)) && Go.Proofs.Ytplinjjleenomaa.Wlk.allW (S (M n l) d (IntKind.wrap IntKind.i64 (Int.tmod (IntKind.wrap IntKind.u64 p) 4096)) v)) (cond (IntKind.wrap IntKind.i64 (Int.tdiv (T (M n l) d (IntKind.wrap IntKind.i64 (Int.tmod (IntKind.wrap IntKind.u64 p) 4096)) true) 16) == IntKind.wrap IntKind.i64 (Int.tdiv d 16)) (k (Res.mk (AV.e (AE.c (AC.bool true))) [(none)])) (cond (U (S (M n l) d (IntKind.wrap IntKind.i64 (Int.tmod (IntKind.wrap IntKind.u64 p) 4096)) v) d (IntKind.wrap IntKind.i64 (Int.tmod (IntKind.wrap IntKind.u64 p) 4096)) false != 0) (k (Res.mk (AV.e (AE.c (AC.bool true))) [(none)])) (cond (T (S (M n l) d (IntKind.wrap IntKind.i64 (Int.tmod (IntKind.wrap IntKind.u64 p) 4096)) v) d (IntKind.wrap IntKind.i64 (Int.tmod (IntKind.wrap IntKind.u64 p) 4096)) false != T (M n l) d (IntKind.wrap IntKind.i64 (Int.tmod (IntKind.wrap IntKind.u64 p) 4096)) true) (k (Res.mk (AV.e (AE.c (AC.bool true))) [(none)])) (cond (Go.Proofs.Ytplinjjleenomaa.Wlk.okM (N n) (S (M n l) d (IntKind.wrap IntKind.i64 (Int.tmod (IntKind.wrap IntKind.u64 p) 4096)) v) && inI d && inI (IntKind.wrap IntKind.i64 (Int.tmod (IntKind.wrap IntKind.u64 p) 4096)) && Go.Proofs.Ytplinjjleenomaa.Wlk.allW (S (M n l) d (IntKind.wrap IntKind.i64 (Int.tmod (IntKind.wrap IntKind.u64 p) 4096)) v)) (cond (U (S (M n l) d (IntKind.wrap IntKind.i64 (Int.tmod (IntKind.wrap IntKind.u64 p) 4096)) v) d (IntKind.wrap IntKind.i64 (Int.tmod (IntKind.wrap IntKind.u64 p) 4096)) false == 0) (k (Res.mk (AV.e (AE.c (AC.bool (L (S (M n l) d (IntKind.wrap IntKind.i64 (Int.tmod (IntKind.wrap IntKind.u64 p) 4096)) v) d (IntKind.wrap IntKind.i64 (Int.tmod (IntKind.wrap IntKind.u64 p) 4096)) == v)))) [(none)])) (k (Res.mk (AV.e (AE.c (AC.bool false))) [(none)]))) none)))) none)) none) none)))) none))) none) none) none) none) none) := by kernel_rfl
theorem allW_of {l : List Int} (h : ∀ n ∈ l, IntKind.u64.min ≤ n ∧ n ≤ IntKind.u64.max) : allW l = true := by
  simp only [allW, List.all_eq_true]
  intro x hx
  obtain ⟨h1, h2⟩ := h x hx
  have e1 : IntKind.min .u64 = 0 := by decide
  have e2 : IntKind.max .u64 = 18446744073709551615 := by decide
  rw [e1] at h1; rw [e2] at h2
  simp only [word, Bool.and_eq_true, decide_eq_true_eq]; omega
theorem md_facts (n : Int) {l : List Int} (h : allW l = true) : okM (mdN n) (mdW n l) = true ∧ allW (mdW n l) = true ∧ (mdW n l).length = mdN n ∧ mdN n ≤ 319 := by
  have h1 := mdW_len n l
  have h2 := mdN_in n
  exact ⟨by simp [okM, h1]; omega, mdW_all n h, h1, h2.2⟩
theorem pages_walk (n : Int) (x : Option Addr) (len cap : Nat) (zs : List Int) (d p : Int) (wr : Bool) (W : World)
    (h0 : (Lit.int .i64 n).wf = true) (hr : IsRow .u64 W x len cap zs) (hs : len * 8 ≤ 140737488351232) (h1 : (Lit.int .i64 d).wf = true) (h2 : (Lit.int .i64 p).wf = true) :
    Calls Try.prog 3 #[.int .i64 n, .slice x len cap, .int .i64 d, .int .i64 p, .bool wr] W fun e w' => e = .returned (.bool true) ∧ Below W.heap.size W w' := by
  obtain ⟨ok, hl, hb⟩ := hr.ok
  refine of_rows (sl := [intArg .u64 x len cap zs]) (args := [aint .i64 n, .e (.c (.slice ⟨0, 0, 1, 0, 0, 0, 0⟩ 1 len 0 false)), aint .i64 d, aint .i64 p, .e (.c (.bool wr))])
    (blks := [none]) (runL_sound sWl_ok mix 150 3 pages_dis lPages_for).gc (ok1 ok) ?_ ((t_pages mdN mdW toA toE pgV pgW pgA pgE ldV stW n d p wr len (zs.take len) some).trans ?_)
  · exact LR.cons rfl (LR.cons (args_slice (i := 0) rfl ok rfl) (LR.cons rfl (LR.cons rfl (LR.cons rfl LR.nil))))
  · obtain ⟨q1, q2, q3, q4⟩ := md_facts n (allW_of hb)
    have e0 : Nat.beq len (zs.take len).length = true := by rw [hl]; exact Nat.beq_refl _
    obtain ⟨a, ha, a0, a1, a2⟩ : ∃ a : Int, IntKind.wrap IntKind.i64 (16 * IntKind.wrap IntKind.i64 (Int.tmod (IntKind.wrap IntKind.u64 p) 256)) = a ∧ 0 ≤ a ∧ a < 4096 ∧ a % 16 = 0 := by
      rw [wrap_u64_emod, Int.tmod_eq_emod_of_nonneg (by omega), wrap_i64 (n := p % 18446744073709551616 % 256) (by omega) (by omega), wrap_i64 (by omega) (by omega)]
      exact ⟨_, rfl, by omega, by omega, by omega⟩
    rw [ha]
    simp only [e0, hl, decide_eq_true (show len < 4611686018427387904 by omega), q1, q2, wfI h1, inI_of (n := a) (by omega) (by omega), decide_eq_true a0, decide_eq_true a1, decide_eq_true a2, decide_true, Nat.beq_refl, Bool.and_self, cond_true]
theorem stores_walk (n : Int) (x : Option Addr) (len cap : Nat) (zs : List Int) (d p v : Int) (W : World)
    (h0 : (Lit.int .i64 n).wf = true) (hr : IsRow .u64 W x len cap zs) (hs : len * 8 ≤ 140737488351232) (h1 : (Lit.int .i64 d).wf = true) (h2 : (Lit.int .i64 p).wf = true) (h3 : (Lit.int .u64 v).wf = true) :
    Calls Try.prog 6 #[.int .i64 n, .slice x len cap, .int .i64 d, .int .i64 p, .int .u64 v] W fun e w' => e = .returned (.bool true) ∧ Below W.heap.size W w' := by
  obtain ⟨ok, hl, hb⟩ := hr.ok
  refine of_rows (sl := [intArg .u64 x len cap zs]) (args := [aint .i64 n, .e (.c (.slice ⟨0, 0, 1, 0, 0, 0, 0⟩ 1 len 0 false)), aint .i64 d, aint .i64 p, aint .u64 v])
    (blks := [none]) (runL_sound sWl_ok mix 150 6 stores_dis lStores_for).gc (ok1 ok) ?_ ((t_stores mdN mdW toA toE pgV pgW pgA pgE ldV stW n d p v len (zs.take len) some).trans ?_)
  · exact LR.cons rfl (LR.cons (args_slice (i := 0) rfl ok rfl) (LR.cons rfl (LR.cons rfl (LR.cons rfl LR.nil))))
  · obtain ⟨q1, q2, q3, q4⟩ := md_facts n (allW_of hb)
    have e0 : Nat.beq len (zs.take len).length = true := by rw [hl]; exact Nat.beq_refl _
    obtain ⟨a, ha, a0, a1⟩ : ∃ a : Int, IntKind.wrap IntKind.i64 (Int.tmod (IntKind.wrap IntKind.u64 p) 4096) = a ∧ 0 ≤ a ∧ a < 4096 := by
      rw [wrap_u64_emod, Int.tmod_eq_emod_of_nonneg (by omega), wrap_i64 (by omega) (by omega)]
      exact ⟨_, rfl, by omega, by omega⟩
    rw [ha]
    generalize mdW n (zs.take len) = ws at q1 q2 q3 ⊢
    generalize mdN n = N at q1 q3 q4 ⊢
    subst q3
    have s1 := stW_len ws d a v
    have s2 : okM ws.length (stW ws d a v) = true := by simp [okM, s1]; omega
    have s3 := stW_all q2 (d := d) (a := a) (wfW h3)
    have s4 : stOk toA toE stW ws (stW ws d a v) d a v (toA ws d a true) (toE ws d a true) = true := by simp [stOk]
    have k1 : inI d = true := wfI h1
    have k2 : inI a = true := inI_of (n := a) (by omega) (by omega)
    rw [e0, hl, decide_eq_true (show len < 4611686018427387904 by omega), q1, q2, s2, s1, s3, s4, k1, k2, Nat.beq_refl]
    simp only [Bool.and_self, cond_true]
    rw [show (toE ws d a true != toE ws d a true) = false from by simp, cond_false, show ((ws.length : Int) != (ws.length : Int)) = false from by simp, cond_false]
    by_cases c : toE ws d a true = 0
    rotate_left
    · rw [show (toE ws d a true != 0) = true from by simpa using c, cond_true]
    obtain ⟨b1, b2, b3⟩ := to_in c
    rw [c, show ((0 : Int) != 0) = false from rfl, cond_false, decide_eq_false (show ¬ toA ws d a true < 0 by omega), cond_false, decide_eq_false (show ¬ toA ws d a true ≥ (ws.length : Int) by omega), cond_false, decide_eq_true b2, decide_eq_true b3, Bool.and_self, cond_true, Nat.zero_add, decide_eq_true (show (toA ws d a true).toNat < ws.length by omega), cond_true]
    have hst : stW ws d a v = ws.set (toA ws d a true).toNat v := by
      unfold stW; rw [if_pos c]; unfold putW; rw [if_pos b1]
    have hg : (stW ws d a v).getD (toA ws d a true).toNat 0 = v := by
      rw [hst, List.getD_eq_getElem?_getD, List.getElem?_set_self (by omega)]; rfl
    rw [hg, show (v != v) = false from by simp, cond_false]
    by_cases c1 : (IntKind.wrap IntKind.i64 (Int.tdiv (toA ws d a true) 16) == IntKind.wrap IntKind.i64 (Int.tdiv d 16)) = true
    · rw [c1, cond_true]
    rw [show (IntKind.wrap IntKind.i64 (Int.tdiv (toA ws d a true) 16) == IntKind.wrap IntKind.i64 (Int.tdiv d 16)) = false from by simpa using c1, cond_false]
    by_cases c2 : toE (stW ws d a v) d a false = 0
    rotate_left
    · rw [show (toE (stW ws d a v) d a false != 0) = true from by simpa using c2, cond_true]
    by_cases c3 : toA (stW ws d a v) d a false = toA ws d a true
    rotate_left
    · rw [show (toA (stW ws d a v) d a false != toA ws d a true) = true from by simpa using c3, cond_true]
      rw [c2, show ((0 : Int) != 0) = false from rfl, cond_false]
    have hld : ldV (stW ws d a v) d a = v := by
      unfold ldV; rw [if_pos c2, c3]; unfold getW; rw [if_pos (by rw [s1]; exact b1)]; exact hg
    rw [c2, c3, hld]
    simp
end Go.Proofs.Ytplinjjleenomaa.Wlk
