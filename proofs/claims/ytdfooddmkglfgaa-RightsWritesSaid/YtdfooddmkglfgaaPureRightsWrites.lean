/- What the functions compute, over numbers and lists alone, and the law's walk over it. -/
import Derived.Test.YtdfooddmkglfgaaTop1
import Derived.Test.YtdfooddmkglfgaaTop2
import Derived.Test.YtdfooddmkglfgaaGiven
import Derived.Test.YtdfooddmkglfgaaPlain
import Derived.Test.YtdfooddmkglfgaaPlainB
import Derived.Test.YtdfooddmkglfgaaPlainR
namespace Go.Proofs.Ytdfooddmkglfgaa.Pure
open Go Go.RowKit Go.Proofs.YtdfooddmkglfgaaW.PrintWords Go.Proofs.YtdfooddmkglfgaaW.PrintLast Go.Proofs.YtdfooddmkglfgaaW.PrintMore Go.Proofs.Ytdfooddmkglfgaa.Plain Go.Proofs.Ytdfooddmkglfgaa.Top Go.Proofs.Ytdfooddmkglfgaa.Given
set_option linter.unusedVariables false
set_option linter.unusedSimpArgs false
theorem check_is {a : Int} (h0 : -9223372036854775808 ≤ a) (h1 : a ≤ 9223372036854775807) : rights_Check.f a = some (decide (0 ≤ a ∧ a ≤ 7)) := by
  unfold rights_Check.f
  by_cases h : 0 ≤ a ∧ a ≤ 7
  · rw [(three_bits h0 h1).2 h, decide_eq_true h]; rfl
  · rw [decide_eq_false h]
    have := mt (three_bits h0 h1).1 h
    simp [this]
theorem works_yes : donjonlaw04_works.f = some true := by kernel_rfl
/-- the same over lists -/
def eatL (c : Nat) (bit : Int) (st : Int × List UInt8) : Int × List UInt8 :=
  match st.2 with
  | [] => st
  | x :: t => if x.toNat = c then (st.1 + bit, t) else st
def ateL (l : List UInt8) : Int × List UInt8 := eatL 103 4 (eatL 119 2 (eatL 114 1 (0, l)))
theorem toList_len (t : ByteArray) : t.toList.length = t.size := by rw [Go.ByteArray.toList_eq, Array.length_toList]; rfl
theorem eat_list (c : Nat) (bit : Int) (r : Int) (t : ByteArray) : (eat c bit (r, t)).1 = (eatL c bit (r, t.toList)).1 ∧ (eat c bit (r, t)).2.toList = (eatL c bit (r, t.toList)).2 := by
  have hl := toList_len t
  by_cases h : 0 < t.size
  · obtain ⟨x, l, e⟩ : ∃ x l, t.toList = x :: l := by
      cases hc : t.toList with
      | nil => rw [hc] at hl; have h3 : (0 : Nat) = t.size := hl; omega
      | cons x l => exact ⟨x, l, rfl⟩
    have e0 : t[0]'h = x := by
      have h1 : t.data.toList = x :: l := by rw [← Go.ByteArray.toList_eq]; exact e
      show t.data[0]'h = x
      rw [← Array.getElem_toList]; simp [h1]
    have e1 : (t.extract 1 t.size).toList = l := by
      rw [Go.ByteArray.toList_eq, ByteArray.data_extract, Array.toList_extract]
      have h1 : t.data.toList = x :: l := by rw [← Go.ByteArray.toList_eq]; exact e
      rw [h1]
      have h2 : t.size = l.length + 1 := by rw [← hl, e]; rfl
      simp [List.extract, h2]
    rw [e]
    unfold eat eatL
    simp only []
    rw [dif_pos h, e0]
    by_cases c1 : x.toNat = c
    · rw [if_pos c1, if_pos c1]; exact ⟨rfl, e1⟩
    · rw [if_neg c1, if_neg c1]; exact ⟨rfl, e⟩
  · have e : t.toList = [] := List.eq_nil_of_length_eq_zero (by omega)
    rw [e]
    unfold eat eatL
    simp only []
    rw [dif_neg h]; exact ⟨rfl, e⟩
theorem ate_list (s : ByteArray) : (ate s 3).1 = (ateL s.toList).1 ∧ (ate s 3).2.toList = (ateL s.toList).2 := by
  have h1 := eat_list 114 1 0 s
  have h2 := eat_list 119 2 (eat 114 1 (0, s)).1 (eat 114 1 (0, s)).2
  rw [h1.1, h1.2] at h2
  have h3 := eat_list 103 4 (eat 119 2 (eat 114 1 (0, s))).1 (eat 119 2 (eat 114 1 (0, s))).2
  have e2 : eat 119 2 ((eatL 114 1 (0, s.toList)).1, (eat 114 1 (0, s)).2) = eat 119 2 (eat 114 1 (0, s)) := by rw [← h1.1]
  rw [e2] at h2
  rw [h2.1, h2.2] at h3
  have e3 : eat 103 4 ((eatL 119 2 (eatL 114 1 (0, s.toList))).1, (eat 119 2 (eat 114 1 (0, s))).2) = eat 103 4 (eat 119 2 (eat 114 1 (0, s))) := by
    have : (eatL 119 2 (eatL 114 1 (0, s.toList))).1 = (eat 119 2 (eat 114 1 (0, s))).1 := h2.1.symm
    rw [this]
  rw [e3] at h3
  exact h3
def parseL (l : List UInt8) : Int × Int := if l = [45] then (0, 0) else if (ateL l).2 ≠ [] ∨ l = [] then (0, 10) else ((ateL l).1, 0)
theorem parse_list (s : ByteArray) : parseS s = parseL s.toList := by
  unfold parseS parseL
  rw [(ate_list s).1, (ate_list s).2]
/-- letters of rights -/
def textL : Nat → List UInt8
  | 0 => [45] | 1 => [114] | 2 => [119] | 3 => [114, 119] | 4 => [103] | 5 => [114, 103] | 6 => [119, 103] | _ => [114, 119, 103]
theorem eatL_is (c : Nat) (bit : Int) (r : Int) (l : List UInt8) : (eatL c bit (r, l) = (r, l)) ∨ (∃ x t, l = x :: t ∧ x.toNat = c ∧ eatL c bit (r, l) = (r + bit, t)) := by
  unfold eatL
  cases l with
  | nil => exact .inl rfl
  | cons x t =>
    simp only []
    by_cases h : x.toNat = c
    · rw [if_pos h]; exact .inr ⟨x, t, rfl, h, rfl⟩
    · rw [if_neg h]; exact .inl rfl
theorem byte_of {x : UInt8} {c : UInt8} (h : x.toNat = c.toNat) : x = c := UInt8.toNat_inj.mp h
theorem ateL_end {l : List UInt8} (h : (ateL l).2 = []) (h0 : l ≠ []) : ∃ n : Nat, 1 ≤ n ∧ n ≤ 7 ∧ (ateL l).1 = n ∧ l = textL n := by
  unfold ateL at h ⊢
  rcases eatL_is 114 1 0 l with e1 | ⟨x1, t1, rfl, k1, e1⟩ <;> rw [e1] at h ⊢
  · rcases eatL_is 119 2 0 l with e2 | ⟨x2, t2, rfl, k2, e2⟩ <;> rw [e2] at h ⊢
    · rcases eatL_is 103 4 0 l with e3 | ⟨x3, t3, rfl, k3, e3⟩ <;> rw [e3] at h ⊢
      · exact absurd h h0
      · simp only at h; subst h; obtain rfl := byte_of (c := 103) k3; exact ⟨4, by omega, by omega, rfl, rfl⟩
    · obtain rfl := byte_of (c := 119) k2
      rcases eatL_is 103 4 (0 + 2) t2 with e3 | ⟨x3, t3, rfl, k3, e3⟩ <;> rw [e3] at h ⊢
      · simp only at h; subst h; exact ⟨2, by omega, by omega, rfl, rfl⟩
      · simp only at h; subst h; obtain rfl := byte_of (c := 103) k3; exact ⟨6, by omega, by omega, rfl, rfl⟩
  · obtain rfl := byte_of (c := 114) k1
    rcases eatL_is 119 2 (0 + 1) t1 with e2 | ⟨x2, t2, rfl, k2, e2⟩ <;> rw [e2] at h ⊢
    · rcases eatL_is 103 4 (0 + 1) t1 with e3 | ⟨x3, t3, rfl, k3, e3⟩ <;> rw [e3] at h ⊢
      · simp only at h; subst h; exact ⟨1, by omega, by omega, rfl, rfl⟩
      · simp only at h; subst h; obtain rfl := byte_of (c := 103) k3; exact ⟨5, by omega, by omega, rfl, rfl⟩
    · obtain rfl := byte_of (c := 119) k2
      rcases eatL_is 103 4 (0 + 1 + 2) t2 with e3 | ⟨x3, t3, rfl, k3, e3⟩ <;> rw [e3] at h ⊢
      · simp only at h; subst h; exact ⟨3, by omega, by omega, rfl, rfl⟩
      · simp only at h; subst h; obtain rfl := byte_of (c := 103) k3; exact ⟨7, by omega, by omega, rfl, rfl⟩
theorem parse_text (n : Nat) (h : n ≤ 7) : parseL (textL n) = ((n : Int), 0) := by
  have : ∀ n : Fin 8, parseL (textL n.val) = ((n.val : Int), 0) := by decide +kernel
  exact this ⟨n, by omega⟩
/-- it is the letters of rights, or refused -/
theorem parse_or (l : List UInt8) : (∃ n : Nat, n ≤ 7 ∧ l = textL n ∧ parseL l = ((n : Int), 0)) ∨ ((∀ n : Nat, n ≤ 7 → l ≠ textL n) ∧ parseL l = (0, 10)) := by
  by_cases h : ∃ n : Nat, n ≤ 7 ∧ l = textL n
  · obtain ⟨n, hn, rfl⟩ := h
    exact .inl ⟨n, hn, rfl, parse_text n hn⟩
  · refine .inr ⟨fun n hn e => h ⟨n, hn, e⟩, ?_⟩
    unfold parseL
    rw [if_neg (show ¬ l = [45] from fun e => h ⟨0, by omega, e⟩)]
    by_cases c : (ateL l).2 ≠ [] ∨ l = []
    · rw [if_pos c]
    · obtain ⟨n, h1, h7, _, e⟩ := ateL_end (l := l) (Decidable.byContradiction fun k => c (.inl k)) (fun k => c (.inr k))
      exact absurd ⟨n, h7, e⟩ h
theorem parse_f {s : ByteArray} (hs : s.size ≤ 140737488351232) : rights_Parse.f s = some (parseL s.toList) := by
  unfold rights_Parse.f; rw [if_pos hs, parse_list]
theorem text_f (n : Nat) (h : n ≤ 7) : ∃ t : ByteArray, rights_Text.f (n : Int) = some (t, 0) ∧ t.toList = textL n ∧ t.size ≤ 3 := by
  have this : ∃ t : ByteArray, (rights_Text.f (n : Int) = some (t, 0) ∧ t.toList = textL n) := by
    match n, h with
    | 0, _ => exact ⟨⟨#[45]⟩, by kernel_rfl, by decide +kernel⟩
    | 1, _ => exact ⟨⟨#[114]⟩, by kernel_rfl, by decide +kernel⟩
    | 2, _ => exact ⟨⟨#[119]⟩, by kernel_rfl, by decide +kernel⟩
    | 3, _ => exact ⟨⟨#[114, 119]⟩, by kernel_rfl, by decide +kernel⟩
    | 4, _ => exact ⟨⟨#[103]⟩, by kernel_rfl, by decide +kernel⟩
    | 5, _ => exact ⟨⟨#[114, 103]⟩, by kernel_rfl, by decide +kernel⟩
    | 6, _ => exact ⟨⟨#[119, 103]⟩, by kernel_rfl, by decide +kernel⟩
    | 7, _ => exact ⟨⟨#[114, 119, 103]⟩, by kernel_rfl, by decide +kernel⟩
  obtain ⟨t, h1, h2⟩ := this
  refine ⟨t, h1, h2, ?_⟩
  rw [← toList_len, h2]
  have : ∀ n : Fin 8, (textL n.val).length ≤ 3 := by decide
  exact this ⟨n, by omega⟩
theorem text_not {r : Int} (h0 : -9223372036854775808 ≤ r) (h1 : r ≤ 9223372036854775807) (h : ¬ (0 ≤ r ∧ r ≤ 7)) : rights_Text.f r = some (⟨#[]⟩, 1) := by
  unfold rights_Text.f
  have : Go.Proofs.Ytdfooddmkglfgaa.Base.rights_Check.f r = some false := by
    have := check_is h0 h1
    rw [decide_eq_false h] at this; exact this
  rw [this]; rfl
theorem rtext_f (k n : Nat) (h : n ≤ 7) : ∃ t : ByteArray, donjonref04_Text.f (k + 1) (n : Int) = some (t, 0) ∧ t.toList = textL n := by
  match n, h with
  | 0, _ => exact ⟨⟨#[45]⟩, by kernel_rfl, by decide +kernel⟩
  | 1, _ => exact ⟨⟨#[114]⟩, by kernel_rfl, by decide +kernel⟩
  | 2, _ => exact ⟨⟨#[119]⟩, by kernel_rfl, by decide +kernel⟩
  | 3, _ => exact ⟨⟨#[114, 119]⟩, by kernel_rfl, by decide +kernel⟩
  | 4, _ => exact ⟨⟨#[103]⟩, by kernel_rfl, by decide +kernel⟩
  | 5, _ => exact ⟨⟨#[114, 103]⟩, by kernel_rfl, by decide +kernel⟩
  | 6, _ => exact ⟨⟨#[119, 103]⟩, by kernel_rfl, by decide +kernel⟩
  | 7, _ => exact ⟨⟨#[114, 119, 103]⟩, by kernel_rfl, by decide +kernel⟩
theorem textL_inj {a b : Nat} (ha : a ≤ 7) (hb : b ≤ 7) (h : textL a = textL b) : a = b := by
  have : ∀ a b : Fin 8, textL a.val = textL b.val → a.val = b.val := by decide +kernel
  exact this ⟨a, by omega⟩ ⟨b, by omega⟩ h
theorem rparse_yes {s : ByteArray} {n : Nat} (hn : n ≤ 7) (e : s.toList = textL n) (d : Nat) : ∀ (i k : Nat), i + d = n → d + 1 < k → donjonref04_Parse.l0 k s i = some ((n : Int), 0) := by
  induction d with
  | zero =>
    intro i k hi hk
    obtain ⟨k, rfl⟩ : ∃ m, k = m + 2 := ⟨k - 2, by omega⟩
    simp only [donjonref04_Parse.l0]
    obtain ⟨t, h1, h2⟩ := rtext_f k i (by omega)
    rw [if_pos (by omega), h1, Option.bind_some]
    simp only []
    rw [if_pos (by rw [h2, e, show i = n from by omega]), show i = n from by omega]
  | succ d ih =>
    intro i k hi hk
    obtain ⟨k, rfl⟩ : ∃ m, k = m + 2 := ⟨k - 2, by omega⟩
    simp only [donjonref04_Parse.l0]
    obtain ⟨t, h1, h2⟩ := rtext_f k i (by omega)
    rw [if_pos (by omega), h1, Option.bind_some]
    simp only []
    rw [if_neg (by rw [h2, e]; intro c; have := textL_inj (by omega) (by omega) c; omega), w64 (by omega) (by omega), show (i : Int) + 1 = ((i + 1 : Nat) : Int) from by omega]
    exact ih (i + 1) (k + 1) (by omega) (by omega)
theorem rparse_not {s : ByteArray} (e : ∀ n : Nat, n ≤ 7 → s.toList ≠ textL n) (d : Nat) : ∀ (i k : Nat), i + d = 8 → d + 1 < k → donjonref04_Parse.l0 k s i = some (0, 10) := by
  induction d with
  | zero =>
    intro i k hi hk
    obtain ⟨k, rfl⟩ : ∃ m, k = m + 2 := ⟨k - 2, by omega⟩
    simp only [donjonref04_Parse.l0]
    rw [if_neg (by omega)]
  | succ d ih =>
    intro i k hi hk
    obtain ⟨k, rfl⟩ : ∃ m, k = m + 2 := ⟨k - 2, by omega⟩
    simp only [donjonref04_Parse.l0]
    obtain ⟨t, h1, h2⟩ := rtext_f k i (by omega)
    rw [if_pos (by omega), h1, Option.bind_some]
    simp only []
    rw [if_neg (by rw [h2]; exact fun c => e i (by omega) c.symm), w64 (by omega) (by omega), show (i : Int) + 1 = ((i + 1 : Nat) : Int) from by omega]
    exact ih (i + 1) (k + 1) (by omega) (by omega)
theorem rtext_not {r : Int} (h : ¬ (0 ≤ r ∧ r ≤ 7)) (k : Nat) : donjonref04_Text.f k r = some (⟨#[]⟩, 1) := by
  unfold donjonref04_Text.f donjonref04_Check.f
  by_cases c : r ≥ 0
  · rw [if_pos c, decide_eq_false (by omega)]; rfl
  · rw [if_neg c]; rfl
theorem writes_all (r : Int) (s : ByteArray) (h0 : -9223372036854775808 ≤ r) (h1 : r ≤ 9223372036854775807) (hs : s.size ≤ 140737488351232) : donjonlaw04_RightsWrites.f 30 r s = some true := by
  have P : ∃ a b, rights_Parse.f s = some (a, b) ∧ donjonref04_Parse.f 30 s = some (a, b) := by
    rw [parse_f hs]
    rcases parse_or s.toList with ⟨n, hn, e, p⟩ | ⟨e, p⟩
    · exact ⟨_, _, by rw [p], rparse_yes hn e n 0 30 (by omega) (by omega)⟩
    · exact ⟨_, _, by rw [p], rparse_not e 8 0 30 (by omega) (by omega)⟩
  have T : ∃ a b c, rights_Text.f r = some (a, c) ∧ donjonref04_Text.f 30 r = some (b, c) ∧ a.toList = b.toList := by
    by_cases h : 0 ≤ r ∧ r ≤ 7
    · obtain ⟨n, rfl⟩ : ∃ n : Nat, r = n := ⟨r.toNat, by omega⟩
      obtain ⟨t, e1, e2, _⟩ := text_f n (by omega)
      obtain ⟨u, f1, f2⟩ := rtext_f 29 n (by omega)
      exact ⟨_, _, _, e1, f1, by rw [e2, f2]⟩
    · exact ⟨_, _, _, text_not h0 h1 h, rtext_not h 30, rfl⟩
  obtain ⟨a, b, p1, p2⟩ := P
  obtain ⟨x, y, z, t1, t2, t3⟩ := T
  unfold donjonlaw04_RightsWrites.f
  rw [t1, t2, p1, p2, Option.bind_some, Option.bind_some, Option.bind_some, Option.bind_some]
  simp only []
  rw [if_pos t3, if_pos trivial, if_pos trivial]; simp
theorem RightsWrites.walk (r : Int) (s : ByteArray) (w : World) (w0 : (Lit.int .i64 r).wf = true) (w1 : s.size ≤ 140737488351232) :
    Calls Try.prog 4 #[.int .i64 r, .string s] w fun e w' => e = .returned (.bool true) ∧ Below w.heap.size w w' := by
  obtain ⟨a, b⟩ := wi w0
  exact (donjonlaw04_RightsWrites.calls 30 r s true w (writes_all r s a b w1)).mono fun _ _ h => h
end Go.Proofs.Ytdfooddmkglfgaa.Pure
