/- The plain law of TokenPrints: the reference prints what the plain functions say. For every two lists of tokens. -/
import Derived.Test.YtlnoadnejefmoaaPureTokenBack
set_option linter.unusedVariables false
set_option linter.unusedSimpArgs false
namespace Go.Proofs.Ytlnoadnejefmoaa.L11
open Go.RowKit Go.Proofs.YtlnoadnejefmoaaW.PrintWords Go.Proofs.YtlnoadnejefmoaaW.PrintLast

theorem bt_nat (s : ByteArray) (i : Nat) (h : i < s.size) : bt s (i : Int) = (s[i].toNat : Int) := by rw [← bt_at s (i : Int) (by simpa using h)]; simp
theorem wrapN (i : Nat) (h : i < 9223372036854775807) : wrap64 ((i : Int) + 1) = ((i + 1 : Nat) : Int) := by unfold wrap64; omega
theorem letter_is (c : Int) : codesearchref11_Letter.f c = some (isLetterI c) := by
  unfold codesearchref11_Letter.f isLetterI
  by_cases h1 : c ≥ 65
  · by_cases h2 : c ≤ 90
    · rw [if_pos h1, if_pos h2]; congr 1; simp; omega
    · by_cases h3 : c ≥ 97
      · by_cases h4 : c ≤ 122
        · rw [if_pos h1, if_neg h2, if_pos h3, if_pos h4]; congr 1; simp; omega
        · rw [if_pos h1, if_neg h2, if_pos h3, if_neg h4]; congr 1; rw [Bool.eq_iff_iff]; simp; omega
      · rw [if_pos h1, if_neg h2, if_neg h3]; congr 1; rw [Bool.eq_iff_iff]; simp; omega
  · rw [if_neg h1, if_neg (by omega)]; congr 1; rw [Bool.eq_iff_iff]; simp; omega
theorem digit_is (c : Int) : codesearchref11_Digit.f c = some (isDigitI c) := by
  unfold codesearchref11_Digit.f isDigitI
  by_cases h1 : c ≥ 48
  · rw [if_pos h1, decide_eq_true (show 48 ≤ c from h1), Bool.true_and]
  · rw [if_neg h1, decide_eq_false (show ¬ 48 ≤ c by omega), Bool.false_and]

theorem word_loop (s : ByteArray) (hs : s.size ≤ 1000000000) : ∀ (d k p : Nat), p + d = s.size → d < k → codesearchref11_word.l0 k s p = some ((p + wordLen (s.data.toList.drop p) : Nat) : Int) := by
  intro d
  induction d with
  | zero =>
    intro k p hp hk
    obtain ⟨k, rfl⟩ : ∃ m, k = m + 1 := ⟨k - 1, by omega⟩
    simp only [codesearchref11_word.l0]
    rw [if_neg (by omega), List.drop_eq_nil_of_le (by rw [len_data]; omega)]
    rfl
  | succ d ih =>
    intro k p hp hk
    obtain ⟨k, rfl⟩ : ∃ m, k = m + 1 := ⟨k - 1, by omega⟩
    simp only [codesearchref11_word.l0]
    have hlt : p < s.size := by omega
    rw [if_pos (by omega), if_pos (by omega), bt_nat s p hlt, letter_is, digit_is, byte_at s p hlt, wordLen_cons]
    simp only [Option.bind_some]
    have hgo : codesearchref11_word.l0 k s (wrap64 ((p : Int) + 1)) = some ((p + (wordLen (s.data.toList.drop (p + 1)) + 1) : Nat) : Int) := by
      rw [wrapN p (by omega), ih k (p + 1) (by omega) (by omega)]
      congr 1
      omega
    cases h1 : isLetterI s[p].toNat with
    | true => rw [if_pos rfl, if_pos (show isWordB s[p] = true by unfold isWordB; rw [h1]; rfl)]; exact hgo
    | false =>
      rw [if_neg (by simp)]
      cases h2 : isDigitI s[p].toNat with
      | true => rw [if_pos rfl, if_pos (show isWordB s[p] = true by unfold isWordB; rw [h1, h2]; rfl)]; exact hgo
      | false => rw [if_neg (by simp), if_neg (show ¬ isWordB s[p] = true by unfold isWordB; rw [h1, h2]; simp)]; rfl
theorem name_is (s : ByteArray) (k : Nat) (hk : 60 ≤ k) : codesearchref11_Name.f k s = some (shortL s.data.toList) := by
  unfold codesearchref11_Name.f shortL nameL
  rw [len_data]
  by_cases h0 : (s.size : Int) > 0
  · rw [if_pos h0]
    by_cases h1 : (s.size : Int) ≤ 24
    · have hw : codesearchref11_word.f k s 0 = some ((wordLen s.data.toList : Nat) : Int) := by
        have := word_loop s (by omega) s.size k 0 (by omega) (by omega)
        rw [List.drop_zero, Nat.zero_add] at this
        exact this
      rw [if_pos h1, if_pos (by omega), show bt s 0 = (s[0]'(by omega)).toNat from bt_nat s 0 (by omega), letter_is, hw]
      obtain ⟨t, ht⟩ := head_at s (by omega)
      simp only [Option.bind_some]
      rw [decide_eq_true (show s.size ≤ 24 by omega), Bool.and_true]
      generalize hc : s[0]'(by omega) = c at *
      have hkw : codesearchref11_Keyword.f s = some (isKwL s.data.toList) := rfl
      rw [hkw, ht]
      show _ = some (isLetterI c.toNat && wordLen (c :: t) == s.size && !isKwL (c :: t))
      rw [← ht]
      cases isLetterI c.toNat with
      | false => rfl
      | true =>
        rw [if_pos rfl]
        by_cases hq : ((wordLen s.data.toList : Nat) : Int) = (s.size : Int)
        · rw [if_pos hq]
          have : (wordLen s.data.toList == s.size) = true := by rw [beq_iff_eq]; omega
          rw [this]
          rfl
        · rw [if_neg hq]
          have : (wordLen s.data.toList == s.size) = false := by rw [beq_eq_false_iff_ne]; omega
          rw [this]
          rfl
    · rw [if_neg h1, decide_eq_false (by omega), Bool.and_false]
  · rw [if_neg h0, List.eq_nil_of_length_eq_zero (show s.data.toList.length = 0 by rw [len_data]; omega)]
    rfl

def intEnd (s : ByteArray) : Bool := decide (1 ≤ s.size) && decide (s.size ≤ 9) && (decide (s.size = 1) || bt s 0 != 48)
theorem digits_loop (s : ByteArray) (hs : s.size ≤ 1000000000) : ∀ (d k p : Nat), p + d = s.size → d < k → codesearchref11_digits.l0 k s p = some ((s.data.toList.drop p).all isDigitB && intEnd s) := by
  intro d
  induction d with
  | zero =>
    intro k p hp hk
    obtain ⟨k, rfl⟩ : ∃ m, k = m + 1 := ⟨k - 1, by omega⟩
    simp only [codesearchref11_digits.l0]
    rw [if_neg (by omega), List.drop_eq_nil_of_le (by rw [len_data]; omega), List.all_nil, Bool.true_and]
    unfold intEnd
    by_cases h1 : (s.size : Int) ≥ 1
    · rw [if_pos h1, decide_eq_true (show 1 ≤ s.size by omega)]
      by_cases h2 : (s.size : Int) ≤ 9
      · rw [if_pos h2, decide_eq_true (show s.size ≤ 9 by omega)]
        by_cases h3 : (s.size : Int) = 1
        · rw [if_pos h3, decide_eq_true (show s.size = 1 by omega)]; rfl
        · rw [if_neg h3, decide_eq_false (show ¬ s.size = 1 by omega), if_pos (by omega)]; rfl
      · rw [if_neg h2, decide_eq_false (show ¬ s.size ≤ 9 by omega)]; rfl
    · rw [if_neg h1, decide_eq_false (show ¬ 1 ≤ s.size by omega)]; rfl
  | succ d ih =>
    intro k p hp hk
    obtain ⟨k, rfl⟩ : ∃ m, k = m + 1 := ⟨k - 1, by omega⟩
    simp only [codesearchref11_digits.l0]
    have hlt : p < s.size := by omega
    rw [if_pos (by omega), if_pos (by omega), bt_nat s p hlt, digit_is, byte_at s p hlt, List.all_cons]
    simp only [Option.bind_some]
    cases h1 : isDigitI s[p].toNat with
    | true =>
      rw [if_pos rfl, wrapN p (by omega), ih k (p + 1) (by omega) (by omega), show isDigitB s[p] = true from h1]
      rfl
    | false =>
      rw [if_neg (by simp), show isDigitB s[p] = false from h1]
      rfl
theorem takeWhile_len_all {α : Type} (p : α → Bool) : ∀ l : List α, (l.takeWhile p).length = l.length → l.all p = true
  | [], _ => rfl
  | a :: t, h => by
    rw [List.takeWhile_cons] at h
    cases hp : p a with
    | true =>
      rw [hp] at h
      rw [List.all_cons, hp, takeWhile_len_all p t (by simpa using h)]
      rfl
    | false => rw [hp] at h; simp at h
theorem all_takeWhile {α : Type} (p : α → Bool) : ∀ l : List α, l.all p = true → l.takeWhile p = l
  | [], _ => rfl
  | a :: t, h => by
    rw [List.all_cons, Bool.and_eq_true] at h
    rw [List.takeWhile_cons, h.1, all_takeWhile p t h.2]
    rfl
theorem intOk_all (s : ByteArray) : (s.data.toList.all isDigitB && intEnd s) = intOk s.data.toList := by
  rcases Nat.eq_zero_or_pos s.size with h0 | h0
  · rw [List.eq_nil_of_length_eq_zero (show s.data.toList.length = 0 by rw [len_data]; exact h0)]
    unfold intEnd intOk
    rw [decide_eq_false (show ¬ 1 ≤ s.size by omega)]
    rfl
  · obtain ⟨t, ht⟩ := head_at s h0
    have hl := len_data s
    have hb : bt s 0 = (s[0].toNat : Int) := bt_nat s 0 h0
    unfold intEnd
    rw [hb]
    generalize s[0] = c at *
    generalize s.data.toList = l at *
    subst ht
    show _ = (isDigitB c && decide ((intR (c :: t)).err = 0) && decide ((intR (c :: t)).text = c :: t))
    cases ha : (c :: t).all isDigitB with
    | true =>
      have hd : digLen (c :: t) = (c :: t).length := by unfold digLen; rw [all_takeWhile _ _ ha]
      rw [List.all_cons, Bool.and_eq_true] at ha
      rw [ha.1]
      unfold intR
      rw [hd, hl, List.head?_cons, decide_eq_true (show 1 ≤ s.size from h0)]
      have hq : ((some c == some 48) : Bool) = ((c.toNat : Int) == 48) := by
        rw [Bool.eq_iff_iff, beq_iff_eq, beq_iff_eq, Option.some.injEq]
        constructor
        · intro e; rw [e]; rfl
        · intro e; exact UInt8.toNat_inj.1 (by show c.toNat = 48; omega)
      rw [hq]
      by_cases h9 : s.size ≤ 9
      · rw [decide_eq_true h9]
        by_cases h1 : s.size = 1
        · rw [decide_eq_true h1, decide_eq_false (show ¬ 1 < s.size by omega), Bool.and_false, if_neg (by simp), if_neg (by omega)]
          simp [← hl]
        · rw [decide_eq_false h1, decide_eq_true (show 1 < s.size by omega), Bool.and_true, Bool.false_or]
          cases h48 : ((c.toNat : Int) == 48) with
          | true =>
            have : ((c.toNat : Int) != 48) = false := by rw [bne, h48]; rfl
            rw [this, if_pos (by rfl)]
            rfl
          | false =>
            rw [if_neg (by simp), if_neg (by omega)]
            have : ((c.toNat : Int) != 48) = true := by rw [bne, h48]; rfl
            rw [this]
            simp [← hl]
      · rw [decide_eq_false h9, Bool.and_false, Bool.false_and, Bool.and_false]
        by_cases hx : ((c.toNat : Int) == 48 && decide (1 < s.size)) = true
        · rw [if_pos hx]; rfl
        · rw [if_neg hx, if_pos (by omega)]; rfl
    | false =>
      rw [Bool.false_and]
      have hd : digLen (c :: t) ≠ (c :: t).length := fun e => by
        have := takeWhile_len_all isDigitB (c :: t) e
        rw [ha] at this
        cases this
      have hle := digLen_le (c :: t)
      unfold intR
      split
      · simp [RT.bad]
      · split
        · simp [RT.bad]
        · symm
          rw [Bool.and_eq_false_iff]
          right
          rw [decide_eq_false_iff_not]
          intro e
          have := congrArg List.length e
          rw [List.length_take] at this
          omega
theorem digits_is (s : ByteArray) (hs : s.size ≤ 100) (k : Nat) (hk : 200 ≤ k) : codesearchref11_digits.f k s = some (intOk s.data.toList) := by
  have := digits_loop s (by omega) s.size k 0 (by omega) (by omega)
  rw [List.drop_zero, intOk_all] at this
  exact this

def goodBB (c : UInt8) : Bool := decide (c.toNat = 10) || (decide (32 ≤ c.toNat) && decide (c.toNat ≤ 126))
theorem contents_loop (s : ByteArray) (hs : s.size ≤ 1000000000) : ∀ (d k p : Nat), p + d = s.size → d < k → codesearchref11_contents.l0 k s p = some ((s.data.toList.drop p).all goodBB && decide (s.size ≤ 60)) := by
  intro d
  induction d with
  | zero =>
    intro k p hp hk
    obtain ⟨k, rfl⟩ : ∃ m, k = m + 1 := ⟨k - 1, by omega⟩
    simp only [codesearchref11_contents.l0]
    rw [if_neg (by omega), List.drop_eq_nil_of_le (by rw [len_data]; omega), List.all_nil, Bool.true_and]
    congr 1
    rw [Bool.eq_iff_iff, decide_eq_true_eq, decide_eq_true_eq]
    omega
  | succ d ih =>
    intro k p hp hk
    obtain ⟨k, rfl⟩ : ∃ m, k = m + 1 := ⟨k - 1, by omega⟩
    simp only [codesearchref11_contents.l0]
    have hlt : p < s.size := by omega
    rw [if_pos (by omega), if_pos (by omega), bt_nat s p hlt, byte_at s p hlt, List.all_cons, wrapN p (by omega), ih k (p + 1) (by omega) (by omega)]
    by_cases h1 : (s[p].toNat : Int) = 10
    · rw [if_pos h1, show goodBB s[p] = true by unfold goodBB; rw [decide_eq_true (by omega)]; rfl, Bool.true_and]
    · rw [if_neg h1]
      by_cases h2 : (s[p].toNat : Int) < 32
      · rw [if_pos h2, show goodBB s[p] = false by unfold goodBB; rw [decide_eq_false (by omega), decide_eq_false (by omega)]; rfl, Bool.false_and, Bool.false_and]
      · rw [if_neg h2]
        by_cases h3 : (s[p].toNat : Int) > 126
        · rw [if_pos h3, show goodBB s[p] = false by unfold goodBB; rw [decide_eq_false (by omega), decide_eq_true (by omega), decide_eq_false (by omega)]; rfl, Bool.false_and, Bool.false_and]
        · rw [if_neg h3, show goodBB s[p] = true by unfold goodBB; rw [decide_eq_false (by omega), decide_eq_true (by omega), decide_eq_true (by omega)]; rfl, Bool.true_and]
theorem escO_isSome : ∀ l : List UInt8, (escO l).isSome = l.all goodBB
  | [] => rfl
  | c :: t => by
    have ih := escO_isSome t
    rw [List.all_cons, ← ih]
    by_cases h1 : c.toNat = 34 ∨ c.toNat = 92
    · rw [escO_esc c t h1, Option.isSome_map, show goodBB c = true by unfold goodBB; rw [decide_eq_false (by omega), decide_eq_true (by omega), decide_eq_true (by omega)]; rfl, Bool.true_and]
    · by_cases h2 : c.toNat = 10
      · rw [escO_n c t h2, Option.isSome_map, show goodBB c = true by unfold goodBB; rw [decide_eq_true h2]; rfl, Bool.true_and]
      · by_cases h3 : c.toNat < 32 ∨ 126 < c.toNat
        · rw [escO_no c t h2 h3]
          have : goodBB c = false := by
            unfold goodBB
            rw [decide_eq_false h2, Bool.false_or]
            rcases h3 with h3 | h3
            · rw [decide_eq_false (by omega)]; rfl
            · rw [decide_eq_false (show ¬ c.toNat ≤ 126 by omega), Bool.and_false]
          rw [this]
          rfl
        · rw [escO_ch c t (by omega) (by omega) (by omega) (by omega), Option.isSome_map, show goodBB c = true by unfold goodBB; rw [decide_eq_false (by omega), decide_eq_true (by omega), decide_eq_true (by omega)]; rfl, Bool.true_and]
theorem contents_is (s : ByteArray) (hs : s.size ≤ 100) (k : Nat) (hk : 210 ≤ k) : codesearchref11_contents.f k s = some (quoteO s.data.toList).isSome := by
  have := contents_loop s (by omega) s.size k 0 (by omega) (by omega)
  rw [List.drop_zero, ← escO_isSome] at this
  refine this.trans ?_
  unfold quoteO
  rw [len_data]
  by_cases h : 60 < s.size
  · rw [if_pos h, decide_eq_false (show ¬ s.size ≤ 60 by omega), Bool.and_false]; rfl
  · rw [if_neg h, decide_eq_true (show s.size ≤ 60 by omega), Bool.and_true, Option.isSome_map]

def ints (l : List UInt8) : List Int := l.map fun c => (c.toNat : Int)
theorem ints_app (a b : List UInt8) : ints (a ++ b) = ints a ++ ints b := List.map_append ..
theorem str_ints (l : List UInt8) : strOfNums (ints l) = tx l := by
  unfold strOfNums ints tx
  rw [List.map_map]
  congr 2
  conv => rhs; rw [← List.map_id l]
  apply List.map_congr_left
  intro c _
  simp
theorem quote_loop (s : ByteArray) (hs : s.size ≤ 100) : ∀ (d k p : Nat) (acc e : List UInt8), p + d = s.size → 2 * d < k → acc.length ≤ 2 * p + 1 → escO (s.data.toList.drop p) = some e →
    codesearchref11_Quote.l0 k s (ints acc) p = some (tx (acc ++ (e ++ [34]))) := by
  intro d
  induction d with
  | zero =>
    intro k p acc e hp hk ha he
    obtain ⟨k, rfl⟩ : ∃ m, k = m + 1 := ⟨k - 1, by omega⟩
    simp only [codesearchref11_Quote.l0]
    rw [List.drop_eq_nil_of_le (by rw [len_data]; omega)] at he
    obtain rfl : [] = e := by simpa [escO] using he
    rw [if_neg (by omega), if_pos (by simp [ints]; omega), show ([34] : List Int) = ints [34] from rfl, ← ints_app, str_ints]
    rfl
  | succ d ih =>
    intro k p acc e hp hk ha he
    obtain ⟨k, rfl⟩ : ∃ m, k = m + 2 := ⟨k - 2, by omega⟩
    have hlt : p < s.size := by omega
    rw [byte_at s p hlt] at he
    simp only [codesearchref11_Quote.l0]
    rw [if_pos (by omega), if_pos (by omega), bt_nat s p hlt]
    have hstep : ∀ (u e' : List UInt8), u.length ≤ 2 → escO (s.data.toList.drop (p + 1)) = some e' → codesearchref11_Quote.l0 k s (ints acc ++ ints u) (wrap64 ((p : Int) + 1)) = some (tx (acc ++ (u ++ e' ++ [34]))) := by
      intro u e' hu h
      rw [wrapN p (by omega), ← ints_app, ih k (p + 1) (acc ++ u) e' (by omega) (by omega) (by rw [List.length_append]; omega) h]
      simp only [List.append_assoc]
    have hlen : (ints acc).length + 2 < 140737488355328 := by unfold ints; rw [List.length_map]; omega
    have hlen1 : (ints acc).length < 140737488355328 := by omega
    by_cases h1 : s[p].toNat = 34 ∨ s[p].toNat = 92
    · rw [escO_esc _ _ h1] at he
      obtain ⟨e', he', rfl⟩ := Option.map_eq_some_iff.1 he
      have hj : codesearchref11_Quote.j1 (k + 1) s (ints acc) p true = some (tx (acc ++ (92 :: s[p] :: e' ++ [34]))) := by
        simp only [codesearchref11_Quote.j1]
        rw [if_pos trivial, if_pos (by omega), if_pos (by omega), bt_nat s p hlt]
        simp only [Option.bind_some]
        rw [if_pos (by simpa using hlen)]
        exact hstep [92, s[p]] e' (by simp) he'
      rcases h1 with h1 | h1
      · rw [if_pos (by omega)]; exact hj
      · rw [if_neg (by omega), show ((s[p].toNat : Int) == 92) = true by rw [h1]; rfl]; exact hj
    · rw [if_neg (by omega), show ((s[p].toNat : Int) == 92) = false by rw [beq_eq_false_iff_ne]; omega]
      simp only [codesearchref11_Quote.j1]
      rw [if_neg (by simp), if_pos (by omega), if_pos (by omega), bt_nat s p hlt]
      by_cases h2 : s[p].toNat = 10
      · rw [escO_n _ _ h2] at he
        obtain ⟨e', he', rfl⟩ := Option.map_eq_some_iff.1 he
        rw [if_pos (by omega)]
        simp only [Option.bind_some]
        rw [if_pos (by simpa using hlen)]
        exact hstep [92, 110] e' (by simp) he'
      · by_cases h3 : s[p].toNat < 32 ∨ 126 < s[p].toNat
        · rw [escO_no _ _ h2 h3] at he; cases he
        · rw [escO_ch _ _ (by omega) (by omega) (by omega) (by omega)] at he
          obtain ⟨e', he', rfl⟩ := Option.map_eq_some_iff.1 he
          rw [if_neg (by omega), if_pos hlen1]
          exact hstep [s[p]] e' (by simp) he'
theorem quote_is (s : ByteArray) (hs : s.size ≤ 100) (k : Nat) (hk : 210 ≤ k) (o : List UInt8) (h : quoteO s.data.toList = some o) : codesearchref11_Quote.f k s = some (tx o) := by
  unfold quoteO at h
  split at h
  · cases h
  · obtain ⟨e, he, rfl⟩ := Option.map_eq_some_iff.1 h
    exact quote_loop s hs s.size k 0 [34] e (by omega) (by omega) (by simp) (by rw [List.drop_zero]; exact he)

theorem isSome_if {α : Type} (c : Prop) [Decidable c] (a : α) : (if c then some a else none : Option α).isSome = decide c := by
  by_cases h : c
  · rw [if_pos h, decide_eq_true h]; rfl
  · rw [if_neg h, decide_eq_false h]; rfl
theorem right_is (kd : Int) (s : ByteArray) (a b : Int) (hs : s.size ≤ 100) (k : Nat) (hk : 250 ≤ k) : codesearchref11_Right.f k kd s a b = some (textO kd s.data.toList).isSome := by
  obtain ⟨k, rfl⟩ : ∃ m, k = m + 1 := ⟨k - 1, by omega⟩
  have hj : ∀ c, codesearchref11_Right.j0 (k + 1) c kd s a b = if c = true then some (shortL s.data.toList) else if kd = 2 then some (isKwL s.data.toList) else if kd = 3 then some (intOk s.data.toList) else if kd = 4 then some (quoteO s.data.toList).isSome else if kd = 5 then some (isMarkL s.data.toList) else some false := by
    intro c
    simp only [codesearchref11_Right.j0]
    rw [name_is s k (by omega), digits_is s hs k (by omega), contents_is s hs k (by omega)]
    rfl
  unfold codesearchref11_Right.f textO
  by_cases h1 : kd = 1
  · rw [if_pos h1, if_pos h1, hj, if_pos rfl, isSome_if, Bool.decide_eq_true]
  rw [if_neg h1, if_neg h1]
  by_cases h6 : kd = 6
  · rw [if_pos h6, hj, if_pos rfl, if_neg (by omega), if_neg (by omega), if_neg (by omega), if_neg (by omega), if_pos h6, isSome_if, Bool.decide_eq_true]
  rw [if_neg h6, hj]
  by_cases h7 : kd = 7
  · rw [if_pos (by rw [h7]; rfl), if_neg (by omega), if_neg (by omega), if_neg (by omega), if_neg (by omega), if_neg h6, if_pos h7, isSome_if, Bool.decide_eq_true]
  rw [if_neg (by rw [beq_iff_eq]; exact h7)]
  by_cases h2 : kd = 2
  · rw [if_pos h2, if_pos h2, isSome_if, Bool.decide_eq_true]
  rw [if_neg h2, if_neg h2]
  by_cases h3 : kd = 3
  · rw [if_pos h3, if_pos h3, isSome_if, Bool.decide_eq_true]
  rw [if_neg h3, if_neg h3]
  by_cases h4 : kd = 4
  · rw [if_pos h4, if_pos h4]
  rw [if_neg h4, if_neg h4]
  by_cases h5 : kd = 5
  · rw [if_pos h5, if_pos h5, isSome_if, Bool.decide_eq_true]
  rw [if_neg h5, if_neg h5, if_neg h6, if_neg h7]
  rfl

theorem tailL_cons (o : List UInt8) (os : List (List UInt8)) : tailL (o :: os) = 32 :: o ++ tailL os := by
  show 32 :: joinL (o :: os) = _
  rw [joinL_cons]
  rfl
def restP (first : Bool) (os : List (List UInt8)) : List UInt8 := if first then joinL os else tailL os
theorem print_loop (l : List S33) (hl : l.length ≤ 700) (hb : ∀ x ∈ l, x.f1.size ≤ 100) : ∀ (d k i : Nat) (acc : List UInt8), i + d = l.length → 2 * d + 300 ≤ k → acc.length ≤ 123 * i →
    codesearchref11_Print.l0 k l (tx acc) i = some (match outs ((l.drop i).map toT) with | none => ((⟨#[]⟩ : ByteArray), 1) | some os => (tx (acc ++ restP (decide (i = 0)) os), 0)) := by
  intro d
  induction d with
  | zero =>
    intro k i acc hi hk ha
    obtain ⟨k, rfl⟩ : ∃ m, k = m + 1 := ⟨k - 1, by omega⟩
    simp only [codesearchref11_Print.l0]
    rw [if_neg (by omega), List.drop_eq_nil_of_le (by omega)]
    show _ = some (tx (acc ++ restP (decide (i = 0)) []), (0 : Int))
    have : restP (decide (i = 0)) [] = [] := by unfold restP; split <;> rfl
    rw [this, List.append_nil]
  | succ d ih =>
    intro k i acc hi hk ha
    obtain ⟨k, rfl⟩ : ∃ m, k = m + 2 := ⟨k - 2, by omega⟩
    simp only [codesearchref11_Print.l0]
    have hlt : i < l.length := by omega
    have hx := hb l[i] (List.getElem_mem hlt)
    rw [if_pos (by omega), if_pos (by omega), rd_get l i hlt, right_is _ _ _ _ hx _ (by omega), List.drop_eq_getElem_cons hlt, List.map_cons]
    simp only [Option.bind_some]
    have hot : (toT l[i]).out = textO l[i].f0 l[i].f1.data.toList := rfl
    cases ho : textO l[i].f0 l[i].f1.data.toList with
    | none =>
      rw [outs_cons_none _ _ (hot.trans ho)]
      rfl
    | some o =>
      have hol := textO_len _ _ _ ho
      rw [outs_cons_some _ _ _ (hot.trans ho), if_pos (show (some o).isSome = true from rfl)]
      have hj : ∀ acc2 : List UInt8, acc2.length ≤ 123 * i + 1 → codesearchref11_Print.j1 (k + 1) l (tx acc2) i = some (match outs ((l.drop (i + 1)).map toT) with | none => ((⟨#[]⟩ : ByteArray), 1) | some os => (tx (acc2 ++ o ++ tailL os), 0)) := by
        intro acc2 h2
        have hgo : ∀ z : ByteArray, z = tx (acc2 ++ o) → codesearchref11_Print.l0 k l z (wrap64 ((i : Int) + 1)) = some (match outs ((l.drop (i + 1)).map toT) with | none => ((⟨#[]⟩ : ByteArray), 1) | some os => (tx (acc2 ++ o ++ tailL os), 0)) := by
          rintro z rfl
          rw [wrapN i (by omega), ih k (i + 1) (acc2 ++ o) (by omega) (by omega) (by rw [List.length_append]; omega), decide_eq_false (show ¬ i + 1 = 0 by omega)]
          rfl
        have happ : ∀ b : ByteArray, tx acc2 ++ b = tx (acc2 ++ b.data.toList) := fun b => ba_ext (by simp [tx])
        have hsz : (tx acc2).size = acc2.length := tx_size acc2
        simp only [codesearchref11_Print.j1]
        rw [if_pos (by omega), if_pos (by omega), rd_get l i hlt]
        by_cases h4 : l[i].f0 = 4
        · rw [if_pos h4]
          rw [h4] at ho
          have hq : quoteO l[i].f1.data.toList = some o := ho
          rw [quote_is _ hx k (by omega) o hq]
          simp only [Option.bind_some]
          rw [if_pos (by rw [hsz, tx_size]; omega)]
          exact hgo _ (by rw [happ, tx_list])
        rw [if_neg h4]
        by_cases h6 : l[i].f0 = 6
        · rw [if_pos h6, if_pos (by rw [hsz]; omega), if_pos (by rw [happ, tx_size]; simp; omega)]
          rw [h6] at ho
          have : o = 36 :: l[i].f1.data.toList := by
            unfold textO at ho
            simp only [Int.reduceEq, if_false, if_true] at ho
            split at ho
            · exact (Option.some.inj ho).symm
            · cases ho
          subst this
          exact hgo _ (by rw [happ]; apply ba_ext; simp [tx])
        rw [if_neg h6]
        by_cases h7 : l[i].f0 = 7
        · rw [if_pos h7, if_pos (by rw [hsz]; omega), if_pos (by rw [happ, tx_size]; simp; omega)]
          rw [h7] at ho
          have : o = 36 :: 36 :: l[i].f1.data.toList := by
            unfold textO at ho
            simp only [Int.reduceEq, if_false, if_true] at ho
            split at ho
            · exact (Option.some.inj ho).symm
            · cases ho
          subst this
          exact hgo _ (by rw [happ]; apply ba_ext; simp [tx])
        rw [if_neg h7, if_pos (by rw [hsz]; omega)]
        have : o = l[i].f1.data.toList := by
          unfold textO at ho
          rw [if_neg h4, if_neg h6, if_neg h7] at ho
          split at ho
          · split at ho
            · exact (Option.some.inj ho).symm
            · cases ho
          split at ho
          · split at ho
            · exact (Option.some.inj ho).symm
            · cases ho
          split at ho
          · split at ho
            · exact (Option.some.inj ho).symm
            · cases ho
          split at ho
          · split at ho
            · exact (Option.some.inj ho).symm
            · cases ho
          · cases ho
        subst this
        exact hgo _ (happ _)
      by_cases h0 : i = 0
      · subst h0
        rw [if_neg (by decide), hj acc (by omega), decide_eq_true rfl]
        cases outs ((l.drop (0 + 1)).map toT) with
        | none => rfl
        | some os =>
          show some (tx (acc ++ o ++ tailL os), (0 : Int)) = some (tx (acc ++ joinL (o :: os)), 0)
          rw [joinL_cons, List.append_assoc]
      · rw [if_pos (by omega), if_pos (by rw [tx_size]; omega), show tx acc ++ (⟨#[32]⟩ : ByteArray) = tx (acc ++ [32]) from ba_ext (by simp [tx]), hj (acc ++ [32]) (by simp; omega), decide_eq_false h0]
        cases outs ((l.drop (i + 1)).map toT) with
        | none => rfl
        | some os =>
          show some (tx (acc ++ [32] ++ o ++ tailL os), (0 : Int)) = some (tx (acc ++ tailL (o :: os)), 0)
          rw [tailL_cons]
          simp
theorem print_is (l : List S33) (hl : l.length ≤ 700) (hb : ∀ x ∈ l, x.f1.size ≤ 100) (k : Nat) (hk : 1700 ≤ k) : codesearchref11_Print.f k l = some (printF (l.map toT)) := by
  have := print_loop l hl hb l.length k 0 [] (by omega) (by omega) (by simp)
  rw [List.drop_zero] at this
  refine this.trans ?_
  unfold printF printO
  cases outs (l.map toT) with
  | none => rfl
  | some os => rfl
theorem prints_loop (l : List S33) (hl : l.length ≤ 700) : ∀ (d k i : Nat), i + d = l.length → d < k → codesearchlaw11_TokenPrints.l0 k l i = some true := by
  intro d
  induction d with
  | zero =>
    intro k i hi hk
    obtain ⟨k, rfl⟩ : ∃ m, k = m + 1 := ⟨k - 1, by omega⟩
    simp only [codesearchlaw11_TokenPrints.l0]
    rw [if_neg (by omega)]
  | succ d ih =>
    intro k i hi hk
    obtain ⟨k, rfl⟩ : ∃ m, k = m + 1 := ⟨k - 1, by omega⟩
    simp only [codesearchlaw11_TokenPrints.l0]
    rw [if_pos (by omega), if_pos (by omega)]
    unfold token_Keyword.f codesearchref11_Keyword.f
    simp only [Option.bind_some]
    rw [if_neg (by simp), wrapN i (by omega)]
    exact ih k (i + 1) (by omega) (by omega)
theorem prints_holds (l l1 : List S33) : codesearchlaw11_TokenPrints.f 2500 l l1 = some true := by
  unfold codesearchlaw11_TokenPrints.f
  rw [show codesearchlaw11_alive.f = some true from rfl]
  simp only [Option.bind_some, if_true]
  rw [bounded_is l 2500 (by omega), bounded_is l1 2500 (by omega)]
  simp only [Option.bind_some]
  have htrue : codesearchlaw11_TokenPrints.j0 2500 l l1 true = some true := rfl
  cases hb : boundB l with
  | false => exact htrue
  | true =>
    rw [if_pos rfl]
    cases hb1 : boundB l1 with
    | false => exact htrue
    | true =>
      obtain ⟨h1, h2⟩ := boundB_parts hb
      rw [show (2500 : Nat) = 2499 + 1 from rfl]
      simp only [codesearchlaw11_TokenPrints.j0]
      have e1 : token_Print.f l = some (printF (l.map toT)) := by unfold token_Print.f; rw [if_pos (short_of_bound hb)]
      rw [if_neg (by simp), e1, print_is l h1 h2 2499 (by omega)]
      simp only [Option.bind_some, if_true]
      unfold token_Same.f codesearchref11_Same.f
      simp only [Option.bind_some]
      rw [if_neg (by simp), show sameL (l.map toT) (l.map toT) = true from by unfold sameL; simp]
      rw [show (2499 : Nat) = 2498 + 1 from rfl]
      simp only [codesearchlaw11_TokenPrints.j1]
      rw [if_neg (by simp)]
      exact prints_loop l h1 l.length 2498 0 (by omega) (by omega)
end Go.Proofs.Ytlnoadnejefmoaa.L11
