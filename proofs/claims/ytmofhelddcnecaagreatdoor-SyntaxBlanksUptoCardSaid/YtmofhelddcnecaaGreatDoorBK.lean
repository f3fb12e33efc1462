/- The tokens of both. -/
import Derived.Test.YtmofhelddcnecaaGreatDoorBTa
import Derived.Test.YtmofhelddcnecaaGreatDoorB3
import Derived.Test.YtmofhelddcnecaaGreatDoorBTb
set_option linter.unusedVariables false
set_option linter.unusedSimpArgs false
namespace Go.Ev
open PV
theorem at_end {s : ByteArray} {p : Nat} (h : s.data.toList.drop p = []) (hp : p ≤ s.size) : p = s.size := by
  have := List.drop_eq_nil_iff.1 h
  rw [len_data] at this
  omega
theorem at_cons {s : ByteArray} {p : Nat} {c : UInt8} {t : List UInt8} (h : s.data.toList.drop p = c :: t) : p < s.size ∧ byteAt s (p : Int) = (c.toNat : Int) ∧ s.data.toList.drop (p + 1) = t := by
  have hp : p < s.size := by
    apply Classical.byContradiction
    intro hn
    rw [List.drop_eq_nil_of_le (by rw [len_data]; omega)] at h
    cases h
  have e := byte_at s p hp
  rw [h] at e
  injection e with e1 e2
  refine ⟨hp, ?_, e2.symm⟩
  unfold byteAt
  rw [e1]
  simp only [Int.toNat_natCast]
  have : s.data.getD p 0 = s[p] := by
    rw [Array.getD_eq_getD_getElem?, Array.getElem?_eq_getElem (show p < s.data.size from hp)]
    rfl
  rw [this]
theorem b2 {a b : Prop} [Decidable a] [Decidable b] (h : a) (h' : b) : (decide a && decide b) = true := by simp [h, h']
theorem b3 {a b c : Prop} [Decidable a] [Decidable b] [Decidable c] (h : a) (h' : b) (h'' : c) : (decide a && (decide b && decide c)) = true := by simp [h, h', h'']
section
variable {n k : Nat} {sg : List (List PV)} {K : Res → Out}
theorem digit_spec (hk : 1 ≤ k) (c : Int) : callW (En n) k 146 [.int .u8 c] sg K = K ⟨false, .bool (isDigitI c)⟩ sg := by
  rw [callW_at hk rfl, token_digit.eq]
  unfold isDigitI
  by_cases h : 48 ≤ c <;> simp [h, bcond]
theorem letter_spec (hk : 1 ≤ k) (c : Int) : callW (En n) k 144 [.int .u8 c] sg K = K ⟨false, .bool (isLetterI c)⟩ sg := by
  rw [callW_at hk rfl, token_letter.eq]
  unfold isLetterI
  by_cases h1 : 97 ≤ c <;> by_cases h2 : c ≤ 122 <;> by_cases h3 : 65 ≤ c <;> by_cases h4 : c ≤ 90 <;> simp [h1, h2, h3, h4, bcond]
theorem word_loop {s : ByteArray} (hk : 1 ≤ k) (hs : s.size ≤ 1000000000) : ∀ (l : List UInt8) (p m : Nat) (p2 : PV), s.data.toList.drop p = l → p ≤ s.size → l.length < m →
    L n (callW (En n) k) 145 [1, 1, 0, 0, 0] (token_word.S0 s (p : Int) p2) sg (token_word.K0 (callW (En n) k) n K) m = K ⟨false, .str (s.extract 0 (p + wordLen l))⟩ sg
  | l, p, 0, p2, hl, hp, hm => by omega
  | [], p, m + 1, p2, hl, hp, hm => by
    obtain rfl := at_end hl hp
    rw [L_succ, token_word.loop0, decide_eq_false (show ¬ ((s.size : Int) < (s.size : Int)) by omega), bcond_f, b2 (by omega) (by omega), chk_t, Int.toNat_natCast]
    rfl
  | c :: t, p, m + 1, p2, hl, hp, hm => by
    obtain ⟨h1, h2, h3⟩ := at_cons hl
    have ew : IntKind.i64.wrap ((p : Int) + 1) = ((p + 1 : Nat) : Int) := wrap_id _ (by omega) (by omega)
    rw [L_succ, token_word.loop0, decide_eq_true (show ((p : Int) < (s.size : Int)) by omega), decide_eq_true (show (0 : Int) ≤ (p : Int) by omega), bcond_t, Bool.and_self, chk_t, cB, letter_spec hk, h2, ew]
    show bcond (isLetterI c.toNat) _ _ = _
    rw [wordLen_cons]
    have hw : isWordB c = (isLetterI c.toNat || isDigitI c.toNat) := rfl
    have e2 : p + 1 + wordLen t = p + (wordLen t + 1) := by omega
    cases hc : isLetterI c.toNat with
    | true =>
      rw [bcond_t, hw, hc, Bool.true_or, if_pos rfl, word_loop hk hs t (p + 1) m _ h3 (by omega) (by simp at hm; omega), e2]
    | false =>
      rw [bcond_f, chk_t, cB, digit_spec hk]
      show bcond (isDigitI c.toNat) _ _ = _
      rw [hw, hc, Bool.false_or]
      cases hd : isDigitI c.toNat with
      | true => rw [bcond_t, if_pos rfl, word_loop hk hs t (p + 1) m _ h3 (by omega) (by simp at hm; omega), e2]
      | false =>
        rw [bcond_f, Bool.true_and, decide_eq_true (show (p : Int) ≤ (s.size : Int) by omega), chk_t, Int.toNat_natCast]
        rfl
theorem word_spec {s : ByteArray} (hk : 2 ≤ k) (hs : s.size ≤ 1000000000) (hn : s.size < n) : callW (En n) k 145 [.str s] sg K = K ⟨false, .str (tx (wordT s.data.toList))⟩ sg := by
  rw [callW_at (by omega) rfl, token_word.eq]
  have := word_loop (n := n) (sg := sg) (K := K) (s := s) (k := k - 1) (by omega) hs s.data.toList 0 n .skip rfl (by omega) (by rw [len_data]; omega)
  rw [Nat.zero_add, ext0_tx] at this
  exact this
theorem callW_for {n k f : Nat} {g : Foreign} {args : List PV} {sg : List (List PV)} {K : Res → Out} (hk : 1 ≤ k) (hf : foreignOf n f = some g) : callW (En n) k f args sg K = g (callW (En n) (k - 1)) args sg K := by
  obtain ⟨j, rfl⟩ : ∃ j, k = j + 1 := ⟨k - 1, by omega⟩
  show (match foreignOf n f with | some g => _ | none => _) = _
  rw [hf]; rfl
theorem kw_spec (hk : 1 ≤ k) (s : ByteArray) (h : K ⟨false, .bool (isKwL s.data.toList)⟩ sg) : callW (En n) k 94 [.str s] sg K := by
  rw [callW_for hk rfl]
  exact ⟨s, rfl, h⟩
theorem wordT_all (l : List UInt8) : (wordT l == l) = (wordLen l == l.length) := by
  unfold wordT
  have := wordLen_le l
  rw [Bool.eq_iff_iff, beq_iff_eq, beq_iff_eq]
  constructor
  · intro h
    have := congrArg List.length h
    rw [List.length_take] at this
    omega
  · intro h; rw [h, List.take_length]
theorem tkName_spec {s : ByteArray} (hk : 3 ≤ k) (hs : s.size ≤ 1000000000) (hn : s.size < n) (h : K ⟨false, .bool (nameL s.data.toList)⟩ sg) : callW (En n) k 176 [.str s] sg K := by
  rw [callW_at (by omega) rfl, token_name.eq, str_eqb]
  cases hl : s.data.toList with
  | nil => rw [hl] at h; exact h
  | cons c t =>
    have h0 := at_cons (p := 0) hl
    have hb : byteAt s 0 = (c.toNat : Int) := h0.2.1
    rw [show ((c :: t == (⟨#[]⟩ : ByteArray).data.toList)) = false from rfl, Bool.not_false, bcond_t, decide_eq_true (show (0 : Int) < (s.size : Int) by omega), chk_t, cB, letter_spec (by omega), hb]
    show bcond (isLetterI c.toNat) _ _
    have hN : nameL s.data.toList = (isLetterI c.toNat && (wordT s.data.toList == s.data.toList) && !isKwL s.data.toList) := by rw [wordT_all, hl]; rfl
    rw [hN] at h
    cases hc : isLetterI c.toNat with
    | false => rw [hc] at h; exact h
    | true =>
      rw [hc, Bool.true_and] at h
      rw [bcond_t, cS, word_spec (by omega) hs hn]
      show bcond ((tx (wordT s.data.toList)).toList == s.toList) _ _
      rw [str_eqb, tx_list]
      cases hw : (wordT s.data.toList == s.data.toList) with
      | false => rw [hw] at h; exact h
      | true =>
        rw [hw, Bool.true_and] at h
        rw [bcond_t, cB]
        exact kw_spec (by omega) s h
theorem bcond_dup {b : Bool} {x y z : Prop} : bcond b (bcond b x y) z = bcond b x z := by cases b <;> rfl
theorem bcond_or {K : Res → Out} {sg : List (List PV)} (b c : Bool) : bcond b (K ⟨false, .bool true⟩ sg) (K ⟨false, .bool c⟩ sg) = K ⟨false, .bool (b || c)⟩ sg := by cases b <;> rfl
theorem bcond_or' {K : Res → Out} {sg : List (List PV)} (b c : Bool) : bcond b (K ⟨false, .bool b⟩ sg) (K ⟨false, .bool c⟩ sg) = K ⟨false, .bool (b || c)⟩ sg := by cases b <;> rfl
theorem mark_spec (hk : 1 ≤ k) (s : ByteArray) : callW (En n) k 150 [.str s] sg K = K ⟨false, .bool (isMarkL s.data.toList)⟩ sg := by
  rw [callW_at hk rfl, token_mark.eq]
  simp only [bcond_dup, bcond_or, bcond_or', str_eqb, Bool.or_false]
  unfold isMarkL markL
  simp only [List.any_cons, List.any_nil, Bool.or_false]
theorem has_pre2 {s : ByteArray} (hk : 2 ≤ k) (x y : UInt8) : callW (En n) k 142 [.str s, .str ⟨#[x, y]⟩] sg K = K ⟨false, .bool (pfxL [x, y] s.data.toList)⟩ sg := by
  rw [callW_at (by omega) rfl, strings_HasPrefix.eq, cB, callW_at (by omega) rfl, stringslite_HasPrefix.eq]
  show bcond (decide ((s.size : Int) ≥ 2)) (chk (true && decide ((2 : Int) ≤ (s.size : Int))) (K ⟨false, .bool ((s.extract 0 2).toList == (⟨#[x, y]⟩ : ByteArray).toList)⟩ sg)) (K ⟨false, .bool false⟩ sg) = _
  have hlen := len_data s
  by_cases h : 2 ≤ s.size
  · rw [decide_eq_true (show ((s.size : Int) ≥ 2) by omega), bcond_t, Bool.and_self, chk_t, str_eqb, ext0_tx, tx_list]
    have e : (s.data.toList.take 2 == [x, y]) = pfxL [x, y] s.data.toList := by
      rw [Bool.eq_iff_iff, beq_iff_eq, pfxL, List.isPrefixOf_iff_prefix, List.prefix_iff_eq_take]
      exact ⟨fun h => h.symm, fun h => h.symm⟩
    rw [← e]
  · rw [decide_eq_false (show ¬ ((s.size : Int) ≥ 2) by omega), bcond_f]
    have e : pfxL [x, y] s.data.toList = false := by
      rw [Bool.eq_false_iff]
      intro e
      have := (List.isPrefixOf_iff_prefix.1 e).length_le
      rw [hlen] at this
      simp at this
      omega
    rw [e]
theorem comment_l (l : List UInt8) (hp : pfxL [47, 47] l = true) : (Lib.indexByte l 10 < 0 ∧ skipGo false l = l.length) ∨ ∃ o : Nat, Lib.indexByte l 10 = o ∧ 0 < o ∧ o < l.length ∧ skipGo false l = o + skipGo false (l.drop o) := by
  rw [skipGo_slash _ hp]
  rcases Int.lt_or_le (Lib.indexByte l 10) 0 with hi | hi
  · left
    have e : Lib.indexByte l 10 = -1 := by have := Lib.indexByte_ge l 10; omega
    exact ⟨hi, skipGo_none _ (Lib.indexByte_none e)⟩
  · right
    obtain ⟨o, ho⟩ := Int.eq_ofNat_of_zero_le hi
    obtain ⟨h1, h2⟩ := Lib.indexByte_some ho
    have h3 := (List.getElem?_eq_some_iff.1 h1).1
    refine ⟨o, ho, ?_, h3, skipGo_some _ o h1 h2⟩
    rcases Nat.eq_zero_or_pos o with h | h
    · subst h
      exfalso
      match l, hp, h1 with
      | [], hp, h1 => simp at h1
      | [a], hp, h1 => simp [pfxL, List.isPrefixOf] at hp
      | a :: b :: t, hp, h1 =>
        simp [pfxL, List.isPrefixOf] at hp
        simp at h1
        obtain ⟨rfl, _⟩ := hp
        exact absurd h1 (by decide)
    · exact h
theorem skip_loop {s : ByteArray} (hk : 2 ≤ k) (hs : s.size ≤ 1000000000) : ∀ (m p : Nat) (p2 p3 p4 p5 p6 : PV), p ≤ s.size → s.size - p < m → K ⟨false, .int .i64 ((p + skipGo false (s.data.toList.drop p) : Nat) : Int)⟩ sg →
    L n (callW (En n) k) 109 [1, 1, 0, 0, 0] (token_skip.S0 s (p : Int) p2 p3 p4 p5 p6) sg (token_skip.K0 (callW (En n) k) n K) m
  | 0, p, _, _, _, _, _, hp, hm, h => by omega
  | m + 1, p, p2, p3, p4, p5, p6, hp, hm, h => by
    rw [L_succ, token_skip.loop0]
    cases hl : s.data.toList.drop p with
    | nil =>
      obtain rfl := at_end hl hp
      rw [decide_eq_false (show ¬ ((s.size : Int) < (s.size : Int)) by omega), bcond_f]
      rw [hl] at h
      exact h
    | cons c t =>
      obtain ⟨h1, h2, h3⟩ := at_cons hl
      have ew : IntKind.i64.wrap ((p : Int) + 1) = ((p + 1 : Nat) : Int) := wrap_id _ (by omega) (by omega)
      rw [decide_eq_true (show ((p : Int) < (s.size : Int)) by omega), decide_eq_true (show (0 : Int) ≤ (p : Int) by omega), bcond_t, Bool.and_self, h2, ew]
      simp only [chk_t]
      have hblank : blankI c.toNat = true → ∀ (p2 p3 p4 p5 p6 : PV), L n (callW (En n) k) 109 [1, 1, 0, 0, 0] (token_skip.S0 s ((p + 1 : Nat) : Int) p2 p3 p4 p5 p6) sg (token_skip.K0 (callW (En n) k) n K) m := by
        intro hb p2 p3 p4 p5 p6
        refine skip_loop hk hs m (p + 1) _ _ _ _ _ (by omega) (by omega) ?_
        rw [hl, skipGo_cons, if_neg (by simp), if_pos hb] at h
        rw [h3, show p + 1 + skipGo false t = p + (skipGo false t + 1) by omega]
        exact h
      cases e1 : ((c.toNat : Int) == 32) with
      | true => exact hblank (by unfold blankI; rw [e1]; rfl) _ _ _ _ _
      | false =>
      cases e2 : ((c.toNat : Int) == 9) with
      | true => exact hblank (by unfold blankI; rw [e1, e2]; rfl) _ _ _ _ _
      | false =>
      cases e3 : ((c.toNat : Int) == 10) with
      | true => exact hblank (by unfold blankI; rw [e1, e2, e3]; rfl) _ _ _ _ _
      | false =>
        have hnb : blankI c.toNat = false := by unfold blankI; rw [e1, e2, e3]; rfl
        rw [bcond_f, bcond_f, bcond_f, Bool.true_and, b2 (by omega) (by omega), chk_t, cB, has_pre2 hk, Int.toNat_natCast, Int.toNat_natCast, extE_list, hl]
        show bcond (pfxL [47, 47] (c :: t)) _ _
        rw [hl] at h
        cases hpf : pfxL [47, 47] (c :: t) with
        | false =>
          rw [skipGo_stop _ c t rfl hnb hpf] at h
          exact h
        | true =>
          rw [bcond_t, chk_t, cI, callW_for (by omega) rfl]
          refine ⟨_, _, rfl, ?_⟩
          rw [extE_list, hl]
          show C n (callW (En n) k) 109 _ (token_skip.S1 s (p : Int) (Lib.indexByte (c :: t) 10) _ _ _ p6) sg (token_skip.K1 _ n m K)
          rw [C_eq, token_skip.cut1]
          have hlen : (c :: t).length = s.size - p := by rw [← hl, List.length_drop, len_data]
          rcases comment_l (c :: t) hpf with ⟨g1, g2⟩ | ⟨o, g1, g2, g3, g4⟩
          · rw [decide_eq_true g1, bcond_t]
            rw [g2, hlen, show p + (s.size - p) = s.size by omega] at h
            exact h
          · rw [g1, decide_eq_false (show ¬ ((o : Int) < 0) by omega), bcond_f, wrap_id _ (by omega) (by omega), ← Int.natCast_add]
            refine skip_loop hk hs m (p + o) _ _ _ _ _ (by omega) (by omega) ?_
            rw [g4] at h
            rw [← List.drop_drop, hl, show p + o + skipGo false ((c :: t).drop o) = p + (o + skipGo false ((c :: t).drop o)) by omega]
            exact h
theorem skip_spec {s : ByteArray} (hk : 3 ≤ k) (hs : s.size ≤ 1000000000) (hn : s.size < n) (h : K ⟨false, .int .i64 (skipGo false s.data.toList : Nat)⟩ sg) : callW (En n) k 109 [.str s] sg K := by
  rw [callW_at (by omega) rfl, token_skip.eq]
  exact skip_loop (by omega) hs n 0 _ _ _ _ _ (by omega) (by omega) (by rw [Nat.zero_add]; exact h)
end
end Go.Ev
namespace Go.Ev
open PV
section
variable {n k : Nat} {sg : List (List PV)} {K : Res → Out}
theorem int_loop {s : ByteArray} (hk : 1 ≤ k) (hs : s.size ≤ 1000000000) : ∀ (l : List UInt8) (p m : Nat) (p2 : PV), s.data.toList.drop p = l → p ≤ s.size → l.length < m →
    (∀ b, C n (callW (En n) k) 147 [1, 1, 1] (token_integer.S1 s ((p + digLen l : Nat) : Int) b) sg (token_integer.K1 (callW (En n) k) n K)) →
    L n (callW (En n) k) 147 [1, 1, 0, 0, 0] (token_integer.S0 s (p : Int) p2) sg (token_integer.K0 (callW (En n) k) n K) m
  | l, p, 0, p2, hl, hp, hm, h => by omega
  | [], p, m + 1, p2, hl, hp, hm, h => by
    obtain rfl := at_end hl hp
    rw [L_succ, token_integer.loop0, decide_eq_false (show ¬ ((s.size : Int) < (s.size : Int)) by omega), bcond_f]
    exact h _
  | c :: t, p, m + 1, p2, hl, hp, hm, h => by
    obtain ⟨h1, h2, h3⟩ := at_cons hl
    have ew : IntKind.i64.wrap ((p : Int) + 1) = ((p + 1 : Nat) : Int) := wrap_id _ (by omega) (by omega)
    rw [L_succ, token_integer.loop0, decide_eq_true (show ((p : Int) < (s.size : Int)) by omega), decide_eq_true (show (0 : Int) ≤ (p : Int) by omega), bcond_t, Bool.and_self, chk_t, cB, digit_spec hk, h2, ew]
    show bcond (isDigitI c.toNat) _ _
    rw [digLen_cons] at h
    have hw : isDigitB c = isDigitI c.toNat := rfl
    rw [hw] at h
    cases hd : isDigitI c.toNat with
    | true =>
      rw [hd, if_pos rfl] at h
      rw [bcond_t]
      refine int_loop hk hs t (p + 1) m _ h3 (by omega) (by simp at hm; omega) ?_
      rw [show p + 1 + digLen t = p + (digLen t + 1) by omega]
      exact h
    | false =>
      rw [hd] at h
      exact h _
theorem int_spec {s : ByteArray} (hk : 2 ≤ k) (hs : s.size ≤ 1000000000) (hn : s.size < n) (h0 : 0 < s.size) (h : K ⟨false, rtV (intR s.data.toList) 0⟩ sg) : callW (En n) k 147 [.str s] sg K := by
  rw [callW_at (by omega) rfl, token_integer.eq]
  refine int_loop (by omega) hs s.data.toList 0 n _ rfl (by omega) (by rw [len_data]; omega) fun b => ?_
  rw [Nat.zero_add, C_eq, token_integer.cut1, decide_eq_true (show (0 : Int) < (s.size : Int) by omega), chk_t]
  have hd := digLen_le s.data.toList
  rw [len_data] at hd
  cases hl : s.data.toList with
  | nil => have := len_data s; rw [hl] at this; simp at this; omega
  | cons c t =>
    have hb : byteAt s 0 = (c.toNat : Int) := (at_cons (p := 0) hl).2.1
    rw [hl] at h hd
    rw [hb]
    have e48 : (some c == some (48 : UInt8)) = ((c.toNat : Int) == 48) := by
      rw [Bool.eq_iff_iff, beq_iff_eq, beq_iff_eq, Option.some.injEq]
      constructor
      · intro e; rw [e]; rfl
      · intro e; exact UInt8.toNat_inj.1 (by show c.toNat = 48; omega)
    unfold intR at h
    rw [List.head?_cons, e48] at h
    generalize digLen (c :: t) = d at *
    have e1 : decide ((d : Int) > 1) = decide (1 < d) := decide_eq_decide.2 (by omega)
    have e9 : decide ((d : Int) > 9) = decide (9 < d) := decide_eq_decide.2 (by omega)
    rw [e1, e9, b2 (by omega) (by omega), Int.toNat_natCast, ext0_tx, hl]
    have hok : ¬ 9 < d → (K ⟨false, rtV (if 9 < d then RK.bad 4 else ⟨0, 3, (c :: t).take d, d⟩) 0⟩ sg → K ⟨false, .tup [.agg [.int .i64 3, .str (tx ((c :: t).take d)), .int .i64 0, .int .i64 d], .int .i64 0]⟩ sg) := by
      intro h9 h
      rw [if_neg h9] at h
      unfold rtV at h
      rw [if_pos rfl, Int.zero_add] at h
      exact h
    cases hc : ((c.toNat : Int) == 48) <;> by_cases h1 : 1 < d <;> by_cases h9 : 9 < d <;> simp only [hc, h1, h9, decide_true, decide_false, Bool.and_true, Bool.and_false, Bool.false_and, Bool.true_and, if_true, if_false, Bool.false_eq_true, bcond_t, bcond_f, chk_t] at h ⊢ <;> first | exact h | exact hok (by omega) (by rw [if_neg (by omega)]; exact h)
theorem metaT_len (l : List UInt8) : (metaT l).length ≤ l.length := by
  unfold metaT
  rw [List.length_take, List.length_drop]
  omega
theorem tkMeta_spec {s : ByteArray} (hk : 4 ≤ k) (hs : s.size ≤ 1000000000) (hn : s.size < n) {t : List UInt8} (hl : s.data.toList = 36 :: t) (h : K ⟨false, rtV (metaR s.data.toList) 0⟩ sg) : callW (En n) k 149 [.str s] sg K := by
  rw [callW_at (by omega) rfl, token_meta.eq, cB, has_pre2 (by omega)]
  show bcond (pfxL [36, 36] s.data.toList) _ _
  have hN : metaN s.data.toList = bcond (pfxL [36, 36] s.data.toList) 2 1 := by
    rw [hl]
    unfold metaN pfxL
    cases t with
    | nil => rfl
    | cons d u =>
      by_cases hd : d = 36
      · subst hd; rfl
      · have : (36 == d) = false := by simpa using fun h => hd h.symm
        simp [List.isPrefixOf, hd, this, bcond]
  have hle : metaN s.data.toList ≤ s.size := by
    have hs' : s.size = t.length + 1 := by rw [← len_data, hl]; rfl
    unfold metaN
    rw [hl]
    split
    · rename_i e
      cases t with
      | nil => simp at e
      | cons d u => rw [hs']; simp
    · omega
  have key : ∀ (N : Nat) (b : Bool), metaN s.data.toList = N → C n (callW (En n) (k - 1)) 149 [1, 1, 1, 1] (token_meta.S0 s (if N = 2 then 7 else 6) (N : Int) b) sg (token_meta.K0 (callW (En n) (k - 1)) n K) := by
    intro N b hN
    rw [hN] at hle
    rw [C_eq, token_meta.cut0, b3 (by omega) (by omega) (by omega), chk_t, cS, Int.toNat_natCast, Int.toNat_natCast]
    have hes : (s.extract N s.size).size ≤ s.size := by
      rw [← len_data, extE_list, List.length_drop, len_data]; omega
    rw [word_spec (by omega) (by omega) (by omega), extE_list]
    have hT : wordT (s.data.toList.drop N) = metaT s.data.toList := by unfold metaT wordT; rw [hN]
    rw [hT]
    have hml := metaT_len s.data.toList
    rw [len_data] at hml
    have hsz : (tx (metaT s.data.toList)).size = (metaT s.data.toList).length := tx_size _
    show C n _ 149 _ (token_meta.S1 s _ (tx (metaT s.data.toList)) (N : Int) b) sg _
    rw [C_eq, token_meta.cut1, cB]
    refine tkName_spec (by omega) (by omega) (by omega) ?_
    rw [tx_list]
    show bcond (!(nameL (metaT s.data.toList))) _ _
    unfold metaR at h
    cases hnm : nameL (metaT s.data.toList) with
    | false => rw [hnm] at h; exact h
    | true =>
      rw [hnm] at h
      rw [Bool.not_true, bcond_f, C_eq, token_meta.cut2, hsz]
      have e24 : decide (((metaT s.data.toList).length : Int) > 24) = decide (24 < (metaT s.data.toList).length) := decide_eq_decide.2 (by omega)
      have ew : IntKind.i64.wrap ((N : Int) + ((metaT s.data.toList).length : Int)) = ((N + (metaT s.data.toList).length : Nat) : Int) := wrap_id _ (by omega) (by omega)
      rw [e24, ew]
      rw [Bool.not_true, if_neg (by simp)] at h
      by_cases h24 : 24 < (metaT s.data.toList).length
      · rw [if_pos h24] at h
        rw [decide_eq_true h24, bcond_t]
        exact h
      · rw [if_neg h24, hN] at h
        unfold rtV at h
        rw [if_pos rfl, Int.zero_add] at h
        rw [decide_eq_false h24, bcond_f]
        exact h
  cases hp : pfxL [36, 36] s.data.toList with
  | true => rw [hp] at hN; exact key 2 true hN
  | false => rw [hp] at hN; exact key 1 false hN
/-- What a reader's value looks like. -/
theorem rtV_ex (r : RK) (a : Int) : ∃ k t b c, rtV r a = tokV k t b c r.err := by
  unfold rtV
  by_cases h : r.err = 0
  · rw [if_pos h, h]; exact ⟨_, _, _, _, rfl⟩
  · rw [if_neg h]; exact ⟨_, _, _, _, rfl⟩
def mkGo (l : List UInt8) : Nat → RK
  | 0 => .bad 11
  | j + 1 => if isMarkL (l.take (j + 1)) then ⟨0, 5, l.take (j + 1), j + 1⟩ else mkGo l j
theorem mark_go {s : ByteArray} {pat : Bool} {i2 : Int} {b4 b5 b6 b7 : Bool} (hk : 1 ≤ k) (hs : s.size ≤ 1000000000) : ∀ (j m : Nat) (p8 p9 : PV), j ≤ s.size → j < m → K ⟨false, rtV (mkGo s.data.toList j) 0⟩ sg →
    L n (callW (En n) k) 110 [1, 1, 0, 1, 0, 0] (token_read.S2 s pat i2 (j : Int) b4 b5 b6 b7 p8 p9) sg (token_read.K2 (callW (En n) k) n K) m
  | j, 0, _, _, hj, hm, h => by omega
  | 0, m + 1, p8, p9, hj, hm, h => by
    rw [L_succ, token_read.loop2, decide_eq_false (show ¬ (((0 : Nat) : Int) > 0) by omega), bcond_f]
    exact h
  | j + 1, m + 1, p8, p9, hj, hm, h => by
    have ew : IntKind.i64.wrap (((j + 1 : Nat) : Int) - 1) = (j : Int) := by rw [wrap_id _ (by omega) (by omega)]; omega
    rw [L_succ, token_read.loop2, decide_eq_true (show (((j + 1 : Nat) : Int) > 0) by omega), bcond_t, b2 (by omega) (by omega), chk_t, cB, mark_spec hk, Int.toNat_natCast, ext0_tx, tx_list, ew]
    show bcond (isMarkL (s.data.toList.take (j + 1))) _ _
    unfold mkGo at h
    cases hx : isMarkL (s.data.toList.take (j + 1)) with
    | true =>
      rw [hx, if_pos rfl] at h
      unfold rtV at h
      rw [if_pos rfl, Int.zero_add] at h
      exact h
    | false =>
      rw [hx, if_neg (by simp)] at h
      rw [bcond_f]
      exact mark_go hk hs j m _ _ (by omega) (by omega) h
theorem mark_all {s : ByteArray} {pat : Bool} {i2 : Int} {b4 b5 b6 b7 : Bool} (hk : 1 ≤ k) (hs : s.size ≤ 1000000000) (h0 : 0 < s.size) (hn : 3 ≤ n) (h : K ⟨false, rtV (markR s.data.toList) 0⟩ sg) :
    C n (callW (En n) k) 110 [1, 1] (token_read.S1 s pat i2 b4 b5 b6 b7) sg (token_read.K1 (callW (En n) k) n K) := by
  rw [C_eq, token_read.cut1]
  have hlen := len_data s
  by_cases h2 : s.size < 2
  · rw [decide_eq_true (show (s.size : Int) < 2 by omega), bcond_t, show s.size = 1 by omega]
    refine mark_go (j := 1) hk hs n _ _ (by omega) (by omega) ?_
    have e : s.data.toList.take 2 = s.data.toList.take 1 := by rw [List.take_of_length_le (by omega), List.take_of_length_le (by omega)]
    have e1 : (s.data.toList.take 1).length = 1 := by rw [List.length_take]; omega
    unfold markR at h
    rw [e, e1] at h
    unfold mkGo mkGo
    simp only [Nat.zero_add]
    cases hx : isMarkL (s.data.toList.take 1) <;> rw [hx] at h <;> exact h
  · rw [decide_eq_false (show ¬ (s.size : Int) < 2 by omega), bcond_f]
    refine mark_go (j := 2) hk hs n _ _ (by omega) (by omega) ?_
    have e1 : (s.data.toList.take 2).length = 2 := by rw [List.length_take]; omega
    unfold markR at h
    rw [e1] at h
    exact h
theorem read_spec {s : ByteArray} {pat : Bool} (hk : 5 ≤ k) (hs : s.size ≤ 1000000000) (hn : s.size + 4 < n) (h0 : 0 < s.size) (h : K ⟨false, rtV (rdTok pat s.data.toList) 0⟩ sg) : callW (En n) k 110 [.str s, .bool pat] sg K := by
  rw [callW_at (by omega) rfl, token_read.eq, decide_eq_true (show (0 : Int) < (s.size : Int) by omega), chk_t]
  cases hl : s.data.toList with
  | nil => have := len_data s; rw [hl] at this; simp at this; omega
  | cons c t =>
    have hb : byteAt s 0 = (c.toNat : Int) := (at_cons (p := 0) hl).2.1
    rw [hb, cB, letter_spec (by omega)]
    show bcond (isLetterI c.toNat) _ _
    have hrd : rdTok pat s.data.toList = if isLetterI c.toNat then wordR s.data.toList else if isDigitI c.toNat then intR s.data.toList else if c.toNat = 34 then litR s.data.toList else if c.toNat = 36 ∧ pat = true then metaR s.data.toList else markR s.data.toList := by rw [hl]; rfl
    rw [hrd] at h
    have re : ∀ (r : RK) (X : Prop), K ⟨false, rtV r 0⟩ sg → (∀ k t b c, rtV r 0 = tokV k t b c r.err → K ⟨false, tokV k t b c r.err⟩ sg → X) → X := by
      intro r X h hx
      obtain ⟨k, t, b, c, e⟩ := rtV_ex r 0
      exact hx k t b c e (e ▸ h)
    cases hc : isLetterI c.toNat with
    | true =>
      rw [hc, if_pos rfl] at h
      rw [bcond_t, cS, word_spec (by omega) hs (by omega)]
      show C n _ 110 _ (token_read.S0 s pat c.toNat (tx (wordT s.data.toList)) true) sg _
      rw [C_eq, token_read.cut0, cB]
      refine kw_spec (by omega) _ ?_
      rw [tx_list]
      show bcond (isKwL (wordT s.data.toList)) _ _
      unfold wordR at h
      have hsz : ((tx (wordT s.data.toList)).size : Int) = ((wordT s.data.toList).length : Int) := by rw [tx_size]
      rw [hsz]
      cases hkw : isKwL (wordT s.data.toList) with
      | true =>
        rw [hkw, if_pos rfl] at h
        unfold rtV at h
        rw [if_pos rfl, Int.zero_add] at h
        exact h
      | false =>
        rw [hkw, if_neg (by simp)] at h
        have e24 : decide (((wordT s.data.toList).length : Int) > 24) = decide (24 < (wordT s.data.toList).length) := decide_eq_decide.2 (by omega)
        rw [bcond_f, e24]
        by_cases h24 : 24 < (wordT s.data.toList).length
        · rw [if_pos h24] at h
          rw [decide_eq_true h24, bcond_t]
          exact h
        · rw [if_neg h24] at h
          unfold rtV at h
          rw [if_pos rfl, Int.zero_add] at h
          rw [decide_eq_false h24, bcond_f]
          exact h
    | false =>
      rw [hc, if_neg (by simp)] at h
      rw [bcond_f, cB, digit_spec (by omega)]
      show bcond (isDigitI c.toNat) _ _
      cases hd : isDigitI c.toNat with
      | true =>
        rw [hd, if_pos rfl] at h
        rw [bcond_t, cP]
        refine int_spec (by omega) hs (by omega) h0 (re _ _ h fun k t b c e h' => ?_)
        rw [e]
        exact h'
      | false =>
        rw [hd, if_neg (by simp)] at h
        rw [bcond_f]
        by_cases h34 : c.toNat = 34
        · rw [if_pos h34] at h
          rw [beq_iff_eq.2 (show ((c.toNat : Int) = 34) by omega), bcond_t, cP, callW_for (by omega) rfl]
          refine ⟨s, rfl, h0, hs, re _ _ h fun k t b c e h' => ?_⟩
          rw [e]
          exact h'
        · rw [if_neg h34] at h
          rw [beq_eq_false_iff_ne.2 (show ((c.toNat : Int) ≠ 34) by omega), bcond_f]
          by_cases h36 : c.toNat = 36
          · rw [beq_iff_eq.2 (show ((c.toNat : Int) = 36) by omega), bcond_t]
            cases pat with
            | true =>
              rw [if_pos ⟨h36, rfl⟩] at h
              rw [bcond_t, cP]
              have h36' : c = 36 := UInt8.toNat_inj.1 h36
              refine tkMeta_spec (by omega) hs (by omega) (h36' ▸ hl) (re _ _ h fun k t b c e h' => ?_)
              rw [e]
              exact h'
            | false =>
              rw [if_neg (by simp)] at h
              rw [bcond_f]
              exact mark_all (by omega) hs h0 (by omega) h
          · rw [if_neg (fun e => h36 e.1)] at h
            rw [beq_eq_false_iff_ne.2 (show ((c.toNat : Int) ≠ 36) by omega), bcond_f]
            exact mark_all (by omega) hs h0 (by omega) h
theorem scan_loop {s : ByteArray} {pat : Bool} (hk : 5 ≤ k) (hs : s.size ≤ 1000000000) (hn : s.size + 4 < n) : ∀ (f m p : Nat) (acc : List Tok) (p4 p5 p6 p7 p8 : PV), p ≤ s.size → s.size - p < f → s.size - p < m → acc.length ≤ 600 →
    isBaddr 9 p4 = false → isBaddr 9 p5 = false → isBaddr 9 p7 = false → isBaddr 9 p8 = false → K ⟨false, scanV (scanW pat f (s.data.toList.drop p) p acc)⟩ sg →
    L n (callW (En n) k) 54 [1, 1, 1, 0, 0, 0] (token_scan.S1 s pat (acc.map tokRow) (p : Int) p4 p5 p6 p7 p8) sg (token_scan.K1 (callW (En n) k) n K) m
  | 0, m, p, _, _, _, _, _, _, hp, hf, _, _, _, _, _, _, h => by omega
  | f + 1, 0, p, _, _, _, _, _, _, hp, _, hm, _, _, _, _, _, h => by omega
  | f + 1, m + 1, p, acc, p4, p5, p6, p7, p8, hp, hf, hm, ha, h4, h5, h7, h8, h => by
    rw [L_succ, token_scan.loop1, h4, h5, h7, h8]
    cases hl : s.data.toList.drop p with
    | nil =>
      obtain rfl := at_end hl hp
      rw [decide_eq_false (show ¬ ((s.size : Int) < (s.size : Int)) by omega), bcond_f]
      rw [hl] at h
      exact h
    | cons c t =>
      obtain ⟨h1, _, _⟩ := at_cons hl
      have hle : (s.extract p s.size).size = s.size - p := by rw [← len_data, extE_list, List.length_drop, len_data]
      rw [decide_eq_true (show ((p : Int) < (s.size : Int)) by omega), bcond_t, b3 (by omega) (by omega) (by omega), chk_t, cP, Int.toNat_natCast, Int.toNat_natCast]
      refine read_spec hk (by omega) (by omega) (by omega) ?_
      rw [extE_list, hl]
      have hW : scanW pat (f + 1) (s.data.toList.drop p) p acc = if (rdTok pat (c :: t)).err = 0 then
          if 600 ≤ acc.length then ⟨[], p, 4⟩
          else scanW pat f (((c :: t).drop (rdTok pat (c :: t)).len).drop (skipGo false ((c :: t).drop (rdTok pat (c :: t)).len))) (p + (rdTok pat (c :: t)).len + skipGo false ((c :: t).drop (rdTok pat (c :: t)).len))
            (acc ++ [⟨(rdTok pat (c :: t)).kind, tx (rdTok pat (c :: t)).text, p, (p + (rdTok pat (c :: t)).len : Nat)⟩])
        else ⟨[], p, (rdTok pat (c :: t)).err⟩ := by rw [hl, scanW]; simp
      rw [hW] at h
      have hrl := rdTok_len pat (c :: t)
      have hcl : (c :: t).length = s.size - p := by rw [← hl, List.length_drop, len_data]
      generalize hr : rdTok pat (c :: t) = r at *
      by_cases he : r.err = 0
      · rw [if_pos he] at h
        obtain ⟨hr1, hr2⟩ := hrl he
        have e1 : rtV r 0 = tokV r.kind (tx r.text) 0 (r.len : Int) 0 := by unfold rtV; rw [if_pos he, Int.zero_add]
        rw [e1]
        show C n (callW (En n) k) 54 _ (token_scan.S2 s pat (acc.map tokRow) (p : Int) r.kind (tx r.text) 0 (r.len : Int) 0 _ p7 p8) sg (token_scan.K2 (callW (En n) k) n m K)
        rw [C_eq, token_scan.cut2, List.length_map]
        show bcond ((acc.length : Int) == 600) _ _
        by_cases h6 : acc.length = 600
        · rw [if_pos (by omega)] at h
          rw [beq_iff_eq.2 (show (acc.length : Int) = 600 by omega), bcond_t, C_eq, token_scan.cut3]
          exact h
        · rw [if_neg (by omega)] at h
          rw [beq_eq_false_iff_ne.2 (show (acc.length : Int) ≠ 600 by omega), bcond_f, C_eq, token_scan.cut3]
          have ew : IntKind.i64.wrap ((p : Int) + (r.len : Int)) = ((p + r.len : Nat) : Int) := wrap_id _ (by omega) (by omega)
          have eq0 : ((0 : Int) != 0) = false := rfl
          rw [eq0, bcond_f, ew, rowsOk_map tokRow 4 tokRow_len, Bool.true_and, decide_eq_true (show (acc.map tokRow).length + 1 ≤ mostL by rw [List.length_map]; unfold mostL; omega), chk_t, b3 (by omega) (by omega) (by omega), chk_t, cI, Int.toNat_natCast, Int.toNat_natCast]
          have hle2 : (s.extract (p + r.len) s.size).size ≤ s.size := by rw [← len_data, extE_list, List.length_drop, len_data]; omega
          have hdd : s.data.toList.drop (p + r.len) = (c :: t).drop r.len := by rw [← hl, List.drop_drop]
          refine skip_spec (by omega) (by omega) (by omega) ?_
          rw [extE_list, hdd]
          have hsk := skipGo_le ((c :: t).drop r.len) false
          rw [List.length_drop, hcl] at hsk
          generalize hg : skipGo false ((c :: t).drop r.len) = g at *
          have ew2 : IntKind.i64.wrap (((p + r.len : Nat) : Int) + (g : Int)) = ((p + r.len + g : Nat) : Int) := wrap_id _ (by omega) (by omega)
          show L n (callW (En n) k) 54 _ (token_scan.S1 s pat (acc.map tokRow ++ [[.int .i64 r.kind, .str (tx r.text), .int .i64 p, .int .i64 ((p + r.len : Nat) : Int)]]) (IntKind.i64.wrap (((p + r.len : Nat) : Int) + (g : Int))) _ _ _ _ _) sg _ m
          rw [ew2]
          have hacc : acc.map tokRow ++ [([.int .i64 r.kind, .str (tx r.text), .int .i64 p, .int .i64 ((p + r.len : Nat) : Int)] : List PV)] = (acc ++ [(⟨r.kind, tx r.text, p, (p + r.len : Nat)⟩ : Tok)]).map tokRow := by rw [List.map_append]; rfl
          rw [hacc]
          refine scan_loop hk hs hn f m (p + r.len + g) _ _ _ _ _ _ (by omega) (by omega) (by omega) (by rw [List.length_append]; simp; omega) rfl rfl rfl rfl ?_
          rw [← List.drop_drop, hdd]
          exact h
      · rw [if_neg he] at h
        have e1 : rtV r 0 = tokV 0 ⟨#[]⟩ 0 0 r.err := by unfold rtV; rw [if_neg he]
        rw [e1]
        show C n (callW (En n) k) 54 _ (token_scan.S2 s pat (acc.map tokRow) (p : Int) 0 ⟨#[]⟩ 0 0 r.err _ p7 p8) sg (token_scan.K2 (callW (En n) k) n m K)
        rw [C_eq, token_scan.cut2, beq_eq_false_iff_ne.2 he, bcond_f, C_eq, token_scan.cut3]
        have eq0 : (r.err != 0) = true := by simp [he]
        rw [eq0, bcond_t]
        exact h
theorem scan_spec {s : ByteArray} {pat : Bool} (hk : 6 ≤ k) (hs : s.size ≤ 1000000000) (hn : s.size + 4 < n) (h : K ⟨false, scanV (scanR pat s.data.toList)⟩ sg) : callW (En n) k 54 [.str s, .bool pat] sg K := by
  rw [callW_at (by omega) rfl, token_scan.eq, cI]
  refine skip_spec (by omega) hs (by omega) ?_
  have hsk := skipGo_le s.data.toList false
  rw [len_data] at hsk
  unfold scanR at h
  show C n _ 54 _ (token_scan.S0 s pat (skipGo false s.data.toList : Nat)) sg _
  rw [C_eq, token_scan.cut0]
  exact scan_loop (by omega) hs hn (s.data.toList.length + 1) n _ [] _ _ _ _ _ hsk (by rw [len_data]; omega) (by omega) (by simp) rfl rfl rfl rfl h
theorem tokScan_spec {s : ByteArray} (hk : 7 ≤ k) (hs : s.size ≤ 1000000000) (hn : s.size + 4 < n) (h : K ⟨false, scanV (scanR false s.data.toList)⟩ sg) : callW (En n) k 32 [.str s] sg K := by
  rw [callW_at (by omega) rfl, token_Scan.eq, cP]
  exact scan_spec (by omega) hs hn h
theorem tokScanP_spec {s : ByteArray} (hk : 7 ≤ k) (hs : s.size ≤ 1000000000) (hn : s.size + 4 < n) (h : K ⟨false, scanV (scanR true s.data.toList)⟩ sg) : callW (En n) k 37 [.str s] sg K := by
  rw [callW_at (by omega) rfl, token_ScanPattern.eq, cP]
  exact scan_spec (by omega) hs hn h
end
end Go.Ev
namespace Go.Ev
open PV
/-- What the document's readers return: on an error the token is not told. -/
def RefV (r : RK) (p : Int) (v : PV) : Prop := v = rtV r p ∨ (r.err ≠ 0 ∧ ∃ k t a b, v = tokV k t a b r.err)
theorem RefV.ex {r : RK} {p : Int} {v : PV} (h : RefV r p v) : ∃ k t a b, v = tokV k t a b r.err := by
  rcases h with rfl | ⟨_, h⟩
  · exact rtV_ex r p
  · exact h
theorem RefV.bad {r : RK} {p : Int} (e : Int) (he : e ≠ 0) (hr : r = .bad e) (k : Int) (t : ByteArray) (a b : Int) : RefV r p (tokV k t a b e) := by
  subst hr
  exact .inr ⟨he, k, t, a, b, rfl⟩
section
variable {n k : Nat} {sg : List (List PV)} {K : Res → Out}
theorem rdigit_spec (hk : 1 ≤ k) (c : Int) : callW (En n) k 138 [.int .u8 c] sg K = K ⟨false, .bool (isDigitI c)⟩ sg := by
  rw [callW_at hk rfl, R11_Digit.eq]
  unfold isDigitI
  by_cases h : 48 ≤ c <;> simp [h, bcond]
theorem rletter_spec (hk : 1 ≤ k) (c : Int) : callW (En n) k 136 [.int .u8 c] sg K = K ⟨false, .bool (isLetterI c)⟩ sg := by
  rw [callW_at hk rfl, R11_Letter.eq]
  unfold isLetterI
  by_cases h1 : 97 ≤ c <;> by_cases h2 : c ≤ 122 <;> by_cases h3 : 65 ≤ c <;> by_cases h4 : c ≤ 90 <;> simp [h1, h2, h3, h4, bcond]
theorem rword_loop {s : ByteArray} (hk : 1 ≤ k) (hs : s.size ≤ 1000000000) : ∀ (l : List UInt8) (p m : Nat) (p2 : PV), s.data.toList.drop p = l → p ≤ s.size → l.length < m →
    L n (callW (En n) k) 137 [1, 0, 0, 0] (R11_word.S0 s (p : Int) p2) sg (R11_word.K0 (callW (En n) k) n K) m = K ⟨false, .int .i64 ((p + wordLen l : Nat) : Int)⟩ sg
  | l, p, 0, p2, hl, hp, hm => by omega
  | [], p, m + 1, p2, hl, hp, hm => by
    obtain rfl := at_end hl hp
    rw [L_succ, R11_word.loop0, decide_eq_false (show ¬ ((s.size : Int) < (s.size : Int)) by omega), bcond_f]
    rfl
  | c :: t, p, m + 1, p2, hl, hp, hm => by
    obtain ⟨h1, h2, h3⟩ := at_cons hl
    have ew : IntKind.i64.wrap ((p : Int) + 1) = ((p + 1 : Nat) : Int) := wrap_id _ (by omega) (by omega)
    rw [L_succ, R11_word.loop0, decide_eq_true (show ((p : Int) < (s.size : Int)) by omega), decide_eq_true (show (0 : Int) ≤ (p : Int) by omega), bcond_t, Bool.and_self, chk_t, cB, rletter_spec hk, h2, ew]
    show bcond (isLetterI c.toNat) _ _ = _
    rw [wordLen_cons]
    have hw : isWordB c = (isLetterI c.toNat || isDigitI c.toNat) := rfl
    have e2 : p + 1 + wordLen t = p + (wordLen t + 1) := by omega
    cases hc : isLetterI c.toNat with
    | true =>
      rw [bcond_t, hw, hc, Bool.true_or, if_pos rfl, rword_loop hk hs t (p + 1) m _ h3 (by omega) (by simp at hm; omega), e2]
    | false =>
      rw [bcond_f, chk_t, cB, rdigit_spec hk]
      show bcond (isDigitI c.toNat) _ _ = _
      rw [hw, hc, Bool.false_or]
      cases hd : isDigitI c.toNat with
      | true => rw [bcond_t, if_pos rfl, rword_loop hk hs t (p + 1) m _ h3 (by omega) (by simp at hm; omega), e2]
      | false => rfl
theorem rword_spec {s : ByteArray} {p : Nat} (hk : 2 ≤ k) (hs : s.size ≤ 1000000000) (hn : s.size < n) (hp : p ≤ s.size) : callW (En n) k 137 [.str s, .int .i64 p] sg K = K ⟨false, .int .i64 ((p + wordLen (s.data.toList.drop p) : Nat) : Int)⟩ sg := by
  rw [callW_at (by omega) rfl, R11_word.eq]
  exact rword_loop (by omega) hs _ p n .skip rfl hp (by rw [List.length_drop, len_data]; omega)
def wRows (l : List (List UInt8)) : List (List PV) := l.map fun x => [.str (tx x)]
theorem rkw_loop {s : ByteArray} {ls : List (List UInt8)} (hls : ls.length ≤ 100) : ∀ (r : List (List UInt8)) (i m : Nat) (p3 p4 : PV), ls.drop i = r → i ≤ ls.length → r.length < m →
    L n (callW (En n) k) 101 [1, 1, 0, 1, 0, 0] (R11_Keyword.S0 s (wRows ls) (i : Int) p3 p4) sg (R11_Keyword.K0 (callW (En n) k) n K) m = K ⟨false, .bool (r.any (s.data.toList == ·))⟩ sg
  | r, i, 0, _, _, hr, hi, hm => by omega
  | [], i, m + 1, p3, p4, hr, hi, hm => by
    have hl : (wRows ls).length = ls.length := by simp [wRows]
    have : i = ls.length := by have := List.drop_eq_nil_iff.1 hr; omega
    rw [L_succ, R11_Keyword.loop0, hl, decide_eq_false (show ¬ ((i : Int) < (ls.length : Int)) by omega), bcond_f]
    rfl
  | y :: r, i, m + 1, p3, p4, hr, hi, hm => by
    have hl : (wRows ls).length = ls.length := by simp [wRows]
    have hil : i < ls.length := by
      apply Classical.byContradiction; intro hn
      rw [List.drop_eq_nil_of_le (by omega)] at hr; cases hr
    have hy : ls.getD i [] = y ∧ ls.drop (i + 1) = r := by
      rw [List.drop_eq_getElem_cons hil] at hr
      injection hr with e1 e2
      exact ⟨by rw [List.getD_eq_getElem?_getD, List.getElem?_eq_getElem hil]; exact e1, e2⟩
    have ew : IntKind.i64.wrap ((i : Int) + 1) = ((i + 1 : Nat) : Int) := wrap_id _ (by omega) (by omega)
    have hrow : rowAt (wRows ls) (i : Int) = [.str (tx y)] := by
      rw [wRows, rowAt_map (fun x => [PV.str (tx x)]) ls (i : Int) [] (by omega) (by omega), Int.toNat_natCast, hy.1]
    rw [L_succ, R11_Keyword.loop0, hl, decide_eq_true (show ((i : Int) < (ls.length : Int)) by omega), decide_eq_true (show (0 : Int) ≤ (i : Int) by omega), bcond_t, show rowsOk 1 (wRows ls) = true from rowsOk_map _ 1 (fun _ => rfl) ls, hrow, ew]
    show bcond ((tx y).toList == s.toList) _ _ = _
    rw [str_eqb, tx_list, List.any_cons, show (y == s.data.toList) = (s.data.toList == y) from Bool.beq_comm ..]
    cases hx : (s.data.toList == y) with
    | true => rfl
    | false =>
      rw [bcond_f, Bool.false_or]
      exact rkw_loop hls r (i + 1) m _ _ hy.2 (by omega) (by simp at hm; omega)
theorem rkw_spec (hk : 1 ≤ k) (hn : 30 ≤ n) (s : ByteArray) : callW (En n) k 101 [.str s] sg K = K ⟨false, .bool (isKwL s.data.toList)⟩ sg := by
  rw [callW_at hk rfl, R11_Keyword.eq]
  exact rkw_loop (ls := kwL) (by decide) kwL 0 n _ _ rfl (by omega) (by show 16 < n; omega)
theorem rmark_loop {s : ByteArray} {ls : List (List UInt8)} (hls : ls.length ≤ 100) : ∀ (r : List (List UInt8)) (i m : Nat) (p3 p4 : PV), ls.drop i = r → i ≤ ls.length → r.length < m →
    L n (callW (En n) k) 108 [1, 1, 0, 1, 0, 0] (R11_Mark.S0 s (wRows ls) (i : Int) p3 p4) sg (R11_Mark.K0 (callW (En n) k) n K) m = K ⟨false, .bool (r.any (s.data.toList == ·))⟩ sg
  | r, i, 0, _, _, hr, hi, hm => by omega
  | [], i, m + 1, p3, p4, hr, hi, hm => by
    have hl : (wRows ls).length = ls.length := by simp [wRows]
    have : i = ls.length := by have := List.drop_eq_nil_iff.1 hr; omega
    rw [L_succ, R11_Mark.loop0, hl, decide_eq_false (show ¬ ((i : Int) < (ls.length : Int)) by omega), bcond_f]
    rfl
  | y :: r, i, m + 1, p3, p4, hr, hi, hm => by
    have hl : (wRows ls).length = ls.length := by simp [wRows]
    have hil : i < ls.length := by
      apply Classical.byContradiction; intro hn
      rw [List.drop_eq_nil_of_le (by omega)] at hr; cases hr
    have hy : ls.getD i [] = y ∧ ls.drop (i + 1) = r := by
      rw [List.drop_eq_getElem_cons hil] at hr
      injection hr with e1 e2
      exact ⟨by rw [List.getD_eq_getElem?_getD, List.getElem?_eq_getElem hil]; exact e1, e2⟩
    have ew : IntKind.i64.wrap ((i : Int) + 1) = ((i + 1 : Nat) : Int) := wrap_id _ (by omega) (by omega)
    have hrow : rowAt (wRows ls) (i : Int) = [.str (tx y)] := by
      rw [wRows, rowAt_map (fun x => [PV.str (tx x)]) ls (i : Int) [] (by omega) (by omega), Int.toNat_natCast, hy.1]
    rw [L_succ, R11_Mark.loop0, hl, decide_eq_true (show ((i : Int) < (ls.length : Int)) by omega), decide_eq_true (show (0 : Int) ≤ (i : Int) by omega), bcond_t, show rowsOk 1 (wRows ls) = true from rowsOk_map _ 1 (fun _ => rfl) ls, hrow, ew]
    show bcond ((tx y).toList == s.toList) _ _ = _
    rw [str_eqb, tx_list, List.any_cons, show (y == s.data.toList) = (s.data.toList == y) from Bool.beq_comm ..]
    cases hx : (s.data.toList == y) with
    | true => rfl
    | false =>
      rw [bcond_f, Bool.false_or]
      exact rmark_loop hls r (i + 1) m _ _ hy.2 (by omega) (by simp at hm; omega)
theorem rmark_spec (hk : 1 ≤ k) (hn : 30 ≤ n) (s : ByteArray) : callW (En n) k 108 [.str s] sg K = K ⟨false, .bool (isMarkL s.data.toList)⟩ sg := by
  rw [callW_at hk rfl, R11_Mark.eq]
  exact rmark_loop (ls := markL) (by decide) markL 0 n _ _ rfl (by omega) (by show 21 < n; omega)
theorem L_pos {q : Caller} {f : Nat} {p : List Nat} {sl : List PV} {K : Cont} {m : Nat} (h : 0 < m) : L n q f p sl sg K m = T n q f p sl sg (lK (En n) q f p K (m - 1)) := by
  obtain ⟨j, rfl⟩ : ∃ j, m = j + 1 := ⟨m - 1, by omega⟩
  exact L_succ ..
theorem rskip_in {s : ByteArray} {m0 : Nat} {b2 b3 b4 : Bool} (hs : s.size ≤ 1000000000) : ∀ (l : List UInt8) (p m : Nat) (p5 : PV), s.data.toList.drop p = l → p ≤ s.size → l.length < m →
    (∀ (p' : Nat) (p2 p3 p4 p5 : PV), p ≤ p' → p' ≤ s.size → p + skipGo true l = p' + skipGo false (s.data.toList.drop p') → L n (callW (En n) k) 103 [1, 0, 0, 0] (R11_skip.S0 s (p' : Int) p2 p3 p4 p5) sg (R11_skip.K0 (callW (En n) k) n K) m0) →
    L n (callW (En n) k) 103 [1, 0, 0, 0, 1, 0, 1, 1, 1, 0, 0, 0] (R11_skip.S1 s (p : Int) b2 b3 b4 p5) sg (R11_skip.K1 (callW (En n) k) n m0 K) m
  | l, p, 0, p5, hl, hp, hm, h => by omega
  | [], p, m + 1, p5, hl, hp, hm, h => by
    have hp' := at_end hl hp
    rw [L_succ, R11_skip.loop1, decide_eq_false (show ¬ ((p : Int) < (s.size : Int)) by omega), bcond_f]
    exact h p _ _ _ _ (by omega) hp (by rw [hl]; rfl)
  | c :: t, p, m + 1, p5, hl, hp, hm, h => by
    obtain ⟨h1, h2, h3⟩ := at_cons hl
    have ew : IntKind.i64.wrap ((p : Int) + 1) = ((p + 1 : Nat) : Int) := wrap_id _ (by omega) (by omega)
    rw [L_succ, R11_skip.loop1, decide_eq_true (show ((p : Int) < (s.size : Int)) by omega), decide_eq_true (show (0 : Int) ≤ (p : Int) by omega), bcond_t, Bool.and_self, chk_t, h2, ew]
    by_cases h10 : c.toNat = 10
    · have e : ((c.toNat : Int) != 10) = false := by simp; omega
      rw [e, bcond_f]
      refine h p _ _ _ _ (by omega) hp ?_
      rw [hl, skipGo_cons, if_pos rfl, if_pos h10, skipGo_cons, if_neg (by simp), if_pos (by unfold blankI; simp [h10])]
    · have e : ((c.toNat : Int) != 10) = true := by simp; omega
      rw [e, bcond_t]
      refine rskip_in hs t (p + 1) m _ h3 (by omega) (by simp at hm; omega) fun p' _ _ _ _ hp1 hp2 heq => h p' _ _ _ _ (by omega) hp2 ?_
      rw [← heq, skipGo_cons, if_pos rfl, if_neg h10]
      omega
theorem rskip_loop {s : ByteArray} (hs : s.size ≤ 1000000000) (hn : s.size < n) : ∀ (m p : Nat) (p2 p3 p4 p5 : PV), p ≤ s.size → s.size - p < m → K ⟨false, .int .i64 ((p + skipGo false (s.data.toList.drop p) : Nat) : Int)⟩ sg →
    L n (callW (En n) k) 103 [1, 0, 0, 0] (R11_skip.S0 s (p : Int) p2 p3 p4 p5) sg (R11_skip.K0 (callW (En n) k) n K) m
  | 0, p, _, _, _, _, hp, hm, h => by omega
  | m + 1, p, p2, p3, p4, p5, hp, hm, h => by
    rw [L_succ, R11_skip.loop0]
    cases hl : s.data.toList.drop p with
    | nil =>
      obtain rfl := at_end hl hp
      rw [decide_eq_false (show ¬ ((s.size : Int) < (s.size : Int)) by omega), bcond_f]
      rw [hl] at h
      exact h
    | cons c t =>
      obtain ⟨h1, h2, h3⟩ := at_cons hl
      have ew : IntKind.i64.wrap ((p : Int) + 1) = ((p + 1 : Nat) : Int) := wrap_id _ (by omega) (by omega)
      rw [decide_eq_true (show ((p : Int) < (s.size : Int)) by omega), decide_eq_true (show (0 : Int) ≤ (p : Int) by omega), bcond_t, Bool.and_self, h2, ew]
      simp only [chk_t]
      have hblank : blankI c.toNat = true → ∀ (p2 p3 p4 p5 : PV), L n (callW (En n) k) 103 [1, 0, 0, 0] (R11_skip.S0 s ((p + 1 : Nat) : Int) p2 p3 p4 p5) sg (R11_skip.K0 (callW (En n) k) n K) m := by
        intro hb p2 p3 p4 p5
        refine rskip_loop hs hn m (p + 1) _ _ _ _ (by omega) (by omega) ?_
        rw [hl, skipGo_cons, if_neg (by simp), if_pos hb] at h
        rw [h3, show p + 1 + skipGo false t = p + (skipGo false t + 1) by omega]
        exact h
      cases e1 : ((c.toNat : Int) == 32) with
      | true => exact hblank (by unfold blankI; rw [e1]; rfl) _ _ _ _
      | false =>
      cases e2 : ((c.toNat : Int) == 9) with
      | true => exact hblank (by unfold blankI; rw [e1, e2]; rfl) _ _ _ _
      | false =>
      cases e3 : ((c.toNat : Int) == 10) with
      | true => exact hblank (by unfold blankI; rw [e1, e2, e3]; rfl) _ _ _ _
      | false =>
        have hnb : blankI c.toNat = false := by unfold blankI; rw [e1, e2, e3]; rfl
        rw [bcond_f, bcond_f, bcond_f]
        rw [hl, skipGo_cons, if_neg (by simp), if_neg (by simp [hnb])] at h
        cases e47 : ((c.toNat : Int) == 47) with
        | false =>
          rw [if_neg (by rintro ⟨e, _⟩; simp [e] at e47)] at h
          exact h
        | true =>
          have hc : c.toNat = 47 := by simp at e47; omega
          rw [bcond_t]
          cases ht : t with
          | nil =>
            have : s.size = p + 1 := by
              have := at_end (p := p + 1) (by rw [h3, ht]) (by omega)
              omega
            rw [decide_eq_false (show ¬ (((p + 1 : Nat) : Int) < (s.size : Int)) by omega), bcond_f]
            rw [ht, if_neg (by simp)] at h
            exact h
          | cons d u =>
            obtain ⟨g1, g2, g3⟩ := at_cons (p := p + 1) (by rw [h3, ht])
            rw [decide_eq_true (show (((p + 1 : Nat) : Int) < (s.size : Int)) by omega), decide_eq_true (show (0 : Int) ≤ ((p + 1 : Nat) : Int) by omega), bcond_t, Bool.and_self, chk_t, g2]
            by_cases hd : d.toNat = 47
            · rw [beq_iff_eq.2 (show (d.toNat : Int) = 47 by omega), bcond_t]
              rw [ht, if_pos ⟨hc, by simp [hd]⟩] at h
              rw [L_pos (by omega), R11_skip.loop1, decide_eq_true (show ((p : Int) < (s.size : Int)) by omega), decide_eq_true (show (0 : Int) ≤ (p : Int) by omega), bcond_t, Bool.and_self, chk_t, h2, ew]
              have e : ((c.toNat : Int) != 10) = true := by simp; omega
              rw [e, bcond_t]
              refine rskip_in hs (d :: u) (p + 1) (n - 1) _ (by rw [h3, ht]) (by omega) ?_ fun p' _ _ _ _ hp1 hp2 heq => rskip_loop hs hn m p' _ _ _ _ hp2 (by omega) ?_
              · rw [← ht, ← h3, List.length_drop, len_data]; omega
              · rw [← heq, show p + 1 + skipGo true (d :: u) = p + (skipGo true (d :: u) + 1) by omega]
                exact h
            · rw [beq_eq_false_iff_ne.2 (show (d.toNat : Int) ≠ 47 by omega), bcond_f]
              rw [ht, if_neg (by rintro ⟨_, e⟩; simp at e; omega)] at h
              exact h
theorem tkRSkip_spec {s : ByteArray} {p : Nat} (hk : 1 ≤ k) (hs : s.size ≤ 1000000000) (hn : s.size < n) (hp : p ≤ s.size) (h : K ⟨false, .int .i64 ((p + skipGo false (s.data.toList.drop p) : Nat) : Int)⟩ sg) : callW (En n) k 103 [.str s, .int .i64 p] sg K := by
  rw [callW_at (by omega) rfl, R11_skip.eq]
  exact rskip_loop hs hn n p _ _ _ _ hp (by omega) h
end
end Go.Ev
namespace Go.Ev
open PV
section
variable {n k : Nat} {sg : List (List PV)} {K : Res → Out}
theorem rint_loop {s : ByteArray} {i1 : Int} (hk : 1 ≤ k) (hs : s.size ≤ 1000000000) : ∀ (l : List UInt8) (p m : Nat) (p2 : PV), s.data.toList.drop p = l → p ≤ s.size → l.length < m →
    (∀ b, C n (callW (En n) k) 139 [1, 1, 1] (R11_number.S1 s i1 ((p + digLen l : Nat) : Int) b) sg (R11_number.K1 (callW (En n) k) n K)) →
    L n (callW (En n) k) 139 [1, 1, 0, 0, 0] (R11_number.S0 s i1 (p : Int) p2) sg (R11_number.K0 (callW (En n) k) n K) m
  | l, p, 0, p2, hl, hp, hm, h => by omega
  | [], p, m + 1, p2, hl, hp, hm, h => by
    obtain rfl := at_end hl hp
    rw [L_succ, R11_number.loop0, decide_eq_false (show ¬ ((s.size : Int) < (s.size : Int)) by omega), bcond_f]
    exact h _
  | c :: t, p, m + 1, p2, hl, hp, hm, h => by
    obtain ⟨h1, h2, h3⟩ := at_cons hl
    have ew : IntKind.i64.wrap ((p : Int) + 1) = ((p + 1 : Nat) : Int) := wrap_id _ (by omega) (by omega)
    rw [L_succ, R11_number.loop0, decide_eq_true (show ((p : Int) < (s.size : Int)) by omega), decide_eq_true (show (0 : Int) ≤ (p : Int) by omega), bcond_t, Bool.and_self, chk_t, cB, rdigit_spec hk, h2, ew]
    show bcond (isDigitI c.toNat) _ _
    rw [digLen_cons] at h
    have hw : isDigitB c = isDigitI c.toNat := rfl
    rw [hw] at h
    cases hd : isDigitI c.toNat with
    | true =>
      rw [hd, if_pos rfl] at h
      rw [bcond_t]
      refine rint_loop hk hs t (p + 1) m _ h3 (by omega) (by simp at hm; omega) ?_
      rw [show p + 1 + digLen t = p + (digLen t + 1) by omega]
      exact h
    | false =>
      rw [hd] at h
      exact h _
theorem ext_mid (s : ByteArray) (p d : Nat) : s.extract p (p + d) = tx ((s.data.toList.drop p).take d) := by rw [ext_tx, Nat.add_sub_cancel_left]
theorem rint_spec {s : ByteArray} {p : Nat} (hk : 2 ≤ k) (hs : s.size ≤ 1000000000) (hn : s.size < n) (hp : p < s.size) (h : ∀ v, RefV (intR (s.data.toList.drop p)) p v → K ⟨false, v⟩ sg) : callW (En n) k 139 [.str s, .int .i64 p] sg K := by
  rw [callW_at (by omega) rfl, R11_number.eq]
  refine rint_loop (by omega) hs _ p n _ rfl (by omega) (by rw [List.length_drop, len_data]; omega) fun b => ?_
  have hd := digLen_le (s.data.toList.drop p)
  rw [List.length_drop, len_data] at hd
  rw [C_eq, R11_number.cut1, b3 (by omega) (by omega) (by omega), chk_t, b2 (by omega) (by omega), chk_t, Int.toNat_natCast, Int.toNat_natCast, ext_mid]
  cases hl : s.data.toList.drop p with
  | nil => have := List.drop_eq_nil_iff.1 hl; rw [len_data] at this; omega
  | cons c t =>
    obtain ⟨_, hb, _⟩ := at_cons hl
    rw [hl] at h hd
    rw [hb]
    have e48 : (some c == some (48 : UInt8)) = ((c.toNat : Int) == 48) := by
      rw [Bool.eq_iff_iff, beq_iff_eq, beq_iff_eq, Option.some.injEq]
      constructor
      · intro e; rw [e]; rfl
      · intro e; exact UInt8.toNat_inj.1 (by show c.toNat = 48; omega)
    have ew1 : IntKind.i64.wrap ((p : Int) + 1) = ((p + 1 : Nat) : Int) := wrap_id _ (by omega) (by omega)
    have ew9 : IntKind.i64.wrap ((p : Int) + 9) = ((p + 9 : Nat) : Int) := wrap_id _ (by omega) (by omega)
    unfold intR at h
    rw [List.head?_cons, e48] at h
    generalize digLen (c :: t) = d at *
    have e1 : decide (((p + d : Nat) : Int) > ((p + 1 : Nat) : Int)) = decide (1 < d) := decide_eq_decide.2 (by omega)
    have e9 : decide (((p + d : Nat) : Int) > ((p + 9 : Nat) : Int)) = decide (9 < d) := decide_eq_decide.2 (by omega)
    rw [ew1, e1]
    have tail : ∀ b b', ((c.toNat : Int) == 48 && decide (1 < d)) = false → C n (callW (En n) (k - 1)) 139 [1, 1, 1, 1, 1] (R11_number.S2 s (p : Int) ((p + d : Nat) : Int) (tx ((c :: t).take d)) (p : Int) ((p + d : Nat) : Int) b b') sg (R11_number.K2 (callW (En n) (k - 1)) n K) := by
      intro b b' hf
      rw [hf, if_neg (by simp)] at h
      rw [C_eq, R11_number.cut2, ew9, e9]
      by_cases h9 : 9 < d
      · rw [decide_eq_true h9, bcond_t]
        rw [if_pos h9] at h
        exact h _ (RefV.bad 4 (by decide) rfl _ _ _ _)
      · rw [decide_eq_false h9, bcond_f]
        rw [if_neg h9] at h
        refine h _ (.inl ?_)
        unfold rtV
        rw [if_pos rfl, Int.natCast_add]
        rfl
    cases hc : ((c.toNat : Int) == 48) with
    | false => exact tail _ _ (by rw [hc]; rfl)
    | true =>
      rw [bcond_t]
      by_cases h1 : 1 < d
      · rw [decide_eq_true h1, bcond_t]
        rw [hc, decide_eq_true h1, Bool.and_self, if_pos rfl] at h
        exact h _ (RefV.bad 11 (by decide) rfl _ _ _ _)
      · rw [decide_eq_false h1, bcond_f]
        exact tail _ _ (by rw [decide_eq_false h1, Bool.and_false])
theorem wordT_word (l : List UInt8) : wordLen (wordT l) = (wordT l).length := by
  unfold wordT
  induction l with
  | nil => rfl
  | cons c t ih =>
    rw [wordLen_cons]
    by_cases hc : isWordB c = true
    · rw [if_pos hc, List.take_succ_cons, wordLen_cons, if_pos hc, ih]; rfl
    · rw [if_neg hc]; rfl
theorem nameL_word (l : List UInt8) (c : UInt8) (t : List UInt8) (h : wordT l = c :: t) : nameL (wordT l) = (isLetterI c.toNat && !isKwL (wordT l)) := by
  unfold nameL
  rw [wordT_word, h]
  simp
theorem tkRMeta_spec {s : ByteArray} {p : Nat} (hk : 4 ≤ k) (hs : s.size ≤ 1000000000) (hn : s.size + 30 < n) (hp : p < s.size) (h : ∀ v, RefV (metaR (s.data.toList.drop p)) p v → K ⟨false, v⟩ sg) : callW (En n) k 141 [.str s, .int .i64 p] sg K := by
  rw [callW_at (by omega) rfl, R11_meta.eq]
  have ew1 : IntKind.i64.wrap ((p : Int) + 1) = ((p + 1 : Nat) : Int) := wrap_id _ (by omega) (by omega)
  have ew2 : IntKind.i64.wrap (((p + 1 : Nat) : Int) + 1) = ((p + 2 : Nat) : Int) := wrap_id _ (by omega) (by omega)
  rw [ew1, ew2]
  have key : ∀ (N : Nat) (b : Bool), metaN (s.data.toList.drop p) = N → p + N ≤ s.size → C n (callW (En n) (k - 1)) 141 [1, 1, 1, 1] (R11_meta.S0 s (p : Int) (if N = 2 then 7 else 6) (p : Int) ((p + N : Nat) : Int) b) sg (R11_meta.K0 (callW (En n) (k - 1)) n K) := by
    intro N b hN hle
    have hwl := wordLen_le (s.data.toList.drop (p + N))
    rw [List.length_drop, len_data] at hwl
    rw [C_eq, R11_meta.cut0, cI, rword_spec (by omega) hs (by omega) hle]
    show C n _ 141 _ (R11_meta.S1 s (p : Int) _ (p : Int) ((p + N + wordLen (s.data.toList.drop (p + N)) : Nat) : Int) ((p + N : Nat) : Int) b) sg _
    rw [C_eq, R11_meta.cut1, b3 (by omega) (by omega) (by omega), chk_t, Int.toNat_natCast, Int.toNat_natCast, ext_mid]
    have hT : (s.data.toList.drop (p + N)).take (wordLen (s.data.toList.drop (p + N))) = metaT (s.data.toList.drop p) := by
      unfold metaT; rw [hN, List.drop_drop]
    have hTw : metaT (s.data.toList.drop p) = wordT (s.data.toList.drop (p + N)) := hT.symm
    have hTl : (metaT (s.data.toList.drop p)).length = wordLen (s.data.toList.drop (p + N)) := by
      rw [← hT, List.length_take, List.length_drop, len_data]; omega
    rw [hT, str_eqb, tx_list, tx_size, ← hTl]
    cases hl : metaT (s.data.toList.drop p) with
    | nil =>
      show bcond true _ _
      rw [bcond_t]
      refine h _ (RefV.bad 11 (by decide) ?_ _ _ _ _)
      unfold metaR
      rw [hl]; rfl
    | cons c t =>
      have hnm : nameL (c :: t) = (isLetterI c.toNat && !isKwL (c :: t)) := by
        have := nameL_word _ c t (hTw.symm.trans hl)
        rw [← hTw, hl] at this
        exact this
      have hb : byteAt (tx (c :: t)) 0 = (c.toNat : Int) := (at_cons (s := tx (c :: t)) (p := 0) rfl).2.1
      show bcond false _ _
      rw [bcond_f, decide_eq_true (show (0 : Int) < ((c :: t).length : Int) by simp), chk_t, cB, rletter_spec (by omega), hb]
      show bcond (!(isLetterI c.toNat)) _ _
      unfold metaR at h
      rw [hl, hnm] at h
      cases hc : isLetterI c.toNat with
      | false =>
        rw [hc] at h
        exact h _ (RefV.bad 11 (by decide) rfl _ _ _ _)
      | true =>
        rw [hc] at h
        rw [Bool.not_true, bcond_f, cB, rkw_spec (by omega) (by omega), tx_list]
        show bcond (isKwL (c :: t)) _ _
        cases hkw : isKwL (c :: t) with
        | true =>
          rw [hkw] at h
          exact h _ (RefV.bad 11 (by decide) rfl _ _ _ _)
        | false =>
          rw [hkw] at h
          rw [bcond_f, C_eq, R11_meta.cut2, tx_size]
          have e24 : decide (((c :: t).length : Int) > 24) = decide (24 < (c :: t).length) := decide_eq_decide.2 (by omega)
          rw [e24]
          rw [Bool.not_false, Bool.and_self, Bool.not_true, if_neg (by simp)] at h
          by_cases h24 : 24 < (c :: t).length
          · rw [decide_eq_true h24, bcond_t]
            rw [if_pos h24] at h
            exact h _ (RefV.bad 4 (by decide) rfl _ _ _ _)
          · rw [decide_eq_false h24, bcond_f]
            rw [if_neg h24, hN] at h
            refine h _ (.inl ?_)
            unfold rtV
            rw [if_pos rfl]
            show tokV _ _ _ _ _ = tokV _ _ _ _ _
            rw [show ((p + N + (c :: t).length : Nat) : Int) = (p : Int) + ((N + (c :: t).length : Nat) : Int) by omega]
  cases hl : s.data.toList.drop (p + 1) with
  | nil =>
    have hend := at_end hl (by omega)
    rw [decide_eq_false (show ¬ (((p + 1 : Nat) : Int) < (s.size : Int)) by omega), bcond_f]
    refine key 1 false ?_ (by omega)
    unfold metaN
    rw [List.drop_drop, hl]; rfl
  | cons d u =>
    obtain ⟨h1, h2, _⟩ := at_cons hl
    have hN : metaN (s.data.toList.drop p) = if d = 36 then 2 else 1 := by
      unfold metaN
      rw [List.drop_drop, hl]
      simp
    rw [decide_eq_true (show ((p + 1 : Nat) : Int) < (s.size : Int) by omega), bcond_t, decide_eq_true (show (0 : Int) ≤ ((p + 1 : Nat) : Int) by omega), Bool.and_self, chk_t, h2]
    by_cases hd : d = 36
    · subst hd
      rw [if_pos rfl] at hN
      exact key 2 true hN (by omega)
    · rw [if_neg hd] at hN
      rw [beq_eq_false_iff_ne.2 (show (d.toNat : Int) ≠ 36 from fun e => hd (UInt8.toNat_inj.1 (by show d.toNat = 36; omega))), bcond_f]
      exact key 1 _ hN (by omega)
/-- Bytes as rows of a slice. -/
def bRows (l : List UInt8) : List (List PV) := l.map fun b => [.int .u8 (b.toNat : Int)]
theorem bRows_len (l : List UInt8) : (bRows l).length = l.length := by simp [bRows]
theorem bRows_ok (l : List UInt8) : rowsOk 1 (bRows l) = true := by simp [bRows, rowsOk]
theorem bRows_byte (l : List UInt8) : (bRows l).all isByteRow = true := by simp [bRows, isByteRow]
theorem bRows_tx (l : List UInt8) : bytesOf (bRows l) = tx l := by
  unfold bytesOf bRows tx
  rw [List.map_map]
  congr 1
  have : (rowByte ∘ fun b : UInt8 => [PV.int .u8 (b.toNat : Int)]) = id := by
    funext b
    show UInt8.ofNat ((b.toNat : Int).toNat) = b
    rw [Int.toNat_natCast]
    exact UInt8.ofNat_toNat
  rw [this, List.map_id]
theorem bRows_app (l : List UInt8) (b : UInt8) (i : Int) (h : i = (b.toNat : Int)) : bRows l ++ [[.int .u8 i]] = bRows (l ++ [b]) := by subst h; simp [bRows]
theorem lit_app (acc : List UInt8) (hl : acc.length ≤ 1000000000 - 1) (Y : Prop) : chk (rowsOk 1 (bRows acc) && decide ((bRows acc).length + 1 ≤ mostL)) Y = Y := by
  rw [bRows_ok, bRows_len, decide_eq_true (show acc.length + 1 ≤ mostL by unfold mostL; omega)]; rfl
theorem rlit_end {s : ByteArray} {p0 p : Nat} {acc : List UInt8} (hp : p ≤ s.size) (hs : s.size ≤ 1000000000) (hp0 : p0 ≤ p)
    (h : K ⟨false, rtV (if p < s.size then (if 60 < acc.length then .bad 4 else ⟨0, 4, acc, p - p0 + 1⟩) else .bad 11) p0⟩ sg) :
    bcond (decide ((p : Int) ≥ (s.size : Int))) (K ⟨false, .tup [.agg ([.int .i64 0, .str (⟨#[]⟩ : ByteArray), .int .i64 0, .int .i64 0]), .int .i64 11]⟩ sg) (bcond (decide (((bRows acc).length : Int) > 60)) (K ⟨false, .tup [.agg ([.int .i64 0, .str (⟨#[]⟩ : ByteArray), .int .i64 0, .int .i64 0]), .int .i64 4]⟩ sg) (chk ((bRows acc).all isByteRow) (K ⟨false, .tup [.agg [.int .i64 4, .str (bytesOf (bRows acc)), .int .i64 p0, .int .i64 (IntKind.i64.wrap ((p : Int) + 1))], .int .i64 0]⟩ sg))) := by
  by_cases h1 : p < s.size
  · rw [if_pos h1] at h
    rw [decide_eq_false (show ¬ ((p : Int) ≥ (s.size : Int)) by omega), bcond_f, bRows_len]
    by_cases h2 : 60 < acc.length
    · rw [if_pos h2] at h
      rw [decide_eq_true (show ((acc.length : Int) > 60) by omega), bcond_t]
      exact h
    · rw [if_neg h2] at h
      rw [decide_eq_false (show ¬ ((acc.length : Int) > 60) by omega), bcond_f, bRows_byte, chk_t, bRows_tx, wrap_id _ (by omega) (by omega)]
      have e : (p0 : Int) + ((p - p0 + 1 : Nat) : Int) = (p : Int) + 1 := by omega
      rw [← e]
      exact h
  · rw [if_neg h1] at h
    rw [decide_eq_true (show ((p : Int) ≥ (s.size : Int)) by omega), bcond_t]
    exact h
theorem rlit_loop {s : ByteArray} {p0 : Nat} (hs : s.size ≤ 1000000000) : ∀ (N : Nat) (l : List UInt8) (p m : Nat) (acc : List UInt8) (p4 p5 p6 p7 p8 p9 : PV), l.length ≤ N → s.data.toList.drop p = l → p0 < p → p ≤ s.size → l.length < m → acc.length < p → K ⟨false, rtV (litGo l (p - p0) acc) p0⟩ sg →
    L n (callW (En n) k) 140 [1, 1, 1, 0, 0, 0] (R11_literal.S0 s (p0 : Int) (bRows acc) (p : Int) p4 p5 p6 p7 p8 p9) sg (R11_literal.K0 (callW (En n) k) n K) m
  | N, l, p, 0, acc, p4, p5, p6, p7, p8, p9, hN, hl, h0, hp, hm, ha, h => by omega
  | N, [], p, m + 1, acc, p4, p5, p6, p7, p8, p9, hN, hl, h0, hp, hm, ha, h => by
    obtain rfl := at_end hl hp
    rw [L_succ, R11_literal.loop0, decide_eq_false (show ¬ ((s.size : Int) < (s.size : Int)) by omega), bcond_f]
    refine rlit_end hp hs (by omega) ?_
    rw [if_neg (by omega)]
    exact h
  | 0, c :: t, p, m + 1, acc, p4, p5, p6, p7, p8, p9, hN, hl, h0, hp, hm, ha, h => by simp at hN
  | N + 1, c :: t, p, m + 1, acc, p4, p5, p6, p7, p8, p9, hN, hl, h0, hp, hm, ha, h => by
    obtain ⟨h1, h2, h3⟩ := at_cons hl
    simp only [List.length_cons] at hN hm
    have ew : IntKind.i64.wrap ((p : Int) + 1) = ((p + 1 : Nat) : Int) := wrap_id _ (by omega) (by omega)
    have ew2 : IntKind.i64.wrap (((p + 1 : Nat) : Int) + 1) = ((p + 2 : Nat) : Int) := wrap_id _ (by omega) (by omega)
    rw [L_succ, R11_literal.loop0, decide_eq_true (show ((p : Int) < (s.size : Int)) by omega), decide_eq_true (show (0 : Int) ≤ (p : Int) by omega), bcond_t, Bool.and_self, chk_t, h2]
    by_cases hq : c.toNat = 34
    · rw [litGo_q hq] at h
      rw [show (((c.toNat : Int) != 34)) = false by simp only [bne, hq]; rfl, bcond_f]
      exact rlit_end hp hs (by omega) (by rw [if_pos h1]; exact h)
    rw [show (((c.toNat : Int) != 34)) = true by simp only [bne_iff_ne, ne_eq]; omega, bcond_t, C_eq, R11_literal.cut1, decide_eq_true (show ((p : Int) < (s.size : Int)) by omega), decide_eq_true (show (0 : Int) ≤ (p : Int) by omega), Bool.and_self, chk_t, h2]
    by_cases hb : c.toNat < 32 ∨ 126 < c.toNat
    · rw [litGo_bad hq hb] at h
      by_cases hb1 : c.toNat < 32
      · rw [decide_eq_true (show ((c.toNat : Int) < 32) by omega), bcond_t]; exact h
      · rw [decide_eq_false (show ¬ ((c.toNat : Int) < 32) by omega), bcond_f, decide_eq_true (show ((c.toNat : Int) > 126) by omega), bcond_t]; exact h
    rw [decide_eq_false (show ¬ ((c.toNat : Int) < 32) by omega), bcond_f, decide_eq_false (show ¬ ((c.toNat : Int) > 126) by omega), bcond_f, C_eq, R11_literal.cut2, ew, ew2]
    by_cases he : c.toNat = 92
    · rw [beq_iff_eq.2 (show ((c.toNat : Int) = 92) by omega), bcond_t]
      cases t with
      | nil =>
        rw [litGo_end he] at h
        have := at_end h3 (by omega)
        rw [decide_eq_true (show (((p + 1 : Nat) : Int) ≥ (s.size : Int)) by omega), bcond_t]
        exact h
      | cons d u =>
        obtain ⟨k1, k2, k3⟩ := at_cons h3
        simp only [List.length_cons] at hN hm
        rw [decide_eq_false (show ¬ (((p + 1 : Nat) : Int) ≥ (s.size : Int)) by omega), bcond_f, decide_eq_true (show (((p + 1 : Nat) : Int) < (s.size : Int)) by omega), decide_eq_true (show (0 : Int) ≤ ((p + 1 : Nat) : Int) by omega), Bool.and_self]
        simp only [chk_t]
        rw [k2, lit_app acc (by omega), lit_app acc (by omega)]
        have e2 : p - p0 + 2 = p + 2 - p0 := by omega
        have esc : (d.toNat = 34 ∨ d.toNat = 92) → ∀ x4 x5 x6 x7 x8 x9, L n (callW (En n) k) 140 [1, 1, 1, 0, 0, 0] (R11_literal.S0 s (p0 : Int) (bRows acc ++ [[.int .u8 (d.toNat : Int)]]) ((p + 2 : Nat) : Int) x4 x5 x6 x7 x8 x9) sg (R11_literal.K0 (callW (En n) k) n K) m := by
          intro hd x4 x5 x6 x7 x8 x9
          rw [litGo_esc he hd, e2] at h
          rw [bRows_app acc d _ rfl]
          exact rlit_loop hs N u (p + 2) m _ _ _ _ _ _ _ (by omega) k3 (by omega) (by omega) (by omega) (by simp; omega) h
        by_cases d34 : d.toNat = 34
        · rw [show (((d.toNat : Int) != 34)) = false by simp only [bne, d34]; rfl, bcond_f, show (((d.toNat : Int) == 110)) = false by simp only [beq_eq_false_iff_ne]; omega, bcond_f]
          rw [lit_app acc (by omega)]
          exact esc (.inl d34) _ _ _ _ _ _
        rw [show (((d.toNat : Int) != 34)) = true by simp only [bne_iff_ne, ne_eq]; omega, bcond_t]
        by_cases d92 : d.toNat = 92
        · rw [show (((d.toNat : Int) != 92)) = false by simp only [bne, d92]; rfl, bcond_f, show (((d.toNat : Int) == 110)) = false by simp only [beq_eq_false_iff_ne]; omega, bcond_f]
          rw [lit_app acc (by omega)]
          exact esc (.inr d92) _ _ _ _ _ _
        rw [show (((d.toNat : Int) != 92)) = true by simp only [bne_iff_ne, ne_eq]; omega, bcond_t]
        by_cases d110 : d.toNat = 110
        · rw [show (((d.toNat : Int) != 110)) = false by simp only [bne, d110]; rfl, bcond_f, beq_iff_eq.2 (show ((d.toNat : Int) = 110) by omega), bcond_t]
          rw [litGo_escn he d110, e2] at h
          rw [bRows_app acc 10 10 rfl]
          exact rlit_loop hs N u (p + 2) m _ _ _ _ _ _ _ (by omega) k3 (by omega) (by omega) (by omega) (by simp; omega) h
        rw [show (((d.toNat : Int) != 110)) = true by simp only [bne_iff_ne, ne_eq]; omega, bcond_t]
        rw [litGo_escx he d34 d92 d110] at h
        exact h
    · rw [beq_eq_false_iff_ne.2 (show ((c.toNat : Int) ≠ 92) by omega), bcond_f, lit_app acc (by omega), bRows_app acc c _ rfl]
      rw [litGo_ch hq (by omega) (by omega) he, show p - p0 + 1 = p + 1 - p0 by omega] at h
      exact rlit_loop hs N t (p + 1) m _ _ _ _ _ _ _ (by omega) h3 (by omega) (by omega) (by omega) (by simp; omega) h
theorem rlit_spec {s : ByteArray} {p : Nat} (hk : 1 ≤ k) (hs : s.size ≤ 1000000000) (hn : s.size < n) (hp : p < s.size) (h : K ⟨false, rtV (litR (s.data.toList.drop p)) p⟩ sg) : callW (En n) k 140 [.str s, .int .i64 p] sg K := by
  have ew : IntKind.i64.wrap ((p : Int) + 1) = ((p + 1 : Nat) : Int) := wrap_id _ (by omega) (by omega)
  rw [callW_at hk rfl, R11_literal.eq, ew]
  unfold litR at h
  have e : (s.data.toList.drop p).drop 1 = s.data.toList.drop (p + 1) := by rw [List.drop_drop]
  rw [e] at h
  have e1 : p + 1 - p = 1 := by omega
  exact rlit_loop hs _ (s.data.toList.drop (p + 1)) (p + 1) n [] _ _ _ _ _ _ (Nat.le_refl _) rfl (by omega) (by omega) (by rw [List.length_drop, len_data]; omega) (by simp) (by rw [e1]; exact h)
theorem isKwL_len (l : List UInt8) (h : isKwL l = true) : l.length ≤ 24 := by
  unfold isKwL at h
  obtain ⟨x, hx, e⟩ := List.any_eq_true.1 h
  have : (kwL.all fun x => decide (x.length ≤ 24)) = true := by decide
  have := List.all_eq_true.1 this x hx
  rw [beq_iff_eq.1 e]
  simpa using this
theorem rtoken_spec {s : ByteArray} {p : Nat} {pat : Bool} (hk : 5 ≤ k) (hs : s.size ≤ 1000000000) (hn : s.size + 30 < n) (hp : p < s.size) (h : ∀ v, RefV (rdTok pat (s.data.toList.drop p)) p v → K ⟨false, v⟩ sg) : callW (En n) k 104 [.str s, .int .i64 p, .bool pat] sg K := by
  rw [callW_at (by omega) rfl, R11_token.eq, b2 (by omega) (by omega), chk_t]
  cases hl : s.data.toList.drop p with
  | nil => have := List.drop_eq_nil_iff.1 hl; rw [len_data] at this; omega
  | cons c t =>
    obtain ⟨_, hb, _⟩ := at_cons hl
    have hrd : rdTok pat (s.data.toList.drop p) = if isLetterI c.toNat then wordR (s.data.toList.drop p) else if isDigitI c.toNat then intR (s.data.toList.drop p) else if c.toNat = 34 then litR (s.data.toList.drop p) else if c.toNat = 36 ∧ pat = true then metaR (s.data.toList.drop p) else markR (s.data.toList.drop p) := by rw [hl]; rfl
    rw [hrd] at h
    have hlen : (s.data.toList.drop p).length = s.size - p := by rw [List.length_drop, len_data]
    have re : ∀ {r : RK} {X : PV → Prop}, (∀ v, RefV r p v → K ⟨false, v⟩ sg) → (∀ k t a b, (K ⟨false, tokV k t a b r.err⟩ sg) → X (tokV k t a b r.err)) → ∀ v, RefV r p v → X v := by
      intro r X h hx v hv
      obtain ⟨k, t, a, b, e⟩ := hv.ex
      subst e
      exact hx k t a b (h _ hv)
    rw [cB, rletter_spec (by omega), hb]
    show bcond (isLetterI c.toNat) _ _
    cases hc : isLetterI c.toNat with
    | true =>
      rw [hc, if_pos rfl] at h
      have hwl := wordLen_le (s.data.toList.drop p)
      rw [hlen] at hwl
      have hext : s.extract p (p + wordLen (s.data.toList.drop p)) = tx (wordT (s.data.toList.drop p)) := by rw [ext_mid]; rfl
      have hwt : (wordT (s.data.toList.drop p)).length = wordLen (s.data.toList.drop p) := by unfold wordT; rw [List.length_take, hlen]; omega
      have fin : C n (callW (En n) (k - 1)) 104 [1, 1, 0, 1, 0, 1] (R11_token.S0 s (p : Int) pat c.toNat (tx (wordT (s.data.toList.drop p))) (p : Int) ((p + wordLen (s.data.toList.drop p) : Nat) : Int) true) sg (R11_token.K0 (callW (En n) (k - 1)) n K) := by
        rw [C_eq, R11_token.cut0, cB, rkw_spec (by omega) (by omega), tx_list]
        show bcond (isKwL (wordT (s.data.toList.drop p))) _ _
        unfold wordR at h
        have e24 : decide (((wordT (s.data.toList.drop p)).length : Int) > 24) = decide (24 < (wordT (s.data.toList.drop p)).length) := decide_eq_decide.2 (by omega)
        cases hkw : isKwL (wordT (s.data.toList.drop p)) with
        | true =>
          have := isKwL_len _ hkw
          rw [hkw, if_pos rfl] at h
          rw [bcond_t, C_eq, R11_token.cut2, tx_size, e24, decide_eq_false (by omega), bcond_f]
          refine h _ (.inl ?_)
          unfold rtV
          rw [if_pos rfl, ← hwt, Int.natCast_add]
          rfl
        | false =>
          rw [hkw, if_neg (by simp)] at h
          rw [bcond_f, C_eq, R11_token.cut2, tx_size, e24]
          by_cases h24 : 24 < (wordT (s.data.toList.drop p)).length
          · rw [decide_eq_true h24, bcond_t]
            rw [if_pos h24] at h
            exact h _ (RefV.bad 4 (by decide) rfl _ _ _ _)
          · rw [decide_eq_false h24, bcond_f]
            rw [if_neg h24] at h
            refine h _ (.inl ?_)
            unfold rtV
            rw [if_pos rfl, ← hwt, Int.natCast_add]
            rfl
      rw [bcond_t]
      have hw : ∀ K : Res → Out, callW (En n) (k - 1) 137 [.str s, .int .i64 p] sg K = K ⟨false, .int .i64 ((p + wordLen (s.data.toList.drop p) : Nat) : Int)⟩ sg := fun K => rword_spec (by omega) hs (by omega) (by omega)
      refine ⟨?_, ?_⟩
      · rw [cI, hw]
        show chk (decide ((0 : Int) ≤ (p : Int)) && (decide ((p : Int) ≤ ((p + wordLen (s.data.toList.drop p) : Nat) : Int)) && decide (((p + wordLen (s.data.toList.drop p) : Nat) : Int) ≤ (s.size : Int)))) (_ ∧ _)
        rw [b3 (by omega) (by omega) (by omega), chk_t]
        refine ⟨?_, ?_⟩
        · rw [cI, hw]
          show C n _ 104 _ (R11_token.S0 s (p : Int) pat c.toNat (s.extract (p : Int).toNat ((p + wordLen (s.data.toList.drop p) : Nat) : Int).toNat) (p : Int) ((p + wordLen (s.data.toList.drop p) : Nat) : Int) true) sg _
          rw [Int.toNat_natCast, Int.toNat_natCast, hext]
          exact fin
        · rw [cI, hw]
          show C n _ 104 _ (R11_token.S0 s (p : Int) pat c.toNat (s.extract (p : Int).toNat ((p + wordLen (s.data.toList.drop p) : Nat) : Int).toNat) (p : Int) ((p + wordLen (s.data.toList.drop p) : Nat) : Int) true) sg _
          rw [Int.toNat_natCast, Int.toNat_natCast, hext]
          exact fin
      · rw [cI, hw]
        show chk (decide ((0 : Int) ≤ (p : Int)) && (decide ((p : Int) ≤ ((p + wordLen (s.data.toList.drop p) : Nat) : Int)) && decide (((p + wordLen (s.data.toList.drop p) : Nat) : Int) ≤ (s.size : Int)))) _
        rw [b3 (by omega) (by omega) (by omega), chk_t, cI, hw]
        show C n _ 104 _ (R11_token.S0 s (p : Int) pat c.toNat (s.extract (p : Int).toNat ((p + wordLen (s.data.toList.drop p) : Nat) : Int).toNat) (p : Int) ((p + wordLen (s.data.toList.drop p) : Nat) : Int) true) sg _
        rw [Int.toNat_natCast, Int.toNat_natCast, hext]
        exact fin
    | false =>
      rw [hc, if_neg (by simp)] at h
      rw [bcond_f, C_eq, R11_token.cut1, cB, rdigit_spec (by omega)]
      show bcond (isDigitI c.toNat) _ _
      cases hd : isDigitI c.toNat with
      | true =>
        rw [hd, if_pos rfl] at h
        rw [bcond_t, cP]
        exact rint_spec (by omega) hs (by omega) hp (re h fun k t a b h' => h')
      | false =>
        rw [hd, if_neg (by simp)] at h
        rw [bcond_f, C_eq, R11_token.cut3]
        by_cases h34 : c.toNat = 34
        · rw [if_pos h34] at h
          rw [beq_iff_eq.2 (show ((c.toNat : Int) = 34) by omega), bcond_t, cP]
          have h2 := h _ (.inl rfl)
          obtain ⟨k', t', b', c', e⟩ := rtV_ex (litR (s.data.toList.drop p)) p
          refine rlit_spec (by omega) hs (by omega) hp ?_
          rw [e] at h2 ⊢
          exact h2
        · rw [if_neg h34] at h
          rw [beq_eq_false_iff_ne.2 (show ((c.toNat : Int) ≠ 34) by omega), bcond_f, C_eq, R11_token.cut4]
          have mark : ∀ b4 b5 b6 b7, (∀ v, RefV (markR (s.data.toList.drop p)) p v → K ⟨false, v⟩ sg) → C n (callW (En n) (k - 1)) 104 [1, 1, 1, 1, 1, 1] (R11_token.S5 s (p : Int) pat c.toNat b4 b5 b6 b7) sg (R11_token.K5 (callW (En n) (k - 1)) n K) := by
            intro b4 b5 b6 b7 h
            have ew1 : IntKind.i64.wrap ((p : Int) + 1) = ((p + 1 : Nat) : Int) := wrap_id _ (by omega) (by omega)
            have ew2 : IntKind.i64.wrap ((p : Int) + 2) = ((p + 2 : Nat) : Int) := wrap_id _ (by omega) (by omega)
            have t1 : ((s.data.toList.drop p).take 1).length = 1 := by rw [List.length_take, hlen]; omega
            unfold markR at h
            have one : ∀ b8, (isMarkL ((s.data.toList.drop p).take 2) = true → p + 1 = s.size) → C n (callW (En n) (k - 1)) 104 [1, 1, 1, 1, 1, 1, 1] (R11_token.S6 s (p : Int) pat c.toNat b4 b5 b6 b7 b8) sg (R11_token.K6 (callW (En n) (k - 1)) n K) := by
              intro b8 hf
              rw [C_eq, R11_token.cut6, ew1, b3 (by omega) (by omega) (by omega), chk_t, cB, rmark_spec (by omega) (by omega), Int.toNat_natCast, Int.toNat_natCast, ext_mid, tx_list]
              show bcond (isMarkL ((s.data.toList.drop p).take 1)) _ _
              have h21 : p + 1 = s.size → (s.data.toList.drop p).take 2 = (s.data.toList.drop p).take 1 := by
                intro e
                rw [List.take_of_length_le (by omega), List.take_of_length_le (by omega)]
              have hok : isMarkL ((s.data.toList.drop p).take 1) = true → K ⟨false, tokV 5 (tx ((s.data.toList.drop p).take 1)) p ((p + 1 : Nat) : Int) 0⟩ sg := by
                intro hx
                refine h _ (.inl ?_)
                by_cases h2 : isMarkL ((s.data.toList.drop p).take 2) = true
                · rw [if_pos h2, h21 (hf h2), t1]
                  unfold rtV
                  rw [if_pos rfl]; rfl
                · rw [if_neg h2, if_pos hx]
                  unfold rtV
                  rw [if_pos rfl]; rfl
              cases hx : isMarkL ((s.data.toList.drop p).take 1) with
              | true => rw [bcond_t, chk_t]; exact hok hx
              | false =>
                rw [bcond_f]
                have hn2 : ¬ isMarkL ((s.data.toList.drop p).take 2) = true := by
                  intro h2
                  rw [h21 (hf h2), hx] at h2
                  cases h2
                rw [if_neg hn2, hx, if_neg (by simp)] at h
                exact h _ (RefV.bad 11 (by decide) rfl _ _ _ _)
            rw [C_eq, R11_token.cut5, ew2]
            by_cases h2 : p + 2 ≤ s.size
            · have t2 : ((s.data.toList.drop p).take 2).length = 2 := by rw [List.length_take, hlen]; omega
              rw [decide_eq_true (show ((p + 2 : Nat) : Int) ≤ (s.size : Int) by omega), bcond_t, Bool.and_true, b2 (by omega) (by omega), chk_t, cB, rmark_spec (by omega) (by omega), Int.toNat_natCast, Int.toNat_natCast, ext_mid, tx_list]
              show bcond (isMarkL ((s.data.toList.drop p).take 2)) _ _
              cases hx : isMarkL ((s.data.toList.drop p).take 2) with
              | true =>
                rw [hx, if_pos rfl, t2] at h
                rw [bcond_t, chk_t]
                refine h _ (.inl ?_)
                unfold rtV
                rw [if_pos rfl]; rfl
              | false =>
                rw [bcond_f]
                exact one _ (fun e => by rw [hx] at e; cases e)
            · rw [decide_eq_false (show ¬ ((p + 2 : Nat) : Int) ≤ (s.size : Int) by omega), bcond_f]
              exact one _ (fun _ => by omega)
          by_cases h36 : c.toNat = 36
          · rw [beq_iff_eq.2 (show ((c.toNat : Int) = 36) by omega), bcond_t]
            cases pat with
            | true =>
              rw [if_pos ⟨h36, rfl⟩] at h
              rw [bcond_t, cP]
              exact tkRMeta_spec (by omega) hs (by omega) hp (re h fun k t a b h' => h')
            | false =>
              rw [if_neg (by simp)] at h
              rw [bcond_f]
              exact mark _ _ _ _ h
          · rw [if_neg (fun e => h36 e.1)] at h
            rw [beq_eq_false_iff_ne.2 (show ((c.toNat : Int) ≠ 36) by omega), bcond_f]
            exact mark _ _ _ _ h
theorem rscan_loop {s : ByteArray} {pat : Bool} (hk : 5 ≤ k) (hs : s.size ≤ 1000000000) (hn : s.size + 30 < n) : ∀ (f m p : Nat) (acc : List Tok) (p4 p5 p6 p7 p8 : PV), p ≤ s.size → s.size - p < f → s.size - p < m → acc.length ≤ 600 →
    isBaddr 9 p4 = false → isBaddr 9 p5 = false → isBaddr 9 p7 = false → isBaddr 9 p8 = false → K ⟨false, scanV (scanW pat f (s.data.toList.drop p) p acc)⟩ sg →
    L n (callW (En n) k) 51 [1, 1, 1, 0, 0, 0] (R11_scan.S1 s pat (acc.map tokRow) (p : Int) p4 p5 p6 p7 p8) sg (R11_scan.K1 (callW (En n) k) n K) m
  | 0, m, p, _, _, _, _, _, _, hp, hf, _, _, _, _, _, _, h => by omega
  | f + 1, 0, p, _, _, _, _, _, _, hp, _, hm, _, _, _, _, _, h => by omega
  | f + 1, m + 1, p, acc, p4, p5, p6, p7, p8, hp, hf, hm, ha, h4, h5, h7, h8, h => by
    rw [L_succ, R11_scan.loop1, h4, h5, h7, h8]
    cases hl : s.data.toList.drop p with
    | nil =>
      obtain rfl := at_end hl hp
      rw [decide_eq_false (show ¬ ((s.size : Int) < (s.size : Int)) by omega), bcond_f]
      rw [hl] at h
      exact h
    | cons c t =>
      obtain ⟨h1, _, _⟩ := at_cons hl
      rw [decide_eq_true (show ((p : Int) < (s.size : Int)) by omega), bcond_t, cP]
      refine rtoken_spec hk hs hn h1 fun v hv => ?_
      rw [hl] at hv
      have hW : scanW pat (f + 1) (s.data.toList.drop p) p acc = if (rdTok pat (c :: t)).err = 0 then
          if 600 ≤ acc.length then ⟨[], p, 4⟩
          else scanW pat f (((c :: t).drop (rdTok pat (c :: t)).len).drop (skipGo false ((c :: t).drop (rdTok pat (c :: t)).len))) (p + (rdTok pat (c :: t)).len + skipGo false ((c :: t).drop (rdTok pat (c :: t)).len))
            (acc ++ [⟨(rdTok pat (c :: t)).kind, tx (rdTok pat (c :: t)).text, p, (p + (rdTok pat (c :: t)).len : Nat)⟩])
        else ⟨[], p, (rdTok pat (c :: t)).err⟩ := by rw [hl, scanW]; simp
      rw [hW] at h
      have hrl := rdTok_len pat (c :: t)
      have hcl : (c :: t).length = s.size - p := by rw [← hl, List.length_drop, len_data]
      generalize hr : rdTok pat (c :: t) = r at *
      by_cases he : r.err = 0
      · rw [if_pos he] at h
        obtain ⟨hr1, hr2⟩ := hrl he
        have e1 : v = tokV r.kind (tx r.text) (p : Int) ((p + r.len : Nat) : Int) 0 := by
          rcases hv with rfl | ⟨hne, _⟩
          · unfold rtV; rw [if_pos he, Int.natCast_add]
          · exact absurd he hne
        rw [e1]
        show C n (callW (En n) k) 51 _ (R11_scan.S2 s pat (acc.map tokRow) (p : Int) r.kind (tx r.text) (p : Int) ((p + r.len : Nat) : Int) 0 _ p7 p8) sg (R11_scan.K2 (callW (En n) k) n m K)
        rw [C_eq, R11_scan.cut2, List.length_map]
        show bcond (decide ((acc.length : Int) ≥ 600)) _ _
        by_cases h6 : acc.length = 600
        · rw [if_pos (by omega)] at h
          rw [decide_eq_true (show (acc.length : Int) ≥ 600 by omega), bcond_t, C_eq, R11_scan.cut3]
          exact h
        · rw [if_neg (by omega)] at h
          rw [decide_eq_false (show ¬ (acc.length : Int) ≥ 600 by omega), bcond_f, C_eq, R11_scan.cut3]
          have eq0 : ((0 : Int) != 0) = false := rfl
          rw [eq0, bcond_f, rowsOk_map tokRow 4 tokRow_len, Bool.true_and, decide_eq_true (show (acc.map tokRow).length + 1 ≤ mostL by rw [List.length_map]; unfold mostL; omega), chk_t, cI]
          have hdd : s.data.toList.drop (p + r.len) = (c :: t).drop r.len := by rw [← hl, List.drop_drop]
          refine tkRSkip_spec (by omega) hs (by omega) (by omega) ?_
          rw [hdd]
          have hsk := skipGo_le ((c :: t).drop r.len) false
          rw [List.length_drop, hcl] at hsk
          generalize hg : skipGo false ((c :: t).drop r.len) = g at *
          show L n (callW (En n) k) 51 _ (R11_scan.S1 s pat (acc.map tokRow ++ [([.int .i64 r.kind, .str (tx r.text), .int .i64 p, .int .i64 ((p + r.len : Nat) : Int)] : List PV)]) ((p + r.len + g : Nat) : Int) _ _ _ _ _) sg _ m
          have hacc : acc.map tokRow ++ [([.int .i64 r.kind, .str (tx r.text), .int .i64 p, .int .i64 ((p + r.len : Nat) : Int)] : List PV)] = (acc ++ [(⟨r.kind, tx r.text, p, (p + r.len : Nat)⟩ : Tok)]).map tokRow := by rw [List.map_append]; rfl
          rw [hacc]
          refine rscan_loop hk hs hn f m (p + r.len + g) _ _ _ _ _ _ (by omega) (by omega) (by omega) (by rw [List.length_append]; simp; omega) rfl rfl rfl rfl ?_
          rw [← List.drop_drop, hdd]
          exact h
      · rw [if_neg he] at h
        obtain ⟨k', t', a', b', rfl⟩ := hv.ex
        show C n (callW (En n) k) 51 _ (R11_scan.S2 s pat (acc.map tokRow) (p : Int) k' t' a' b' r.err _ p7 p8) sg (R11_scan.K2 (callW (En n) k) n m K)
        rw [C_eq, R11_scan.cut2, beq_eq_false_iff_ne.2 he, bcond_f, C_eq, R11_scan.cut3]
        have eq0 : (r.err != 0) = true := by simp [he]
        rw [eq0, bcond_t]
        exact h
theorem rscan_spec {s : ByteArray} {pat : Bool} (hk : 6 ≤ k) (hs : s.size ≤ 1000000000) (hn : s.size + 30 < n) (h : K ⟨false, scanV (scanR pat s.data.toList)⟩ sg) : callW (En n) k 51 [.str s, .bool pat] sg K := by
  rw [callW_at (by omega) rfl, R11_scan.eq, cI]
  refine tkRSkip_spec (p := 0) (by omega) hs (by omega) (by omega) ?_
  have hsk := skipGo_le s.data.toList false
  rw [len_data] at hsk
  unfold scanR at h
  rw [Nat.zero_add, List.drop_zero]
  show C n _ 51 _ (R11_scan.S0 s pat (skipGo false s.data.toList : Nat)) sg _
  rw [C_eq, R11_scan.cut0]
  exact rscan_loop (by omega) hs hn (s.data.toList.length + 1) n _ [] _ _ _ _ _ hsk (by rw [len_data]; omega) (by omega) (by simp) rfl rfl rfl rfl h
theorem refScan_spec {s : ByteArray} (hk : 7 ≤ k) (hs : s.size ≤ 1000000000) (hn : s.size + 30 < n) (h : K ⟨false, scanV (scanR false s.data.toList)⟩ sg) : callW (En n) k 30 [.str s] sg K := by
  rw [callW_at (by omega) rfl, R11_Scan.eq, cP]
  exact rscan_spec (by omega) hs hn h
end
end Go.Ev
