import Derived.Test.YtlnoadnejefmoaaTokE
set_option linter.unusedVariables false
set_option linter.unusedSimpArgs false
namespace Go.Proofs.Ytlnoadnejefmoaa
open Go.RowKit

def tokV (r : RT) : Value := .tuple #[.agg #[.int .i64 r.kind, .string (tx r.text), .int .i64 0, .int .i64 r.len], .int .i64 r.err]
theorem tok_is {f : FuncId} {args : Array Value} {w : World} {r r' : RT} (h : r = r') (hc : Calls Try.prog f args w fun e w' => e = tokRet r ∧ Below w.heap.size w w') :
    Calls Try.prog f args w fun e w' => e = .returned (.tuple #[.agg #[.int .i64 r'.kind, .string (tx r'.text), .int .i64 0, .int .i64 r'.len], .int .i64 r'.err]) ∧ Below w.heap.size w w' := by subst h; exact hc

theorem word_kw (s m : ByteArray) (hT : m.data.toList = wordT s.data.toList) (h : kwB m = true) : tokRet (wordR s.data.toList) = .returned (.tuple #[.agg #[.int .i64 2, .string m, .int .i64 0, .int .i64 m.size], .int .i64 0]) := by
  unfold kwB at h
  unfold wordR
  rw [← hT, if_pos h, len_data]
  unfold tokRet
  rw [tx_data]
theorem word_long (s m : ByteArray) (hT : m.data.toList = wordT s.data.toList) (h : kwB m = false) (h2 : 24 < m.size) : tokRet (wordR s.data.toList) = tokRet (.bad 4) := by
  unfold kwB at h
  unfold wordR
  rw [← hT, h, if_neg (by simp), len_data, if_pos h2]
theorem word_name (s m : ByteArray) (hT : m.data.toList = wordT s.data.toList) (h : kwB m = false) (h2 : m.size ≤ 24) : tokRet (wordR s.data.toList) = .returned (.tuple #[.agg #[.int .i64 1, .string m, .int .i64 0, .int .i64 m.size], .int .i64 0]) := by
  unfold kwB at h
  unfold wordR
  rw [← hT, h, if_neg (by simp), len_data, if_neg (by omega)]
  unfold tokRet
  rw [tx_data]
set_option maxHeartbeats 4000000 in
set_option maxRecDepth 100000 in
theorem read_word (s : ByteArray) (pat : Bool) (w : World) (hs : s.size ≤ 1000000000) (h0 : 0 < s.size) (hl : isLetterI s[0].toNat = true) :
    Calls Try.prog 60 #[.string s, .bool pat] w fun e w' => e = tokRet (wordR s.data.toList) ∧ Below w.heap.size w w' := by
  obtain ⟨m, hm⟩ : ∃ m, wordS s = m := ⟨_, rfl⟩
  have hT : m.data.toList = wordT s.data.toList := by rw [← hm, wordS_data]
  have hms : m.size ≤ 1000000000 := by
    rw [← hm, wordS_size]
    have := (List.take_sublist (wordLen s.data.toList) s.data.toList).length_le
    rw [len_data] at this
    unfold wordT
    omega
  have HM := Hid.mk' hm
  have HT := Hid.mk' hT
  clear hm hT
  go_enter Try.func60, Try.ntmps60
  go_wp2_with (first
      | (go_at_call 84; refine (tok_letter _ _).mono ?_; rintro e w' ⟨rfl, rfl⟩)
      | (go_at_call 85; refine (tok_word_is _ m _ (by omega) HM.out).mono ?_; rintro e w' ⟨rfl, rfl⟩))
  refine (tok_keyword _ _).mono ?_
  rintro e w1 ⟨rfl, hb⟩
  obtain ⟨h1, h2, hb⟩ := keep2 hb
  obtain ⟨y0, y1, y2, y3, g0, g1, g2, g3⟩ := tok4 h1
  obtain ⟨x0, x1, x2, x3, k0, k1, k2, k3⟩ := tok4 h2
  clear h1 h2
  go_wp2
  · refine post_res rfl ⟨_, by (simp [results, Try.results60, go_sem, y0, y1, y2, y3]; rfl), ?_, ((((hb.setCell (p := ⟨w.heap.size + 1, 0, none⟩) (Nat.le_succ _) _).setCell (Nat.le_refl _) _).setCell (Nat.le_refl _) _).setCell (Nat.le_refl _) _).setCell (Nat.le_refl _) _⟩
    rw [word_kw s m HT.out (by assumption)]
  · refine post_res rfl ⟨_, by (simp [results, Try.results60, go_sem, y0, y1, y2, y3]; rfl), ?_, (((hb.setCell (Nat.le_refl _) _).setCell (Nat.le_refl _) _).setCell (Nat.le_refl _) _).setCell (Nat.le_refl _) _⟩
    rw [word_long s m HT.out (by simp_all) (by omega)]
    rfl
  · refine post_res rfl ⟨_, by (simp [results, Try.results60, go_sem, y0, y1, y2, y3]; rfl), ?_, (((hb.setCell (Nat.le_refl _) _).setCell (Nat.le_refl _) _).setCell (Nat.le_refl _) _).setCell (Nat.le_refl _) _⟩
    rw [word_name s m HT.out (by simp_all) (by omega)]

set_option maxHeartbeats 4000000 in
set_option maxRecDepth 100000 in
theorem read_int (s : ByteArray) (pat : Bool) (w : World) (hs : s.size ≤ 1000000000) (h0 : 0 < s.size) (hl : isLetterI s[0].toNat = false) (hd : isDigitI s[0].toNat = true) :
    Calls Try.prog 60 #[.string s, .bool pat] w fun e w' => e = tokRet (intR s.data.toList) ∧ Below w.heap.size w w' := by
  obtain ⟨r, hr⟩ : ∃ r, intR s.data.toList = r := ⟨_, rfl⟩
  have HR := Hid.mk' hr
  rw [hr]
  clear hr
  go_enter Try.func60, Try.ntmps60
  go_wp2_with (first
      | (go_at_call 84; refine (tok_letter _ _).mono ?_; rintro e w' ⟨rfl, rfl⟩)
      | (go_at_call 64; refine (tok_digit _ _).mono ?_; rintro e w' ⟨rfl, rfl⟩))
  refine (tok_is HR.out (tok_integer _ _ (by omega) h0)).mono ?_
  rintro e w1 ⟨rfl, hb⟩
  obtain ⟨h1, hb⟩ := keep1 hb
  obtain ⟨y0, y1, y2, y3, g0, g1, g2, g3⟩ := tok4 h1
  clear h1
  go_wp2
  refine post_res rfl ⟨_, by (simp [results, Try.results60, go_sem, y0, y1, y2, y3] <;> rfl), rfl, (((hb.setCell (Nat.le_refl _) _).setCell (Nat.le_refl _) _).setCell (Nat.le_refl _) _).setCell (Nat.le_refl _) _⟩
set_option maxHeartbeats 4000000 in
set_option maxRecDepth 100000 in
theorem read_lit (s : ByteArray) (pat : Bool) (w : World) (hs : s.size ≤ 1000000000) (h0 : 0 < s.size) (hl : isLetterI s[0].toNat = false) (hd : isDigitI s[0].toNat = false) (hq : ((s[0].toNat : Int) == 34) = true) :
    Calls Try.prog 60 #[.string s, .bool pat] w fun e w' => e = tokRet (litR s.data.toList) ∧ Below w.heap.size w w' := by
  obtain ⟨r, hr⟩ : ∃ r, litR s.data.toList = r := ⟨_, rfl⟩
  have HR := Hid.mk' hr
  rw [hr]
  clear hr
  go_enter Try.func60, Try.ntmps60
  go_wp2_with (first
      | (go_at_call 84; refine (tok_letter _ _).mono ?_; rintro e w' ⟨rfl, rfl⟩)
      | (go_at_call 64; refine (tok_digit _ _).mono ?_; rintro e w' ⟨rfl, rfl⟩))
  refine (tok_is HR.out (tok_literal _ _ hs h0)).mono ?_
  rintro e w1 ⟨rfl, hb⟩
  obtain ⟨h1, hb⟩ := keep1 hb
  obtain ⟨y0, y1, y2, y3, g0, g1, g2, g3⟩ := tok4 h1
  clear h1
  go_wp2
  refine post_res rfl ⟨_, by (simp [results, Try.results60, go_sem, y0, y1, y2, y3] <;> rfl), rfl, (((hb.setCell (Nat.le_refl _) _).setCell (Nat.le_refl _) _).setCell (Nat.le_refl _) _).setCell (Nat.le_refl _) _⟩
set_option maxHeartbeats 4000000 in
set_option maxRecDepth 100000 in
theorem read_meta (s : ByteArray) (w : World) (hs : s.size ≤ 1000000000) (h0 : 0 < s.size) (hl : isLetterI s[0].toNat = false) (hd : isDigitI s[0].toNat = false) (hq : ((s[0].toNat : Int) == 34) = false) (hq2 : ((s[0].toNat : Int) == 36) = true) :
    Calls Try.prog 60 #[.string s, .bool true] w fun e w' => e = tokRet (metaR s.data.toList) ∧ Below w.heap.size w w' := by
  obtain ⟨r, hr⟩ : ∃ r, metaR s.data.toList = r := ⟨_, rfl⟩
  have HR := Hid.mk' hr
  rw [hr]
  clear hr
  go_enter Try.func60, Try.ntmps60
  go_wp2_with (first
      | (go_at_call 84; refine (tok_letter _ _).mono ?_; rintro e w' ⟨rfl, rfl⟩)
      | (go_at_call 64; refine (tok_digit _ _).mono ?_; rintro e w' ⟨rfl, rfl⟩))
  refine (tok_is HR.out (tok_meta _ _ hs h0 (by have h := hq2; rw [beq_iff_eq] at h; omega))).mono ?_
  rintro e w1 ⟨rfl, hb⟩
  obtain ⟨h1, hb⟩ := keep1 hb
  obtain ⟨y0, y1, y2, y3, g0, g1, g2, g3⟩ := tok4 h1
  clear h1
  go_wp2
  refine post_res rfl ⟨_, by (simp [results, Try.results60, go_sem, y0, y1, y2, y3] <;> rfl), rfl, (((hb.setCell (Nat.le_refl _) _).setCell (Nat.le_refl _) _).setCell (Nat.le_refl _) _).setCell (Nat.le_refl _) _⟩

theorem mark_none (s : ByteArray) (N : Nat) (h1 : 1 ≤ N) (h2 : N ≤ 2) (h3 : N ≤ s.size) (h4 : N = 2 ∨ s.size = N) (e1 : markB (s.extract 0 N) = false) (e2 : markB (s.extract 0 1) = false) : markR s.data.toList = .bad 11 := by
  unfold markB at e1 e2
  rw [ext0_tx, tx_list] at e1 e2
  have hl := len_data s
  have e3 : s.data.toList.take 2 = s.data.toList.take N := by
    rcases h4 with h4 | h4
    · rw [h4]
    · rw [List.take_of_length_le (by omega), List.take_of_length_le (by omega)]
  unfold markR
  rw [e3, e1, e2]
  rfl
theorem mark_step (s : ByteArray) (N n : Nat) (h2 : N ≤ 2) (h : 0 < n) (hn : n ≤ N) (hm : n < N → markB (s.extract 0 N) = false) (hx : markB (s.extract 0 n) = false) : markB (s.extract 0 N) = false := by
  rcases Nat.lt_or_ge n N with h3 | h3
  · exact hm h3
  · have : n = N := by omega
    subst this
    exact hx
theorem mark_some (s : ByteArray) (N n : Nat) (h1 : 1 ≤ N) (h2 : N ≤ 2) (h3 : N ≤ s.size) (h4 : N = 2 ∨ s.size = N) (h : 0 < n) (hn : n ≤ N) (hm : n < N → markB (s.extract 0 N) = false) (hx : markB (s.extract 0 n) = true) :
    tokRet (markR s.data.toList) = .returned (.tuple #[.agg #[.int .i64 5, .string (s.extract 0 n), .int .i64 0, .int .i64 n], .int .i64 0]) := by
  have hl := len_data s
  have e3 : s.data.toList.take 2 = s.data.toList.take N := by
    rcases h4 with h4 | h4
    · rw [h4]
    · rw [List.take_of_length_le (by omega), List.take_of_length_le (by omega)]
  unfold markB at hx hm
  rw [ext0_tx, tx_list] at hx hm
  unfold markR
  rw [e3]
  rcases Nat.lt_or_ge n N with h5 | h5
  · have : n = 1 := by omega
    subst this
    rw [hm h5, if_neg (by simp), if_pos hx]
    unfold tokRet
    rw [ext0_tx]
  · have : n = N := by omega
    subst this
    rw [if_pos hx]
    unfold tokRet
    rw [ext0_tx]
    simp only [List.length_take, Nat.min_eq_left (show n ≤ s.data.toList.length by omega)]
set_option maxHeartbeats 4000000 in
set_option maxRecDepth 100000 in
theorem read_markN (s : ByteArray) (pat : Bool) (w : World) (N : Nat) (h1 : 1 ≤ N) (h2 : N ≤ 2) (h3 : N ≤ s.size) (h4 : N = 2 ∨ s.size = N) (hmn : min 2 (s.size : Int) = (N : Int)) (hs : s.size ≤ 1000000000) (h0 : 0 < s.size) (hl : isLetterI s[0].toNat = false) (hd : isDigitI s[0].toNat = false) (hq : ((s[0].toNat : Int) == 34) = false) (hq2 : (((s[0].toNat : Int) == 36) && pat) = false) :
    Calls Try.prog 60 #[.string s, .bool pat] w fun e w' => e = tokRet (markR s.data.toList) ∧ Below w.heap.size w w' := by
  by_cases hx : ((s[0].toNat : Int) == 36) = true
  · obtain rfl : pat = false := by simpa [hx] using hq2
    clear hq2
    go_enter Try.func60, Try.ntmps60
    go_wp2_with (first
      | (go_at_call 84; refine (tok_letter _ _).mono ?_; rintro e w' ⟨rfl, rfl⟩)
      | (go_at_call 64; refine (tok_digit _ _).mono ?_; rintro e w' ⟨rfl, rfl⟩))
    go_loop [9] (fun i => ∃ n : Nat, i = .int .i64 n ∧ n ≤ N ∧ (n < N → markB (s.extract 0 N) = false) ∧ (n = 0 → markB (s.extract 0 1) = false)) (fun i => (intOf i).toNat)
    case atStart => exact ⟨N, rfl, Nat.le_refl _, fun h => absurd h (Nat.lt_irrefl _), fun h => by omega⟩
    case round =>
      obtain ⟨n, rfl, hn, hm1, hm2⟩ := hrel
      rcases Nat.eq_zero_or_pos n with h | h
      · subst h
        have e1 := hm1 (by omega)
        have e2 := hm2 rfl
        have HE := Hid.mk' (And.intro e1 e2)
        clear e1 e2 hm1 hm2 hmn
        go_wp2
        refine post_res rfl ⟨_, by (simp [results, Try.results60, go_sem] <;> rfl), ?_, (Below.refl _ _).alloc (Nat.le_refl _) _⟩
        rw [mark_none s N h1 h2 h3 h4 HE.out.1 HE.out.2]
        rfl
      · have HM1 := Hid.mk' hm1
        clear hm1 hm2 hmn
        go_wp2_with (first
          | (go_at_call 67; refine (tok_mark _ _).mono ?_; rintro e w' ⟨rfl, rfl⟩))
        · refine post_res rfl ⟨_, by (simp [results, Try.results60, go_sem] <;> rfl), ?_, (Below.refl _ _).alloc (Nat.le_refl _) _⟩
          rw [mark_some s N n h1 h2 h3 h4 h hn HM1.out (by assumption)]
        · go_round
          have hx1 : markB (s.extract 0 n) = false := by assumption
          case rel => exact ⟨n - 1, by go_num, by omega, fun hlt => mark_step s N n h2 h hn HM1.out hx1, fun h0 => by rw [← show n = 1 by omega]; exact hx1⟩
          case measure => simp [intOf]; omega
  · replace hx : ((s[0].toNat : Int) == 36) = false := by simpa using hx
    clear hq2
    go_enter Try.func60, Try.ntmps60
    go_wp2_with (first
      | (go_at_call 84; refine (tok_letter _ _).mono ?_; rintro e w' ⟨rfl, rfl⟩)
      | (go_at_call 64; refine (tok_digit _ _).mono ?_; rintro e w' ⟨rfl, rfl⟩))
    go_loop [9] (fun i => ∃ n : Nat, i = .int .i64 n ∧ n ≤ N ∧ (n < N → markB (s.extract 0 N) = false) ∧ (n = 0 → markB (s.extract 0 1) = false)) (fun i => (intOf i).toNat)
    case atStart => exact ⟨N, rfl, Nat.le_refl _, fun h => absurd h (Nat.lt_irrefl _), fun h => by omega⟩
    case round =>
      obtain ⟨n, rfl, hn, hm1, hm2⟩ := hrel
      rcases Nat.eq_zero_or_pos n with h | h
      · subst h
        have e1 := hm1 (by omega)
        have e2 := hm2 rfl
        have HE := Hid.mk' (And.intro e1 e2)
        clear e1 e2 hm1 hm2 hmn
        go_wp2
        refine post_res rfl ⟨_, by (simp [results, Try.results60, go_sem] <;> rfl), ?_, (Below.refl _ _).alloc (Nat.le_refl _) _⟩
        rw [mark_none s N h1 h2 h3 h4 HE.out.1 HE.out.2]
        rfl
      · have HM1 := Hid.mk' hm1
        clear hm1 hm2 hmn
        go_wp2_with (first
          | (go_at_call 67; refine (tok_mark _ _).mono ?_; rintro e w' ⟨rfl, rfl⟩))
        · refine post_res rfl ⟨_, by (simp [results, Try.results60, go_sem] <;> rfl), ?_, (Below.refl _ _).alloc (Nat.le_refl _) _⟩
          rw [mark_some s N n h1 h2 h3 h4 h hn HM1.out (by assumption)]
        · go_round
          have hx1 : markB (s.extract 0 n) = false := by assumption
          case rel => exact ⟨n - 1, by go_num, by omega, fun hlt => mark_step s N n h2 h hn HM1.out hx1, fun h0 => by rw [← show n = 1 by omega]; exact hx1⟩
          case measure => simp [intOf]; omega
theorem read_mark (s : ByteArray) (pat : Bool) (w : World) (hs : s.size ≤ 1000000000) (h0 : 0 < s.size) (hl : isLetterI s[0].toNat = false) (hd : isDigitI s[0].toNat = false) (hq : ((s[0].toNat : Int) == 34) = false) (hq2 : (((s[0].toNat : Int) == 36) && pat) = false) :
    Calls Try.prog 60 #[.string s, .bool pat] w fun e w' => e = tokRet (markR s.data.toList) ∧ Below w.heap.size w w' := by
  rcases Nat.lt_or_ge s.size 2 with h | h
  · exact read_markN s pat w 1 (by omega) (by omega) (by omega) (.inr (by omega)) (by omega) hs h0 hl hd hq hq2
  · exact read_markN s pat w 2 (by omega) (by omega) (by omega) (.inl rfl) (by omega) hs h0 hl hd hq hq2
theorem tok_read (s : ByteArray) (pat : Bool) (w : World) (hs : s.size ≤ 1000000000) (h0 : 0 < s.size) :
    Calls Try.prog 60 #[.string s, .bool pat] w fun e w' => e = tokRet (rdTok pat s.data.toList) ∧ Below w.heap.size w w' := by
  obtain ⟨t, ht⟩ := head_at s h0
  have hR : rdTok pat s.data.toList = if isLetterI s[0].toNat then wordR s.data.toList else if isDigitI s[0].toNat then intR s.data.toList else if s[0].toNat = 34 then litR s.data.toList else if s[0].toNat = 36 ∧ pat = true then metaR s.data.toList else markR s.data.toList := by
    unfold rdTok; rw [ht]
  rw [hR]
  by_cases h1 : isLetterI s[0].toNat = true
  · rw [if_pos h1]; exact read_word s pat w hs h0 h1
  · rw [if_neg h1]
    replace h1 : isLetterI s[0].toNat = false := by simpa using h1
    by_cases h2 : isDigitI s[0].toNat = true
    · rw [if_pos h2]; exact read_int s pat w hs h0 h1 h2
    · rw [if_neg h2]
      replace h2 : isDigitI s[0].toNat = false := by simpa using h2
      by_cases h3 : s[0].toNat = 34
      · rw [if_pos h3]; exact read_lit s pat w hs h0 h1 h2 (by rw [beq_iff_eq]; omega)
      · rw [if_neg h3]
        have e3 : ((s[0].toNat : Int) == 34) = false := by rw [beq_eq_false_iff_ne]; omega
        by_cases h4 : s[0].toNat = 36 ∧ pat = true
        · rw [if_pos h4]
          obtain ⟨h4, rfl⟩ := h4
          exact read_meta s w hs h0 h1 h2 e3 (by rw [beq_iff_eq]; omega)
        · rw [if_neg h4]
          refine read_mark s pat w hs h0 h1 h2 e3 ?_
          cases pat
          · simp
          · simp at h4
            simp
            omega
end Go.Proofs.Ytlnoadnejefmoaa
