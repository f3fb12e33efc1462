import Derived.Test.YtlnoadnejefmoaaTokB
set_option linter.unusedVariables false
set_option linter.unusedSimpArgs false
namespace Go.Proofs.Ytlnoadnejefmoaa
open Go.RowKit

/-- What read and its helpers hand back: the token and the error. -/
def tokRet (r : RT) : Ending := .returned (.tuple #[.agg #[.int .i64 r.kind, .string (tx r.text), .int .i64 0, .int .i64 r.len], .int .i64 r.err])
theorem str_index (s : ByteArray) (c : UInt8) (w : World) : Calls Try.prog 83 #[.string s, .int .u8 c.toNat] w fun e w' => e = .returned (.int .i64 (idxB s c)) ∧ w = w' :=
  (Try.strings_IndexByte s c.toNat w).mono fun e w' ⟨he, hw⟩ => ⟨by rw [he]; simp [idxB], hw.symm⟩
set_option maxHeartbeats 2000000 in
theorem tok_skip (s : ByteArray) (w : World) (hs : s.size ≤ 9223372036854775807) :
    Calls Try.prog 59 #[.string s] w fun e w' => e = .returned (.int .i64 (skipB s : Nat)) ∧ w = w' := by
  go_enter Try.func59, Try.ntmps59
  go_wp2
  go_loop [3] (fun i => ∃ k : Nat, i = .int .i64 k ∧ k ≤ s.size ∧ Hid (k + skipGo false (s.data.toList.drop k) = skipGo false s.data.toList)) (fun i => s.size - (intOf i).toNat)
  case atStart => exact ⟨0, rfl, Nat.zero_le _, show _ = _ by simp⟩
  case round =>
    obtain ⟨k, rfl, hk, hinv⟩ := hrel
    by_cases hlt : k < s.size
    · have hc : Hid (s.data.toList.drop k = s[k] :: s.data.toList.drop (k + 1)) := byte_at s k hlt
      have hge := idxB_ge (s.extract k s.size) 10
      have hle : (k : Int) + idxB (s.extract k s.size) 10 < s.size := by have := idxB_lt (s.extract k s.size) 10 (by simp; omega); simp at this; omega
      go_wp2_with (first
        | (go_at_call 82; refine (has_prefix _ _ _ (by simp; omega)).mono ?_; rintro e w' ⟨rfl, rfl⟩)
        | (go_at_call 83; refine (str_index _ 10 _).mono ?_; rintro e w' ⟨rfl, rfl⟩))
      · go_round
        have e : skipGo false (s.data.toList.drop k) = skipGo false (s.data.toList.drop (k + 1)) + 1 := by rw [hc.out, skipGo_cons, if_neg (by simp), if_pos (by simp [blankI, *])]
        case rel => exact ⟨k + 1, by go_num, by omega, show _ = _ by have := hinv.out; omega⟩
        case measure => simp [intOf]; omega
      · go_round
        have e : skipGo false (s.data.toList.drop k) = skipGo false (s.data.toList.drop (k + 1)) + 1 := by rw [hc.out, skipGo_cons, if_neg (by simp), if_pos (by simp [blankI, *])]
        case rel => exact ⟨k + 1, by go_num, by omega, show _ = _ by have := hinv.out; omega⟩
        case measure => simp [intOf]; omega
      · go_round
        have e : skipGo false (s.data.toList.drop k) = skipGo false (s.data.toList.drop (k + 1)) + 1 := by rw [hc.out, skipGo_cons, if_neg (by simp), if_pos (by simp_all [blankI])]
        case rel => exact ⟨k + 1, by go_num, by omega, show _ = _ by have := hinv.out; omega⟩
        case measure => simp [intOf]; omega
      · go_ret
        have e := comment_none s k hk (by assumption) (by assumption)
        exact ⟨ret_intE (by have := hinv.out; unfold skipB; omega), rfl⟩
      · obtain ⟨o, h1, h2, h3, h4⟩ := comment_some s k hk (by assumption) (by assumption)
        rw [h1]
        go_round
        case rel => exact ⟨k + o, by go_num, by omega, show _ = _ by have := hinv.out; omega⟩
        case measure => simp [intOf]; omega
      · go_ret
        have e := skipGo_stop _ _ _ hc.out (by simp_all [blankI]) (by have h : pfxB ⟨#[47, 47]⟩ (s.extract k s.size) = false := by assumption
                                                                      unfold pfxB at h; rw [extE_list] at h; exact h)
        exact ⟨ret_intE (by have := hinv.out; unfold skipB; omega), rfl⟩
    · have hks : k = s.size := by omega
      have h0 : skipGo false (s.data.toList.drop k) = 0 := by rw [List.drop_eq_nil_of_le (by rw [len_data]; omega)]; rfl
      have H : Hid (k = skipGo false s.data.toList) := show _ = _ by have := hinv.out; omega
      clear h0 hinv hks
      go_wp2
      go_ret
      exact ⟨ret_intE (by unfold skipB; rw [← H.out]), rfl⟩

theorem Hid.mk' {p : Prop} (h : p) : Hid p := h
theorem int_head (s : ByteArray) (h0 : 0 < s.size) : (s.data.toList.head? == some 48) = ((s[0].toNat : Int) == 48) := by
  obtain ⟨t, ht⟩ := head_at s h0
  rw [ht]
  rw [Bool.eq_iff_iff, List.head?_cons, beq_iff_eq, beq_iff_eq, Option.some.injEq]
  constructor
  · intro e; rw [e]; rfl
  · intro e; exact UInt8.toNat_inj.1 (by show s[0].toNat = 48; omega)
theorem int_ret (s : ByteArray) (h0 : 0 < s.size) (k : Nat) (h : digLen s.data.toList = k) :
    tokRet (intR s.data.toList) = .returned (if (s[0].toNat : Int) = 48 ∧ 1 < (k : Int) then .tuple #[.agg #[.int .i64 0, .string ⟨#[]⟩, .int .i64 0, .int .i64 0], .int .i64 11]
      else if 9 < (k : Int) then .tuple #[.agg #[.int .i64 0, .string ⟨#[]⟩, .int .i64 0, .int .i64 0], .int .i64 4] else .tuple #[.agg #[.int .i64 3, .string (s.extract 0 k), .int .i64 0, .int .i64 k], .int .i64 0]) := by
  unfold intR
  rw [int_head s h0, h]
  have e1 : (1 < (k : Int)) ↔ (1 < k) := by omega
  have e9 : (9 < (k : Int)) ↔ (9 < k) := by omega
  rw [ext0_tx]
  by_cases h1 : (s[0].toNat : Int) = 48 <;> by_cases h2 : 1 < k <;> by_cases h3 : 9 < k <;> simp [h1, h2, h3, e1, e9, tokRet, RT.bad, tx]
set_option maxHeartbeats 2000000 in
theorem tok_integer (s : ByteArray) (w : World) (hs : s.size ≤ 9223372036854775807) (h0 : 0 < s.size) :
    Calls Try.prog 65 #[.string s] w fun e w' => e = tokRet (intR s.data.toList) ∧ Below w.heap.size w w' := by
  have hd0 := digLen_le s.data.toList
  rw [len_data] at hd0
  go_enter Try.func65, Try.ntmps65
  go_wp2
  go_loop [4] (fun i => ∃ k : Nat, i = .int .i64 k ∧ k ≤ s.size ∧ Hid (k + digLen (s.data.toList.drop k) = digLen s.data.toList)) (fun i => s.size - (intOf i).toNat)
  case atStart => exact ⟨0, rfl, Nat.zero_le _, show _ = _ by simp⟩
  case round =>
    obtain ⟨k, rfl, hk, hinv⟩ := hrel
    by_cases hgo : ∃ h : k < s.size, isDigitI (s[k]'h).toNat = true
    · obtain ⟨hlt, hd⟩ := hgo
      have hc : Hid (digLen (s.data.toList.drop k) = if isDigitB s[k] then digLen (s.data.toList.drop (k + 1)) + 1 else 0) := show _ = _ by rw [byte_at s k hlt, digLen_cons]
      go_wp2_with (first
          | (go_at_call 64; refine (tok_digit _ _).mono ?_; rintro e w' ⟨rfl, rfl⟩))
      go_round
      case rel => exact ⟨k + 1, by go_num, by omega, show _ = _ by have e := hc.out; unfold isDigitB at e; rw [hd] at e; have := hinv.out; simp at e; omega⟩
      case measure => simp [intOf]; omega
    · have HD : Hid (digLen s.data.toList = k) := by
        have := hinv.out
        rcases Nat.lt_or_ge k s.size with h | h
        · have e : digLen (s.data.toList.drop k) = 0 := by
            rw [byte_at s k h, digLen_cons, if_neg]
            exact fun h1 => hgo ⟨h, h1⟩
          exact show _ = _ by omega
        · have e : digLen (s.data.toList.drop k) = 0 := by rw [List.drop_eq_nil_of_le (by rw [len_data]; omega)]; rfl
          exact show _ = _ by omega
      clear hinv
      rcases Nat.lt_or_ge k s.size with hlt | hlt
      · have hd : isDigitI s[k].toNat = false := by rw [Bool.eq_false_iff]; exact fun h1 => hgo ⟨hlt, h1⟩
        clear hgo
        go_wp2_with (first
          | (go_at_call 64; refine (tok_digit _ _).mono ?_; rintro e w' ⟨rfl, rfl⟩))
        all_goals
          refine post_res rfl ⟨_, by (simp [results, Try.results65, go_sem]; rfl), ?_, (Below.refl _ _).alloc (Nat.le_refl _) _⟩
          rw [int_ret s h0 k HD.out]
          split <;> first | rfl | (exfalso; omega) | (split <;> first | rfl | (exfalso; omega))
      · clear hgo
        go_wp2
        all_goals
          refine post_res rfl ⟨_, by (simp [results, Try.results65, go_sem]; rfl), ?_, (Below.refl _ _).alloc (Nat.le_refl _) _⟩
          rw [int_ret s h0 k HD.out]
          split <;> first | rfl | (exfalso; omega) | (split <;> first | rfl | (exfalso; omega))
theorem tok_skip_is (s : ByteArray) (k : Nat) (w : World) (hs : s.size ≤ 9223372036854775807) (h : skipB s = k) :
    Calls Try.prog 59 #[.string s] w fun e w' => e = .returned (.int .i64 k) ∧ w = w' := by rw [← h]; exact tok_skip s w hs
end Go.Proofs.Ytlnoadnejefmoaa
