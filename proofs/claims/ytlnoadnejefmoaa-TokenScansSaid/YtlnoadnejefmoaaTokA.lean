import Derived.Test.YtlnoadnejefmoaaProg
import Derived.Test.YtlnoadnejefmoaaBy
import Derived.Test.YtlnoadnejefmoaaKw
import Derived.WalkKit
import Derived.KernelRfl
import Derived.Deep.QuietTactic
import Derived.BigQuiet
set_option linter.unusedVariables false
set_option linter.unusedSimpArgs false
namespace Go.Proofs.Ytlnoadnejefmoaa
open Go.RowKit

theorem tok_digit (c : Int) (w : World) : Calls Try.prog 64 #[.int .u8 c] w fun e w' => e = .returned (.bool (isDigitI c)) ∧ w = w' := by
  go_enter Try.func64, Try.ntmps64
  go_wp2
  all_goals
    go_ret
    refine ⟨ret_boolE ?_, rfl⟩
    rw [Bool.eq_iff_iff]; simp [isDigitI] <;> omega
theorem tok_letter (c : Int) (w : World) : Calls Try.prog 84 #[.int .u8 c] w fun e w' => e = .returned (.bool (isLetterI c)) ∧ w = w' := by
  go_enter Try.func84, Try.ntmps84
  go_wp2
  all_goals
    go_ret
    refine ⟨ret_boolE ?_, rfl⟩
    rw [Bool.eq_iff_iff]; simp [isLetterI] <;> omega

set_option maxHeartbeats 1000000 in
theorem tok_word (s : ByteArray) (w : World) (hs : s.size ≤ 9223372036854775807) :
    Calls Try.prog 85 #[.string s] w fun e w' => e = .returned (.string (wordS s)) ∧ w = w' := by
  have hwl := wordLen_le s.data.toList
  rw [len_data] at hwl
  go_enter Try.func85, Try.ntmps85
  go_wp2
  go_loop [3] (fun i => ∃ k : Nat, i = .int .i64 k ∧ k ≤ s.size ∧ Hid (k + wordLen (s.data.toList.drop k) = wordLen s.data.toList)) (fun i => s.size - (intOf i).toNat)
  case atStart => exact ⟨0, rfl, Nat.zero_le _, show _ = _ by simp⟩
  case round =>
    obtain ⟨k, rfl, hk, hinv⟩ := hrel
    by_cases hlt : k < s.size
    · have hc : Hid (wordLen (s.data.toList.drop k) = if isWordB s[k] then wordLen (s.data.toList.drop (k + 1)) + 1 else 0) := show _ = _ by rw [byte_at s k hlt, wordLen_cons]
      go_wp2_with (first
        | (go_at_call 84; refine (tok_letter _ _).mono ?_; rintro e w' ⟨rfl, rfl⟩)
        | (go_at_call 64; refine (tok_digit _ _).mono ?_; rintro e w' ⟨rfl, rfl⟩))
      · go_round
        have h : isWordB s[k] = true := by unfold isWordB; simp [*]
        have e := hc.out; rw [if_pos h] at e; have := hinv.out
        case rel => exact ⟨k + 1, by go_num, by omega, show _ = _ by omega⟩
        case measure => simp [intOf]; omega
      · go_round
        have h : isWordB s[k] = true := by unfold isWordB; simp [*]
        have e := hc.out; rw [if_pos h] at e; have := hinv.out
        case rel => exact ⟨k + 1, by go_num, by omega, show _ = _ by omega⟩
        case measure => simp [intOf]; omega
      · go_ret
        have h : isWordB s[k] = false := by unfold isWordB; simp [*]
        have e := hc.out; rw [h] at e; have := hinv.out
        simp at e
        rw [e] at this
        exact ⟨ret_strE (by unfold wordS; rw [← this]; rfl), rfl⟩
    · have hks : k = s.size := by omega
      have hinv' := hinv.out
      clear hinv
      have h0 : wordLen (s.data.toList.drop k) = 0 := by rw [List.drop_eq_nil_of_le (by rw [len_data]; omega)]; rfl
      rw [h0] at hinv'
      have H : Hid (k + 0 = wordLen s.data.toList) := hinv'
      clear hinv' h0
      go_wp2
      go_ret
      have h := H.out
      exact ⟨ret_strE (by unfold wordS; rw [← h]; simp [hks]), rfl⟩
end Go.Proofs.Ytlnoadnejefmoaa
