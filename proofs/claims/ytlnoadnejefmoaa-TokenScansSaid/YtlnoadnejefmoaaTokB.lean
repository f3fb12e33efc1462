import Derived.Test.YtlnoadnejefmoaaTokA
import Derived.Test.YtlnoadnejefmoaaShelf

set_option linter.unusedVariables false
set_option linter.unusedSimpArgs false
namespace Go.Proofs.Ytlnoadnejefmoaa
open Go.RowKit

set_option maxHeartbeats 1000000 in
theorem tok_name (s : ByteArray) (w : World) (hs : s.size ≤ 9223372036854775807) :
    Calls Try.prog 63 #[.string s] w fun e w' => e = .returned (.bool (nameB s)) ∧ Below w.heap.size w w' := by
  rcases Nat.eq_zero_or_pos s.size with h0 | h0
  · have hn := toList_nil s h0
    have hl : nameB s = false := by unfold nameB; rw [← Lib.toList_data, hn]; rfl
    clear h0
    go_enter Try.func63, Try.ntmps63
    go_wp2
    go_ret
    exact ⟨ret_boolE hl.symm, Below.refl _ _⟩
  · have hn := toList_cons s h0
    obtain ⟨t, ht⟩ := head_at s h0
    have hl : Hid (nameB s = (isLetterI s[0].toNat && wordLen s.data.toList == s.data.toList.length && !kwB s)) := show _ = _ by unfold nameB kwB nameL; rw [ht]
    have HT : Hid (s.data.toList = s[0] :: t) := ht
    clear ht
    go_enter Try.func63, Try.ntmps63
    go_wp2_with (first
        | (go_at_call 84; refine (tok_letter _ _).mono ?_; rintro e w' ⟨rfl, rfl⟩)
        | (go_at_call 85; refine (tok_word _ _ hs).mono ?_; rintro e w' ⟨rfl, rfl⟩)
        | (go_at_call 25; refine (tok_keyword _ _).mono ?_; rintro e w' ⟨rfl, hb⟩))
    all_goals
      go_ret
      refine ⟨ret_boolE (Eq.trans ?_ hl.out.symm), by first | exact Below.refl _ _ | assumption⟩
      have hw := wordT_data s
      unfold wordS at *
      simp_all

set_option maxHeartbeats 4000000 in
set_option maxRecDepth 10000 in
theorem tok_mark (s : ByteArray) (w : World) : Calls Try.prog 67 #[.string s] w fun e w' => e = .returned (.bool (markB s)) ∧ w = w' := by
  go_enter Try.func67, Try.ntmps67
  go_wp2
  all_goals
    go_ret
    refine ⟨ret_boolE ?_, rfl⟩
    unfold markB
    rw [← Lib.toList_data]
    simp_all [isMarkL, markL]

theorem has_prefix0 (s p : ByteArray) (w : World) (hs : s.size ≤ 9223372036854775807) : Calls Try.prog 101 #[.string s, .string p] w fun e w' => e = .returned (.bool (pfxB p s)) ∧ w = w' := by
  by_cases h : p.size ≤ s.size
  · go_enter Try.func101, Try.ntmps101
    go_wp2
    go_ret
    refine ⟨ret_boolE ?_, rfl⟩
    rw [Bool.eq_iff_iff, str_eqb, ext0_tx, tx_list, beq_iff_eq, pfxB, pfxL, List.isPrefixOf_iff_prefix, List.prefix_iff_eq_take, len_data]
    exact ⟨fun h => h.symm, fun h => h.symm⟩
  · go_enter Try.func101, Try.ntmps101
    go_wp2
    go_ret
    refine ⟨ret_boolE ?_, rfl⟩
    symm
    rw [Bool.eq_false_iff]
    intro e
    unfold pfxB pfxL at e
    have := (List.isPrefixOf_iff_prefix.1 e).length_le
    rw [len_data, len_data] at this
    omega
theorem has_prefix (s p : ByteArray) (w : World) (hs : s.size ≤ 9223372036854775807) : Calls Try.prog 82 #[.string s, .string p] w fun e w' => e = .returned (.bool (pfxB p s)) ∧ w = w' := by
  go_enter Try.func82, Try.ntmps82
  go_wp2_with (go_at_call 101; refine (has_prefix0 _ _ _ hs).mono ?_; rintro e w' ⟨rfl, rfl⟩)
  go_ret
  exact ⟨rfl, rfl⟩
end Go.Proofs.Ytlnoadnejefmoaa
