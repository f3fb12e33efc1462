import Derived.Test.YtlnoadnejefmoaaTokG
set_option linter.unusedVariables false
set_option linter.unusedSimpArgs false
namespace Go.Proofs.Ytlnoadnejefmoaa
open Go.RowKit Go.Proofs.YtlnoadnejefmoaaW.PrintWords

theorem ref_digit (c : Int) (w : World) : Calls Try.prog 90 #[.int .u8 c] w fun e w' => e = .returned (.bool (isDigitI c)) ∧ w = w' := by
  go_enter Try.func90, Try.ntmps90
  go_wp2
  all_goals
    go_ret
    refine ⟨ret_boolE ?_, rfl⟩
    rw [Bool.eq_iff_iff]; simp [isDigitI] <;> omega
theorem ref_letter (c : Int) (w : World) : Calls Try.prog 88 #[.int .u8 c] w fun e w' => e = .returned (.bool (isLetterI c)) ∧ w = w' := by
  go_enter Try.func88, Try.ntmps88
  go_wp2
  all_goals
    go_ret
    refine ⟨ret_boolE ?_, rfl⟩
    rw [Bool.eq_iff_iff]; simp [isLetterI] <;> omega

/-- A list of strings that is written out, in memory. -/
theorem lit_at (w : World) (L : List (List UInt8)) (e : TypeId) (k : Nat) (h : k < L.length) :
    (w.alloc (.cells (L.map fun l => Value.string (tx l)).toArray e)).cell? ⟨w.heap.size, k, none⟩ = some (.string (tx (L.getD k []))) := by
  rw [cell_of (Go.heap_alloc_new w _) k]
  simp [List.getElem?_map, List.getElem?_eq_getElem h, List.getD_eq_getElem?_getD]
theorem any_take_succ (L : List (List UInt8)) (p : List UInt8 → Bool) (k : Nat) (h : k < L.length) : (L.take (k + 1)).any p = ((L.take k).any p || p (L.getD k [])) := by
  rw [List.take_succ_eq_append_getElem h, List.any_append]
  simp [List.getD_eq_getElem?_getD, List.getElem?_eq_getElem h]
theorem any_of_at (L : List (List UInt8)) (p : List UInt8 → Bool) (k : Nat) (h : k < L.length) (hp : p (L.getD k []) = true) : L.any p = true := by
  rw [List.any_eq_true]
  refine ⟨L.getD k [], ?_, hp⟩
  rw [List.getD_eq_getElem?_getD, List.getElem?_eq_getElem h]
  exact List.getElem_mem h

set_option maxHeartbeats 4000000 in
set_option maxRecDepth 100000 in
theorem ref_keyword (s : ByteArray) (w : World) : Calls Try.prog 26 #[.string s] w fun e w' => e = .returned (.bool (kwB s)) ∧ Below w.heap.size w w' := by
  go_enter Try.func26, Try.ntmps26
  go_wp2
  generalize hW : w.alloc _ = W
  have hat : Hid (∀ k, k < 16 → W.cell? ⟨w.heap.size, k, none⟩ = some (.string (tx (kwL.getD k [])))) := fun k hk => by rw [← hW]; exact lit_at w kwL _ k hk
  have hbl : Below w.heap.size w W := by rw [← hW]; exact (Below.refl _ _).alloc (Nat.le_refl _) _
  clear hW
  go_loop [4] (fun i => ∃ k : Nat, i = .int .i64 k ∧ k ≤ 16 ∧ Hid ((kwL.take k).any (s.data.toList == ·) = false)) (fun i => 16 - (intOf i).toNat)
  case atStart => exact ⟨0, rfl, by omega, show _ = _ from rfl⟩
  case round =>
    obtain ⟨k, rfl, hk, hinv⟩ := hrel
    by_cases hlt : k < 16
    · obtain ⟨y, hy⟩ : ∃ y, tx (kwL.getD k []) = y := ⟨_, rfl⟩
      have hc := hat.out k hlt
      rw [hy] at hc
      have HY := Hid.mk' hy
      clear hy
      go_wp2
      · go_ret
        have h : (y.toList == s.toList) = true := by assumption
        rw [str_eqb, ← HY.out, tx_list, beq_iff_eq] at h
        exact ⟨ret_boolE (any_of_at kwL (s.data.toList == ·) k hlt (by rw [h]; exact beq_self_eq_true _)).symm, hbl⟩
      · go_round
        have h : (y.toList == s.toList) = false := by assumption
        rw [str_eqb, ← HY.out, tx_list, beq_eq_false_iff_ne] at h
        case rel => exact ⟨k + 1, by go_num, by omega, show _ = _ by
          rw [any_take_succ kwL _ k hlt, hinv.out, Bool.false_or, beq_eq_false_iff_ne]
          exact fun e => h e.symm⟩
        case measure => simp [intOf]; omega
    · go_wp2
      go_ret
      have h := hinv.out
      rw [List.take_of_length_le (by show 16 ≤ k; omega)] at h
      exact ⟨ret_boolE h.symm, hbl⟩
set_option maxHeartbeats 4000000 in
set_option maxRecDepth 100000 in
theorem ref_mark (s : ByteArray) (w : World) : Calls Try.prog 74 #[.string s] w fun e w' => e = .returned (.bool (markB s)) ∧ Below w.heap.size w w' := by
  go_enter Try.func74, Try.ntmps74
  go_wp2
  generalize hW : w.alloc _ = W
  have hat : Hid (∀ k, k < 21 → W.cell? ⟨w.heap.size, k, none⟩ = some (.string (tx (markL.getD k [])))) := fun k hk => by rw [← hW]; exact lit_at w markL _ k hk
  have hbl : Below w.heap.size w W := by rw [← hW]; exact (Below.refl _ _).alloc (Nat.le_refl _) _
  clear hW
  go_loop [4] (fun i => ∃ k : Nat, i = .int .i64 k ∧ k ≤ 21 ∧ Hid ((markL.take k).any (s.data.toList == ·) = false)) (fun i => 21 - (intOf i).toNat)
  case atStart => exact ⟨0, rfl, by omega, show _ = _ from rfl⟩
  case round =>
    obtain ⟨k, rfl, hk, hinv⟩ := hrel
    by_cases hlt : k < 21
    · obtain ⟨y, hy⟩ : ∃ y, tx (markL.getD k []) = y := ⟨_, rfl⟩
      have hc := hat.out k hlt
      rw [hy] at hc
      have HY := Hid.mk' hy
      clear hy
      go_wp2
      · go_ret
        have h : (y.toList == s.toList) = true := by assumption
        rw [str_eqb, ← HY.out, tx_list, beq_iff_eq] at h
        exact ⟨ret_boolE (any_of_at markL (s.data.toList == ·) k hlt (by rw [h]; exact beq_self_eq_true _)).symm, hbl⟩
      · go_round
        have h : (y.toList == s.toList) = false := by assumption
        rw [str_eqb, ← HY.out, tx_list, beq_eq_false_iff_ne] at h
        case rel => exact ⟨k + 1, by go_num, by omega, show _ = _ by
          rw [any_take_succ markL _ k hlt, hinv.out, Bool.false_or, beq_eq_false_iff_ne]
          exact fun e => h e.symm⟩
        case measure => simp [intOf]; omega
    · go_wp2
      go_ret
      have h := hinv.out
      rw [List.take_of_length_le (by show 21 ≤ k; omega)] at h
      exact ⟨ret_boolE h.symm, hbl⟩

set_option maxHeartbeats 1000000 in
theorem ref_word (s : ByteArray) (p : Nat) (w : World) (hs : s.size ≤ 1000000000) (hp : p ≤ s.size) :
    Calls Try.prog 89 #[.string s, .int .i64 p] w fun e w' => e = .returned (.int .i64 (p + wordLen (s.data.toList.drop p) : Nat)) ∧ w = w' := by
  obtain ⟨N, hN⟩ : ∃ N, p + wordLen (s.data.toList.drop p) = N := ⟨_, rfl⟩
  rw [hN]
  have HN := Hid.mk' hN
  clear hN
  go_enter Try.func89, Try.ntmps89
  go_wp2
  go_loop [1] (fun i => ∃ k : Nat, i = .int .i64 k ∧ k ≤ s.size ∧ Hid (k + wordLen (s.data.toList.drop k) = N)) (fun i => s.size - (intOf i).toNat)
  case atStart => exact ⟨p, rfl, hp, HN⟩
  case round =>
    obtain ⟨k, rfl, hk, hinv⟩ := hrel
    by_cases hlt : k < s.size
    · have hc : Hid (wordLen (s.data.toList.drop k) = if isWordB s[k] then wordLen (s.data.toList.drop (k + 1)) + 1 else 0) := show _ = _ by rw [byte_at s k hlt, wordLen_cons]
      go_wp2_with (first
        | (go_at_call 88; refine (ref_letter _ _).mono ?_; rintro e w' ⟨rfl, rfl⟩)
        | (go_at_call 90; refine (ref_digit _ _).mono ?_; rintro e w' ⟨rfl, rfl⟩))
      · go_round
        have h : isWordB s[k] = true := by unfold isWordB; simp [*]
        have e := hc.out; rw [if_pos h] at e; have := hinv.out
        case rel => exact ⟨k + 1, by go_num, by omega, show _ = _ by omega⟩
        case measure => simp [intOf]; omega
      · go_round
        have h : isWordB s[k] = true := by unfold isWordB; simp [*]
        have e := hc.out; rw [if_pos h] at e; have := hinv.out
        case rel => exact ⟨k + 1, by go_num, by omega, show _ = _ by omega⟩
        case measure => simp [intOf]; omega
      · go_ret
        have h : isWordB s[k] = false := by unfold isWordB; simp [*]
        have e := hc.out; rw [h] at e; have := hinv.out
        simp at e
        exact ⟨ret_intE (by omega), rfl⟩
    · have h0 : wordLen (s.data.toList.drop k) = 0 := by rw [List.drop_eq_nil_of_le (by rw [len_data]; omega)]; rfl
      have h1 : Hid (k = N) := show _ = _ by have := hinv.out; omega
      clear h0 hinv
      go_wp2
      go_ret
      exact ⟨ret_intE (by rw [h1.out]), rfl⟩
theorem ref_word_is (s : ByteArray) (p N : Nat) (w : World) (hs : s.size ≤ 1000000000) (hp : p ≤ s.size) (h : p + wordLen (s.data.toList.drop p) = N) :
    Calls Try.prog 89 #[.string s, .int .i64 p] w fun e w' => e = .returned (.int .i64 N) ∧ w = w' := by rw [← h]; exact ref_word s p w hs hp
end Go.Proofs.Ytlnoadnejefmoaa
