/- The reference's tokenizer returns what the plain functions say; and token.Same compares two lists. Strings of at most 1000000000 bytes. -/
import Derived.Test.YtlnoadnejefmoaaTkProg
import Derived.Deep.QuietTactic
import Derived.BigQuiet
import Derived.Deep.RegionWith
set_option linter.unusedVariables false
set_option linter.unusedSimpArgs false
namespace Go.Proofs.Ytlnoadnejefmoaa
open Go.RowKit Go.Proofs.YtlnoadnejefmoaaW.PrintWords

theorem ref_digit (c : Int) (w : World) : Calls Try.prog 90 #[.int .u8 c] w fun e w' => e = .returned (.bool (isDigitI c)) ∧ w = w' := by
  go_enter Try.func90, Try.ntmps90
  go_wp2
  all_goals
    go_ret
    refine ⟨ret_boolE ?_, rfl⟩
    rw [Bool.eq_iff_iff]; simp [isDigitI] <;> omega
theorem ref_letter (c : Int) (w : World) : Calls Try.prog 88 #[.int .u8 c] w fun e w' => e = .returned (.bool (isLetterI c)) ∧ w = w' := by
  go_enter Try.func88, Try.ntmps88
  go_wp2
  all_goals
    go_ret
    refine ⟨ret_boolE ?_, rfl⟩
    rw [Bool.eq_iff_iff]; simp [isLetterI] <;> omega

/-- A list of strings that is written out, in memory. -/
theorem lit_at (w : World) (L : List (List UInt8)) (e : TypeId) (k : Nat) (h : k < L.length) :
    (w.alloc (.cells (L.map fun l => Value.string (tx l)).toArray e)).cell? ⟨w.heap.size, k, none⟩ = some (.string (tx (L.getD k []))) := by
  rw [cell_of (Go.heap_alloc_new w _) k]
  simp [List.getElem?_map, List.getElem?_eq_getElem h, List.getD_eq_getElem?_getD]
theorem any_take_succ (L : List (List UInt8)) (p : List UInt8 → Bool) (k : Nat) (h : k < L.length) : (L.take (k + 1)).any p = ((L.take k).any p || p (L.getD k [])) := by
  rw [List.take_succ_eq_append_getElem h, List.any_append]
  simp [List.getD_eq_getElem?_getD, List.getElem?_eq_getElem h]
theorem any_of_at (L : List (List UInt8)) (p : List UInt8 → Bool) (k : Nat) (h : k < L.length) (hp : p (L.getD k []) = true) : L.any p = true := by
  rw [List.any_eq_true]
  refine ⟨L.getD k [], ?_, hp⟩
  rw [List.getD_eq_getElem?_getD, List.getElem?_eq_getElem h]
  exact List.getElem_mem h

set_option maxHeartbeats 4000000 in
set_option maxRecDepth 100000 in
theorem ref_keyword (s : ByteArray) (w : World) : Calls Try.prog 26 #[.string s] w fun e w' => e = .returned (.bool (kwB s)) ∧ Below w.heap.size w w' := by
  go_enter Try.func26, Try.ntmps26
  go_wp2
  generalize hW : w.alloc _ = W
  have hat : Hid (∀ k, k < 16 → W.cell? ⟨w.heap.size, k, none⟩ = some (.string (tx (kwL.getD k [])))) := fun k hk => by rw [← hW]; exact lit_at w kwL _ k hk
  have hbl : Below w.heap.size w W := by rw [← hW]; exact (Below.refl _ _).alloc (Nat.le_refl _) _
  clear hW
  go_loop [4] (fun i => ∃ k : Nat, i = .int .i64 k ∧ k ≤ 16 ∧ Hid ((kwL.take k).any (s.data.toList == ·) = false)) (fun i => 16 - (intOf i).toNat)
  case atStart => exact ⟨0, rfl, by omega, show _ = _ from rfl⟩
  case round =>
    obtain ⟨k, rfl, hk, hinv⟩ := hrel
    by_cases hlt : k < 16
    · obtain ⟨y, hy⟩ : ∃ y, tx (kwL.getD k []) = y := ⟨_, rfl⟩
      have hc := hat.out k hlt
      rw [hy] at hc
      have HY := Hid.mk' hy
      clear hy
      go_wp2
      · go_ret
        have h : (y.toList == s.toList) = true := by assumption
        rw [str_eqb, ← HY.out, tx_list, beq_iff_eq] at h
        exact ⟨ret_boolE (any_of_at kwL (s.data.toList == ·) k hlt (by rw [h]; exact beq_self_eq_true _)).symm, hbl⟩
      · go_round
        have h : (y.toList == s.toList) = false := by assumption
        rw [str_eqb, ← HY.out, tx_list, beq_eq_false_iff_ne] at h
        case rel => exact ⟨k + 1, by go_num, by omega, show _ = _ by
          rw [any_take_succ kwL _ k hlt, hinv.out, Bool.false_or, beq_eq_false_iff_ne]
          exact fun e => h e.symm⟩
        case measure => simp [intOf]; omega
    · go_wp2
      go_ret
      have h := hinv.out
      rw [List.take_of_length_le (by show 16 ≤ k; omega)] at h
      exact ⟨ret_boolE h.symm, hbl⟩
set_option maxHeartbeats 4000000 in
set_option maxRecDepth 100000 in
theorem ref_mark (s : ByteArray) (w : World) : Calls Try.prog 74 #[.string s] w fun e w' => e = .returned (.bool (markB s)) ∧ Below w.heap.size w w' := by
  go_enter Try.func74, Try.ntmps74
  go_wp2
  generalize hW : w.alloc _ = W
  have hat : Hid (∀ k, k < 21 → W.cell? ⟨w.heap.size, k, none⟩ = some (.string (tx (markL.getD k [])))) := fun k hk => by rw [← hW]; exact lit_at w markL _ k hk
  have hbl : Below w.heap.size w W := by rw [← hW]; exact (Below.refl _ _).alloc (Nat.le_refl _) _
  clear hW
  go_loop [4] (fun i => ∃ k : Nat, i = .int .i64 k ∧ k ≤ 21 ∧ Hid ((markL.take k).any (s.data.toList == ·) = false)) (fun i => 21 - (intOf i).toNat)
  case atStart => exact ⟨0, rfl, by omega, show _ = _ from rfl⟩
  case round =>
    obtain ⟨k, rfl, hk, hinv⟩ := hrel
    by_cases hlt : k < 21
    · obtain ⟨y, hy⟩ : ∃ y, tx (markL.getD k []) = y := ⟨_, rfl⟩
      have hc := hat.out k hlt
      rw [hy] at hc
      have HY := Hid.mk' hy
      clear hy
      go_wp2
      · go_ret
        have h : (y.toList == s.toList) = true := by assumption
        rw [str_eqb, ← HY.out, tx_list, beq_iff_eq] at h
        exact ⟨ret_boolE (any_of_at markL (s.data.toList == ·) k hlt (by rw [h]; exact beq_self_eq_true _)).symm, hbl⟩
      · go_round
        have h : (y.toList == s.toList) = false := by assumption
        rw [str_eqb, ← HY.out, tx_list, beq_eq_false_iff_ne] at h
        case rel => exact ⟨k + 1, by go_num, by omega, show _ = _ by
          rw [any_take_succ markL _ k hlt, hinv.out, Bool.false_or, beq_eq_false_iff_ne]
          exact fun e => h e.symm⟩
        case measure => simp [intOf]; omega
    · go_wp2
      go_ret
      have h := hinv.out
      rw [List.take_of_length_le (by show 21 ≤ k; omega)] at h
      exact ⟨ret_boolE h.symm, hbl⟩

set_option maxHeartbeats 1000000 in
theorem ref_word (s : ByteArray) (p : Nat) (w : World) (hs : s.size ≤ 1000000000) (hp : p ≤ s.size) :
    Calls Try.prog 89 #[.string s, .int .i64 p] w fun e w' => e = .returned (.int .i64 (p + wordLen (s.data.toList.drop p) : Nat)) ∧ w = w' := by
  obtain ⟨N, hN⟩ : ∃ N, p + wordLen (s.data.toList.drop p) = N := ⟨_, rfl⟩
  rw [hN]
  have HN := Hid.mk' hN
  clear hN
  go_enter Try.func89, Try.ntmps89
  go_wp2
  go_loop [1] (fun i => ∃ k : Nat, i = .int .i64 k ∧ k ≤ s.size ∧ Hid (k + wordLen (s.data.toList.drop k) = N)) (fun i => s.size - (intOf i).toNat)
  case atStart => exact ⟨p, rfl, hp, HN⟩
  case round =>
    obtain ⟨k, rfl, hk, hinv⟩ := hrel
    by_cases hlt : k < s.size
    · have hc : Hid (wordLen (s.data.toList.drop k) = if isWordB s[k] then wordLen (s.data.toList.drop (k + 1)) + 1 else 0) := show _ = _ by rw [byte_at s k hlt, wordLen_cons]
      go_wp2_with (first
        | (go_at_call 88; refine (ref_letter _ _).mono ?_; rintro e w' ⟨rfl, rfl⟩)
        | (go_at_call 90; refine (ref_digit _ _).mono ?_; rintro e w' ⟨rfl, rfl⟩))
      · go_round
        have h : isWordB s[k] = true := by unfold isWordB; simp [*]
        have e := hc.out; rw [if_pos h] at e; have := hinv.out
        case rel => exact ⟨k + 1, by go_num, by omega, show _ = _ by omega⟩
        case measure => simp [intOf]; omega
      · go_round
        have h : isWordB s[k] = true := by unfold isWordB; simp [*]
        have e := hc.out; rw [if_pos h] at e; have := hinv.out
        case rel => exact ⟨k + 1, by go_num, by omega, show _ = _ by omega⟩
        case measure => simp [intOf]; omega
      · go_ret
        have h : isWordB s[k] = false := by unfold isWordB; simp [*]
        have e := hc.out; rw [h] at e; have := hinv.out
        simp at e
        exact ⟨ret_intE (by omega), rfl⟩
    · have h0 : wordLen (s.data.toList.drop k) = 0 := by rw [List.drop_eq_nil_of_le (by rw [len_data]; omega)]; rfl
      have h1 : Hid (k = N) := show _ = _ by have := hinv.out; omega
      clear h0 hinv
      go_wp2
      go_ret
      exact ⟨ret_intE (by rw [h1.out]), rfl⟩
theorem ref_word_is (s : ByteArray) (p N : Nat) (w : World) (hs : s.size ≤ 1000000000) (hp : p ≤ s.size) (h : p + wordLen (s.data.toList.drop p) = N) :
    Calls Try.prog 89 #[.string s, .int .i64 p] w fun e w' => e = .returned (.int .i64 N) ∧ w = w' := by rw [← h]; exact ref_word s p w hs hp
end Go.Proofs.Ytlnoadnejefmoaa
set_option linter.unusedVariables false
set_option linter.unusedSimpArgs false
namespace Go.Proofs.Ytlnoadnejefmoaa
open Go.RowKit Go.Proofs.YtlnoadnejefmoaaW.PrintWords

theorem skipT_lf (c : UInt8) (t : List UInt8) (h : c.toNat = 10) : skipGo true (c :: t) = skipGo false (c :: t) := by
  rw [skipGo_cons, skipGo_cons, if_pos rfl, if_pos h, if_neg (by simp), if_pos (by simp [blankI, h])]
theorem skipT_ch (c : UInt8) (t : List UInt8) (h : c.toNat ≠ 10) : skipGo true (c :: t) = skipGo true t + 1 := by
  rw [skipGo_cons, if_pos rfl, if_neg h]
theorem skipF_blank (c : UInt8) (t : List UInt8) (h : blankI c.toNat = true) : skipGo false (c :: t) = skipGo false t + 1 := by
  rw [skipGo_cons, if_neg (by simp), if_pos h]

theorem skipF_stop (c : UInt8) (t : List UInt8) (h : blankI c.toNat = false) (h2 : c.toNat = 47 → (t.head?.map (·.toNat)) ≠ some 47) : skipGo false (c :: t) = 0 := by
  rw [skipGo_cons, if_neg (by simp), if_neg (by simp [h]), if_neg]
  exact fun h3 => h2 h3.1 h3.2
theorem skipF_comment (c d : UInt8) (t : List UInt8) (h : c.toNat = 47) (h2 : d.toNat = 47) : skipGo false (c :: d :: t) = skipGo true (c :: d :: t) := by
  have e1 : c = 47 := UInt8.toNat_inj.1 h
  have e2 : d = 47 := UInt8.toNat_inj.1 h2
  subst e1
  subst e2
  exact skipGo_slash _ rfl
theorem blank_or {c : Int} (h : ((c == 32) = true ∨ (c == 9) = true) ∨ (c == 10) = true) : blankI c = true := by
  unfold blankI
  rcases h with (h | h) | h <;> simp [h]
theorem blank_not {c : Int} (h : ((c == 32) = false ∧ (c == 9) = false) ∧ (c == 10) = false) : blankI c = false := by
  unfold blankI
  rw [h.1.1, h.1.2, h.2]
  rfl

set_option maxHeartbeats 4000000 in
set_option maxRecDepth 100000 in
theorem ref_skip (s : ByteArray) (p N : Nat) (w : World) (hs : s.size ≤ 1000000000) (hp : p ≤ s.size) (hN : Hid (p + skipGo false (s.data.toList.drop p) = N)) :
    Calls Try.prog 61 #[.string s, .int .i64 p] w fun e w' => e = .returned (.int .i64 N) ∧ w = w' := by
  go_enter Try.func61, Try.ntmps61
  go_wp2
  go_loop [1] (fun i => ∃ k : Nat, i = .int .i64 k ∧ k ≤ s.size ∧ Hid (k + skipGo false (s.data.toList.drop k) = N)) (fun i => s.size - (intOf i).toNat)
  case atStart => exact ⟨p, rfl, hp, hN⟩
  case round =>
    obtain ⟨k, rfl, hk, hinv⟩ := hrel
    by_cases hlt : k < s.size
    · have hc : Hid (s.data.toList.drop k = s[k] :: s.data.toList.drop (k + 1)) := byte_at s k hlt
      go_wp2
      · go_round
        have e : skipGo false (s.data.toList.drop k) = skipGo false (s.data.toList.drop (k + 1)) + 1 := by rw [hc.out, skipF_blank _ _ (blank_or (.inl (.inl (by rw [beq_iff_eq]; assumption))))]
        case rel => exact ⟨k + 1, by go_num, by omega, show _ = _ by have := hinv.out; omega⟩
        case measure => simp [intOf]; omega
      · go_round
        have e : skipGo false (s.data.toList.drop k) = skipGo false (s.data.toList.drop (k + 1)) + 1 := by rw [hc.out, skipF_blank _ _ (blank_or (.inl (.inr (by rw [beq_iff_eq]; assumption))))]
        case rel => exact ⟨k + 1, by go_num, by omega, show _ = _ by have := hinv.out; omega⟩
        case measure => simp [intOf]; omega
      · go_round
        have e : skipGo false (s.data.toList.drop k) = skipGo false (s.data.toList.drop (k + 1)) + 1 := by rw [hc.out, skipF_blank _ _ (blank_or (by assumption))]
        case rel => exact ⟨k + 1, by go_num, by omega, show _ = _ by have := hinv.out; omega⟩
        case measure => simp [intOf]; omega
      · have h47 : (s[k].toNat : Int) = 47 := by assumption
        have hk1 : k + 1 < s.size := by omega
        have h2 : ((s[k + 1].toNat : Int) == 47) = true := by assumption
        have H : Hid (k + skipGo true (s.data.toList.drop k) = N) := by
          have h := hinv.out
          rw [hc.out, byte_at s (k + 1) hk1, skipF_comment _ _ _ (by omega) (by rw [beq_iff_eq] at h2; omega)] at h
          rw [hc.out, byte_at s (k + 1) hk1]
          exact h
        have H47 : Hid (s[k].toNat = 47) := show _ = _ by omega
        clear h47 h2
        go_loop [1] (fun i => ∃ q : Nat, i = .int .i64 q ∧ k ≤ q ∧ q ≤ s.size ∧ Hid (q + skipGo true (s.data.toList.drop q) = N)) (fun i => s.size - (intOf i).toNat)
        case atStart => exact ⟨k, rfl, Nat.le_refl _, hk, H⟩
        case round =>
          obtain ⟨q, rfl, hkq, hq, hqi⟩ := hrel
          by_cases hql : q < s.size
          · have hqc : Hid (s.data.toList.drop q = s[q] :: s.data.toList.drop (q + 1)) := byte_at s q hql
            go_wp2
            · go_round
              have hx : (¬ (s[q].toNat : Int) = 10) := by first | assumption | (have h : ((s[q].toNat : Int) != 10) = true := by assumption
                                                                                simpa using h)
              have e : skipGo true (s.data.toList.drop q) = skipGo true (s.data.toList.drop (q + 1)) + 1 := by rw [hqc.out, skipT_ch _ _ (by omega)]
              case rel => exact ⟨q + 1, by go_num, by omega, by omega, show _ = _ by have := hqi.out; omega⟩
              case measure => simp [intOf]; omega
            · skip
              have hx : (s[q].toNat : Int) = 10 := by have h : ((s[q].toNat : Int) != 10) = false := by assumption
                                                      simpa using h
              have hkq2 : k < q := by
                rcases Nat.lt_or_ge k q with h | h
                · exact h
                · obtain rfl : k = q := by omega
                  have := H47.out
                  omega
              go_round
              case rel => exact ⟨q, rfl, by omega, show _ = _ by rw [← hqi.out, hqc.out, skipT_lf _ _ (by omega)]⟩
              case measure => simp [intOf]; omega
          · go_wp2
            have hm : s.size - q < s.size - k := by omega
            go_round
            case rel => exact ⟨q, rfl, by omega, show _ = _ by rw [← hqi.out, List.drop_eq_nil_of_le (by rw [len_data]; omega)]; rfl⟩
            case measure => simpa [intOf] using hm
      · go_ret
        have hk1 : k + 1 < s.size := by omega
        have h2 : ((s[k + 1].toNat : Int) == 47) = false := by assumption
        rw [beq_eq_false_iff_ne] at h2
        have h := hinv.out
        rw [hc.out, skipF_stop _ _ (blank_not (by assumption)) (fun _ => by rw [byte_at s (k + 1) hk1]; simp; omega)] at h
        exact ⟨ret_intE (by omega), rfl⟩
      · go_ret
        have h := hinv.out
        rw [hc.out, skipF_stop _ _ (blank_not (by assumption)) (fun _ => by rw [List.drop_eq_nil_of_le (by rw [len_data]; omega)]; simp)] at h
        exact ⟨ret_intE (by omega), rfl⟩
      · go_ret
        have h := hinv.out
        rw [hc.out, skipF_stop _ _ (blank_not (by assumption)) (fun h => by omega)] at h
        exact ⟨ret_intE (by omega), rfl⟩
    · have h0 : skipGo false (s.data.toList.drop k) = 0 := by rw [List.drop_eq_nil_of_le (by rw [len_data]; omega)]; rfl
      have h1 : Hid (k = N) := show _ = _ by have := hinv.out; omega
      clear h0 hinv
      go_wp2
      go_ret
      exact ⟨ret_intE (by rw [h1.out]), rfl⟩
end Go.Proofs.Ytlnoadnejefmoaa
set_option linter.unusedVariables false
set_option linter.unusedSimpArgs false
namespace Go.Proofs.Ytlnoadnejefmoaa
open Go.RowKit Go.Proofs.YtlnoadnejefmoaaW.PrintWords

/-- What the reference's token and its helpers hand back at p: the error; without an error the token. -/
def RefTok (r : RT) (p : Nat) (e : Ending) : Prop := ∃ (k : Int) (t : ByteArray) (a b : Int), e = .returned (.tuple #[.agg #[.int .i64 k, .string t, .int .i64 a, .int .i64 b], .int .i64 r.err]) ∧ (r.err = 0 → k = r.kind ∧ t = tx r.text ∧ a = p ∧ b = (p + r.len : Nat))
theorem head_drop (s : ByteArray) (p : Nat) (hp : p < s.size) : ((s.data.toList.drop p).head? == some 48) = ((s[p].toNat : Int) == 48) := by
  rw [byte_at s p hp, Bool.eq_iff_iff, List.head?_cons, beq_iff_eq, beq_iff_eq, Option.some.injEq]
  constructor
  · intro e; rw [e]; rfl
  · intro e; exact UInt8.toNat_inj.1 (by show s[p].toNat = 48; omega)
theorem ext_mid (s : ByteArray) (p n : Nat) : s.extract p (p + n) = tx ((s.data.toList.drop p).take n) := by rw [ext_tx, Nat.add_sub_cancel_left]

theorem intR_a {l : List UInt8} (h : (l.head? == some 48) = true) (h2 : 1 < digLen l) : intR l = .bad 11 := by unfold intR; rw [h, if_pos (by simp [h2])]
theorem intR_b {l : List UInt8} (h : ¬ ((l.head? == some 48) = true ∧ 1 < digLen l)) (h2 : 9 < digLen l) : intR l = .bad 4 := by unfold intR; rw [if_neg (by simpa using h), if_pos h2]
theorem intR_c {l : List UInt8} (h : ¬ ((l.head? == some 48) = true ∧ 1 < digLen l)) (h2 : digLen l ≤ 9) : intR l = ⟨0, 3, l.take (digLen l), digLen l⟩ := by unfold intR; rw [if_neg (by simpa using h), if_neg (by omega)]

theorem num_res (s : ByteArray) (p n k : Nat) (hp : p < s.size) (hn : digLen (s.data.toList.drop p) = n) (hk : k = p + n) (e k' : Int) (t : ByteArray) (a b : Int)
    (h : (e = 11 ∧ (s[p].toNat : Int) = 48 ∧ (p : Int) + 1 < k) ∨ (e = 4 ∧ ¬ ((s[p].toNat : Int) = 48 ∧ (p : Int) + 1 < k) ∧ (p : Int) + 9 < k) ∨
      (e = 0 ∧ ¬ ((s[p].toNat : Int) = 48 ∧ (p : Int) + 1 < k) ∧ (k : Int) ≤ p + 9 ∧ k' = 3 ∧ t = s.extract p k ∧ a = p ∧ b = k)) :
    RefTok (intR (s.data.toList.drop p)) p (.returned (.tuple #[.agg #[.int .i64 k', .string t, .int .i64 a, .int .i64 b], .int .i64 e])) := by
  have hh := head_drop s p hp
  rcases h with ⟨rfl, h1, h2⟩ | ⟨rfl, h1, h2⟩ | ⟨rfl, h1, h2, rfl, rfl, rfl, rfl⟩
  · rw [intR_a (by rw [hh, h1]; rfl) (by omega)]
    exact ⟨_, _, _, _, rfl, fun h => absurd h (by decide)⟩
  · rw [intR_b (by rw [hh, beq_iff_eq]; omega) (by omega)]
    exact ⟨_, _, _, _, rfl, fun h => absurd h (by decide)⟩
  · rw [intR_c (by rw [hh, beq_iff_eq]; omega) (by omega)]
    exact ⟨_, _, _, _, rfl, fun _ => ⟨rfl, by rw [hk, ext_mid, hn], rfl, by rw [hn, hk]⟩⟩
set_option maxHeartbeats 4000000 in
set_option maxRecDepth 100000 in
theorem ref_number (s : ByteArray) (p : Nat) (w : World) (hs : s.size ≤ 1000000000) (hp : p < s.size) :
    Calls Try.prog 91 #[.string s, .int .i64 p] w fun e w' => RefTok (intR (s.data.toList.drop p)) p e ∧ Below w.heap.size w w' := by
  obtain ⟨n, hn⟩ : ∃ n, digLen (s.data.toList.drop p) = n := ⟨_, rfl⟩
  have hnl : p + n ≤ s.size := by have := digLen_le (s.data.toList.drop p); rw [List.length_drop, len_data] at this; omega
  have HN := Hid.mk' hn
  clear hn
  go_enter Try.func91, Try.ntmps91
  go_wp2
  go_loop [6] (fun i => ∃ k : Nat, i = .int .i64 k ∧ k ≤ s.size ∧ p ≤ k ∧ Hid (k + digLen (s.data.toList.drop k) = p + n)) (fun i => s.size - (intOf i).toNat)
  case atStart => exact ⟨p, rfl, by omega, Nat.le_refl _, show _ = _ by rw [HN.out]⟩
  case round =>
    obtain ⟨k, rfl, hk, hpk, hinv⟩ := hrel
    by_cases hgo : ∃ h : k < s.size, isDigitI (s[k]'h).toNat = true
    · obtain ⟨hlt, hd⟩ := hgo
      have hc : Hid (digLen (s.data.toList.drop k) = if isDigitB s[k] then digLen (s.data.toList.drop (k + 1)) + 1 else 0) := show _ = _ by rw [byte_at s k hlt, digLen_cons]
      go_wp2_with (first
          | (go_at_call 90; refine (ref_digit _ _).mono ?_; rintro e w' ⟨rfl, rfl⟩))
      go_round
      case rel => exact ⟨k + 1, by go_num, by omega, by omega, show _ = _ by have e := hc.out; unfold isDigitB at e; rw [hd] at e; have := hinv.out; simp at e; omega⟩
      case measure => simp [intOf]; omega
    · have HD : Hid (k = p + n) := by
        have := hinv.out
        rcases Nat.lt_or_ge k s.size with h | h
        · have e : digLen (s.data.toList.drop k) = 0 := by
            rw [byte_at s k h, digLen_cons, if_neg]
            exact fun h1 => hgo ⟨h, h1⟩
          exact show _ = _ by omega
        · have e : digLen (s.data.toList.drop k) = 0 := by rw [List.drop_eq_nil_of_le (by rw [len_data]; omega)]; rfl
          exact show _ = _ by omega
      clear hinv
      rcases Nat.lt_or_ge k s.size with hlt | hlt
      · have hd : isDigitI s[k].toNat = false := by rw [Bool.eq_false_iff]; exact fun h1 => hgo ⟨hlt, h1⟩
        clear hgo
        go_wp2_with (first
          | (go_at_call 90; refine (ref_digit _ _).mono ?_; rintro e w' ⟨rfl, rfl⟩))
        · refine post_res rfl ⟨_, by (simp [results, Try.results91, go_sem]; exact ⟨⟨rfl, rfl, rfl, rfl⟩, rfl⟩), num_res s p n k hp HN.out HD.out _ _ _ _ _ ?_, ((Below.refl _ _).alloc (Nat.le_refl _) _).alloc (by simp) _⟩
          exact .inl ⟨rfl, by assumption, by assumption⟩
        · refine post_res rfl ⟨_, by (simp [results, Try.results91, go_sem]; exact ⟨⟨rfl, rfl, rfl, rfl⟩, rfl⟩), num_res s p n k hp HN.out HD.out _ _ _ _ _ ?_, ((Below.refl _ _).alloc (Nat.le_refl _) _).alloc (by simp) _⟩
          exact .inr (.inr ⟨rfl, by omega, by omega, rfl, rfl, rfl, rfl⟩)
        · refine post_res rfl ⟨_, by (simp [results, Try.results91, go_sem]; exact ⟨⟨rfl, rfl, rfl, rfl⟩, rfl⟩), num_res s p n k hp HN.out HD.out _ _ _ _ _ ?_, ((Below.refl _ _).alloc (Nat.le_refl _) _).alloc (by simp) _⟩
          exact .inr (.inl ⟨rfl, by omega, by omega⟩)
        · refine post_res rfl ⟨_, by (simp [results, Try.results91, go_sem]; exact ⟨⟨rfl, rfl, rfl, rfl⟩, rfl⟩), num_res s p n k hp HN.out HD.out _ _ _ _ _ ?_, ((Below.refl _ _).alloc (Nat.le_refl _) _).alloc (by simp) _⟩
          exact .inr (.inr ⟨rfl, by omega, by omega, rfl, rfl, rfl, rfl⟩)
      · clear hgo
        go_wp2
        · refine post_res rfl ⟨_, by (simp [results, Try.results91, go_sem]; exact ⟨⟨rfl, rfl, rfl, rfl⟩, rfl⟩), num_res s p n k hp HN.out HD.out _ _ _ _ _ ?_, ((Below.refl _ _).alloc (Nat.le_refl _) _).alloc (by simp) _⟩
          exact .inl ⟨rfl, by assumption, by assumption⟩
        · refine post_res rfl ⟨_, by (simp [results, Try.results91, go_sem]; exact ⟨⟨rfl, rfl, rfl, rfl⟩, rfl⟩), num_res s p n k hp HN.out HD.out _ _ _ _ _ ?_, ((Below.refl _ _).alloc (Nat.le_refl _) _).alloc (by simp) _⟩
          exact .inr (.inr ⟨rfl, by omega, by omega, rfl, rfl, rfl, rfl⟩)
        · refine post_res rfl ⟨_, by (simp [results, Try.results91, go_sem]; exact ⟨⟨rfl, rfl, rfl, rfl⟩, rfl⟩), num_res s p n k hp HN.out HD.out _ _ _ _ _ ?_, ((Below.refl _ _).alloc (Nat.le_refl _) _).alloc (by simp) _⟩
          exact .inr (.inl ⟨rfl, by omega, by omega⟩)
        · refine post_res rfl ⟨_, by (simp [results, Try.results91, go_sem]; exact ⟨⟨rfl, rfl, rfl, rfl⟩, rfl⟩), num_res s p n k hp HN.out HD.out _ _ _ _ _ ?_, ((Below.refl _ _).alloc (Nat.le_refl _) _).alloc (by simp) _⟩
          exact .inr (.inr ⟨rfl, by omega, by omega, rfl, rfl, rfl, rfl⟩)
end Go.Proofs.Ytlnoadnejefmoaa
set_option linter.unusedVariables false
set_option linter.unusedSimpArgs false
namespace Go.Proofs.Ytlnoadnejefmoaa
open Go.RowKit Go.Proofs.YtlnoadnejefmoaaW.PrintWords

def byI (acc : List UInt8) : List Int := acc.map fun b => (b.toNat : Int)
theorem byI_len (acc : List UInt8) : (byI acc).length = acc.length := by simp [byI]
theorem byI_tx (acc : List UInt8) : strOfNums (byI acc) = tx acc := by
  apply ba_ext
  show (byI acc).map (fun n => UInt8.ofNat n.toNat) = acc
  unfold byI
  rw [List.map_map]
  conv => rhs; rw [← List.map_id acc]
  apply List.map_congr_left
  intro b _
  simp
theorem byI_snoc (acc : List UInt8) (c : UInt8) : byI (acc ++ [c]) = byI acc ++ [(c.toNat : Int)] := by simp [byI]

theorem ten_rng : 0 ≤ (10 : Int) ∧ (10 : Int) ≤ 255 := by omega
theorem ofI_rng (c : Int) (h : 0 ≤ c ∧ c ≤ 255) : ((ofI c).toNat : Int) = c := by
  unfold ofI
  rw [UInt8.toNat_ofNat_of_lt' (by show c.toNat < 256; omega)]
  omega
section
variable {ops : Array Oper} {rest : List Oper} {o : Oper} {a : Act} {Q : Exit → Act → World → Prop}
theorem app_byte {W : World} (base : Nat) (hgd : o.guard = none) (s x : Operand)
    (ho : o.op = .call { callee := .builtin .append, args := #[s, x], argTypes := #[63, 63] })
    (v : Value) (acc : List UInt8) (c : Int) (hs : a.eval s = v) (hx : a.eval x = .slice (some ⟨W.heap.size, 0, none⟩) 1 1)
    (HO : W.ownsRow base 5 1 v acc.length (nums .u8 (byI acc))) (hbase : base ≤ W.heap.size) (hl : acc.length ≤ 1000000000) (hc : 0 ≤ c ∧ c ≤ 255)
    (h : ∀ v1 w1, w1.ownsRow base 5 1 v1 (acc ++ [ofI c]).length (nums .u8 (byI (acc ++ [ofI c]))) → Below base W w1 → wpList Try.prog ops Q rest (a.put o.dst v1) w1) :
    wpList Try.prog ops Q (o :: rest) a (W.alloc (.cells #[.int .u8 c] 5)) := by
  refine print_append_num (w0 := W) base hgd s x 63 5 .u8 1 ho Try.underlying63 info_byte (by decide) v (byI acc) c hs hx (by rw [byI_len]; exact HO) (Below.refl _ _) hbase (by rw [byI_len]; omega) ?_
  intro v1 w1 h1 h2 _ _
  refine h v1 w1 ?_ h2
  rw [byI_snoc, ofI_rng c hc]
  rw [List.length_append, byI_len] at h1
  rw [List.length_append]
  exact h1
end
theorem RefTok_bad {r : RT} {p : Nat} (e : Int) (he : e ≠ 0) (hr : r = .bad e) (k : Int) (t : ByteArray) (a b : Int) : RefTok r p (.returned (.tuple #[.agg #[.int .i64 k, .string t, .int .i64 a, .int .i64 b], .int .i64 e])) := by
  subst hr
  exact ⟨_, _, _, _, rfl, fun h => absurd h he⟩

set_option maxHeartbeats 8000000 in
set_option maxRecDepth 100000 in
theorem ref_literal (s : ByteArray) (p : Nat) (w : World) (hs : s.size ≤ 1000000000) (hp : p < s.size) (r : RT) (hr : Hid (litR (s.data.toList.drop p) = r)) :
    Calls Try.prog 92 #[.string s, .int .i64 p] w fun e w' => RefTok r p e ∧ Below w.heap.size w w' := by
  go_enter Try.func92, Try.ntmps92
  go_wp2
  go_loopw [6, 7] (fun v i wr => ∃ (k : Nat) (acc : List UInt8), i = .int .i64 k ∧ p < k ∧ k ≤ s.size ∧ acc.length < k ∧ wr.ownsRow (w.heap.size + 1) 5 1 v acc.length (nums .u8 (byI acc)) ∧
      wr.heap[w.heap.size]? = some (.cells #[.int .i64 0, .string ⟨#[]⟩, .int .i64 0, .int .i64 0] 33 (0, 0)) ∧ Below w.heap.size w wr ∧ w.heap.size + 2 ≤ wr.heap.size ∧ Hid (litGo (s.data.toList.drop k) (k - p) acc = r)) (fun _ i _ => s.size - (intOf i).toNat)
  case atStart =>
    refine ⟨p + 1, [], by go_num, by omega, by omega, by simp, ?_, (two_blocks _ _ _).1, ((Below.refl _ _).alloc (Nat.le_refl _) _).alloc (by simp) _, by simp, show _ = _ by rw [← hr.out]; unfold litR; rw [List.drop_drop, Nat.add_sub_cancel_left]⟩
    refine ⟨rfl, .inr ⟨w.heap.size + 1, 0, #[], rfl, Nat.le_refl _, (two_blocks _ _ _).2, Nat.le_refl _, by unfold maxLen; omega, rfl, rfl⟩⟩
  case round =>
    obtain ⟨k, acc, rfl, hpk, hk, hal, hown, hc, hbl, hsz, hinv⟩ := hrel
    obtain ⟨A, c, rfl⟩ := own_slice hown
    obtain ⟨z0, z1, z2, z3, f0, f1, f2, f3⟩ := tok4 hc
    have hstr := own_string (dst := 9) Try.underlying63 Try.underlying5 Try.underlying9 hown
    rw [byI_tx] at hstr
    by_cases hlt : k < s.size
    · have hd : Hid (s.data.toList.drop k = s[k] :: s.data.toList.drop (k + 1)) := byte_at s k hlt
      by_cases hq : (s[k].toNat : Int) = 34
      · have hq1 : ((s[k].toNat : Int) != 34) = false := by rw [hq]; rfl
        have HQ := Hid.mk' hq
        clear hq
        go_wp2
        · refine post_res rfl ⟨_, by (simp [results, Try.results92, go_sem, z0, z1, z2, z3]; first | exact ⟨⟨rfl, rfl, rfl, rfl⟩, rfl⟩ | exact ⟨rfl, rfl, rfl, rfl⟩ | rfl), RefTok_bad 4 (by decide) (by rw [← hinv.out, hd.out, litGo_q (by have := HQ.out; omega), if_pos (by omega)]) _ _ _ _, (((hbl.setCell (Nat.le_refl _) _).setCell (Nat.le_refl _) _).setCell (Nat.le_refl _) _).setCell (Nat.le_refl _) _⟩
        · refine post_res rfl ⟨_, by (simp [results, Try.results92, go_sem, z0, z1, z2, z3]; rfl), ?_, (((hbl.setCell (Nat.le_refl _) _).setCell (Nat.le_refl _) _).setCell (Nat.le_refl _) _).setCell (Nat.le_refl _) _⟩
          have hrr : r = ⟨0, 4, acc, k - p + 1⟩ := by rw [← hinv.out, hd.out, litGo_q (by have := HQ.out; omega), if_neg (by omega)]
          subst hrr
          exact ⟨_, _, _, _, rfl, fun _ => ⟨rfl, rfl, rfl, by simp only; omega⟩⟩
      · have hq1 : ((s[k].toNat : Int) != 34) = true := by rw [bne_iff_ne]; exact hq
        have HQ := Hid.mk' hq
        clear hq
        have hB1 : w.heap.size + 1 ≤ wr.heap.size := by omega
        have hal2 : acc.length ≤ 1000000000 := by omega
        go_wp2_with (first
          | (at_builtin; refine app_byte (w.heap.size + 1) rfl _ _ rfl (.slice A acc.length c) acc _ rfl rfl hown hB1 hal2 ?_ ?_; (first | exact byte_rng _ | (constructor <;> omega)); intro v2 w2 hown2 hb2))
        all_goals (try simp only [beq_iff_eq, beq_eq_false_iff_ne, bne_iff_ne, bne_eq_false_iff_eq, ne_eq] at *)
        · refine post_res rfl ⟨_, by (simp [results, Try.results92, go_sem, z0, z1, z2, z3]; first | exact ⟨⟨rfl, rfl, rfl, rfl⟩, rfl⟩ | exact ⟨rfl, rfl, rfl, rfl⟩ | rfl), RefTok_bad 11 (by decide) (by rw [← hinv.out, hd.out, litGo_bad (by have := HQ.out; omega) (by omega)]) _ _ _ _, (((hbl.setCell (Nat.le_refl _) _).setCell (Nat.le_refl _) _).setCell (Nat.le_refl _) _).setCell (Nat.le_refl _) _⟩
        · have hd1 := byte_at s (k + 1) (by omega)
          have hs2 := hb2.size
          go_roundw
          case rel => exact ⟨k + 2, _, by go_num, by omega, by omega, by simp; omega, hown2, below_cells hb2 (Nat.lt_succ_self _) hc, hbl.trans (hb2.mono (Nat.le_succ _)), by omega, show _ = _ by rw [← hinv.out, hd.out, hd1, litGo_esc (by omega) (by omega), show k + 2 - p = k - p + 2 by omega]; rw [ofI_of s[k + 1] 34 (by omega)]⟩
          case measure => simp [intOf]; omega
        · have hd1 := byte_at s (k + 1) (by omega)
          have hs2 := hb2.size
          go_roundw
          case rel => exact ⟨k + 2, _, by go_num, by omega, by omega, by simp; omega, hown2, below_cells hb2 (Nat.lt_succ_self _) hc, hbl.trans (hb2.mono (Nat.le_succ _)), by omega, show _ = _ by rw [← hinv.out, hd.out, hd1, litGo_esc (by omega) (by omega), show k + 2 - p = k - p + 2 by omega]; rw [ofI_of s[k + 1] 92 (by omega)]⟩
          case measure => simp [intOf]; omega
        · refine post_res rfl ⟨_, by (simp [results, Try.results92, go_sem, z0, z1, z2, z3]; first | exact ⟨⟨rfl, rfl, rfl, rfl⟩, rfl⟩ | exact ⟨rfl, rfl, rfl, rfl⟩ | rfl), RefTok_bad 11 (by decide) (by rw [← hinv.out, hd.out, byte_at s (k + 1) (by omega), litGo_escx (by omega) (by omega) (by omega) (by omega)]) _ _ _ _, (((hbl.setCell (Nat.le_refl _) _).setCell (Nat.le_refl _) _).setCell (Nat.le_refl _) _).setCell (Nat.le_refl _) _⟩
        · have hd1 := byte_at s (k + 1) (by omega)
          have hs2 := hb2.size
          go_roundw
          case rel => exact ⟨k + 2, _, by go_num, by omega, by omega, by simp; omega, hown2, below_cells hb2 (Nat.lt_succ_self _) hc, hbl.trans (hb2.mono (Nat.le_succ _)), by omega, show _ = _ by rw [← hinv.out, hd.out, hd1, litGo_escn (by omega) (by omega), show k + 2 - p = k - p + 2 by omega]; rfl⟩
          case measure => simp [intOf]; omega
        · exfalso; omega
        · refine post_res rfl ⟨_, by (simp [results, Try.results92, go_sem, z0, z1, z2, z3]; first | exact ⟨⟨rfl, rfl, rfl, rfl⟩, rfl⟩ | exact ⟨rfl, rfl, rfl, rfl⟩ | rfl), RefTok_bad 11 (by decide) (by rw [← hinv.out, hd.out, List.drop_eq_nil_of_le (show s.data.toList.length ≤ k + 1 by rw [len_data]; omega), litGo_end (by omega)]) _ _ _ _, (((hbl.setCell (Nat.le_refl _) _).setCell (Nat.le_refl _) _).setCell (Nat.le_refl _) _).setCell (Nat.le_refl _) _⟩
        · skip
          have hs2 := hb2.size
          go_roundw
          case rel => exact ⟨k + 1, _, by go_num, by omega, by omega, by simp; omega, hown2, below_cells hb2 (Nat.lt_succ_self _) hc, hbl.trans (hb2.mono (Nat.le_succ _)), by omega, show _ = _ by rw [← hinv.out, hd.out, litGo_ch (by have := HQ.out; omega) (by omega) (by omega) (by omega), show k + 1 - p = k - p + 1 by omega]; rw [ofI_nat]⟩
          case measure => simp [intOf]; omega
        · refine post_res rfl ⟨_, by (simp [results, Try.results92, go_sem, z0, z1, z2, z3]; first | exact ⟨⟨rfl, rfl, rfl, rfl⟩, rfl⟩ | exact ⟨rfl, rfl, rfl, rfl⟩ | rfl), RefTok_bad 11 (by decide) (by rw [← hinv.out, hd.out, litGo_bad (by have := HQ.out; omega) (by omega)]) _ _ _ _, (((hbl.setCell (Nat.le_refl _) _).setCell (Nat.le_refl _) _).setCell (Nat.le_refl _) _).setCell (Nat.le_refl _) _⟩
    · have hd : Hid (s.data.toList.drop k = []) := List.drop_eq_nil_of_le (by rw [len_data]; omega)
      go_wp2
      · refine post_res rfl ⟨_, by (simp [results, Try.results92, go_sem, z0, z1, z2, z3]; first | exact ⟨⟨rfl, rfl, rfl, rfl⟩, rfl⟩ | exact ⟨rfl, rfl, rfl, rfl⟩ | rfl), RefTok_bad 11 (by decide) (by rw [← hinv.out, hd.out, show litGo [] (k - p) acc = .bad 11 from rfl]) _ _ _ _, (((hbl.setCell (Nat.le_refl _) _).setCell (Nat.le_refl _) _).setCell (Nat.le_refl _) _).setCell (Nat.le_refl _) _⟩
end Go.Proofs.Ytlnoadnejefmoaa
set_option linter.unusedVariables false
set_option linter.unusedSimpArgs false
namespace Go.Proofs.Ytlnoadnejefmoaa
open Go.RowKit Go.Proofs.YtlnoadnejefmoaaW.PrintWords

theorem takeWhile_take {α : Type} (p : α → Bool) : ∀ l : List α, (l.takeWhile p).takeWhile p = l.takeWhile p
  | [] => rfl
  | a :: l => by
    rw [List.takeWhile_cons]
    cases h : p a
    · rfl
    · rw [if_pos rfl, List.takeWhile_cons, h, if_pos rfl, takeWhile_take p l]
theorem wordT_eq (l : List UInt8) : wordT l = l.takeWhile isWordB := by
  unfold wordT wordLen
  induction l with
  | nil => rfl
  | cons a l ih =>
    rw [List.takeWhile_cons]
    cases h : isWordB a
    · rfl
    · simp only [if_pos]
      simp [ih]
theorem wordT_idem (l : List UInt8) : wordLen (wordT l) = (wordT l).length := by
  rw [wordT_eq]
  unfold wordLen
  rw [takeWhile_take]

/-- The reference's meta asks less: its text is a word. -/
theorem nameL_word (l : List UInt8) (c : UInt8) (t : List UInt8) (h : wordT l = c :: t) : nameL (wordT l) = (isLetterI c.toNat && !isKwL (wordT l)) := by
  have h1 := wordT_idem l
  unfold nameL
  rw [h1, h]
  simp
theorem nameL_empty : nameL [] = false := rfl
theorem metaT_word (l : List UInt8) : metaT l = wordT (l.drop (metaN l)) := rfl

/-- What meta's walk needs of the text that follows the dollars. -/
theorem meta_mid (s : ByteArray) (p n N : Nat) (hp : p < s.size) (hn : metaN (s.data.toList.drop p) = n) (hN : p + n + wordLen (s.data.toList.drop (p + n)) = N) :
    metaT (s.data.toList.drop p) = (s.extract (p + n) N).data.toList := by
  rw [metaT_word, hn, List.drop_drop]
  unfold wordT
  subst hN
  rw [ext_mid, tx_list]

theorem metaN_two (s : ByteArray) (p : Nat) (hp : p + 1 < s.size) (h : (s[p + 1].toNat : Int) = 36) : metaN (s.data.toList.drop p) = 2 := by
  unfold metaN
  rw [List.drop_drop, byte_at s (p + 1) hp, List.head?_cons, if_pos]
  rw [Option.some.injEq]
  exact UInt8.toNat_inj.1 (by show s[p + 1].toNat = 36; omega)
theorem metaN_one (s : ByteArray) (p : Nat) (h : ∀ hp : p + 1 < s.size, (s[p + 1].toNat : Int) ≠ 36) : metaN (s.data.toList.drop p) = 1 := by
  unfold metaN
  rw [List.drop_drop, if_neg]
  rcases Nat.lt_or_ge (p + 1) s.size with hp | hp
  · rw [byte_at s (p + 1) hp, List.head?_cons, Option.some.injEq]
    intro e
    exact h hp (by rw [e]; rfl)
  · rw [List.drop_eq_nil_of_le (by rw [len_data]; omega)]
    simp

theorem metaR_bad (l : List UInt8) (m : ByteArray) (hm : metaT l = m.data.toList) (h : m.size = 0 ∨ ∃ h : 0 < m.size, isLetterI (m[0]'h).toNat = false ∨ kwB m = true) : metaR l = .bad 11 := by
  unfold metaR
  rw [if_pos]
  have hw : nameL (metaT l) = false := by
    rcases h with h | ⟨h0, h⟩
    · rw [hm, List.eq_nil_of_length_eq_zero (show m.data.toList.length = 0 by rw [len_data]; exact h)]; rfl
    · have e := byte_at m 0 h0
      rw [List.drop_zero] at e
      rw [metaT_word, nameL_word _ m[0] (m.data.toList.drop 1) (by rw [← metaT_word, hm]; exact e), ← metaT_word, hm]
      rcases h with h | h
      · rw [h]; rfl
      · unfold kwB at h; rw [h]; simp
  rw [hw]; rfl
theorem metaR_long (l : List UInt8) (m : ByteArray) (hm : metaT l = m.data.toList) (h0 : 0 < m.size) (h1 : isLetterI (m[0]'h0).toNat = true) (h2 : kwB m = false) (h3 : 24 < m.size) : metaR l = .bad 4 := by
  unfold metaR
  have e := byte_at m 0 h0
  rw [List.drop_zero] at e
  have hw : nameL (metaT l) = true := by
    rw [metaT_word, nameL_word _ m[0] (m.data.toList.drop 1) (by rw [← metaT_word, hm]; exact e), ← metaT_word, hm, h1]
    unfold kwB at h2; rw [h2]; rfl
  rw [hw, hm, len_data, if_neg (by simp), if_pos h3]
theorem metaR_good (l : List UInt8) (m : ByteArray) (n : Nat) (hn : metaN l = n) (hm : metaT l = m.data.toList) (h0 : 0 < m.size) (h1 : isLetterI (m[0]'h0).toNat = true) (h2 : kwB m = false) (h3 : m.size ≤ 24) :
    metaR l = ⟨0, if n = 2 then 7 else 6, m.data.toList, n + m.size⟩ := by
  unfold metaR
  have e := byte_at m 0 h0
  rw [List.drop_zero] at e
  have hw : nameL (metaT l) = true := by
    rw [metaT_word, nameL_word _ m[0] (m.data.toList.drop 1) (by rw [← metaT_word, hm]; exact e), ← metaT_word, hm, h1]
    unfold kwB at h2; rw [h2]; rfl
  rw [hw, hm, len_data, if_neg (by simp), if_neg (by omega), hn]

theorem meta_res (s m : ByteArray) (p n N : Nat) (hp : p < s.size) (hn : metaN (s.data.toList.drop p) = n) (hN : p + n + wordLen (s.data.toList.drop (p + n)) = N) (hNs : N ≤ s.size) (hm : s.extract (p + n) N = m) (e k : Int) (t : ByteArray) (a b : Int)
    (h : (e = 11 ∧ (m.size = 0 ∨ ∃ h : 0 < m.size, isLetterI (m[0]'h).toNat = false ∨ kwB m = true)) ∨ (e = 4 ∧ ∃ h : 0 < m.size, isLetterI (m[0]'h).toNat = true ∧ kwB m = false ∧ 24 < m.size) ∨
      (e = 0 ∧ (∃ h : 0 < m.size, isLetterI (m[0]'h).toNat = true ∧ kwB m = false) ∧ m.size ≤ 24 ∧ k = (if n = 2 then 7 else 6) ∧ t = m ∧ a = p ∧ b = N)) :
    RefTok (metaR (s.data.toList.drop p)) p (.returned (.tuple #[.agg #[.int .i64 k, .string t, .int .i64 a, .int .i64 b], .int .i64 e])) := by
  have hT := meta_mid s p n N hp hn hN
  rw [hm] at hT
  rcases h with ⟨rfl, h⟩ | ⟨rfl, h0, h1, h2, h3⟩ | ⟨rfl, ⟨h0, h1, h2⟩, h3, rfl, rfl, rfl, rfl⟩
  · rw [metaR_bad _ m hT h]
    exact ⟨_, _, _, _, rfl, fun h => absurd h (by decide)⟩
  · rw [metaR_long _ m hT h0 h1 h2 h3]
    exact ⟨_, _, _, _, rfl, fun h => absurd h (by decide)⟩
  · rw [metaR_good _ t n hn hT h0 h1 h2 h3]
    refine ⟨_, _, _, _, rfl, fun _ => ⟨rfl, (tx_data t).symm, rfl, ?_⟩⟩
    have : t.size = N - (p + n) := by rw [← hm]; simp; omega
    simp only
    omega

set_option maxHeartbeats 8000000 in
set_option maxRecDepth 100000 in
theorem ref_meta (s : ByteArray) (p : Nat) (w : World) (hs : s.size ≤ 1000000000) (hp : p < s.size) :
    Calls Try.prog 93 #[.string s, .int .i64 p] w fun e w' => RefTok (metaR (s.data.toList.drop p)) p e ∧ Below w.heap.size w w' := by
  by_cases hd : ∃ h : p + 1 < s.size, (s[p + 1].toNat : Int) = 36
  · obtain ⟨hp1, hd⟩ := hd
    have HMN := metaN_two s p hp1 hd
    have hd1 : ((s[p + 1].toNat : Int) == 36) = true := by rw [hd]; rfl
    clear hd
    obtain ⟨N, hN⟩ : ∃ N, p + 2 + wordLen (s.data.toList.drop (p + 2)) = N := ⟨_, rfl⟩
    obtain ⟨m, hm⟩ : ∃ m, s.extract (p + 2) N = m := ⟨_, rfl⟩
    have hNs : N ≤ s.size := by have := wordLen_le (s.data.toList.drop (p + 2)); rw [List.length_drop, len_data] at this; omega
    have hN2 : p + 2 ≤ N := by omega
    have HR := Hid.mk' (meta_res s m p 2 N hp HMN hN hNs hm)
    have HN := Hid.mk' hN
    clear hN HMN
    have i1 : (0 : Int) ≤ (p : Int) + 1 + 1 := by omega
    have i2 : (p : Int) + 1 + 1 ≤ N := by omega
    have i3 : (N : Int) ≤ s.size := by omega
    have i4 : s.extract ((p : Int) + 1 + 1).toNat N = m := by rw [← hm]; congr 1
    have hms : m.size ≤ 1000000000 := by rw [← hm]; simp; omega
    clear hm
    rcases Nat.eq_zero_or_pos m.size with h0 | h0
    · have hn : m = ⟨#[]⟩ := ba_ext (by have := len_data m; exact List.eq_nil_of_length_eq_zero (by omega))
      have H0 := Hid.mk' h0
      clear h0
      go_enter Try.func93, Try.ntmps93
      go_wp2_with (first
          | (go_at_call 89; refine (ref_word_is s (p + 2) N _ hs (by omega) HN.out).mono ?_; rintro e w' ⟨rfl, rfl⟩))
      all_goals
        refine post_res rfl ⟨_, by (simp [results, Try.results93, go_sem]; exact ⟨⟨rfl, rfl, rfl, rfl⟩, rfl⟩), HR.out _ _ _ _ _ ?_, ((Below.refl _ _).alloc (Nat.le_refl _) _).alloc (by simp) _⟩
        exact .inl ⟨rfl, .inl H0.out⟩
    · have hn : ¬ m.toList = [] := toList_cons m h0
      have h01 : (0 : Int) < m.size := by omega
      go_enter Try.func93, Try.ntmps93
      go_wp2_with (first
          | (go_at_call 89; refine (ref_word_is s (p + 2) N _ hs (by omega) HN.out).mono ?_; rintro e w' ⟨rfl, rfl⟩)
          | (go_at_call 88; refine (ref_letter _ _).mono ?_; rintro e w' ⟨rfl, rfl⟩)
          | (go_at_call 26; refine (ref_keyword _ _).mono ?_; rintro e w1 ⟨rfl, hb⟩; obtain ⟨h1, h2, hb⟩ := keep2 hb; obtain ⟨y0, y1, y2, y3, g0, g1, g2, g3⟩ := tok4 h1; obtain ⟨x0, x1, x2, x3, _, _, _, _⟩ := tok4 h2; clear h1 h2))
      all_goals
        first
        | refine post_res rfl ⟨_, by (simp [results, Try.results93, go_sem]; exact ⟨⟨rfl, rfl, rfl, rfl⟩, rfl⟩), HR.out _ _ _ _ _ ?_, ((Below.refl _ _).alloc (Nat.le_refl _) _).alloc (by simp) _⟩
        | refine post_res rfl ⟨_, by (simp [results, Try.results93, go_sem, y0, y1, y2, y3]; exact ⟨⟨rfl, rfl, rfl, rfl⟩, rfl⟩), HR.out _ _ _ _ _ ?_, (((hb.setCell (Nat.le_refl _) _).setCell (Nat.le_refl _) _).setCell (Nat.le_refl _) _).setCell (Nat.le_refl _) _⟩
      all_goals
        first
        | (refine .inl ⟨rfl, .inr ⟨h0, ?_⟩⟩; simp_all; done)
        | (refine .inr (.inl ⟨rfl, h0, ?_⟩); simp_all; omega)
        | (refine .inr (.inr ⟨rfl, ⟨h0, ?_⟩, ?_, ?_, rfl, rfl, rfl⟩); simp_all; omega; simp_all)
  · have HMN := metaN_one s p (fun h1 h2 => hd ⟨h1, h2⟩)
    rcases Nat.lt_or_ge (p + 1) s.size with hp1 | hp1
    · have hd1 : ((s[p + 1].toNat : Int) == 36) = false := by rw [beq_eq_false_iff_ne]; exact fun h => hd ⟨hp1, h⟩
      clear hd
      obtain ⟨N, hN⟩ : ∃ N, p + 1 + wordLen (s.data.toList.drop (p + 1)) = N := ⟨_, rfl⟩
      obtain ⟨m, hm⟩ : ∃ m, s.extract (p + 1) N = m := ⟨_, rfl⟩
      have hNs : N ≤ s.size := by have := wordLen_le (s.data.toList.drop (p + 1)); rw [List.length_drop, len_data] at this; omega
      have hN2 : p + 1 ≤ N := by omega
      have HR := Hid.mk' (meta_res s m p 1 N hp HMN hN hNs hm)
      have HN := Hid.mk' hN
      clear hN HMN
      have i1 : (0 : Int) ≤ (p : Int) + 1 := by omega
      have i2 : (p : Int) + 1 ≤ N := by omega
      have i3 : (N : Int) ≤ s.size := by omega
      have i4 : s.extract (p + 1) N = m := hm
      have hms : m.size ≤ 1000000000 := by rw [← hm]; simp; omega
      clear hm
      rcases Nat.eq_zero_or_pos m.size with h0 | h0
      · have hn : m = ⟨#[]⟩ := ba_ext (by have := len_data m; exact List.eq_nil_of_length_eq_zero (by omega))
        have H0 := Hid.mk' h0
        clear h0
        go_enter Try.func93, Try.ntmps93
        go_wp2_with (first
            | (go_at_call 89; refine (ref_word_is s (p + 1) N _ hs (by omega) HN.out).mono ?_; rintro e w' ⟨rfl, rfl⟩))
        all_goals
          refine post_res rfl ⟨_, by (simp [results, Try.results93, go_sem]; exact ⟨⟨rfl, rfl, rfl, rfl⟩, rfl⟩), HR.out _ _ _ _ _ ?_, ((Below.refl _ _).alloc (Nat.le_refl _) _).alloc (by simp) _⟩
          exact .inl ⟨rfl, .inl H0.out⟩
      · have hn : ¬ m.toList = [] := toList_cons m h0
        have h01 : (0 : Int) < m.size := by omega
        go_enter Try.func93, Try.ntmps93
        go_wp2_with (first
            | (go_at_call 89; refine (ref_word_is s (p + 1) N _ hs (by omega) HN.out).mono ?_; rintro e w' ⟨rfl, rfl⟩)
            | (go_at_call 88; refine (ref_letter _ _).mono ?_; rintro e w' ⟨rfl, rfl⟩)
            | (go_at_call 26; refine (ref_keyword _ _).mono ?_; rintro e w1 ⟨rfl, hb⟩; obtain ⟨h1, h2, hb⟩ := keep2 hb; obtain ⟨y0, y1, y2, y3, g0, g1, g2, g3⟩ := tok4 h1; obtain ⟨x0, x1, x2, x3, _, _, _, _⟩ := tok4 h2; clear h1 h2))
        all_goals
          first
          | refine post_res rfl ⟨_, by (simp [results, Try.results93, go_sem]; exact ⟨⟨rfl, rfl, rfl, rfl⟩, rfl⟩), HR.out _ _ _ _ _ ?_, ((Below.refl _ _).alloc (Nat.le_refl _) _).alloc (by simp) _⟩
          | refine post_res rfl ⟨_, by (simp [results, Try.results93, go_sem, y0, y1, y2, y3]; exact ⟨⟨rfl, rfl, rfl, rfl⟩, rfl⟩), HR.out _ _ _ _ _ ?_, (((hb.setCell (Nat.le_refl _) _).setCell (Nat.le_refl _) _).setCell (Nat.le_refl _) _).setCell (Nat.le_refl _) _⟩
        all_goals
          first
          | (refine .inl ⟨rfl, .inr ⟨h0, ?_⟩⟩; simp_all; done)
          | (refine .inr (.inl ⟨rfl, h0, ?_⟩); simp_all; omega)
          | (refine .inr (.inr ⟨rfl, ⟨h0, ?_⟩, ?_, ?_, rfl, rfl, rfl⟩); simp_all; omega; simp_all)
    · clear hd
      obtain ⟨N, hN⟩ : ∃ N, p + 1 + wordLen (s.data.toList.drop (p + 1)) = N := ⟨_, rfl⟩
      obtain ⟨m, hm⟩ : ∃ m, s.extract (p + 1) N = m := ⟨_, rfl⟩
      have hNs : N ≤ s.size := by have := wordLen_le (s.data.toList.drop (p + 1)); rw [List.length_drop, len_data] at this; omega
      have hN2 : p + 1 ≤ N := by omega
      have HR := Hid.mk' (meta_res s m p 1 N hp HMN hN hNs hm)
      have HN := Hid.mk' hN
      clear hN HMN
      have i1 : (0 : Int) ≤ (p : Int) + 1 := by omega
      have i2 : (p : Int) + 1 ≤ N := by omega
      have i3 : (N : Int) ≤ s.size := by omega
      have i4 : s.extract (p + 1) N = m := hm
      have hms : m.size ≤ 1000000000 := by rw [← hm]; simp; omega
      clear hm
      rcases Nat.eq_zero_or_pos m.size with h0 | h0
      · have hn : m = ⟨#[]⟩ := ba_ext (by have := len_data m; exact List.eq_nil_of_length_eq_zero (by omega))
        have H0 := Hid.mk' h0
        clear h0
        go_enter Try.func93, Try.ntmps93
        go_wp2_with (first
            | (go_at_call 89; refine (ref_word_is s (p + 1) N _ hs (by omega) HN.out).mono ?_; rintro e w' ⟨rfl, rfl⟩))
        all_goals
          refine post_res rfl ⟨_, by (simp [results, Try.results93, go_sem]; exact ⟨⟨rfl, rfl, rfl, rfl⟩, rfl⟩), HR.out _ _ _ _ _ ?_, ((Below.refl _ _).alloc (Nat.le_refl _) _).alloc (by simp) _⟩
          exact .inl ⟨rfl, .inl H0.out⟩
      · have hn : ¬ m.toList = [] := toList_cons m h0
        have h01 : (0 : Int) < m.size := by omega
        go_enter Try.func93, Try.ntmps93
        go_wp2_with (first
            | (go_at_call 89; refine (ref_word_is s (p + 1) N _ hs (by omega) HN.out).mono ?_; rintro e w' ⟨rfl, rfl⟩)
            | (go_at_call 88; refine (ref_letter _ _).mono ?_; rintro e w' ⟨rfl, rfl⟩)
            | (go_at_call 26; refine (ref_keyword _ _).mono ?_; rintro e w1 ⟨rfl, hb⟩; obtain ⟨h1, h2, hb⟩ := keep2 hb; obtain ⟨y0, y1, y2, y3, g0, g1, g2, g3⟩ := tok4 h1; obtain ⟨x0, x1, x2, x3, _, _, _, _⟩ := tok4 h2; clear h1 h2))
        all_goals
          first
          | refine post_res rfl ⟨_, by (simp [results, Try.results93, go_sem]; exact ⟨⟨rfl, rfl, rfl, rfl⟩, rfl⟩), HR.out _ _ _ _ _ ?_, ((Below.refl _ _).alloc (Nat.le_refl _) _).alloc (by simp) _⟩
          | refine post_res rfl ⟨_, by (simp [results, Try.results93, go_sem, y0, y1, y2, y3]; exact ⟨⟨rfl, rfl, rfl, rfl⟩, rfl⟩), HR.out _ _ _ _ _ ?_, (((hb.setCell (Nat.le_refl _) _).setCell (Nat.le_refl _) _).setCell (Nat.le_refl _) _).setCell (Nat.le_refl _) _⟩
        all_goals
          first
          | (refine .inl ⟨rfl, .inr ⟨h0, ?_⟩⟩; simp_all; done)
          | (refine .inr (.inl ⟨rfl, h0, ?_⟩); simp_all; omega)
          | (refine .inr (.inr ⟨rfl, ⟨h0, ?_⟩, ?_, ?_, rfl, rfl, rfl⟩); simp_all; omega; simp_all)
end Go.Proofs.Ytlnoadnejefmoaa
set_option linter.unusedVariables false
set_option linter.unusedSimpArgs false
namespace Go.Proofs.Ytlnoadnejefmoaa
open Go.RowKit Go.Proofs.YtlnoadnejefmoaaW.PrintWords

theorem rd_cons (pat : Bool) (s : ByteArray) (p : Nat) (hp : p < s.size) : rdTok pat (s.data.toList.drop p) =
    if isLetterI s[p].toNat then wordR (s.data.toList.drop p) else if isDigitI s[p].toNat then intR (s.data.toList.drop p) else if s[p].toNat = 34 then litR (s.data.toList.drop p) else if s[p].toNat = 36 ∧ pat = true then metaR (s.data.toList.drop p) else markR (s.data.toList.drop p) := by
  have e := byte_at s p hp
  unfold rdTok
  rw [e]

theorem word_res (s m : ByteArray) (p N : Nat) (hN : p + wordLen (s.data.toList.drop p) = N) (hNs : N ≤ s.size) (hm : s.extract p N = m) (e k : Int) (t : ByteArray) (a b : Int)
    (h : (e = 4 ∧ kwB m = false ∧ 24 < m.size) ∨ (e = 0 ∧ ((kwB m = true ∧ k = 2) ∨ (kwB m = false ∧ m.size ≤ 24 ∧ k = 1)) ∧ t = m ∧ a = p ∧ b = N)) (hkw : kwB m = true → m.size ≤ 24) :
    RefTok (wordR (s.data.toList.drop p)) p (.returned (.tuple #[.agg #[.int .i64 k, .string t, .int .i64 a, .int .i64 b], .int .i64 e])) := by
  have hT : wordT (s.data.toList.drop p) = m.data.toList := by
    subst hN; subst hm
    unfold wordT
    rw [ext_mid, tx_list]
  have hsz : m.size = N - p := by rw [← hm]; simp; omega
  unfold wordR
  rw [hT, len_data]
  unfold kwB at h hkw
  rcases h with ⟨rfl, h1, h2⟩ | ⟨rfl, ⟨h1, rfl⟩ | ⟨h1, h2, rfl⟩, rfl, rfl, rfl⟩
  · rw [h1, if_neg (by simp), if_pos h2]
    exact ⟨_, _, _, _, rfl, fun h => absurd h (by decide)⟩
  · rw [if_pos h1]
    exact ⟨_, _, _, _, rfl, fun _ => ⟨rfl, (tx_data t).symm, rfl, by simp only; omega⟩⟩
  · rw [h1, if_neg (by simp), if_neg (by omega)]
    exact ⟨_, _, _, _, rfl, fun _ => ⟨rfl, (tx_data t).symm, rfl, by simp only; omega⟩⟩
theorem keep2d {w w1 : World} {A B : Obj} (hb : Below ((w.alloc A).alloc B).drew.heap.size ((w.alloc A).alloc B).drew w1) : w1.heap[w.heap.size]? = some A ∧ w1.heap[w.heap.size + 1]? = some B ∧ Below w.heap.size w w1 :=
  ⟨below_cells hb (by simp; omega) (two_blocks _ _ _).1, below_cells hb (by simp) (two_blocks _ _ _).2, (((Below.refl _ _).alloc (Nat.le_refl _) _).alloc (by simp) _).drew.trans (hb.mono (by simp; omega))⟩
theorem gt24 {n : Nat} (h : (24 : Int) < n) : 24 < n := by omega
theorem le24 {n : Nat} (h : (n : Int) ≤ 24) : n ≤ 24 := by omega
theorem kw_short (m : ByteArray) (h : kwB m = true) : m.size ≤ 24 := by
  unfold kwB isKwL at h
  rw [List.any_eq_true] at h
  obtain ⟨x, hx, he⟩ := h
  have he := beq_iff_eq.1 he
  have hl : m.data.toList.length = x.length := by rw [he]
  rw [len_data] at hl
  have : ∀ y ∈ kwL, y.length ≤ 24 := by decide
  have := this x hx
  omega

set_option maxHeartbeats 8000000 in
set_option maxRecDepth 100000 in
theorem ref_token_w (s : ByteArray) (p : Nat) (pat : Bool) (w : World) (hs : s.size ≤ 1000000000) (hp : p < s.size) (hl : isLetterI s[p].toNat = true) :
    Calls Try.prog 62 #[.string s, .int .i64 p, .bool pat] w fun e w' => RefTok (wordR (s.data.toList.drop p)) p e ∧ Below w.heap.size w w' := by
  obtain ⟨N, hN⟩ : ∃ N, p + wordLen (s.data.toList.drop p) = N := ⟨_, rfl⟩
  obtain ⟨m, hm⟩ : ∃ m, s.extract p N = m := ⟨_, rfl⟩
  have hNs : N ≤ s.size := by have := wordLen_le (s.data.toList.drop p); rw [List.length_drop, len_data] at this; omega
  have hN2 : p ≤ N := by omega
  have HR := Hid.mk' (word_res s m p N hN hNs hm)
  have HN := Hid.mk' hN
  clear hN
  have i2 : (p : Int) ≤ N := by omega
  have i3 : (N : Int) ≤ s.size := by omega
  have hms : m.size ≤ 1000000000 := by rw [← hm]; simp; omega
  go_enter Try.func62, Try.ntmps62
  go_wp2_with (first
    | (go_at_call 89; refine (ref_word_is s p N _ hs (by omega) HN.out).mono ?_; rintro e w' ⟨rfl, rfl⟩)
    | (go_at_call 88; refine (ref_letter _ _).mono ?_; rintro e w' ⟨rfl, rfl⟩)
    | (go_at_call 26; refine (ref_keyword _ _).mono ?_; rintro e w1 ⟨rfl, hb⟩))
  go_region_with (go_at_call 89; refine (ref_word_is s p N _ hs (by omega) HN.out).mono ?_; rintro e w' ⟨rfl, rfl⟩)
  all_goals
    go_wp2_with (first
      | (go_at_call 26; refine (ref_keyword _ _).mono ?_; rintro e w1 ⟨rfl, hb⟩; obtain ⟨h1, h2, hb⟩ := keep2d hb; obtain ⟨y0, y1, y2, y3, g0, g1, g2, g3⟩ := tok4 h1; obtain ⟨x0, x1, x2, x3, f0, f1, f2, f3⟩ := tok4 h2; clear h1 h2))
  all_goals
    first
    | (have hkt : kwB m = true := by assumption
       have hle := kw_short m hkt
       first
       | (exfalso; have hgt : (24 : Int) < m.size := by assumption
          exact absurd (gt24 hgt) (Nat.not_lt.2 hle))
       | (refine post_res rfl ⟨_, by (simp [results, Try.results62, go_sem, y0, y1, y2, y3]; exact ⟨⟨rfl, rfl, rfl, rfl⟩, rfl⟩), HR.out _ _ _ _ _ ?_ (kw_short m), ((((hb.setCell (Nat.le_succ _) _).setCell (Nat.le_refl _) _).setCell (Nat.le_refl _) _).setCell (Nat.le_refl _) _).setCell (Nat.le_refl _) _⟩
          exact .inr ⟨rfl, .inl ⟨hkt, rfl⟩, rfl, rfl, rfl⟩))
    | (have hkf : kwB m = false := by assumption
       refine post_res rfl ⟨_, by (simp [results, Try.results62, go_sem, y0, y1, y2, y3]; exact ⟨⟨rfl, rfl, rfl, rfl⟩, rfl⟩), HR.out _ _ _ _ _ ?_ (kw_short m), (((hb.setCell (Nat.le_refl _) _).setCell (Nat.le_refl _) _).setCell (Nat.le_refl _) _).setCell (Nat.le_refl _) _⟩
       first
       | (have hgt : (24 : Int) < m.size := by assumption
          exact .inl ⟨rfl, hkf, gt24 hgt⟩)
       | (have hgt : (m.size : Int) ≤ 24 := by assumption
          exact .inr ⟨rfl, .inr ⟨hkf, le24 hgt, rfl⟩, rfl, rfl, rfl⟩))
end Go.Proofs.Ytlnoadnejefmoaa
set_option linter.unusedVariables false
set_option linter.unusedSimpArgs false
namespace Go.Proofs.Ytlnoadnejefmoaa
open Go.RowKit Go.Proofs.YtlnoadnejefmoaaW.PrintWords

set_option maxHeartbeats 2000000 in
set_option maxRecDepth 100000 in
theorem ref_token_d (s : ByteArray) (p : Nat) (pat : Bool) (w : World) (hs : s.size ≤ 1000000000) (hp : p < s.size) (hl : isLetterI s[p].toNat = false) (hd : isDigitI s[p].toNat = true) :
    Calls Try.prog 62 #[.string s, .int .i64 p, .bool pat] w fun e w' => RefTok (intR (s.data.toList.drop p)) p e ∧ Below w.heap.size w w' := by
  go_enter Try.func62, Try.ntmps62
  go_wp2_with (first
    | (go_at_call 88; refine (ref_letter _ _).mono ?_; rintro e w' ⟨rfl, rfl⟩)
    | (go_at_call 90; refine (ref_digit _ _).mono ?_; rintro e w' ⟨rfl, rfl⟩)
    | (go_at_call 91; refine (ref_number s p _ hs hp).mono ?_; rintro e w1 ⟨⟨k, t, a, b, rfl, hR⟩, hb⟩; obtain ⟨h1, hb⟩ := keep1 hb; obtain ⟨y0, y1, y2, y3, g0, g1, g2, g3⟩ := tok4 h1; clear h1))
  refine post_res rfl ⟨_, by (simp [results, Try.results62, go_sem, y0, y1, y2, y3]), ⟨_, _, _, _, rfl, hR⟩, (((hb.setCell (Nat.le_refl _) _).setCell (Nat.le_refl _) _).setCell (Nat.le_refl _) _).setCell (Nat.le_refl _) _⟩

set_option maxHeartbeats 2000000 in
set_option maxRecDepth 100000 in
theorem ref_token_q (s : ByteArray) (p : Nat) (pat : Bool) (w : World) (hs : s.size ≤ 1000000000) (hp : p < s.size) (hl : isLetterI s[p].toNat = false) (hd : isDigitI s[p].toNat = false) (hq : ((s[p].toNat : Int) == 34) = true) (r : RT) (hr : Hid (litR (s.data.toList.drop p) = r)) :
    Calls Try.prog 62 #[.string s, .int .i64 p, .bool pat] w fun e w' => RefTok r p e ∧ Below w.heap.size w w' := by
  go_enter Try.func62, Try.ntmps62
  go_wp2_with (first
    | (go_at_call 88; refine (ref_letter _ _).mono ?_; rintro e w' ⟨rfl, rfl⟩)
    | (go_at_call 90; refine (ref_digit _ _).mono ?_; rintro e w' ⟨rfl, rfl⟩)
    | (go_at_call 92; refine (ref_literal s p _ hs hp r hr).mono ?_; rintro e w1 ⟨⟨k, t, a, b, rfl, hR⟩, hb⟩; obtain ⟨h1, hb⟩ := keep1 hb; obtain ⟨y0, y1, y2, y3, g0, g1, g2, g3⟩ := tok4 h1; clear h1))
  refine post_res rfl ⟨_, by (simp [results, Try.results62, go_sem, y0, y1, y2, y3]), ⟨_, _, _, _, rfl, hR⟩, (((hb.setCell (Nat.le_refl _) _).setCell (Nat.le_refl _) _).setCell (Nat.le_refl _) _).setCell (Nat.le_refl _) _⟩

set_option maxHeartbeats 2000000 in
set_option maxRecDepth 100000 in
theorem ref_token_m (s : ByteArray) (p : Nat) (w : World) (hs : s.size ≤ 1000000000) (hp : p < s.size) (hl : isLetterI s[p].toNat = false) (hd : isDigitI s[p].toNat = false) (hq : ((s[p].toNat : Int) == 34) = false) (h36 : ((s[p].toNat : Int) == 36) = true) :
    Calls Try.prog 62 #[.string s, .int .i64 p, .bool true] w fun e w' => RefTok (metaR (s.data.toList.drop p)) p e ∧ Below w.heap.size w w' := by
  go_enter Try.func62, Try.ntmps62
  go_wp2_with (first
    | (go_at_call 88; refine (ref_letter _ _).mono ?_; rintro e w' ⟨rfl, rfl⟩)
    | (go_at_call 90; refine (ref_digit _ _).mono ?_; rintro e w' ⟨rfl, rfl⟩)
    | (go_at_call 93; refine (ref_meta s p _ hs hp).mono ?_; rintro e w1 ⟨⟨k, t, a, b, rfl, hR⟩, hb⟩; obtain ⟨h1, hb⟩ := keep1 hb; obtain ⟨y0, y1, y2, y3, g0, g1, g2, g3⟩ := tok4 h1; clear h1))
  refine post_res rfl ⟨_, by (simp [results, Try.results62, go_sem, y0, y1, y2, y3]), ⟨_, _, _, _, rfl, hR⟩, (((hb.setCell (Nat.le_refl _) _).setCell (Nat.le_refl _) _).setCell (Nat.le_refl _) _).setCell (Nat.le_refl _) _⟩

theorem heap_lt {w : World} {b : Nat} {o : Obj} (h : w.heap[b]? = some o) : b < w.heap.size := (Array.getElem?_eq_some_iff.1 h).1
theorem mark_res (s m1 : ByteArray) (p : Nat) (hp : p < s.size) (h1 : s.extract p (p + 1) = m1) (e k : Int) (t : ByteArray) (a b : Int)
    (h : (e = 0 ∧ k = 5 ∧ p + 2 ≤ s.size ∧ markB t = true ∧ t = s.extract p (p + 2) ∧ a = p ∧ b = p + 2) ∨ (e = 0 ∧ k = 5 ∧ (p + 2 ≤ s.size → markB (s.extract p (p + 2)) = false) ∧ markB m1 = true ∧ t = m1 ∧ a = p ∧ b = p + 1) ∨
      (e = 11 ∧ (p + 2 ≤ s.size → markB (s.extract p (p + 2)) = false) ∧ markB m1 = false)) :
    RefTok (markR (s.data.toList.drop p)) p (.returned (.tuple #[.agg #[.int .i64 k, .string t, .int .i64 a, .int .i64 b], .int .i64 e])) := by
  obtain ⟨l, hl⟩ : ∃ l, s.data.toList.drop p = l := ⟨_, rfl⟩
  have hll : l.length = s.size - p := by rw [← hl, List.length_drop, len_data]
  have e1 : m1.data.toList = l.take 1 := by rw [← h1, ext_mid, tx_list, hl]
  have e2 : s.extract p (p + 2) = tx (l.take 2) := by rw [ext_mid, hl]
  have hshort : ¬ p + 2 ≤ s.size → l.take 2 = l.take 1 := fun h => by rw [List.take_of_length_le (by omega), List.take_of_length_le (by omega)]
  have hl1 : (l.take 1).length = 1 := by rw [List.length_take]; omega
  rw [hl]
  unfold markR
  unfold markB at h
  rw [e2, e1, tx_list] at h
  rcases h with ⟨rfl, rfl, h2, hm, rfl, rfl, rfl⟩ | ⟨rfl, rfl, h2, hm, rfl, rfl, rfl⟩ | ⟨rfl, h2, hm⟩
  · rw [tx_list] at hm
    rw [if_pos hm]
    exact ⟨_, _, _, _, rfl, fun _ => ⟨rfl, rfl, rfl, by simp only [List.length_take]; omega⟩⟩
  · by_cases h3 : p + 2 ≤ s.size
    · rw [h2 h3, if_neg (by simp), if_pos hm]
      exact ⟨_, _, _, _, rfl, fun _ => ⟨rfl, by rw [← tx_data t, e1], rfl, rfl⟩⟩
    · rw [hshort h3, if_pos hm]
      exact ⟨_, _, _, _, rfl, fun _ => ⟨rfl, by rw [← tx_data t, e1], rfl, by rw [hl1]; rfl⟩⟩
  · by_cases h3 : p + 2 ≤ s.size
    · rw [h2 h3, if_neg (by simp), hm, if_neg (by simp)]
      exact ⟨_, _, _, _, rfl, fun h => absurd h (by decide)⟩
    · rw [hshort h3, hm, if_neg (by simp), if_neg (by simp)]
      exact ⟨_, _, _, _, rfl, fun h => absurd h (by decide)⟩

set_option maxHeartbeats 2000000 in
set_option maxRecDepth 100000 in
theorem ref_token_k (s : ByteArray) (p : Nat) (pat : Bool) (w : World) (hs : s.size ≤ 1000000000) (hp : p < s.size) (hl : isLetterI s[p].toNat = false) (hd : isDigitI s[p].toNat = false) (hq : ((s[p].toNat : Int) == 34) = false) (h36 : pat = true → ((s[p].toNat : Int) == 36) = false) :
    Calls Try.prog 62 #[.string s, .int .i64 p, .bool pat] w fun e w' => RefTok (markR (s.data.toList.drop p)) p e ∧ Below w.heap.size w w' := by
  obtain ⟨m1, hm1⟩ : ∃ m, s.extract p (p + 1) = m := ⟨_, rfl⟩
  have HR := Hid.mk' (mark_res s m1 p hp hm1)
  have j1 : (0 : Int) ≤ (p : Int) + 1 := by omega
  have j2 : (p : Int) ≤ (p : Int) + 1 := by omega
  have j3 : (p : Int) + 1 ≤ s.size := by omega
  rcases Bool.eq_false_or_eq_true ((s[p].toNat : Int) == 36) with hdol | hdol
  · have hpf : pat = false := by cases pat; rfl; exact absurd hdol (by rw [h36 rfl]; simp)
    subst hpf
    clear h36
    rcases Nat.lt_or_ge s.size (p + 2) with h2 | h2
    · have k3 : ¬ ((p : Int) + 2 ≤ s.size) := by omega
      have k4 : ¬ (p + 2 ≤ s.size) := by omega
      go_enter Try.func62, Try.ntmps62
      go_wp2_with (first
        | (go_at_call 88; refine (ref_letter _ _).mono ?_; rintro e w' ⟨rfl, rfl⟩)
        | (go_at_call 90; refine (ref_digit _ _).mono ?_; rintro e w' ⟨rfl, rfl⟩)
        | (go_at_call 74; refine (ref_mark m1 _).mono ?_; rintro e w1 ⟨rfl, hb⟩; obtain ⟨h1, hb⟩ := keep1 hb; obtain ⟨y0, y1, y2, y3, g0, g1, g2, g3⟩ := tok4 h1; clear h1))
      all_goals
        refine post_res rfl ⟨_, by (simp [results, Try.results62, go_sem, y0, y1, y2, y3]; exact ⟨⟨rfl, rfl, rfl, rfl⟩, rfl⟩), HR.out _ _ _ _ _ ?_, (((hb.setCell (Nat.le_refl _) _).setCell (Nat.le_refl _) _).setCell (Nat.le_refl _) _).setCell (Nat.le_refl _) _⟩
        first
        | (have hm : markB m1 = true := by assumption
           exact .inr (.inl ⟨rfl, rfl, fun h => absurd h k4, hm, rfl, rfl, rfl⟩))
        | (have hm : markB m1 = false := by assumption
           exact .inr (.inr ⟨rfl, fun h => absurd h k4, hm⟩))
    · obtain ⟨m2, hm2⟩ : ∃ m, s.extract p (p + 2) = m := ⟨_, rfl⟩
      have k4 : s.extract p ((p : Int) + 2).toNat = m2 := hm2
      have k1 : (0 : Int) ≤ (p : Int) + 2 := by omega
      have k2 : (p : Int) ≤ (p : Int) + 2 := by omega
      have k3 : (p : Int) + 2 ≤ s.size := by omega
      rw [hm2] at HR
      go_enter Try.func62, Try.ntmps62
      go_wp2_with (first
        | (go_at_call 88; refine (ref_letter _ _).mono ?_; rintro e w' ⟨rfl, rfl⟩)
        | (go_at_call 90; refine (ref_digit _ _).mono ?_; rintro e w' ⟨rfl, rfl⟩)
        | (go_at_call 74; (with_reducible refine (ref_mark m2 _).mono ?_); rintro e w1 ⟨rfl, hb⟩; obtain ⟨h1, hb⟩ := keep1 hb; obtain ⟨y0, y1, y2, y3, g0, g1, g2, g3⟩ := tok4 h1)
        | (go_at_call 74; (with_reducible refine (ref_mark m1 _).mono ?_); rintro e w2 ⟨rfl, hb2⟩; replace h1 := below_cells hb2 (heap_lt h1) h1; replace hb := hb.trans (hb2.mono hb.size); obtain ⟨y0, y1, y2, y3, g0, g1, g2, g3⟩ := tok4 h1))
      all_goals
        refine post_res rfl ⟨_, by (simp [results, Try.results62, go_sem, y0, y1, y2, y3]; exact ⟨⟨rfl, rfl, rfl, rfl⟩, rfl⟩), HR.out _ _ _ _ _ ?_, (((hb.setCell (Nat.le_refl _) _).setCell (Nat.le_refl _) _).setCell (Nat.le_refl _) _).setCell (Nat.le_refl _) _⟩
        first
        | (have hm : markB m2 = true := by assumption
           exact .inl ⟨rfl, rfl, h2, hm, rfl, rfl, rfl⟩)
        | (have hn : markB m2 = false := by assumption
           have hm : markB m1 = true := by assumption
           exact .inr (.inl ⟨rfl, rfl, fun _ => hn, hm, rfl, rfl, rfl⟩))
        | (have hn : markB m2 = false := by assumption
           have hm : markB m1 = false := by assumption
           exact .inr (.inr ⟨rfl, fun _ => hn, hm⟩))
  · clear h36
    rcases Nat.lt_or_ge s.size (p + 2) with h2 | h2
    · have k3 : ¬ ((p : Int) + 2 ≤ s.size) := by omega
      have k4 : ¬ (p + 2 ≤ s.size) := by omega
      go_enter Try.func62, Try.ntmps62
      go_wp2_with (first
        | (go_at_call 88; refine (ref_letter _ _).mono ?_; rintro e w' ⟨rfl, rfl⟩)
        | (go_at_call 90; refine (ref_digit _ _).mono ?_; rintro e w' ⟨rfl, rfl⟩)
        | (go_at_call 74; refine (ref_mark m1 _).mono ?_; rintro e w1 ⟨rfl, hb⟩; obtain ⟨h1, hb⟩ := keep1 hb; obtain ⟨y0, y1, y2, y3, g0, g1, g2, g3⟩ := tok4 h1; clear h1))
      all_goals
        refine post_res rfl ⟨_, by (simp [results, Try.results62, go_sem, y0, y1, y2, y3]; exact ⟨⟨rfl, rfl, rfl, rfl⟩, rfl⟩), HR.out _ _ _ _ _ ?_, (((hb.setCell (Nat.le_refl _) _).setCell (Nat.le_refl _) _).setCell (Nat.le_refl _) _).setCell (Nat.le_refl _) _⟩
        first
        | (have hm : markB m1 = true := by assumption
           exact .inr (.inl ⟨rfl, rfl, fun h => absurd h k4, hm, rfl, rfl, rfl⟩))
        | (have hm : markB m1 = false := by assumption
           exact .inr (.inr ⟨rfl, fun h => absurd h k4, hm⟩))
    · obtain ⟨m2, hm2⟩ : ∃ m, s.extract p (p + 2) = m := ⟨_, rfl⟩
      have k4 : s.extract p ((p : Int) + 2).toNat = m2 := hm2
      have k1 : (0 : Int) ≤ (p : Int) + 2 := by omega
      have k2 : (p : Int) ≤ (p : Int) + 2 := by omega
      have k3 : (p : Int) + 2 ≤ s.size := by omega
      rw [hm2] at HR
      go_enter Try.func62, Try.ntmps62
      go_wp2_with (first
        | (go_at_call 88; refine (ref_letter _ _).mono ?_; rintro e w' ⟨rfl, rfl⟩)
        | (go_at_call 90; refine (ref_digit _ _).mono ?_; rintro e w' ⟨rfl, rfl⟩)
        | (go_at_call 74; (with_reducible refine (ref_mark m2 _).mono ?_); rintro e w1 ⟨rfl, hb⟩; obtain ⟨h1, hb⟩ := keep1 hb; obtain ⟨y0, y1, y2, y3, g0, g1, g2, g3⟩ := tok4 h1)
        | (go_at_call 74; (with_reducible refine (ref_mark m1 _).mono ?_); rintro e w2 ⟨rfl, hb2⟩; replace h1 := below_cells hb2 (heap_lt h1) h1; replace hb := hb.trans (hb2.mono hb.size); obtain ⟨y0, y1, y2, y3, g0, g1, g2, g3⟩ := tok4 h1))
      all_goals
        refine post_res rfl ⟨_, by (simp [results, Try.results62, go_sem, y0, y1, y2, y3]; exact ⟨⟨rfl, rfl, rfl, rfl⟩, rfl⟩), HR.out _ _ _ _ _ ?_, (((hb.setCell (Nat.le_refl _) _).setCell (Nat.le_refl _) _).setCell (Nat.le_refl _) _).setCell (Nat.le_refl _) _⟩
        first
        | (have hm : markB m2 = true := by assumption
           exact .inl ⟨rfl, rfl, h2, hm, rfl, rfl, rfl⟩)
        | (have hn : markB m2 = false := by assumption
           have hm : markB m1 = true := by assumption
           exact .inr (.inl ⟨rfl, rfl, fun _ => hn, hm, rfl, rfl, rfl⟩))
        | (have hn : markB m2 = false := by assumption
           have hm : markB m1 = false := by assumption
           exact .inr (.inr ⟨rfl, fun _ => hn, hm⟩))

theorem ref_token (s : ByteArray) (p : Nat) (pat : Bool) (w : World) (hs : s.size ≤ 1000000000) (hp : p < s.size) (r : RT) (hr : rdTok pat (s.data.toList.drop p) = r) :
    Calls Try.prog 62 #[.string s, .int .i64 p, .bool pat] w fun e w' => RefTok r p e ∧ Below w.heap.size w w' := by
  rw [rd_cons pat s p hp] at hr
  subst hr
  cases hl : isLetterI s[p].toNat
  · cases hd : isDigitI s[p].toNat
    · rw [if_neg (by simp), if_neg (by simp)]
      by_cases hq : s[p].toNat = 34
      · rw [if_pos hq]
        exact ref_token_q s p pat w hs hp hl hd (by rw [hq]; rfl) _ rfl
      · rw [if_neg hq]
        have hq1 : ((s[p].toNat : Int) == 34) = false := by rw [beq_eq_false_iff_ne]; omega
        by_cases hm : s[p].toNat = 36 ∧ pat = true
        · rw [if_pos hm]
          obtain ⟨hm, rfl⟩ := hm
          exact ref_token_m s p w hs hp hl hd hq1 (by rw [hm]; rfl)
        · rw [if_neg hm]
          exact ref_token_k s p pat w hs hp hl hd hq1 (fun h => by rw [beq_eq_false_iff_ne]; intro h2; exact hm ⟨by omega, h⟩)
    · rw [if_neg (by simp), if_pos rfl]
      exact ref_token_d s p pat w hs hp hl hd
  · rw [if_pos rfl]
    exact ref_token_w s p pat w hs hp hl
end Go.Proofs.Ytlnoadnejefmoaa
set_option linter.unusedVariables false
set_option linter.unusedSimpArgs false
namespace Go.Proofs.Ytlnoadnejefmoaa
open Go.RowKit Go.Proofs.YtlnoadnejefmoaaW.PrintWords

theorem R_empty {α : Type} (d : Kd α) (e : Nat) (W : World) (b : Nat) (hb : b ≤ W.heap.size) : d.R e (W.alloc (.cells #[] e)) b (fun _ => True) (.slice (some ⟨W.heap.size, 0, none⟩) 0 0) [] :=
  ⟨fun _ _ => trivial, [], ⟨by simp, .inr ⟨W.heap.size, 0, #[], rfl, hb, Go.heap_alloc_new _ _, Nat.le_refl _, by unfold maxLen; omega, by simp, by simp⟩⟩, Reps.none _ _⟩

set_option maxHeartbeats 4000000 in
set_option maxRecDepth 100000 in
theorem ref_scan (s : ByteArray) (pat : Bool) (w : World) (hs : s.size ≤ 1000000000) (r : SR) (hr : Hid (scanR pat s.data.toList = r)) :
    Calls Try.prog 45 #[.string s, .bool pat] w fun e w' => ∃ v, e = .returned (.tuple #[v, .int .i64 r.off, .int .i64 r.err]) ∧ Kd.R kTok 33 w' w.heap.size (fun _ => True) v r.toks ∧ Below w.heap.size w w' := by
  obtain ⟨k0, hk0⟩ : ∃ k0, 0 + skipGo false (s.data.toList.drop 0) = k0 := ⟨_, rfl⟩
  have hsk : k0 ≤ s.size := by have h := skipGo_le (s.data.toList.drop 0) false; rw [List.length_drop, len_data] at h; omega
  have HK := Hid.mk' hk0
  clear hk0
  go_enter Try.func45, Try.ntmps45
  go_wp2_with (first
      | (go_at_call 61; refine (ref_skip s 0 k0 _ hs (by omega) HK).mono ?_; rintro e w' ⟨rfl, rfl⟩))
  go_loopw [7, 8] (fun v i wr => ∃ (k f : Nat) (acc : List Tok), i = .int .i64 k ∧ k ≤ s.size ∧ Kd.R kTok 33 wr w.heap.size (fun _ => True) v acc ∧ Below w.heap.size w wr ∧ w.heap.size ≤ wr.heap.size ∧ s.size - k < f ∧ acc.length ≤ 600 ∧ Hid (scanW pat f (s.data.toList.drop k) k acc = r)) (fun _ i _ => s.size - (intOf i).toNat)
  case atStart => exact ⟨k0, s.size + 1, [], rfl, hsk, R_empty _ _ _ _ (Nat.le_refl _), (Below.refl _ _).alloc (Nat.le_refl _) _, by simp, by omega, by simp, show _ = _ by rw [← hr.out, ← HK.out]; unfold scanR; rw [len_data, Nat.zero_add, List.drop_zero]⟩
  case round =>
    obtain ⟨k, f, acc, rfl, hk, hR, hbl, hsz, hf, hal, hinv⟩ := hrel
    obtain ⟨A, c, rfl⟩ := Kd.R_slice hR
    by_cases hlt : k < s.size
    · obtain ⟨r1, hr1⟩ : ∃ r1, rdTok pat (s.data.toList.drop k) = r1 := ⟨_, rfl⟩
      have HTOK : Hid (∀ w1, Calls Try.prog 62 #[.string s, .int .i64 k, .bool pat] w1 fun e w' => RefTok r1 k e ∧ Below w1.heap.size w1 w') := fun w1 => ref_token s k pat w1 hs hlt r1 hr1
      have HR1 := Hid.mk' hr1
      clear hr1
      by_cases he : r1.err = 0
      · have he1 : (r1.err == 0) = true := by rw [he]; rfl
        have hl := HR1.out ▸ rdTok_len pat (s.data.toList.drop k) (by rw [HR1.out]; exact he)
        rw [List.length_drop, len_data] at hl
        obtain ⟨N, hN⟩ : ∃ N, k + r1.len = N := ⟨_, rfl⟩
        have hN1 : k < N := by omega
        have hN2 : N ≤ s.size := by omega
        clear hl
        obtain ⟨j, hj⟩ : ∃ j, N + skipGo false (s.data.toList.drop N) = j := ⟨_, rfl⟩
        have hj1 : j ≤ s.size := by have h := skipGo_le (s.data.toList.drop N) false; rw [List.length_drop, len_data] at h; omega
        have hj2 : N ≤ j := by omega
        have HT2 : Hid (∀ w1, Calls Try.prog 62 #[.string s, .int .i64 k, .bool pat] w1 fun e w' => e = .returned (.tuple #[.agg #[.int .i64 r1.kind, .string (tx r1.text), .int .i64 k, .int .i64 N], .int .i64 r1.err]) ∧ Below w1.heap.size w1 w') := fun w1 => (HTOK.out w1).mono (by
          rintro e w' ⟨⟨k', t, a, b, rfl, hh⟩, hb⟩
          obtain ⟨rfl, rfl, rfl, rfl⟩ := hh he
          rw [hN]
          exact ⟨rfl, hb⟩)
        have HJ := Hid.mk' hj
        have HN := Hid.mk' hN
        clear hj hN HTOK
        by_cases h6 : acc.length = 600
        · have HE := Hid.mk' he
          have H6 := Hid.mk' h6
          have h6b : (600 : Int) ≤ acc.length := by omega
          clear he h6
          go_wp2_with (go_at_call 62; refine (HT2.out _).mono ?_; rintro e w1 ⟨rfl, hb⟩)
          go_ret3
          have hrr : r = ⟨[], k, 4⟩ := by
            rw [← hinv.out]
            exact scan_full pat f _ k acc (by omega) (by rw [List.length_drop, len_data]; omega) (by rw [HR1.out]; exact HE.out) H6.out
          subst hrr
          exact ⟨_, rfl, Kd.R_nil _ _ _ _ _, (hbl.trans (hb.mono hsz)).alloc (by have := hb.size; omega) _⟩
        · have HE := Hid.mk' he
          have h6b : ¬ ((600 : Int) ≤ acc.length) := by omega
          have h6n : acc.length < 600 := by omega
          clear he h6
          go_wp2_with (first
            | (go_at_call 62; refine (HT2.out _).mono ?_; rintro e w1 ⟨rfl, hb⟩)
            | (at_builtin; refine Kd.R_append kTok (w0 := w) w.heap.size rfl _ _ 23 33 (.agg #[(.int .i64 0), (.string ⟨#[]⟩), (.int .i64 0), (.int .i64 0)]) 40 rfl Try.underlying23 info_tok rfl (by decide) (by omega) (.slice A acc.length c) acc ⟨r1.kind, tx r1.text, k, N⟩ _ (fun _ => True) (fun _ => False) rfl ?aX ?aP (fun _ hk => hk.elim) ?aF ?aO ?aB ?aS ?aL ?_))
          case aX => simp [Act.eval]
          case aP => exact kTok_mkM _ _ _ _
          case aF => exact fun _ _ => trivial
          case aO => exact Kd.R_below (Kd.R_below hR hb) ((Below.refl _ _).alloc (Nat.le_refl _) _)
          case aB => exact ((hbl.trans (hb.mono hsz)).alloc (by have := hb.size; omega) _)
          case aS => have := hb.size; simp; omega
          case aL => omega
          intro v2 w2 hR2 hb2 hg hat
          have hT : w2.heap[w1.heap.size]? = some (.cells #[.int .i64 r1.kind, .string (tx r1.text), .int .i64 k, .int .i64 N] 33 (0, 0)) := by
            rw [hg.block _ (by simp) ?_]
            · exact Go.heap_alloc_new _ _
            · intro e
              obtain ⟨inner, ho⟩ := Kd.R_own hR
              have := own_lt ho _ e.symm
              have := hb.size
              omega
          obtain ⟨y0, y1, y2, y3, g0, g1, g2, g3⟩ := tok4 hT
          have hs2 := hg.size
          have hs1 := hb.size
          simp at hs2
          clear hT hg hat
          go_wp2_with (go_at_call 61; refine (ref_skip s N j _ hs hN2 HJ).mono ?_; rintro e w' ⟨rfl, rfl⟩)
          go_roundw
          case rel => exact ⟨j, f - 1, _, by go_num, by omega, hR2, hb2, by omega, by omega, by simp; omega, show _ = _ by
            have hj := HJ.out
            have hn := HN.out
            rw [← hinv.out, scan_step pat f _ k acc (by omega) (by rw [List.length_drop, len_data]; omega) (by rw [HR1.out]; exact HE.out) (by omega)]
            have e1 : (s.data.toList.drop k).drop r1.len = s.data.toList.drop N := by rw [List.drop_drop, hn]
            rw [HR1.out, e1, List.drop_drop, hn, hj]⟩
          case measure => simp [intOf]; omega
      · have he1 : (r1.err == 0) = false := by rw [beq_eq_false_iff_ne]; exact he
        have HE := Hid.mk' he
        clear he
        go_wp2_with (go_at_call 62; refine (HTOK.out _).mono ?_; rintro e w1 ⟨⟨k', t, a, b, rfl, hh⟩, hb⟩)
        go_ret3
        have hrr : r = ⟨[], k, r1.err⟩ := by
          rw [← hinv.out, ← HR1.out]
          exact scan_bad pat f _ k acc (by omega) (by rw [List.length_drop, len_data]; omega) (by rw [HR1.out]; exact HE.out)
        subst hrr
        exact ⟨_, rfl, Kd.R_nil _ _ _ _ _, (hbl.trans (hb.mono hsz)).alloc (by have := hb.size; omega) _⟩
    · go_wp2
      go_ret3
      have hrr : r = ⟨acc, 0, 0⟩ := by
        rw [← hinv.out, List.drop_eq_nil_of_le (by rw [len_data]; omega)]
        exact scan_end pat f k acc
      subst hrr
      exact ⟨_, rfl, hR, hbl⟩

theorem ref_Scan (s : ByteArray) (w : World) (hs : s.size ≤ 1000000000) (r : SR) (hr : scanR false s.data.toList = r) :
    Calls Try.prog 15 #[.string s] w fun e w' => ∃ v, e = .returned (.tuple #[v, .int .i64 r.off, .int .i64 r.err]) ∧ Kd.R kTok 33 w' w.heap.size (fun _ => True) v r.toks ∧ Below w.heap.size w w' := by
  have HR := Hid.mk' hr
  clear hr
  go_enter Try.func15, Try.ntmps15
  go_wp2_with (go_at_call 45; refine (ref_scan s false _ hs r HR).mono ?_; rintro e w1 ⟨v, rfl, h1, h2⟩)
  go_ret3
  exact ⟨_, rfl, h1, h2⟩
theorem ref_ScanPattern (s : ByteArray) (w : World) (hs : s.size ≤ 1000000000) (r : SR) (hr : scanR true s.data.toList = r) :
    Calls Try.prog 18 #[.string s] w fun e w' => ∃ v, e = .returned (.tuple #[v, .int .i64 r.off, .int .i64 r.err]) ∧ Kd.R kTok 33 w' w.heap.size (fun _ => True) v r.toks ∧ Below w.heap.size w w' := by
  have HR := Hid.mk' hr
  clear hr
  go_enter Try.func18, Try.ntmps18
  go_wp2_with (go_at_call 45; refine (ref_scan s true _ hs r HR).mono ?_; rintro e w1 ⟨v, rfl, h1, h2⟩)
  go_ret3
  exact ⟨_, rfl, h1, h2⟩
end Go.Proofs.Ytlnoadnejefmoaa
set_option linter.unusedVariables false
set_option linter.unusedSimpArgs false
namespace Go.Proofs.Ytlnoadnejefmoaa
open Go.RowKit Go.Proofs.YtlnoadnejefmoaaW.PrintWords

def Tok.kt (x : Tok) : Int × ByteArray := (x.kind, x.text)
/-- The same kinds and texts. -/
def sameL (xs ys : List Tok) : Bool := decide (xs.map Tok.kt = ys.map Tok.kt)
theorem sameL_len {xs ys : List Tok} (h : xs.length ≠ ys.length) : sameL xs ys = false := by
  unfold sameL
  rw [decide_eq_false_iff_not]
  intro e
  have := congrArg List.length e
  simp at this
  exact h this
theorem getD_map (xs : List Tok) (k : Nat) (h : k < xs.length) : (xs.map Tok.kt)[k]? = some (xs.getD k tok0).kt := by
  simp [List.getElem?_map, List.getD, List.getElem?_eq_getElem h]
theorem sameL_ne {xs ys : List Tok} (k : Nat) (h1 : k < xs.length) (h2 : k < ys.length) (h : (xs.getD k tok0).kt ≠ (ys.getD k tok0).kt) : sameL xs ys = false := by
  unfold sameL
  rw [decide_eq_false_iff_not]
  intro e
  have := congrArg (fun l : List (Int × ByteArray) => l[k]?) e
  simp only [getD_map _ _ h1, getD_map _ _ h2, Option.some.injEq] at this
  exact h this
theorem sameL_all {xs ys : List Tok} (hl : xs.length = ys.length) (h : ∀ j, j < xs.length → (xs.getD j tok0).kt = (ys.getD j tok0).kt) : sameL xs ys = true := by
  unfold sameL
  rw [decide_eq_true_eq]
  apply List.ext_getElem?
  intro k
  rcases Nat.lt_or_ge k xs.length with h1 | h1
  · rw [getD_map _ _ h1, getD_map _ _ (by omega), h k h1]
  · rw [List.getElem?_eq_none (by simpa using h1), List.getElem?_eq_none (by simp; omega)]

theorem toList_beq_t {a b : ByteArray} (h : a = b) : (a.toList == b.toList) = true := by rw [h, beq_self_eq_true]
theorem toList_beq_f {a b : ByteArray} (h : a ≠ b) : (a.toList == b.toList) = false := by
  rw [beq_eq_false_iff_ne]
  intro e
  rw [Lib.toList_data, Lib.toList_data] at e
  exact h (ba_ext e)

set_option maxHeartbeats 2000000 in
set_option maxRecDepth 100000 in
theorem ref_Same (w : World) (A B : Option Addr) (c d : Nat) (xs ys : List Tok) (hx : kTok.C w A xs.length xs) (hy : kTok.C w B ys.length ys) :
    Calls Try.prog 21 #[.slice A xs.length c, .slice B ys.length d] w fun e w' => e = .returned (.bool (sameL xs ys)) ∧ Below w.heap.size w w' := by
  have hxm := Kd.C_max hx
  have hym := Kd.C_max hy
  obtain ⟨r, hr⟩ : ∃ r, sameL xs ys = r := ⟨_, rfl⟩
  rw [hr]
  have HR := Hid.mk' hr
  clear hr
  go_enter Try.func21, Try.ntmps21
  by_cases hl : xs.length = ys.length
  · have hl1 : ((xs.length : Int) != ys.length) = false := by rw [hl]; simp
    have HL := Hid.mk' hl
    clear hl
    go_wp2
    go_loopw [5] (fun i wr => ∃ k : Nat, i = .int .i64 k ∧ k ≤ xs.length ∧ Below w.heap.size w wr ∧ Hid (∀ j, j < k → (xs.getD j tok0).kt = (ys.getD j tok0).kt)) (fun i _ => xs.length - (intOf i).toNat)
    case atStart => exact ⟨0, rfl, by omega, Below.refl _ _, fun j hj => absurd hj (by omega)⟩
    case round =>
      obtain ⟨k, rfl, hk, hbl, hinv⟩ := hrel
      by_cases hlt : k < xs.length
      · obtain ⟨x, hxk⟩ : ∃ x, xs.getD k tok0 = x := ⟨_, rfl⟩
        obtain ⟨y, hyk⟩ : ∃ x, ys.getD k tok0 = x := ⟨_, rfl⟩
        have hlt2 : k < ys.length := by have := HL.out; omega
        obtain ⟨a, hA, x0, x1, x2, x3⟩ := kTok_at (Kd.C_below hx hbl) k hlt
        obtain ⟨b, hB, y0, y1, y2, y3⟩ := kTok_at (Kd.C_below hy hbl) k hlt2
        rw [hxk] at x0 x1 x2 x3
        rw [hyk] at y0 y1 y2 y3
        subst hA hB
        have HX := Hid.mk' hxk
        have HY := Hid.mk' hyk
        clear hxk hyk x2 x3 y2 y3
        have hlti : (k : Int) < xs.length := by omega
        have hlti2 : (k : Int) < ys.length := by omega
        by_cases hkd : x.kind = y.kind
        · have hkd1 : (x.kind != y.kind) = false := by rw [hkd]; simp
          have HKD := Hid.mk' hkd
          clear hkd
          by_cases htx : x.text = y.text
          · have htx1 := toList_beq_t htx
            have HTX := Hid.mk' htx
            clear htx
            go_wp2
            go_quiet (fail)
            go_wp2
            go_roundw
            case rel => exact ⟨k + 1, by go_num, by omega, pw_below_drewN hbl _, fun j hj => by
              rcases Nat.lt_or_ge j k with h | h
              · exact hinv.out j h
              · obtain rfl : j = k := by omega
                rw [HX.out, HY.out]
                exact Prod.ext HKD.out HTX.out⟩
            case measure => simp [intOf]; omega
          · have htx1 := toList_beq_f htx
            have HTX := Hid.mk' htx
            clear htx
            go_wp2
            go_quiet (fail)
            go_wp2
            go_ret
            have := sameL_ne k hlt hlt2 (by rw [HX.out, HY.out]; exact fun e => HTX.out (congrArg Prod.snd e))
            exact ⟨ret_boolE (by rw [← HR.out, this]), pw_below_drewN hbl _⟩
        · have hkd1 : (x.kind != y.kind) = true := by simpa using hkd
          have HKD := Hid.mk' hkd
          clear hkd
          go_wp2
          go_quiet (fail)
          go_wp2
          go_ret
          have := sameL_ne k hlt hlt2 (by rw [HX.out, HY.out]; exact fun e => HKD.out (congrArg Prod.fst e))
          exact ⟨ret_boolE (by rw [← HR.out, this]), pw_below_drewN hbl _⟩
      · go_wp2
        go_ret
        have := sameL_all HL.out (fun j hj => hinv.out j (by omega))
        exact ⟨ret_boolE (by rw [← HR.out, this]), hbl⟩
  · have hl1 : ((xs.length : Int) != ys.length) = true := by rw [bne_iff_ne]; omega
    go_wp2
    go_ret
    exact ⟨ret_boolE (by rw [← HR.out, sameL_len hl]), Below.refl _ _⟩
theorem ref_Same_is (w : World) (A B : Option Addr) (c d : Nat) (xs ys : List Tok) (hx : kTok.C w A xs.length xs) (hy : kTok.C w B ys.length ys) (r : Bool) (hr : sameL xs ys = r) :
    Calls Try.prog 21 #[.slice A xs.length c, .slice B ys.length d] w fun e w' => e = .returned (.bool r) ∧ Below w.heap.size w w' := by subst hr; exact ref_Same w A B c d xs ys hx hy

theorem sameL_true {xs ys : List Tok} (h : sameL xs ys = true) : xs.length = ys.length ∧ ∀ j, j < xs.length → (xs.getD j tok0).kt = (ys.getD j tok0).kt := by
  unfold sameL at h
  rw [decide_eq_true_eq] at h
  have hl := congrArg List.length h
  simp at hl
  refine ⟨hl, fun j hj => ?_⟩
  have := congrArg (fun l : List (Int × ByteArray) => l[j]?) h
  simpa only [getD_map _ _ hj, getD_map _ _ (show j < ys.length by omega), Option.some.injEq] using this
theorem list_ext_getD {xs ys : List Tok} (hl : xs.length = ys.length) (h : ∀ j, j < xs.length → xs.getD j tok0 = ys.getD j tok0) : xs = ys := by
  apply List.ext_getElem hl
  intro j h1 h2
  have := h j h1
  simpa [List.getD_eq_getElem?_getD, h1, h2] using this
theorem tok_ext {x y : Tok} (h : x.kt = y.kt) (h2 : x.at_ = y.at_) (h3 : x.end_ = y.end_) : x = y := by
  cases x; cases y
  have e1 := congrArg Prod.fst h
  have e2 := congrArg Prod.snd h
  simp only [Tok.kt] at e1 e2
  simp_all

set_option maxHeartbeats 2000000 in
set_option maxRecDepth 100000 in
theorem ref_Equal (w : World) (A B : Option Addr) (c d : Nat) (xs ys : List Tok) (hx : kTok.C w A xs.length xs) (hy : kTok.C w B ys.length ys) (r : Bool) (hr : decide (xs = ys) = r) :
    Calls Try.prog 16 #[.slice A xs.length c, .slice B ys.length d] w fun e w' => e = .returned (.bool r) ∧ Below w.heap.size w w' := by
  have hxm := Kd.C_max hx
  have hym := Kd.C_max hy
  have HR := Hid.mk' hr
  clear hr
  go_enter Try.func16, Try.ntmps16
  cases hsm : sameL xs ys
  · go_wp2_with (go_at_call 21; refine (ref_Same_is _ A B c d xs ys hx hy _ hsm).mono ?_; rintro e w1 ⟨rfl, hbl⟩)
    go_ret
    refine ⟨ret_boolE ?_, hbl⟩
    rw [← HR.out, decide_eq_false]
    rintro rfl
    rw [sameL_all rfl (fun _ _ => rfl)] at hsm
    exact absurd hsm (by decide)
  · go_wp2_with (go_at_call 21; refine (ref_Same_is _ A B c d xs ys hx hy _ hsm).mono ?_; rintro e w1 ⟨rfl, hb1⟩)
    have HL := Hid.mk' (sameL_true hsm)
    clear hsm
    go_loopw [5] (fun i wr => ∃ k : Nat, i = .int .i64 k ∧ k ≤ xs.length ∧ Below w.heap.size w wr ∧ Hid (∀ j, j < k → xs.getD j tok0 = ys.getD j tok0)) (fun i _ => xs.length - (intOf i).toNat)
    case atStart => exact ⟨0, rfl, by omega, hb1, fun j hj => absurd hj (by omega)⟩
    case round =>
      obtain ⟨k, rfl, hk, hbl, hinv⟩ := hrel
      by_cases hlt : k < xs.length
      · obtain ⟨x, hxk⟩ : ∃ x, xs.getD k tok0 = x := ⟨_, rfl⟩
        obtain ⟨y, hyk⟩ : ∃ x, ys.getD k tok0 = x := ⟨_, rfl⟩
        have hlt2 : k < ys.length := by have := HL.out.1; omega
        obtain ⟨a, hA, x0, x1, x2, x3⟩ := kTok_at (Kd.C_below hx hbl) k hlt
        obtain ⟨b, hB, y0, y1, y2, y3⟩ := kTok_at (Kd.C_below hy hbl) k hlt2
        rw [hxk] at x0 x1 x2 x3
        rw [hyk] at y0 y1 y2 y3
        subst hA hB
        have HX := Hid.mk' hxk
        have HY := Hid.mk' hyk
        clear hxk hyk x0 x1 y0 y1
        have hlti : (k : Int) < xs.length := by omega
        have hlti2 : (k : Int) < ys.length := by omega
        by_cases hkd : x.at_ = y.at_
        · have hkd1 : (x.at_ != y.at_) = false := by rw [hkd]; simp
          have HKD := Hid.mk' hkd
          clear hkd
          by_cases htx : x.end_ = y.end_
          · have htx1 : (x.end_ != y.end_) = false := by rw [htx]; simp
            have HTX := Hid.mk' htx
            clear htx
            go_wp2
            go_quiet (fail)
            go_wp2
            go_roundw
            case rel => exact ⟨k + 1, by go_num, by omega, pw_below_drewN hbl _, fun j hj => by
              rcases Nat.lt_or_ge j k with h | h
              · exact hinv.out j h
              · obtain rfl : j = k := by omega
                have e := HL.out.2 j hlt
                rw [HX.out, HY.out] at e
                rw [HX.out, HY.out]
                exact tok_ext e HKD.out HTX.out⟩
            case measure => simp [intOf]; omega
          · have htx1 : (x.end_ != y.end_) = true := by simpa using htx
            have HTX := Hid.mk' htx
            clear htx
            go_wp2
            go_quiet (fail)
            go_wp2
            go_ret
            refine ⟨ret_boolE ?_, pw_below_drewN hbl _⟩
            rw [← HR.out, decide_eq_false]
            rintro rfl
            exact HTX.out (congrArg Tok.end_ (HX.out.symm.trans HY.out))
        · have hkd1 : (x.at_ != y.at_) = true := by simpa using hkd
          have HKD := Hid.mk' hkd
          clear hkd
          go_wp2
          go_quiet (fail)
          go_wp2
          go_ret
          refine ⟨ret_boolE ?_, pw_below_drewN hbl _⟩
          rw [← HR.out, decide_eq_false]
          rintro rfl
          exact HKD.out (congrArg Tok.at_ (HX.out.symm.trans HY.out))
      · go_wp2
        go_ret
        refine ⟨ret_boolE ?_, hbl⟩
        rw [← HR.out, decide_eq_true]
        exact list_ext_getD HL.out.1 (fun j hj => hinv.out j (by omega))
end Go.Proofs.Ytlnoadnejefmoaa
set_option linter.unusedVariables false
set_option linter.unusedSimpArgs false
namespace Go.Proofs.Ytlnoadnejefmoaa
open Go.RowKit Go.Proofs.YtlnoadnejefmoaaW.PrintWords

set_option maxHeartbeats 2000000 in
set_option maxRecDepth 100000 in
theorem tok_eqfn (x y : Tok) (w : World) (r : Bool) (hr : decide (x.kt = y.kt) = r) :
    Calls Try.prog 51 #[.agg #[.int .i64 x.kind, .string x.text, .int .i64 x.at_, .int .i64 x.end_], .agg #[.int .i64 y.kind, .string y.text, .int .i64 y.at_, .int .i64 y.end_]] w fun e w' => e = .returned (.bool r) ∧ Below w.heap.size w w' := by
  have HR := Hid.mk' hr
  clear hr
  by_cases hkd : x.kind = y.kind
  · have hkd1 : (x.kind == y.kind) = true := by rw [hkd]; simp
    have HKD := Hid.mk' hkd
    clear hkd
    by_cases htx : x.text = y.text
    · have htx1 := toList_beq_t htx
      have HTX := Hid.mk' htx
      clear htx
      go_enter Try.func51, Try.ntmps51
      go_wp2
      go_ret
      refine ⟨ret_boolE ?_, ?_⟩
      · rw [← HR.out, eq_comm, decide_eq_true_eq]; exact Prod.ext HKD.out HTX.out
      · exact ((Below.refl _ _).alloc (Nat.le_refl _) _).alloc (by simp) _
    · have htx1 := toList_beq_f htx
      have HTX := Hid.mk' htx
      clear htx
      go_enter Try.func51, Try.ntmps51
      go_wp2
      go_ret
      refine ⟨ret_boolE ?_, ?_⟩
      · rw [← HR.out, eq_comm, decide_eq_false_iff_not]; exact fun e => HTX.out (congrArg Prod.snd e)
      · exact ((Below.refl _ _).alloc (Nat.le_refl _) _).alloc (by simp) _
  · have hkd1 : (x.kind == y.kind) = false := by simpa using hkd
    have HKD := Hid.mk' hkd
    clear hkd
    go_enter Try.func51, Try.ntmps51
    go_wp2
    go_ret
    refine ⟨ret_boolE ?_, ?_⟩
    · rw [← HR.out, eq_comm, decide_eq_false_iff_not]; exact fun e => HKD.out (congrArg Prod.fst e)
    · exact ((Below.refl _ _).alloc (Nat.le_refl _) _).alloc (by simp) _

set_option maxHeartbeats 4000000 in
set_option maxRecDepth 100000 in
theorem tok_equal (w : World) (A B : Option Addr) (c d : Nat) (xs ys : List Tok) (hx : kTok.C w A xs.length xs) (hy : kTok.C w B ys.length ys) (r : Bool) (hr : sameL xs ys = r) :
    Calls Try.prog 50 #[.slice A xs.length c, .slice B ys.length d, .func (Fn.func 51) #[] #[]] w fun e w' => e = .returned (.bool r) ∧ Below w.heap.size w w' := by
  have hxm := Kd.C_max hx
  have hym := Kd.C_max hy
  have HR := Hid.mk' hr
  clear hr
  by_cases hl : xs.length = ys.length
  · have hl1 : ((xs.length : Int) != ys.length) = false := by rw [hl]; simp
    have HL := Hid.mk' hl
    clear hl
    go_enter Try.func50, Try.ntmps50
    go_wp2_with (fail)
    go_loopw [17] (fun i wr => ∃ k : Nat, i = .int .i64 k ∧ k ≤ xs.length ∧ Below w.heap.size w wr ∧ Hid (∀ j, j < k → (xs.getD j tok0).kt = (ys.getD j tok0).kt)) (fun i _ => xs.length - (intOf i).toNat)
    case atStart => exact ⟨0, rfl, by omega, Below.refl _ _, fun j hj => absurd hj (by omega)⟩
    case round =>
      obtain ⟨k, rfl, hk, hbl, hinv⟩ := hrel
      by_cases hlt : k < xs.length
      · obtain ⟨x, hxk⟩ : ∃ x, xs.getD k tok0 = x := ⟨_, rfl⟩
        obtain ⟨y, hyk⟩ : ∃ x, ys.getD k tok0 = x := ⟨_, rfl⟩
        have hlt2 : k < ys.length := by have := HL.out; omega
        obtain ⟨a, hA, x0, x1, x2, x3⟩ := kTok_at (Kd.C_below hx hbl) k hlt
        obtain ⟨b, hB, y0, y1, y2, y3⟩ := kTok_at (Kd.C_below hy hbl) k hlt2
        rw [hxk] at x0 x1 x2 x3
        clear y0 y1 y2 y3
        subst hA hB
        obtain ⟨b2, hB, y0, y1, y2, y3⟩ := kTok_at (Kd.C_alloc (Kd.C_below hy hbl) (.cells #[.int .i64 x.kind, .string x.text, .int .i64 x.at_, .int .i64 x.end_] 33)) k hlt2
        cases hB
        rw [hyk] at y0 y1 y2 y3
        have HX := Hid.mk' hxk
        have HY := Hid.mk' hyk
        have hlti : (k : Int) < xs.length := by omega
        have hlti2 : (k : Int) < ys.length := by omega
        have hws := hbl.size
        by_cases hkd : x.kt = y.kt
        · have HKD := Hid.mk' hkd
          clear hkd hxk hyk
          go_wp2_with (go_at_call 51; refine (tok_eqfn x y _ true (decide_eq_true HKD.out)).mono ?_; rintro e w1 ⟨rfl, hb1⟩)
          go_roundw
          case rel => exact ⟨k + 1, by go_num, by omega, ((hbl.alloc hws _).alloc (by simp; omega) _).trans (hb1.mono (by simp; omega)), fun j hj => by
            rcases Nat.lt_or_ge j k with h | h
            · exact hinv.out j h
            · obtain rfl : j = k := by omega
              rw [HX.out, HY.out]
              exact HKD.out⟩
          case measure => simp [intOf]; omega
        · have HKD := Hid.mk' hkd
          clear hkd hxk hyk
          go_wp2_with (go_at_call 51; refine (tok_eqfn x y _ false (decide_eq_false HKD.out)).mono ?_; rintro e w1 ⟨rfl, hb1⟩)
          go_ret
          have := sameL_ne k hlt hlt2 (by rw [HX.out, HY.out]; exact HKD.out)
          exact ⟨ret_boolE (by rw [← HR.out, this]), ((hbl.alloc hws _).alloc (by simp; omega) _).trans (hb1.mono (by simp; omega))⟩
      · go_wp2_with (fail)
        go_ret
        have := sameL_all HL.out (fun j hj => hinv.out j (by omega))
        exact ⟨ret_boolE (by rw [← HR.out, this]), hbl⟩
  · have hl1 : ((xs.length : Int) != ys.length) = true := by rw [bne_iff_ne]; omega
    go_enter Try.func50, Try.ntmps50
    go_wp2_with (fail)
    go_ret
    exact ⟨ret_boolE (by rw [← HR.out, sameL_len hl]), Below.refl _ _⟩
set_option maxHeartbeats 2000000 in
set_option maxRecDepth 100000 in
theorem tok_Same (w : World) (A B : Option Addr) (c d : Nat) (xs ys : List Tok) (hx : kTok.C w A xs.length xs) (hy : kTok.C w B ys.length ys) :
    Calls Try.prog 24 #[.slice A xs.length c, .slice B ys.length d] w fun e w' => e = .returned (.bool (sameL xs ys)) ∧ Below w.heap.size w w' := by
  obtain ⟨r, hr⟩ : ∃ r, sameL xs ys = r := ⟨_, rfl⟩
  rw [hr]
  have HR := Hid.mk' hr
  clear hr
  go_enter Try.func24, Try.ntmps24
  go_wp2_with (fail)
  refine (tok_equal _ A B c d xs ys hx hy r HR.out).mono ?_
  rintro e w1 ⟨rfl, hb1⟩
  go_wp2
  go_ret
  exact ⟨rfl, hb1⟩
end Go.Proofs.Ytlnoadnejefmoaa
