import Derived.Test.YtlnoadnejefmoaaRefA
set_option linter.unusedVariables false
set_option linter.unusedSimpArgs false
namespace Go.Proofs.Ytlnoadnejefmoaa
open Go.RowKit Go.Proofs.YtlnoadnejefmoaaW.PrintWords

theorem skipT_lf (c : UInt8) (t : List UInt8) (h : c.toNat = 10) : skipGo true (c :: t) = skipGo false (c :: t) := by
  rw [skipGo_cons, skipGo_cons, if_pos rfl, if_pos h, if_neg (by simp), if_pos (by simp [blankI, h])]
theorem skipT_ch (c : UInt8) (t : List UInt8) (h : c.toNat ≠ 10) : skipGo true (c :: t) = skipGo true t + 1 := by
  rw [skipGo_cons, if_pos rfl, if_neg h]
theorem skipF_blank (c : UInt8) (t : List UInt8) (h : blankI c.toNat = true) : skipGo false (c :: t) = skipGo false t + 1 := by
  rw [skipGo_cons, if_neg (by simp), if_pos h]

theorem skipF_stop (c : UInt8) (t : List UInt8) (h : blankI c.toNat = false) (h2 : c.toNat = 47 → (t.head?.map (·.toNat)) ≠ some 47) : skipGo false (c :: t) = 0 := by
  rw [skipGo_cons, if_neg (by simp), if_neg (by simp [h]), if_neg]
  exact fun h3 => h2 h3.1 h3.2
theorem skipF_comment (c d : UInt8) (t : List UInt8) (h : c.toNat = 47) (h2 : d.toNat = 47) : skipGo false (c :: d :: t) = skipGo true (c :: d :: t) := by
  have e1 : c = 47 := UInt8.toNat_inj.1 h
  have e2 : d = 47 := UInt8.toNat_inj.1 h2
  subst e1
  subst e2
  exact skipGo_slash _ rfl
theorem blank_or {c : Int} (h : ((c == 32) = true ∨ (c == 9) = true) ∨ (c == 10) = true) : blankI c = true := by
  unfold blankI
  rcases h with (h | h) | h <;> simp [h]
theorem blank_not {c : Int} (h : ((c == 32) = false ∧ (c == 9) = false) ∧ (c == 10) = false) : blankI c = false := by
  unfold blankI
  rw [h.1.1, h.1.2, h.2]
  rfl

set_option maxHeartbeats 4000000 in
set_option maxRecDepth 100000 in
theorem ref_skip (s : ByteArray) (p N : Nat) (w : World) (hs : s.size ≤ 1000000000) (hp : p ≤ s.size) (hN : Hid (p + skipGo false (s.data.toList.drop p) = N)) :
    Calls Try.prog 61 #[.string s, .int .i64 p] w fun e w' => e = .returned (.int .i64 N) ∧ w = w' := by
  go_enter Try.func61, Try.ntmps61
  go_wp2
  go_loop [1] (fun i => ∃ k : Nat, i = .int .i64 k ∧ k ≤ s.size ∧ Hid (k + skipGo false (s.data.toList.drop k) = N)) (fun i => s.size - (intOf i).toNat)
  case atStart => exact ⟨p, rfl, hp, hN⟩
  case round =>
    obtain ⟨k, rfl, hk, hinv⟩ := hrel
    by_cases hlt : k < s.size
    · have hc : Hid (s.data.toList.drop k = s[k] :: s.data.toList.drop (k + 1)) := byte_at s k hlt
      go_wp2
      · go_round
        have e : skipGo false (s.data.toList.drop k) = skipGo false (s.data.toList.drop (k + 1)) + 1 := by rw [hc.out, skipF_blank _ _ (blank_or (.inl (.inl (by rw [beq_iff_eq]; assumption))))]
        case rel => exact ⟨k + 1, by go_num, by omega, show _ = _ by have := hinv.out; omega⟩
        case measure => simp [intOf]; omega
      · go_round
        have e : skipGo false (s.data.toList.drop k) = skipGo false (s.data.toList.drop (k + 1)) + 1 := by rw [hc.out, skipF_blank _ _ (blank_or (.inl (.inr (by rw [beq_iff_eq]; assumption))))]
        case rel => exact ⟨k + 1, by go_num, by omega, show _ = _ by have := hinv.out; omega⟩
        case measure => simp [intOf]; omega
      · go_round
        have e : skipGo false (s.data.toList.drop k) = skipGo false (s.data.toList.drop (k + 1)) + 1 := by rw [hc.out, skipF_blank _ _ (blank_or (by assumption))]
        case rel => exact ⟨k + 1, by go_num, by omega, show _ = _ by have := hinv.out; omega⟩
        case measure => simp [intOf]; omega
      · have h47 : (s[k].toNat : Int) = 47 := by assumption
        have hk1 : k + 1 < s.size := by omega
        have h2 : ((s[k + 1].toNat : Int) == 47) = true := by assumption
        have H : Hid (k + skipGo true (s.data.toList.drop k) = N) := by
          have h := hinv.out
          rw [hc.out, byte_at s (k + 1) hk1, skipF_comment _ _ _ (by omega) (by rw [beq_iff_eq] at h2; omega)] at h
          rw [hc.out, byte_at s (k + 1) hk1]
          exact h
        have H47 : Hid (s[k].toNat = 47) := show _ = _ by omega
        clear h47 h2
        go_loop [1] (fun i => ∃ q : Nat, i = .int .i64 q ∧ k ≤ q ∧ q ≤ s.size ∧ Hid (q + skipGo true (s.data.toList.drop q) = N)) (fun i => s.size - (intOf i).toNat)
        case atStart => exact ⟨k, rfl, Nat.le_refl _, hk, H⟩
        case round =>
          obtain ⟨q, rfl, hkq, hq, hqi⟩ := hrel
          by_cases hql : q < s.size
          · have hqc : Hid (s.data.toList.drop q = s[q] :: s.data.toList.drop (q + 1)) := byte_at s q hql
            go_wp2
            · go_round
              have hx : (¬ (s[q].toNat : Int) = 10) := by first | assumption | (have h : ((s[q].toNat : Int) != 10) = true := by assumption
                                                                                simpa using h)
              have e : skipGo true (s.data.toList.drop q) = skipGo true (s.data.toList.drop (q + 1)) + 1 := by rw [hqc.out, skipT_ch _ _ (by omega)]
              case rel => exact ⟨q + 1, by go_num, by omega, by omega, show _ = _ by have := hqi.out; omega⟩
              case measure => simp [intOf]; omega
            · skip
              have hx : (s[q].toNat : Int) = 10 := by have h : ((s[q].toNat : Int) != 10) = false := by assumption
                                                      simpa using h
              have hkq2 : k < q := by
                rcases Nat.lt_or_ge k q with h | h
                · exact h
                · obtain rfl : k = q := by omega
                  have := H47.out
                  omega
              go_round
              case rel => exact ⟨q, rfl, by omega, show _ = _ by rw [← hqi.out, hqc.out, skipT_lf _ _ (by omega)]⟩
              case measure => simp [intOf]; omega
          · go_wp2
            have hm : s.size - q < s.size - k := by omega
            go_round
            case rel => exact ⟨q, rfl, by omega, show _ = _ by rw [← hqi.out, List.drop_eq_nil_of_le (by rw [len_data]; omega)]; rfl⟩
            case measure => simpa [intOf] using hm
      · go_ret
        have hk1 : k + 1 < s.size := by omega
        have h2 : ((s[k + 1].toNat : Int) == 47) = false := by assumption
        rw [beq_eq_false_iff_ne] at h2
        have h := hinv.out
        rw [hc.out, skipF_stop _ _ (blank_not (by assumption)) (fun _ => by rw [byte_at s (k + 1) hk1]; simp; omega)] at h
        exact ⟨ret_intE (by omega), rfl⟩
      · go_ret
        have h := hinv.out
        rw [hc.out, skipF_stop _ _ (blank_not (by assumption)) (fun _ => by rw [List.drop_eq_nil_of_le (by rw [len_data]; omega)]; simp)] at h
        exact ⟨ret_intE (by omega), rfl⟩
      · go_ret
        have h := hinv.out
        rw [hc.out, skipF_stop _ _ (blank_not (by assumption)) (fun h => by omega)] at h
        exact ⟨ret_intE (by omega), rfl⟩
    · have h0 : skipGo false (s.data.toList.drop k) = 0 := by rw [List.drop_eq_nil_of_le (by rw [len_data]; omega)]; rfl
      have h1 : Hid (k = N) := show _ = _ by have := hinv.out; omega
      clear h0 hinv
      go_wp2
      go_ret
      exact ⟨ret_intE (by rw [h1.out]), rfl⟩
end Go.Proofs.Ytlnoadnejefmoaa
