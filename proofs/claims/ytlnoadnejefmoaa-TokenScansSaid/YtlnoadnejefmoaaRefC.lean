import Derived.Test.YtlnoadnejefmoaaRefB
set_option linter.unusedVariables false
set_option linter.unusedSimpArgs false
namespace Go.Proofs.Ytlnoadnejefmoaa
open Go.RowKit Go.Proofs.YtlnoadnejefmoaaW.PrintWords

/-- What the reference's token and its helpers hand back at p: the error; without an error the token. -/
def RefTok (r : RT) (p : Nat) (e : Ending) : Prop := ∃ (k : Int) (t : ByteArray) (a b : Int), e = .returned (.tuple #[.agg #[.int .i64 k, .string t, .int .i64 a, .int .i64 b], .int .i64 r.err]) ∧ (r.err = 0 → k = r.kind ∧ t = tx r.text ∧ a = p ∧ b = (p + r.len : Nat))
theorem head_drop (s : ByteArray) (p : Nat) (hp : p < s.size) : ((s.data.toList.drop p).head? == some 48) = ((s[p].toNat : Int) == 48) := by
  rw [byte_at s p hp, Bool.eq_iff_iff, List.head?_cons, beq_iff_eq, beq_iff_eq, Option.some.injEq]
  constructor
  · intro e; rw [e]; rfl
  · intro e; exact UInt8.toNat_inj.1 (by show s[p].toNat = 48; omega)
theorem ext_mid (s : ByteArray) (p n : Nat) : s.extract p (p + n) = tx ((s.data.toList.drop p).take n) := by rw [ext_tx, Nat.add_sub_cancel_left]

theorem intR_a {l : List UInt8} (h : (l.head? == some 48) = true) (h2 : 1 < digLen l) : intR l = .bad 11 := by unfold intR; rw [h, if_pos (by simp [h2])]
theorem intR_b {l : List UInt8} (h : ¬ ((l.head? == some 48) = true ∧ 1 < digLen l)) (h2 : 9 < digLen l) : intR l = .bad 4 := by unfold intR; rw [if_neg (by simpa using h), if_pos h2]
theorem intR_c {l : List UInt8} (h : ¬ ((l.head? == some 48) = true ∧ 1 < digLen l)) (h2 : digLen l ≤ 9) : intR l = ⟨0, 3, l.take (digLen l), digLen l⟩ := by unfold intR; rw [if_neg (by simpa using h), if_neg (by omega)]

theorem num_res (s : ByteArray) (p n k : Nat) (hp : p < s.size) (hn : digLen (s.data.toList.drop p) = n) (hk : k = p + n) (e k' : Int) (t : ByteArray) (a b : Int)
    (h : (e = 11 ∧ (s[p].toNat : Int) = 48 ∧ (p : Int) + 1 < k) ∨ (e = 4 ∧ ¬ ((s[p].toNat : Int) = 48 ∧ (p : Int) + 1 < k) ∧ (p : Int) + 9 < k) ∨
      (e = 0 ∧ ¬ ((s[p].toNat : Int) = 48 ∧ (p : Int) + 1 < k) ∧ (k : Int) ≤ p + 9 ∧ k' = 3 ∧ t = s.extract p k ∧ a = p ∧ b = k)) :
    RefTok (intR (s.data.toList.drop p)) p (.returned (.tuple #[.agg #[.int .i64 k', .string t, .int .i64 a, .int .i64 b], .int .i64 e])) := by
  have hh := head_drop s p hp
  rcases h with ⟨rfl, h1, h2⟩ | ⟨rfl, h1, h2⟩ | ⟨rfl, h1, h2, rfl, rfl, rfl, rfl⟩
  · rw [intR_a (by rw [hh, h1]; rfl) (by omega)]
    exact ⟨_, _, _, _, rfl, fun h => absurd h (by decide)⟩
  · rw [intR_b (by rw [hh, beq_iff_eq]; omega) (by omega)]
    exact ⟨_, _, _, _, rfl, fun h => absurd h (by decide)⟩
  · rw [intR_c (by rw [hh, beq_iff_eq]; omega) (by omega)]
    exact ⟨_, _, _, _, rfl, fun _ => ⟨rfl, by rw [hk, ext_mid, hn], rfl, by rw [hn, hk]⟩⟩
set_option maxHeartbeats 4000000 in
set_option maxRecDepth 100000 in
theorem ref_number (s : ByteArray) (p : Nat) (w : World) (hs : s.size ≤ 1000000000) (hp : p < s.size) :
    Calls Try.prog 91 #[.string s, .int .i64 p] w fun e w' => RefTok (intR (s.data.toList.drop p)) p e ∧ Below w.heap.size w w' := by
  obtain ⟨n, hn⟩ : ∃ n, digLen (s.data.toList.drop p) = n := ⟨_, rfl⟩
  have hnl : p + n ≤ s.size := by have := digLen_le (s.data.toList.drop p); rw [List.length_drop, len_data] at this; omega
  have HN := Hid.mk' hn
  clear hn
  go_enter Try.func91, Try.ntmps91
  go_wp2
  go_loop [6] (fun i => ∃ k : Nat, i = .int .i64 k ∧ k ≤ s.size ∧ p ≤ k ∧ Hid (k + digLen (s.data.toList.drop k) = p + n)) (fun i => s.size - (intOf i).toNat)
  case atStart => exact ⟨p, rfl, by omega, Nat.le_refl _, show _ = _ by rw [HN.out]⟩
  case round =>
    obtain ⟨k, rfl, hk, hpk, hinv⟩ := hrel
    by_cases hgo : ∃ h : k < s.size, isDigitI (s[k]'h).toNat = true
    · obtain ⟨hlt, hd⟩ := hgo
      have hc : Hid (digLen (s.data.toList.drop k) = if isDigitB s[k] then digLen (s.data.toList.drop (k + 1)) + 1 else 0) := show _ = _ by rw [byte_at s k hlt, digLen_cons]
      go_wp2_with (first
          | (go_at_call 90; refine (ref_digit _ _).mono ?_; rintro e w' ⟨rfl, rfl⟩))
      go_round
      case rel => exact ⟨k + 1, by go_num, by omega, by omega, show _ = _ by have e := hc.out; unfold isDigitB at e; rw [hd] at e; have := hinv.out; simp at e; omega⟩
      case measure => simp [intOf]; omega
    · have HD : Hid (k = p + n) := by
        have := hinv.out
        rcases Nat.lt_or_ge k s.size with h | h
        · have e : digLen (s.data.toList.drop k) = 0 := by
            rw [byte_at s k h, digLen_cons, if_neg]
            exact fun h1 => hgo ⟨h, h1⟩
          exact show _ = _ by omega
        · have e : digLen (s.data.toList.drop k) = 0 := by rw [List.drop_eq_nil_of_le (by rw [len_data]; omega)]; rfl
          exact show _ = _ by omega
      clear hinv
      rcases Nat.lt_or_ge k s.size with hlt | hlt
      · have hd : isDigitI s[k].toNat = false := by rw [Bool.eq_false_iff]; exact fun h1 => hgo ⟨hlt, h1⟩
        clear hgo
        go_wp2_with (first
          | (go_at_call 90; refine (ref_digit _ _).mono ?_; rintro e w' ⟨rfl, rfl⟩))
        · refine post_res rfl ⟨_, by (simp [results, Try.results91, go_sem]; exact ⟨⟨rfl, rfl, rfl, rfl⟩, rfl⟩), num_res s p n k hp HN.out HD.out _ _ _ _ _ ?_, ((Below.refl _ _).alloc (Nat.le_refl _) _).alloc (by simp) _⟩
          exact .inl ⟨rfl, by assumption, by assumption⟩
        · refine post_res rfl ⟨_, by (simp [results, Try.results91, go_sem]; exact ⟨⟨rfl, rfl, rfl, rfl⟩, rfl⟩), num_res s p n k hp HN.out HD.out _ _ _ _ _ ?_, ((Below.refl _ _).alloc (Nat.le_refl _) _).alloc (by simp) _⟩
          exact .inr (.inr ⟨rfl, by omega, by omega, rfl, rfl, rfl, rfl⟩)
        · refine post_res rfl ⟨_, by (simp [results, Try.results91, go_sem]; exact ⟨⟨rfl, rfl, rfl, rfl⟩, rfl⟩), num_res s p n k hp HN.out HD.out _ _ _ _ _ ?_, ((Below.refl _ _).alloc (Nat.le_refl _) _).alloc (by simp) _⟩
          exact .inr (.inl ⟨rfl, by omega, by omega⟩)
        · refine post_res rfl ⟨_, by (simp [results, Try.results91, go_sem]; exact ⟨⟨rfl, rfl, rfl, rfl⟩, rfl⟩), num_res s p n k hp HN.out HD.out _ _ _ _ _ ?_, ((Below.refl _ _).alloc (Nat.le_refl _) _).alloc (by simp) _⟩
          exact .inr (.inr ⟨rfl, by omega, by omega, rfl, rfl, rfl, rfl⟩)
      · clear hgo
        go_wp2
        · refine post_res rfl ⟨_, by (simp [results, Try.results91, go_sem]; exact ⟨⟨rfl, rfl, rfl, rfl⟩, rfl⟩), num_res s p n k hp HN.out HD.out _ _ _ _ _ ?_, ((Below.refl _ _).alloc (Nat.le_refl _) _).alloc (by simp) _⟩
          exact .inl ⟨rfl, by assumption, by assumption⟩
        · refine post_res rfl ⟨_, by (simp [results, Try.results91, go_sem]; exact ⟨⟨rfl, rfl, rfl, rfl⟩, rfl⟩), num_res s p n k hp HN.out HD.out _ _ _ _ _ ?_, ((Below.refl _ _).alloc (Nat.le_refl _) _).alloc (by simp) _⟩
          exact .inr (.inr ⟨rfl, by omega, by omega, rfl, rfl, rfl, rfl⟩)
        · refine post_res rfl ⟨_, by (simp [results, Try.results91, go_sem]; exact ⟨⟨rfl, rfl, rfl, rfl⟩, rfl⟩), num_res s p n k hp HN.out HD.out _ _ _ _ _ ?_, ((Below.refl _ _).alloc (Nat.le_refl _) _).alloc (by simp) _⟩
          exact .inr (.inl ⟨rfl, by omega, by omega⟩)
        · refine post_res rfl ⟨_, by (simp [results, Try.results91, go_sem]; exact ⟨⟨rfl, rfl, rfl, rfl⟩, rfl⟩), num_res s p n k hp HN.out HD.out _ _ _ _ _ ?_, ((Below.refl _ _).alloc (Nat.le_refl _) _).alloc (by simp) _⟩
          exact .inr (.inr ⟨rfl, by omega, by omega, rfl, rfl, rfl, rfl⟩)
end Go.Proofs.Ytlnoadnejefmoaa
