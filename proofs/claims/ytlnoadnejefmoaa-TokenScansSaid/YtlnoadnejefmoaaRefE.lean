import Derived.Test.YtlnoadnejefmoaaRefD
set_option linter.unusedVariables false
set_option linter.unusedSimpArgs false
namespace Go.Proofs.Ytlnoadnejefmoaa
open Go.RowKit Go.Proofs.YtlnoadnejefmoaaW.PrintWords

theorem takeWhile_take {α : Type} (p : α → Bool) : ∀ l : List α, (l.takeWhile p).takeWhile p = l.takeWhile p
  | [] => rfl
  | a :: l => by
    rw [List.takeWhile_cons]
    cases h : p a
    · rfl
    · rw [if_pos rfl, List.takeWhile_cons, h, if_pos rfl, takeWhile_take p l]
theorem wordT_eq (l : List UInt8) : wordT l = l.takeWhile isWordB := by
  unfold wordT wordLen
  induction l with
  | nil => rfl
  | cons a l ih =>
    rw [List.takeWhile_cons]
    cases h : isWordB a
    · rfl
    · simp only [if_pos]
      simp [ih]
theorem wordT_idem (l : List UInt8) : wordLen (wordT l) = (wordT l).length := by
  rw [wordT_eq]
  unfold wordLen
  rw [takeWhile_take]

/-- The reference's meta asks less: its text is a word. -/
theorem nameL_word (l : List UInt8) (c : UInt8) (t : List UInt8) (h : wordT l = c :: t) : nameL (wordT l) = (isLetterI c.toNat && !isKwL (wordT l)) := by
  have h1 := wordT_idem l
  unfold nameL
  rw [h1, h]
  simp
theorem nameL_empty : nameL [] = false := rfl
theorem metaT_word (l : List UInt8) : metaT l = wordT (l.drop (metaN l)) := rfl

/-- What meta's walk needs of the text that follows the dollars. -/
theorem meta_mid (s : ByteArray) (p n N : Nat) (hp : p < s.size) (hn : metaN (s.data.toList.drop p) = n) (hN : p + n + wordLen (s.data.toList.drop (p + n)) = N) :
    metaT (s.data.toList.drop p) = (s.extract (p + n) N).data.toList := by
  rw [metaT_word, hn, List.drop_drop]
  unfold wordT
  subst hN
  rw [ext_mid, tx_list]

theorem metaN_two (s : ByteArray) (p : Nat) (hp : p + 1 < s.size) (h : (s[p + 1].toNat : Int) = 36) : metaN (s.data.toList.drop p) = 2 := by
  unfold metaN
  rw [List.drop_drop, byte_at s (p + 1) hp, List.head?_cons, if_pos]
  rw [Option.some.injEq]
  exact UInt8.toNat_inj.1 (by show s[p + 1].toNat = 36; omega)
theorem metaN_one (s : ByteArray) (p : Nat) (h : ∀ hp : p + 1 < s.size, (s[p + 1].toNat : Int) ≠ 36) : metaN (s.data.toList.drop p) = 1 := by
  unfold metaN
  rw [List.drop_drop, if_neg]
  rcases Nat.lt_or_ge (p + 1) s.size with hp | hp
  · rw [byte_at s (p + 1) hp, List.head?_cons, Option.some.injEq]
    intro e
    exact h hp (by rw [e]; rfl)
  · rw [List.drop_eq_nil_of_le (by rw [len_data]; omega)]
    simp

theorem metaR_bad (l : List UInt8) (m : ByteArray) (hm : metaT l = m.data.toList) (h : m.size = 0 ∨ ∃ h : 0 < m.size, isLetterI (m[0]'h).toNat = false ∨ kwB m = true) : metaR l = .bad 11 := by
  unfold metaR
  rw [if_pos]
  have hw : nameL (metaT l) = false := by
    rcases h with h | ⟨h0, h⟩
    · rw [hm, List.eq_nil_of_length_eq_zero (show m.data.toList.length = 0 by rw [len_data]; exact h)]; rfl
    · have e := byte_at m 0 h0
      rw [List.drop_zero] at e
      rw [metaT_word, nameL_word _ m[0] (m.data.toList.drop 1) (by rw [← metaT_word, hm]; exact e), ← metaT_word, hm]
      rcases h with h | h
      · rw [h]; rfl
      · unfold kwB at h; rw [h]; simp
  rw [hw]; rfl
theorem metaR_long (l : List UInt8) (m : ByteArray) (hm : metaT l = m.data.toList) (h0 : 0 < m.size) (h1 : isLetterI (m[0]'h0).toNat = true) (h2 : kwB m = false) (h3 : 24 < m.size) : metaR l = .bad 4 := by
  unfold metaR
  have e := byte_at m 0 h0
  rw [List.drop_zero] at e
  have hw : nameL (metaT l) = true := by
    rw [metaT_word, nameL_word _ m[0] (m.data.toList.drop 1) (by rw [← metaT_word, hm]; exact e), ← metaT_word, hm, h1]
    unfold kwB at h2; rw [h2]; rfl
  rw [hw, hm, len_data, if_neg (by simp), if_pos h3]
theorem metaR_good (l : List UInt8) (m : ByteArray) (n : Nat) (hn : metaN l = n) (hm : metaT l = m.data.toList) (h0 : 0 < m.size) (h1 : isLetterI (m[0]'h0).toNat = true) (h2 : kwB m = false) (h3 : m.size ≤ 24) :
    metaR l = ⟨0, if n = 2 then 7 else 6, m.data.toList, n + m.size⟩ := by
  unfold metaR
  have e := byte_at m 0 h0
  rw [List.drop_zero] at e
  have hw : nameL (metaT l) = true := by
    rw [metaT_word, nameL_word _ m[0] (m.data.toList.drop 1) (by rw [← metaT_word, hm]; exact e), ← metaT_word, hm, h1]
    unfold kwB at h2; rw [h2]; rfl
  rw [hw, hm, len_data, if_neg (by simp), if_neg (by omega), hn]

theorem meta_res (s m : ByteArray) (p n N : Nat) (hp : p < s.size) (hn : metaN (s.data.toList.drop p) = n) (hN : p + n + wordLen (s.data.toList.drop (p + n)) = N) (hNs : N ≤ s.size) (hm : s.extract (p + n) N = m) (e k : Int) (t : ByteArray) (a b : Int)
    (h : (e = 11 ∧ (m.size = 0 ∨ ∃ h : 0 < m.size, isLetterI (m[0]'h).toNat = false ∨ kwB m = true)) ∨ (e = 4 ∧ ∃ h : 0 < m.size, isLetterI (m[0]'h).toNat = true ∧ kwB m = false ∧ 24 < m.size) ∨
      (e = 0 ∧ (∃ h : 0 < m.size, isLetterI (m[0]'h).toNat = true ∧ kwB m = false) ∧ m.size ≤ 24 ∧ k = (if n = 2 then 7 else 6) ∧ t = m ∧ a = p ∧ b = N)) :
    RefTok (metaR (s.data.toList.drop p)) p (.returned (.tuple #[.agg #[.int .i64 k, .string t, .int .i64 a, .int .i64 b], .int .i64 e])) := by
  have hT := meta_mid s p n N hp hn hN
  rw [hm] at hT
  rcases h with ⟨rfl, h⟩ | ⟨rfl, h0, h1, h2, h3⟩ | ⟨rfl, ⟨h0, h1, h2⟩, h3, rfl, rfl, rfl, rfl⟩
  · rw [metaR_bad _ m hT h]
    exact ⟨_, _, _, _, rfl, fun h => absurd h (by decide)⟩
  · rw [metaR_long _ m hT h0 h1 h2 h3]
    exact ⟨_, _, _, _, rfl, fun h => absurd h (by decide)⟩
  · rw [metaR_good _ t n hn hT h0 h1 h2 h3]
    refine ⟨_, _, _, _, rfl, fun _ => ⟨rfl, (tx_data t).symm, rfl, ?_⟩⟩
    have : t.size = N - (p + n) := by rw [← hm]; simp; omega
    simp only
    omega

set_option maxHeartbeats 8000000 in
set_option maxRecDepth 100000 in
theorem ref_meta (s : ByteArray) (p : Nat) (w : World) (hs : s.size ≤ 1000000000) (hp : p < s.size) :
    Calls Try.prog 93 #[.string s, .int .i64 p] w fun e w' => RefTok (metaR (s.data.toList.drop p)) p e ∧ Below w.heap.size w w' := by
  by_cases hd : ∃ h : p + 1 < s.size, (s[p + 1].toNat : Int) = 36
  · obtain ⟨hp1, hd⟩ := hd
    have HMN := metaN_two s p hp1 hd
    have hd1 : ((s[p + 1].toNat : Int) == 36) = true := by rw [hd]; rfl
    clear hd
    obtain ⟨N, hN⟩ : ∃ N, p + 2 + wordLen (s.data.toList.drop (p + 2)) = N := ⟨_, rfl⟩
    obtain ⟨m, hm⟩ : ∃ m, s.extract (p + 2) N = m := ⟨_, rfl⟩
    have hNs : N ≤ s.size := by have := wordLen_le (s.data.toList.drop (p + 2)); rw [List.length_drop, len_data] at this; omega
    have hN2 : p + 2 ≤ N := by omega
    have HR := Hid.mk' (meta_res s m p 2 N hp HMN hN hNs hm)
    have HN := Hid.mk' hN
    clear hN HMN
    have i1 : (0 : Int) ≤ (p : Int) + 1 + 1 := by omega
    have i2 : (p : Int) + 1 + 1 ≤ N := by omega
    have i3 : (N : Int) ≤ s.size := by omega
    have i4 : s.extract ((p : Int) + 1 + 1).toNat N = m := by rw [← hm]; congr 1
    have hms : m.size ≤ 1000000000 := by rw [← hm]; simp; omega
    clear hm
    rcases Nat.eq_zero_or_pos m.size with h0 | h0
    · have hn : m = ⟨#[]⟩ := ba_ext (by have := len_data m; exact List.eq_nil_of_length_eq_zero (by omega))
      have H0 := Hid.mk' h0
      clear h0
      go_enter Try.func93, Try.ntmps93
      go_wp2_with (first
          | (go_at_call 89; refine (ref_word_is s (p + 2) N _ hs (by omega) HN.out).mono ?_; rintro e w' ⟨rfl, rfl⟩))
      all_goals
        refine post_res rfl ⟨_, by (simp [results, Try.results93, go_sem]; exact ⟨⟨rfl, rfl, rfl, rfl⟩, rfl⟩), HR.out _ _ _ _ _ ?_, ((Below.refl _ _).alloc (Nat.le_refl _) _).alloc (by simp) _⟩
        exact .inl ⟨rfl, .inl H0.out⟩
    · have hn : ¬ m.toList = [] := toList_cons m h0
      have h01 : (0 : Int) < m.size := by omega
      go_enter Try.func93, Try.ntmps93
      go_wp2_with (first
          | (go_at_call 89; refine (ref_word_is s (p + 2) N _ hs (by omega) HN.out).mono ?_; rintro e w' ⟨rfl, rfl⟩)
          | (go_at_call 88; refine (ref_letter _ _).mono ?_; rintro e w' ⟨rfl, rfl⟩)
          | (go_at_call 26; refine (ref_keyword _ _).mono ?_; rintro e w1 ⟨rfl, hb⟩; obtain ⟨h1, h2, hb⟩ := keep2 hb; obtain ⟨y0, y1, y2, y3, g0, g1, g2, g3⟩ := tok4 h1; obtain ⟨x0, x1, x2, x3, _, _, _, _⟩ := tok4 h2; clear h1 h2))
      all_goals
        first
        | refine post_res rfl ⟨_, by (simp [results, Try.results93, go_sem]; exact ⟨⟨rfl, rfl, rfl, rfl⟩, rfl⟩), HR.out _ _ _ _ _ ?_, ((Below.refl _ _).alloc (Nat.le_refl _) _).alloc (by simp) _⟩
        | refine post_res rfl ⟨_, by (simp [results, Try.results93, go_sem, y0, y1, y2, y3]; exact ⟨⟨rfl, rfl, rfl, rfl⟩, rfl⟩), HR.out _ _ _ _ _ ?_, (((hb.setCell (Nat.le_refl _) _).setCell (Nat.le_refl _) _).setCell (Nat.le_refl _) _).setCell (Nat.le_refl _) _⟩
      all_goals
        first
        | (refine .inl ⟨rfl, .inr ⟨h0, ?_⟩⟩; simp_all; done)
        | (refine .inr (.inl ⟨rfl, h0, ?_⟩); simp_all; omega)
        | (refine .inr (.inr ⟨rfl, ⟨h0, ?_⟩, ?_, ?_, rfl, rfl, rfl⟩); simp_all; omega; simp_all)
  · have HMN := metaN_one s p (fun h1 h2 => hd ⟨h1, h2⟩)
    rcases Nat.lt_or_ge (p + 1) s.size with hp1 | hp1
    · have hd1 : ((s[p + 1].toNat : Int) == 36) = false := by rw [beq_eq_false_iff_ne]; exact fun h => hd ⟨hp1, h⟩
      clear hd
      obtain ⟨N, hN⟩ : ∃ N, p + 1 + wordLen (s.data.toList.drop (p + 1)) = N := ⟨_, rfl⟩
      obtain ⟨m, hm⟩ : ∃ m, s.extract (p + 1) N = m := ⟨_, rfl⟩
      have hNs : N ≤ s.size := by have := wordLen_le (s.data.toList.drop (p + 1)); rw [List.length_drop, len_data] at this; omega
      have hN2 : p + 1 ≤ N := by omega
      have HR := Hid.mk' (meta_res s m p 1 N hp HMN hN hNs hm)
      have HN := Hid.mk' hN
      clear hN HMN
      have i1 : (0 : Int) ≤ (p : Int) + 1 := by omega
      have i2 : (p : Int) + 1 ≤ N := by omega
      have i3 : (N : Int) ≤ s.size := by omega
      have i4 : s.extract (p + 1) N = m := hm
      have hms : m.size ≤ 1000000000 := by rw [← hm]; simp; omega
      clear hm
      rcases Nat.eq_zero_or_pos m.size with h0 | h0
      · have hn : m = ⟨#[]⟩ := ba_ext (by have := len_data m; exact List.eq_nil_of_length_eq_zero (by omega))
        have H0 := Hid.mk' h0
        clear h0
        go_enter Try.func93, Try.ntmps93
        go_wp2_with (first
            | (go_at_call 89; refine (ref_word_is s (p + 1) N _ hs (by omega) HN.out).mono ?_; rintro e w' ⟨rfl, rfl⟩))
        all_goals
          refine post_res rfl ⟨_, by (simp [results, Try.results93, go_sem]; exact ⟨⟨rfl, rfl, rfl, rfl⟩, rfl⟩), HR.out _ _ _ _ _ ?_, ((Below.refl _ _).alloc (Nat.le_refl _) _).alloc (by simp) _⟩
          exact .inl ⟨rfl, .inl H0.out⟩
      · have hn : ¬ m.toList = [] := toList_cons m h0
        have h01 : (0 : Int) < m.size := by omega
        go_enter Try.func93, Try.ntmps93
        go_wp2_with (first
            | (go_at_call 89; refine (ref_word_is s (p + 1) N _ hs (by omega) HN.out).mono ?_; rintro e w' ⟨rfl, rfl⟩)
            | (go_at_call 88; refine (ref_letter _ _).mono ?_; rintro e w' ⟨rfl, rfl⟩)
            | (go_at_call 26; refine (ref_keyword _ _).mono ?_; rintro e w1 ⟨rfl, hb⟩; obtain ⟨h1, h2, hb⟩ := keep2 hb; obtain ⟨y0, y1, y2, y3, g0, g1, g2, g3⟩ := tok4 h1; obtain ⟨x0, x1, x2, x3, _, _, _, _⟩ := tok4 h2; clear h1 h2))
        all_goals
          first
          | refine post_res rfl ⟨_, by (simp [results, Try.results93, go_sem]; exact ⟨⟨rfl, rfl, rfl, rfl⟩, rfl⟩), HR.out _ _ _ _ _ ?_, ((Below.refl _ _).alloc (Nat.le_refl _) _).alloc (by simp) _⟩
          | refine post_res rfl ⟨_, by (simp [results, Try.results93, go_sem, y0, y1, y2, y3]; exact ⟨⟨rfl, rfl, rfl, rfl⟩, rfl⟩), HR.out _ _ _ _ _ ?_, (((hb.setCell (Nat.le_refl _) _).setCell (Nat.le_refl _) _).setCell (Nat.le_refl _) _).setCell (Nat.le_refl _) _⟩
        all_goals
          first
          | (refine .inl ⟨rfl, .inr ⟨h0, ?_⟩⟩; simp_all; done)
          | (refine .inr (.inl ⟨rfl, h0, ?_⟩); simp_all; omega)
          | (refine .inr (.inr ⟨rfl, ⟨h0, ?_⟩, ?_, ?_, rfl, rfl, rfl⟩); simp_all; omega; simp_all)
    · clear hd
      obtain ⟨N, hN⟩ : ∃ N, p + 1 + wordLen (s.data.toList.drop (p + 1)) = N := ⟨_, rfl⟩
      obtain ⟨m, hm⟩ : ∃ m, s.extract (p + 1) N = m := ⟨_, rfl⟩
      have hNs : N ≤ s.size := by have := wordLen_le (s.data.toList.drop (p + 1)); rw [List.length_drop, len_data] at this; omega
      have hN2 : p + 1 ≤ N := by omega
      have HR := Hid.mk' (meta_res s m p 1 N hp HMN hN hNs hm)
      have HN := Hid.mk' hN
      clear hN HMN
      have i1 : (0 : Int) ≤ (p : Int) + 1 := by omega
      have i2 : (p : Int) + 1 ≤ N := by omega
      have i3 : (N : Int) ≤ s.size := by omega
      have i4 : s.extract (p + 1) N = m := hm
      have hms : m.size ≤ 1000000000 := by rw [← hm]; simp; omega
      clear hm
      rcases Nat.eq_zero_or_pos m.size with h0 | h0
      · have hn : m = ⟨#[]⟩ := ba_ext (by have := len_data m; exact List.eq_nil_of_length_eq_zero (by omega))
        have H0 := Hid.mk' h0
        clear h0
        go_enter Try.func93, Try.ntmps93
        go_wp2_with (first
            | (go_at_call 89; refine (ref_word_is s (p + 1) N _ hs (by omega) HN.out).mono ?_; rintro e w' ⟨rfl, rfl⟩))
        all_goals
          refine post_res rfl ⟨_, by (simp [results, Try.results93, go_sem]; exact ⟨⟨rfl, rfl, rfl, rfl⟩, rfl⟩), HR.out _ _ _ _ _ ?_, ((Below.refl _ _).alloc (Nat.le_refl _) _).alloc (by simp) _⟩
          exact .inl ⟨rfl, .inl H0.out⟩
      · have hn : ¬ m.toList = [] := toList_cons m h0
        have h01 : (0 : Int) < m.size := by omega
        go_enter Try.func93, Try.ntmps93
        go_wp2_with (first
            | (go_at_call 89; refine (ref_word_is s (p + 1) N _ hs (by omega) HN.out).mono ?_; rintro e w' ⟨rfl, rfl⟩)
            | (go_at_call 88; refine (ref_letter _ _).mono ?_; rintro e w' ⟨rfl, rfl⟩)
            | (go_at_call 26; refine (ref_keyword _ _).mono ?_; rintro e w1 ⟨rfl, hb⟩; obtain ⟨h1, h2, hb⟩ := keep2 hb; obtain ⟨y0, y1, y2, y3, g0, g1, g2, g3⟩ := tok4 h1; obtain ⟨x0, x1, x2, x3, _, _, _, _⟩ := tok4 h2; clear h1 h2))
        all_goals
          first
          | refine post_res rfl ⟨_, by (simp [results, Try.results93, go_sem]; exact ⟨⟨rfl, rfl, rfl, rfl⟩, rfl⟩), HR.out _ _ _ _ _ ?_, ((Below.refl _ _).alloc (Nat.le_refl _) _).alloc (by simp) _⟩
          | refine post_res rfl ⟨_, by (simp [results, Try.results93, go_sem, y0, y1, y2, y3]; exact ⟨⟨rfl, rfl, rfl, rfl⟩, rfl⟩), HR.out _ _ _ _ _ ?_, (((hb.setCell (Nat.le_refl _) _).setCell (Nat.le_refl _) _).setCell (Nat.le_refl _) _).setCell (Nat.le_refl _) _⟩
        all_goals
          first
          | (refine .inl ⟨rfl, .inr ⟨h0, ?_⟩⟩; simp_all; done)
          | (refine .inr (.inl ⟨rfl, h0, ?_⟩); simp_all; omega)
          | (refine .inr (.inr ⟨rfl, ⟨h0, ?_⟩, ?_, ?_, rfl, rfl, rfl⟩); simp_all; omega; simp_all)
end Go.Proofs.Ytlnoadnejefmoaa
