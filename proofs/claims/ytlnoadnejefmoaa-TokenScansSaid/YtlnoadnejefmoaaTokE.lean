import Derived.Test.YtlnoadnejefmoaaTokD
set_option linter.unusedVariables false
set_option linter.unusedSimpArgs false
namespace Go.Proofs.Ytlnoadnejefmoaa
open Go.RowKit

theorem metaN_of (s : ByteArray) (h0 : 0 < s.size) (h36 : s[0].toNat = 36) : metaN s.data.toList = if pfxB ⟨#[36, 36]⟩ s then 2 else 1 := by
  obtain ⟨t, ht⟩ := head_at s h0
  have e : s[0] = 36 := UInt8.toNat_inj.1 h36
  rw [e] at ht
  unfold metaN pfxB pfxL
  rw [ht]
  cases t with
  | nil => rfl
  | cons d u =>
    by_cases hd : d = 36
    · subst hd; rfl
    · have : (36 == d) = false := by simpa using fun h => hd h.symm
      simp [List.isPrefixOf, hd, this]
theorem metaT_of (s : ByteArray) (n : Nat) (hn : metaN s.data.toList = n) : tx (metaT s.data.toList) = wordS (s.extract n s.size) := by
  apply ba_ext
  rw [wordS_data, extE_list, tx_list]
  unfold metaT wordT
  rw [hn]

theorem meta_bad (s m : ByteArray) (hT : tx (metaT s.data.toList) = m) (h : nameB m = false) : tokRet (metaR s.data.toList) = tokRet (.bad 11) := by
  unfold metaR
  subst hT
  have h' : nameL (metaT s.data.toList) = false := h
  rw [h', if_pos (by rfl)]
theorem meta_long (s m : ByteArray) (hT : tx (metaT s.data.toList) = m) (h : nameB m = true) (h2 : 24 < m.size) : tokRet (metaR s.data.toList) = tokRet (.bad 4) := by
  unfold metaR
  subst hT
  have h' : nameL (metaT s.data.toList) = true := h
  rw [tx_size] at h2
  rw [h', if_neg (by simp), if_pos h2]
theorem meta_good (s m : ByteArray) (n : Nat) (hn : metaN s.data.toList = n) (hT : tx (metaT s.data.toList) = m) (h : nameB m = true) (h2 : m.size ≤ 24) :
    tokRet (metaR s.data.toList) = .returned (.tuple #[.agg #[.int .i64 (if n = 2 then 7 else 6), .string m, .int .i64 0, .int .i64 (n + m.size)], .int .i64 0]) := by
  unfold metaR
  subst hT
  have h' : nameL (metaT s.data.toList) = true := h
  rw [tx_size] at h2
  rw [h', if_neg (by simp), if_neg (by omega), hn, tx_size]
  unfold tokRet
  rw [Int.natCast_add]
theorem tok_word_is (s m : ByteArray) (w : World) (hs : s.size ≤ 9223372036854775807) (h : wordS s = m) :
    Calls Try.prog 85 #[.string s] w fun e w' => e = .returned (.string m) ∧ w = w' := by rw [← h]; exact tok_word s w hs
set_option maxHeartbeats 4000000 in
set_option maxRecDepth 100000 in
theorem tok_meta (s : ByteArray) (w : World) (hs : s.size ≤ 1000000000) (h0 : 0 < s.size) (h36 : s[0].toNat = 36) :
    Calls Try.prog 87 #[.string s] w fun e w' => e = tokRet (metaR s.data.toList) ∧ Below w.heap.size w w' := by
  have hN := metaN_of s h0 h36
  clear h36
  by_cases hp : pfxB ⟨#[36, 36]⟩ s = true
  · rw [if_pos hp] at hN
    have hT := Hid.mk' (metaT_of s 2 hN)
    have HN := Hid.mk' hN
    clear hN
    have h2 : 2 ≤ s.size := by
      obtain ⟨t, ht⟩ := pfx2 _ _ _ hp
      have := len_data s
      rw [ht] at this
      simp at this
      omega
    obtain ⟨m, hm⟩ : ∃ m, wordS (s.extract 2 s.size) = m := ⟨_, rfl⟩
    have hms : m.size ≤ 1000000000 := by
      rw [← hm, wordS_size, extE_list]
      have := (List.take_sublist (wordLen (s.data.toList.drop 2)) (s.data.toList.drop 2)).length_le
      rw [List.length_drop, len_data] at this
      unfold wordT
      omega
    rw [hm] at hT
    have HM := Hid.mk' hm
    clear hm
    go_enter Try.func87, Try.ntmps87
    go_wp2_with (first
      | (go_at_call 82; refine (has_prefix _ _ _ (by omega)).mono ?_; rintro e w' ⟨rfl, rfl⟩)
      | (go_at_call 85; refine (tok_word_is _ m _ (by simp; omega) HM.out).mono ?_; rintro e w' ⟨rfl, rfl⟩))
    refine (tok_name _ _ (by omega)).mono ?_
    rintro e w1 ⟨rfl, hb⟩
    obtain ⟨h1, h2, hb⟩ := keep2 hb
    obtain ⟨y0, y1, y2, y3, g0, g1, g2, g3⟩ := tok4 h1
    obtain ⟨x0, x1, x2, x3, _, _, _, _⟩ := tok4 h2
    clear h1 h2
    go_wp2
    · refine post_res rfl ⟨_, by (simp [results, Try.results87, go_sem, y0, y1, y2, y3]; rfl), ?_, (((hb.setCell (Nat.le_refl _) _).setCell (Nat.le_refl _) _).setCell (Nat.le_refl _) _).setCell (Nat.le_refl _) _⟩
      rw [meta_bad s m hT.out (by simp_all)]
      rfl
    · refine post_res rfl ⟨_, by (simp [results, Try.results87, go_sem, y0, y1, y2, y3]; rfl), ?_, (((hb.setCell (Nat.le_refl _) _).setCell (Nat.le_refl _) _).setCell (Nat.le_refl _) _).setCell (Nat.le_refl _) _⟩
      rw [meta_long s m hT.out (by simp_all) (by omega)]
      rfl
    · refine post_res rfl ⟨_, by (simp [results, Try.results87, go_sem, y0, y1, y2, y3]; rfl), ?_, (((hb.setCell (Nat.le_refl _) _).setCell (Nat.le_refl _) _).setCell (Nat.le_refl _) _).setCell (Nat.le_refl _) _⟩
      rw [meta_good s m 2 HN.out hT.out (by simp_all) (by omega)]
      rfl
  · rw [if_neg hp] at hN
    have hT := Hid.mk' (metaT_of s 1 hN)
    have HN := Hid.mk' hN
    clear hN
    replace hp : pfxB ⟨#[36, 36]⟩ s = false := by simpa using hp
    obtain ⟨m, hm⟩ : ∃ m, wordS (s.extract 1 s.size) = m := ⟨_, rfl⟩
    have hms : m.size ≤ 1000000000 := by
      rw [← hm, wordS_size, extE_list]
      have := (List.take_sublist (wordLen (s.data.toList.drop 1)) (s.data.toList.drop 1)).length_le
      rw [List.length_drop, len_data] at this
      unfold wordT
      omega
    rw [hm] at hT
    have HM := Hid.mk' hm
    clear hm
    go_enter Try.func87, Try.ntmps87
    go_wp2_with (first
      | (go_at_call 82; refine (has_prefix _ _ _ (by omega)).mono ?_; rintro e w' ⟨rfl, rfl⟩)
      | (go_at_call 85; refine (tok_word_is _ m _ (by simp; omega) HM.out).mono ?_; rintro e w' ⟨rfl, rfl⟩))
    refine (tok_name _ _ (by omega)).mono ?_
    rintro e w1 ⟨rfl, hb⟩
    obtain ⟨h1, h2, hb⟩ := keep2 hb
    obtain ⟨y0, y1, y2, y3, g0, g1, g2, g3⟩ := tok4 h1
    obtain ⟨x0, x1, x2, x3, _, _, _, _⟩ := tok4 h2
    clear h1 h2
    go_wp2
    · refine post_res rfl ⟨_, by (simp [results, Try.results87, go_sem, y0, y1, y2, y3]; rfl), ?_, (((hb.setCell (Nat.le_refl _) _).setCell (Nat.le_refl _) _).setCell (Nat.le_refl _) _).setCell (Nat.le_refl _) _⟩
      rw [meta_bad s m hT.out (by simp_all)]
      rfl
    · refine post_res rfl ⟨_, by (simp [results, Try.results87, go_sem, y0, y1, y2, y3]; rfl), ?_, (((hb.setCell (Nat.le_refl _) _).setCell (Nat.le_refl _) _).setCell (Nat.le_refl _) _).setCell (Nat.le_refl _) _⟩
      rw [meta_long s m hT.out (by simp_all) (by omega)]
      rfl
    · refine post_res rfl ⟨_, by (simp [results, Try.results87, go_sem, y0, y1, y2, y3]; rfl), ?_, (((hb.setCell (Nat.le_refl _) _).setCell (Nat.le_refl _) _).setCell (Nat.le_refl _) _).setCell (Nat.le_refl _) _⟩
      rw [meta_good s m 1 HN.out hT.out (by simp_all) (by omega)]
      rfl
end Go.Proofs.Ytlnoadnejefmoaa
