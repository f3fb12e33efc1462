import Derived.Test.YtlnoadnejefmoaaRefE
import Derived.Deep.QuietTactic
import Derived.BigQuiet
import Derived.Deep.RegionWith
set_option linter.unusedVariables false
set_option linter.unusedSimpArgs false
namespace Go.Proofs.Ytlnoadnejefmoaa
open Go.RowKit Go.Proofs.YtlnoadnejefmoaaW.PrintWords

theorem rd_cons (pat : Bool) (s : ByteArray) (p : Nat) (hp : p < s.size) : rdTok pat (s.data.toList.drop p) =
    if isLetterI s[p].toNat then wordR (s.data.toList.drop p) else if isDigitI s[p].toNat then intR (s.data.toList.drop p) else if s[p].toNat = 34 then litR (s.data.toList.drop p) else if s[p].toNat = 36 ∧ pat = true then metaR (s.data.toList.drop p) else markR (s.data.toList.drop p) := by
  have e := byte_at s p hp
  unfold rdTok
  rw [e]

theorem word_res (s m : ByteArray) (p N : Nat) (hN : p + wordLen (s.data.toList.drop p) = N) (hNs : N ≤ s.size) (hm : s.extract p N = m) (e k : Int) (t : ByteArray) (a b : Int)
    (h : (e = 4 ∧ kwB m = false ∧ 24 < m.size) ∨ (e = 0 ∧ ((kwB m = true ∧ k = 2) ∨ (kwB m = false ∧ m.size ≤ 24 ∧ k = 1)) ∧ t = m ∧ a = p ∧ b = N)) (hkw : kwB m = true → m.size ≤ 24) :
    RefTok (wordR (s.data.toList.drop p)) p (.returned (.tuple #[.agg #[.int .i64 k, .string t, .int .i64 a, .int .i64 b], .int .i64 e])) := by
  have hT : wordT (s.data.toList.drop p) = m.data.toList := by
    subst hN; subst hm
    unfold wordT
    rw [ext_mid, tx_list]
  have hsz : m.size = N - p := by rw [← hm]; simp; omega
  unfold wordR
  rw [hT, len_data]
  unfold kwB at h hkw
  rcases h with ⟨rfl, h1, h2⟩ | ⟨rfl, ⟨h1, rfl⟩ | ⟨h1, h2, rfl⟩, rfl, rfl, rfl⟩
  · rw [h1, if_neg (by simp), if_pos h2]
    exact ⟨_, _, _, _, rfl, fun h => absurd h (by decide)⟩
  · rw [if_pos h1]
    exact ⟨_, _, _, _, rfl, fun _ => ⟨rfl, (tx_data t).symm, rfl, by simp only; omega⟩⟩
  · rw [h1, if_neg (by simp), if_neg (by omega)]
    exact ⟨_, _, _, _, rfl, fun _ => ⟨rfl, (tx_data t).symm, rfl, by simp only; omega⟩⟩
theorem keep2d {w w1 : World} {A B : Obj} (hb : Below ((w.alloc A).alloc B).drew.heap.size ((w.alloc A).alloc B).drew w1) : w1.heap[w.heap.size]? = some A ∧ w1.heap[w.heap.size + 1]? = some B ∧ Below w.heap.size w w1 :=
  ⟨below_cells hb (by simp; omega) (two_blocks _ _ _).1, below_cells hb (by simp) (two_blocks _ _ _).2, (((Below.refl _ _).alloc (Nat.le_refl _) _).alloc (by simp) _).drew.trans (hb.mono (by simp; omega))⟩
theorem gt24 {n : Nat} (h : (24 : Int) < n) : 24 < n := by omega
theorem le24 {n : Nat} (h : (n : Int) ≤ 24) : n ≤ 24 := by omega
theorem kw_short (m : ByteArray) (h : kwB m = true) : m.size ≤ 24 := by
  unfold kwB isKwL at h
  rw [List.any_eq_true] at h
  obtain ⟨x, hx, he⟩ := h
  have he := beq_iff_eq.1 he
  have hl : m.data.toList.length = x.length := by rw [he]
  rw [len_data] at hl
  have : ∀ y ∈ kwL, y.length ≤ 24 := by decide
  have := this x hx
  omega

set_option maxHeartbeats 8000000 in
set_option maxRecDepth 100000 in
theorem ref_token_w (s : ByteArray) (p : Nat) (pat : Bool) (w : World) (hs : s.size ≤ 1000000000) (hp : p < s.size) (hl : isLetterI s[p].toNat = true) :
    Calls Try.prog 62 #[.string s, .int .i64 p, .bool pat] w fun e w' => RefTok (wordR (s.data.toList.drop p)) p e ∧ Below w.heap.size w w' := by
  obtain ⟨N, hN⟩ : ∃ N, p + wordLen (s.data.toList.drop p) = N := ⟨_, rfl⟩
  obtain ⟨m, hm⟩ : ∃ m, s.extract p N = m := ⟨_, rfl⟩
  have hNs : N ≤ s.size := by have := wordLen_le (s.data.toList.drop p); rw [List.length_drop, len_data] at this; omega
  have hN2 : p ≤ N := by omega
  have HR := Hid.mk' (word_res s m p N hN hNs hm)
  have HN := Hid.mk' hN
  clear hN
  have i2 : (p : Int) ≤ N := by omega
  have i3 : (N : Int) ≤ s.size := by omega
  have hms : m.size ≤ 1000000000 := by rw [← hm]; simp; omega
  go_enter Try.func62, Try.ntmps62
  go_wp2_with (first
    | (go_at_call 89; refine (ref_word_is s p N _ hs (by omega) HN.out).mono ?_; rintro e w' ⟨rfl, rfl⟩)
    | (go_at_call 88; refine (ref_letter _ _).mono ?_; rintro e w' ⟨rfl, rfl⟩)
    | (go_at_call 26; refine (ref_keyword _ _).mono ?_; rintro e w1 ⟨rfl, hb⟩))
  go_region_with (go_at_call 89; refine (ref_word_is s p N _ hs (by omega) HN.out).mono ?_; rintro e w' ⟨rfl, rfl⟩)
  all_goals
    go_wp2_with (first
      | (go_at_call 26; refine (ref_keyword _ _).mono ?_; rintro e w1 ⟨rfl, hb⟩; obtain ⟨h1, h2, hb⟩ := keep2d hb; obtain ⟨y0, y1, y2, y3, g0, g1, g2, g3⟩ := tok4 h1; obtain ⟨x0, x1, x2, x3, f0, f1, f2, f3⟩ := tok4 h2; clear h1 h2))
  all_goals
    first
    | (have hkt : kwB m = true := by assumption
       have hle := kw_short m hkt
       first
       | (exfalso; have hgt : (24 : Int) < m.size := by assumption
          exact absurd (gt24 hgt) (Nat.not_lt.2 hle))
       | (refine post_res rfl ⟨_, by (simp [results, Try.results62, go_sem, y0, y1, y2, y3]; exact ⟨⟨rfl, rfl, rfl, rfl⟩, rfl⟩), HR.out _ _ _ _ _ ?_ (kw_short m), ((((hb.setCell (Nat.le_succ _) _).setCell (Nat.le_refl _) _).setCell (Nat.le_refl _) _).setCell (Nat.le_refl _) _).setCell (Nat.le_refl _) _⟩
          exact .inr ⟨rfl, .inl ⟨hkt, rfl⟩, rfl, rfl, rfl⟩))
    | (have hkf : kwB m = false := by assumption
       refine post_res rfl ⟨_, by (simp [results, Try.results62, go_sem, y0, y1, y2, y3]; exact ⟨⟨rfl, rfl, rfl, rfl⟩, rfl⟩), HR.out _ _ _ _ _ ?_ (kw_short m), (((hb.setCell (Nat.le_refl _) _).setCell (Nat.le_refl _) _).setCell (Nat.le_refl _) _).setCell (Nat.le_refl _) _⟩
       first
       | (have hgt : (24 : Int) < m.size := by assumption
          exact .inl ⟨rfl, hkf, gt24 hgt⟩)
       | (have hgt : (m.size : Int) ≤ 24 := by assumption
          exact .inr ⟨rfl, .inr ⟨hkf, le24 hgt, rfl⟩, rfl, rfl, rfl⟩))
end Go.Proofs.Ytlnoadnejefmoaa
