import Derived.Test.YtlnoadnejefmoaaRefF
set_option linter.unusedVariables false
set_option linter.unusedSimpArgs false
namespace Go.Proofs.Ytlnoadnejefmoaa
open Go.RowKit Go.Proofs.YtlnoadnejefmoaaW.PrintWords

set_option maxHeartbeats 2000000 in
set_option maxRecDepth 100000 in
theorem ref_token_d (s : ByteArray) (p : Nat) (pat : Bool) (w : World) (hs : s.size ≤ 1000000000) (hp : p < s.size) (hl : isLetterI s[p].toNat = false) (hd : isDigitI s[p].toNat = true) :
    Calls Try.prog 62 #[.string s, .int .i64 p, .bool pat] w fun e w' => RefTok (intR (s.data.toList.drop p)) p e ∧ Below w.heap.size w w' := by
  go_enter Try.func62, Try.ntmps62
  go_wp2_with (first
    | (go_at_call 88; refine (ref_letter _ _).mono ?_; rintro e w' ⟨rfl, rfl⟩)
    | (go_at_call 90; refine (ref_digit _ _).mono ?_; rintro e w' ⟨rfl, rfl⟩)
    | (go_at_call 91; refine (ref_number s p _ hs hp).mono ?_; rintro e w1 ⟨⟨k, t, a, b, rfl, hR⟩, hb⟩; obtain ⟨h1, hb⟩ := keep1 hb; obtain ⟨y0, y1, y2, y3, g0, g1, g2, g3⟩ := tok4 h1; clear h1))
  refine post_res rfl ⟨_, by (simp [results, Try.results62, go_sem, y0, y1, y2, y3]), ⟨_, _, _, _, rfl, hR⟩, (((hb.setCell (Nat.le_refl _) _).setCell (Nat.le_refl _) _).setCell (Nat.le_refl _) _).setCell (Nat.le_refl _) _⟩

set_option maxHeartbeats 2000000 in
set_option maxRecDepth 100000 in
theorem ref_token_q (s : ByteArray) (p : Nat) (pat : Bool) (w : World) (hs : s.size ≤ 1000000000) (hp : p < s.size) (hl : isLetterI s[p].toNat = false) (hd : isDigitI s[p].toNat = false) (hq : ((s[p].toNat : Int) == 34) = true) (r : RT) (hr : Hid (litR (s.data.toList.drop p) = r)) :
    Calls Try.prog 62 #[.string s, .int .i64 p, .bool pat] w fun e w' => RefTok r p e ∧ Below w.heap.size w w' := by
  go_enter Try.func62, Try.ntmps62
  go_wp2_with (first
    | (go_at_call 88; refine (ref_letter _ _).mono ?_; rintro e w' ⟨rfl, rfl⟩)
    | (go_at_call 90; refine (ref_digit _ _).mono ?_; rintro e w' ⟨rfl, rfl⟩)
    | (go_at_call 92; refine (ref_literal s p _ hs hp r hr).mono ?_; rintro e w1 ⟨⟨k, t, a, b, rfl, hR⟩, hb⟩; obtain ⟨h1, hb⟩ := keep1 hb; obtain ⟨y0, y1, y2, y3, g0, g1, g2, g3⟩ := tok4 h1; clear h1))
  refine post_res rfl ⟨_, by (simp [results, Try.results62, go_sem, y0, y1, y2, y3]), ⟨_, _, _, _, rfl, hR⟩, (((hb.setCell (Nat.le_refl _) _).setCell (Nat.le_refl _) _).setCell (Nat.le_refl _) _).setCell (Nat.le_refl _) _⟩

set_option maxHeartbeats 2000000 in
set_option maxRecDepth 100000 in
theorem ref_token_m (s : ByteArray) (p : Nat) (w : World) (hs : s.size ≤ 1000000000) (hp : p < s.size) (hl : isLetterI s[p].toNat = false) (hd : isDigitI s[p].toNat = false) (hq : ((s[p].toNat : Int) == 34) = false) (h36 : ((s[p].toNat : Int) == 36) = true) :
    Calls Try.prog 62 #[.string s, .int .i64 p, .bool true] w fun e w' => RefTok (metaR (s.data.toList.drop p)) p e ∧ Below w.heap.size w w' := by
  go_enter Try.func62, Try.ntmps62
  go_wp2_with (first
    | (go_at_call 88; refine (ref_letter _ _).mono ?_; rintro e w' ⟨rfl, rfl⟩)
    | (go_at_call 90; refine (ref_digit _ _).mono ?_; rintro e w' ⟨rfl, rfl⟩)
    | (go_at_call 93; refine (ref_meta s p _ hs hp).mono ?_; rintro e w1 ⟨⟨k, t, a, b, rfl, hR⟩, hb⟩; obtain ⟨h1, hb⟩ := keep1 hb; obtain ⟨y0, y1, y2, y3, g0, g1, g2, g3⟩ := tok4 h1; clear h1))
  refine post_res rfl ⟨_, by (simp [results, Try.results62, go_sem, y0, y1, y2, y3]), ⟨_, _, _, _, rfl, hR⟩, (((hb.setCell (Nat.le_refl _) _).setCell (Nat.le_refl _) _).setCell (Nat.le_refl _) _).setCell (Nat.le_refl _) _⟩

theorem heap_lt {w : World} {b : Nat} {o : Obj} (h : w.heap[b]? = some o) : b < w.heap.size := (Array.getElem?_eq_some_iff.1 h).1
theorem mark_res (s m1 : ByteArray) (p : Nat) (hp : p < s.size) (h1 : s.extract p (p + 1) = m1) (e k : Int) (t : ByteArray) (a b : Int)
    (h : (e = 0 ∧ k = 5 ∧ p + 2 ≤ s.size ∧ markB t = true ∧ t = s.extract p (p + 2) ∧ a = p ∧ b = p + 2) ∨ (e = 0 ∧ k = 5 ∧ (p + 2 ≤ s.size → markB (s.extract p (p + 2)) = false) ∧ markB m1 = true ∧ t = m1 ∧ a = p ∧ b = p + 1) ∨
      (e = 11 ∧ (p + 2 ≤ s.size → markB (s.extract p (p + 2)) = false) ∧ markB m1 = false)) :
    RefTok (markR (s.data.toList.drop p)) p (.returned (.tuple #[.agg #[.int .i64 k, .string t, .int .i64 a, .int .i64 b], .int .i64 e])) := by
  obtain ⟨l, hl⟩ : ∃ l, s.data.toList.drop p = l := ⟨_, rfl⟩
  have hll : l.length = s.size - p := by rw [← hl, List.length_drop, len_data]
  have e1 : m1.data.toList = l.take 1 := by rw [← h1, ext_mid, tx_list, hl]
  have e2 : s.extract p (p + 2) = tx (l.take 2) := by rw [ext_mid, hl]
  have hshort : ¬ p + 2 ≤ s.size → l.take 2 = l.take 1 := fun h => by rw [List.take_of_length_le (by omega), List.take_of_length_le (by omega)]
  have hl1 : (l.take 1).length = 1 := by rw [List.length_take]; omega
  rw [hl]
  unfold markR
  unfold markB at h
  rw [e2, e1, tx_list] at h
  rcases h with ⟨rfl, rfl, h2, hm, rfl, rfl, rfl⟩ | ⟨rfl, rfl, h2, hm, rfl, rfl, rfl⟩ | ⟨rfl, h2, hm⟩
  · rw [tx_list] at hm
    rw [if_pos hm]
    exact ⟨_, _, _, _, rfl, fun _ => ⟨rfl, rfl, rfl, by simp only [List.length_take]; omega⟩⟩
  · by_cases h3 : p + 2 ≤ s.size
    · rw [h2 h3, if_neg (by simp), if_pos hm]
      exact ⟨_, _, _, _, rfl, fun _ => ⟨rfl, by rw [← tx_data t, e1], rfl, rfl⟩⟩
    · rw [hshort h3, if_pos hm]
      exact ⟨_, _, _, _, rfl, fun _ => ⟨rfl, by rw [← tx_data t, e1], rfl, by rw [hl1]; rfl⟩⟩
  · by_cases h3 : p + 2 ≤ s.size
    · rw [h2 h3, if_neg (by simp), hm, if_neg (by simp)]
      exact ⟨_, _, _, _, rfl, fun h => absurd h (by decide)⟩
    · rw [hshort h3, hm, if_neg (by simp), if_neg (by simp)]
      exact ⟨_, _, _, _, rfl, fun h => absurd h (by decide)⟩

set_option maxHeartbeats 2000000 in
set_option maxRecDepth 100000 in
theorem ref_token_k (s : ByteArray) (p : Nat) (pat : Bool) (w : World) (hs : s.size ≤ 1000000000) (hp : p < s.size) (hl : isLetterI s[p].toNat = false) (hd : isDigitI s[p].toNat = false) (hq : ((s[p].toNat : Int) == 34) = false) (h36 : pat = true → ((s[p].toNat : Int) == 36) = false) :
    Calls Try.prog 62 #[.string s, .int .i64 p, .bool pat] w fun e w' => RefTok (markR (s.data.toList.drop p)) p e ∧ Below w.heap.size w w' := by
  obtain ⟨m1, hm1⟩ : ∃ m, s.extract p (p + 1) = m := ⟨_, rfl⟩
  have HR := Hid.mk' (mark_res s m1 p hp hm1)
  have j1 : (0 : Int) ≤ (p : Int) + 1 := by omega
  have j2 : (p : Int) ≤ (p : Int) + 1 := by omega
  have j3 : (p : Int) + 1 ≤ s.size := by omega
  rcases Bool.eq_false_or_eq_true ((s[p].toNat : Int) == 36) with hdol | hdol
  · have hpf : pat = false := by cases pat; rfl; exact absurd hdol (by rw [h36 rfl]; simp)
    subst hpf
    clear h36
    rcases Nat.lt_or_ge s.size (p + 2) with h2 | h2
    · have k3 : ¬ ((p : Int) + 2 ≤ s.size) := by omega
      have k4 : ¬ (p + 2 ≤ s.size) := by omega
      go_enter Try.func62, Try.ntmps62
      go_wp2_with (first
        | (go_at_call 88; refine (ref_letter _ _).mono ?_; rintro e w' ⟨rfl, rfl⟩)
        | (go_at_call 90; refine (ref_digit _ _).mono ?_; rintro e w' ⟨rfl, rfl⟩)
        | (go_at_call 74; refine (ref_mark m1 _).mono ?_; rintro e w1 ⟨rfl, hb⟩; obtain ⟨h1, hb⟩ := keep1 hb; obtain ⟨y0, y1, y2, y3, g0, g1, g2, g3⟩ := tok4 h1; clear h1))
      all_goals
        refine post_res rfl ⟨_, by (simp [results, Try.results62, go_sem, y0, y1, y2, y3]; exact ⟨⟨rfl, rfl, rfl, rfl⟩, rfl⟩), HR.out _ _ _ _ _ ?_, (((hb.setCell (Nat.le_refl _) _).setCell (Nat.le_refl _) _).setCell (Nat.le_refl _) _).setCell (Nat.le_refl _) _⟩
        first
        | (have hm : markB m1 = true := by assumption
           exact .inr (.inl ⟨rfl, rfl, fun h => absurd h k4, hm, rfl, rfl, rfl⟩))
        | (have hm : markB m1 = false := by assumption
           exact .inr (.inr ⟨rfl, fun h => absurd h k4, hm⟩))
    · obtain ⟨m2, hm2⟩ : ∃ m, s.extract p (p + 2) = m := ⟨_, rfl⟩
      have k4 : s.extract p ((p : Int) + 2).toNat = m2 := hm2
      have k1 : (0 : Int) ≤ (p : Int) + 2 := by omega
      have k2 : (p : Int) ≤ (p : Int) + 2 := by omega
      have k3 : (p : Int) + 2 ≤ s.size := by omega
      rw [hm2] at HR
      go_enter Try.func62, Try.ntmps62
      go_wp2_with (first
        | (go_at_call 88; refine (ref_letter _ _).mono ?_; rintro e w' ⟨rfl, rfl⟩)
        | (go_at_call 90; refine (ref_digit _ _).mono ?_; rintro e w' ⟨rfl, rfl⟩)
        | (go_at_call 74; (with_reducible refine (ref_mark m2 _).mono ?_); rintro e w1 ⟨rfl, hb⟩; obtain ⟨h1, hb⟩ := keep1 hb; obtain ⟨y0, y1, y2, y3, g0, g1, g2, g3⟩ := tok4 h1)
        | (go_at_call 74; (with_reducible refine (ref_mark m1 _).mono ?_); rintro e w2 ⟨rfl, hb2⟩; replace h1 := below_cells hb2 (heap_lt h1) h1; replace hb := hb.trans (hb2.mono hb.size); obtain ⟨y0, y1, y2, y3, g0, g1, g2, g3⟩ := tok4 h1))
      all_goals
        refine post_res rfl ⟨_, by (simp [results, Try.results62, go_sem, y0, y1, y2, y3]; exact ⟨⟨rfl, rfl, rfl, rfl⟩, rfl⟩), HR.out _ _ _ _ _ ?_, (((hb.setCell (Nat.le_refl _) _).setCell (Nat.le_refl _) _).setCell (Nat.le_refl _) _).setCell (Nat.le_refl _) _⟩
        first
        | (have hm : markB m2 = true := by assumption
           exact .inl ⟨rfl, rfl, h2, hm, rfl, rfl, rfl⟩)
        | (have hn : markB m2 = false := by assumption
           have hm : markB m1 = true := by assumption
           exact .inr (.inl ⟨rfl, rfl, fun _ => hn, hm, rfl, rfl, rfl⟩))
        | (have hn : markB m2 = false := by assumption
           have hm : markB m1 = false := by assumption
           exact .inr (.inr ⟨rfl, fun _ => hn, hm⟩))
  · clear h36
    rcases Nat.lt_or_ge s.size (p + 2) with h2 | h2
    · have k3 : ¬ ((p : Int) + 2 ≤ s.size) := by omega
      have k4 : ¬ (p + 2 ≤ s.size) := by omega
      go_enter Try.func62, Try.ntmps62
      go_wp2_with (first
        | (go_at_call 88; refine (ref_letter _ _).mono ?_; rintro e w' ⟨rfl, rfl⟩)
        | (go_at_call 90; refine (ref_digit _ _).mono ?_; rintro e w' ⟨rfl, rfl⟩)
        | (go_at_call 74; refine (ref_mark m1 _).mono ?_; rintro e w1 ⟨rfl, hb⟩; obtain ⟨h1, hb⟩ := keep1 hb; obtain ⟨y0, y1, y2, y3, g0, g1, g2, g3⟩ := tok4 h1; clear h1))
      all_goals
        refine post_res rfl ⟨_, by (simp [results, Try.results62, go_sem, y0, y1, y2, y3]; exact ⟨⟨rfl, rfl, rfl, rfl⟩, rfl⟩), HR.out _ _ _ _ _ ?_, (((hb.setCell (Nat.le_refl _) _).setCell (Nat.le_refl _) _).setCell (Nat.le_refl _) _).setCell (Nat.le_refl _) _⟩
        first
        | (have hm : markB m1 = true := by assumption
           exact .inr (.inl ⟨rfl, rfl, fun h => absurd h k4, hm, rfl, rfl, rfl⟩))
        | (have hm : markB m1 = false := by assumption
           exact .inr (.inr ⟨rfl, fun h => absurd h k4, hm⟩))
    · obtain ⟨m2, hm2⟩ : ∃ m, s.extract p (p + 2) = m := ⟨_, rfl⟩
      have k4 : s.extract p ((p : Int) + 2).toNat = m2 := hm2
      have k1 : (0 : Int) ≤ (p : Int) + 2 := by omega
      have k2 : (p : Int) ≤ (p : Int) + 2 := by omega
      have k3 : (p : Int) + 2 ≤ s.size := by omega
      rw [hm2] at HR
      go_enter Try.func62, Try.ntmps62
      go_wp2_with (first
        | (go_at_call 88; refine (ref_letter _ _).mono ?_; rintro e w' ⟨rfl, rfl⟩)
        | (go_at_call 90; refine (ref_digit _ _).mono ?_; rintro e w' ⟨rfl, rfl⟩)
        | (go_at_call 74; (with_reducible refine (ref_mark m2 _).mono ?_); rintro e w1 ⟨rfl, hb⟩; obtain ⟨h1, hb⟩ := keep1 hb; obtain ⟨y0, y1, y2, y3, g0, g1, g2, g3⟩ := tok4 h1)
        | (go_at_call 74; (with_reducible refine (ref_mark m1 _).mono ?_); rintro e w2 ⟨rfl, hb2⟩; replace h1 := below_cells hb2 (heap_lt h1) h1; replace hb := hb.trans (hb2.mono hb.size); obtain ⟨y0, y1, y2, y3, g0, g1, g2, g3⟩ := tok4 h1))
      all_goals
        refine post_res rfl ⟨_, by (simp [results, Try.results62, go_sem, y0, y1, y2, y3]; exact ⟨⟨rfl, rfl, rfl, rfl⟩, rfl⟩), HR.out _ _ _ _ _ ?_, (((hb.setCell (Nat.le_refl _) _).setCell (Nat.le_refl _) _).setCell (Nat.le_refl _) _).setCell (Nat.le_refl _) _⟩
        first
        | (have hm : markB m2 = true := by assumption
           exact .inl ⟨rfl, rfl, h2, hm, rfl, rfl, rfl⟩)
        | (have hn : markB m2 = false := by assumption
           have hm : markB m1 = true := by assumption
           exact .inr (.inl ⟨rfl, rfl, fun _ => hn, hm, rfl, rfl, rfl⟩))
        | (have hn : markB m2 = false := by assumption
           have hm : markB m1 = false := by assumption
           exact .inr (.inr ⟨rfl, fun _ => hn, hm⟩))

theorem ref_token (s : ByteArray) (p : Nat) (pat : Bool) (w : World) (hs : s.size ≤ 1000000000) (hp : p < s.size) (r : RT) (hr : rdTok pat (s.data.toList.drop p) = r) :
    Calls Try.prog 62 #[.string s, .int .i64 p, .bool pat] w fun e w' => RefTok r p e ∧ Below w.heap.size w w' := by
  rw [rd_cons pat s p hp] at hr
  subst hr
  cases hl : isLetterI s[p].toNat
  · cases hd : isDigitI s[p].toNat
    · rw [if_neg (by simp), if_neg (by simp)]
      by_cases hq : s[p].toNat = 34
      · rw [if_pos hq]
        exact ref_token_q s p pat w hs hp hl hd (by rw [hq]; rfl) _ rfl
      · rw [if_neg hq]
        have hq1 : ((s[p].toNat : Int) == 34) = false := by rw [beq_eq_false_iff_ne]; omega
        by_cases hm : s[p].toNat = 36 ∧ pat = true
        · rw [if_pos hm]
          obtain ⟨hm, rfl⟩ := hm
          exact ref_token_m s p w hs hp hl hd hq1 (by rw [hm]; rfl)
        · rw [if_neg hm]
          exact ref_token_k s p pat w hs hp hl hd hq1 (fun h => by rw [beq_eq_false_iff_ne]; intro h2; exact hm ⟨by omega, h⟩)
    · rw [if_neg (by simp), if_pos rfl]
      exact ref_token_d s p pat w hs hp hl hd
  · rw [if_pos rfl]
    exact ref_token_w s p pat w hs hp hl
end Go.Proofs.Ytlnoadnejefmoaa
