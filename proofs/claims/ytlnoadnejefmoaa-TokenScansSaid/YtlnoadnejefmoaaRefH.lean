import Derived.Test.YtlnoadnejefmoaaRefG
import Derived.Test.YtlnoadnejefmoaaTokG
set_option linter.unusedVariables false
set_option linter.unusedSimpArgs false
namespace Go.Proofs.Ytlnoadnejefmoaa
open Go.RowKit Go.Proofs.YtlnoadnejefmoaaW.PrintWords

theorem R_empty {α : Type} (d : Kd α) (e : Nat) (W : World) (b : Nat) (hb : b ≤ W.heap.size) : d.R e (W.alloc (.cells #[] e)) b (fun _ => True) (.slice (some ⟨W.heap.size, 0, none⟩) 0 0) [] :=
  ⟨fun _ _ => trivial, [], ⟨by simp, .inr ⟨W.heap.size, 0, #[], rfl, hb, Go.heap_alloc_new _ _, Nat.le_refl _, by unfold maxLen; omega, by simp, by simp⟩⟩, Reps.none _ _⟩

set_option maxHeartbeats 4000000 in
set_option maxRecDepth 100000 in
theorem ref_scan (s : ByteArray) (pat : Bool) (w : World) (hs : s.size ≤ 1000000000) (r : SR) (hr : Hid (scanR pat s.data.toList = r)) :
    Calls Try.prog 45 #[.string s, .bool pat] w fun e w' => ∃ v, e = .returned (.tuple #[v, .int .i64 r.off, .int .i64 r.err]) ∧ Kd.R kTok 33 w' w.heap.size (fun _ => True) v r.toks ∧ Below w.heap.size w w' := by
  obtain ⟨k0, hk0⟩ : ∃ k0, 0 + skipGo false (s.data.toList.drop 0) = k0 := ⟨_, rfl⟩
  have hsk : k0 ≤ s.size := by have h := skipGo_le (s.data.toList.drop 0) false; rw [List.length_drop, len_data] at h; omega
  have HK := Hid.mk' hk0
  clear hk0
  go_enter Try.func45, Try.ntmps45
  go_wp2_with (first
      | (go_at_call 61; refine (ref_skip s 0 k0 _ hs (by omega) HK).mono ?_; rintro e w' ⟨rfl, rfl⟩))
  go_loopw [7, 8] (fun v i wr => ∃ (k f : Nat) (acc : List Tok), i = .int .i64 k ∧ k ≤ s.size ∧ Kd.R kTok 33 wr w.heap.size (fun _ => True) v acc ∧ Below w.heap.size w wr ∧ w.heap.size ≤ wr.heap.size ∧ s.size - k < f ∧ acc.length ≤ 600 ∧ Hid (scanW pat f (s.data.toList.drop k) k acc = r)) (fun _ i _ => s.size - (intOf i).toNat)
  case atStart => exact ⟨k0, s.size + 1, [], rfl, hsk, R_empty _ _ _ _ (Nat.le_refl _), (Below.refl _ _).alloc (Nat.le_refl _) _, by simp, by omega, by simp, show _ = _ by rw [← hr.out, ← HK.out]; unfold scanR; rw [len_data, Nat.zero_add, List.drop_zero]⟩
  case round =>
    obtain ⟨k, f, acc, rfl, hk, hR, hbl, hsz, hf, hal, hinv⟩ := hrel
    obtain ⟨A, c, rfl⟩ := Kd.R_slice hR
    by_cases hlt : k < s.size
    · obtain ⟨r1, hr1⟩ : ∃ r1, rdTok pat (s.data.toList.drop k) = r1 := ⟨_, rfl⟩
      have HTOK : Hid (∀ w1, Calls Try.prog 62 #[.string s, .int .i64 k, .bool pat] w1 fun e w' => RefTok r1 k e ∧ Below w1.heap.size w1 w') := fun w1 => ref_token s k pat w1 hs hlt r1 hr1
      have HR1 := Hid.mk' hr1
      clear hr1
      by_cases he : r1.err = 0
      · have he1 : (r1.err == 0) = true := by rw [he]; rfl
        have hl := HR1.out ▸ rdTok_len pat (s.data.toList.drop k) (by rw [HR1.out]; exact he)
        rw [List.length_drop, len_data] at hl
        obtain ⟨N, hN⟩ : ∃ N, k + r1.len = N := ⟨_, rfl⟩
        have hN1 : k < N := by omega
        have hN2 : N ≤ s.size := by omega
        clear hl
        obtain ⟨j, hj⟩ : ∃ j, N + skipGo false (s.data.toList.drop N) = j := ⟨_, rfl⟩
        have hj1 : j ≤ s.size := by have h := skipGo_le (s.data.toList.drop N) false; rw [List.length_drop, len_data] at h; omega
        have hj2 : N ≤ j := by omega
        have HT2 : Hid (∀ w1, Calls Try.prog 62 #[.string s, .int .i64 k, .bool pat] w1 fun e w' => e = .returned (.tuple #[.agg #[.int .i64 r1.kind, .string (tx r1.text), .int .i64 k, .int .i64 N], .int .i64 r1.err]) ∧ Below w1.heap.size w1 w') := fun w1 => (HTOK.out w1).mono (by
          rintro e w' ⟨⟨k', t, a, b, rfl, hh⟩, hb⟩
          obtain ⟨rfl, rfl, rfl, rfl⟩ := hh he
          rw [hN]
          exact ⟨rfl, hb⟩)
        have HJ := Hid.mk' hj
        have HN := Hid.mk' hN
        clear hj hN HTOK
        by_cases h6 : acc.length = 600
        · have HE := Hid.mk' he
          have H6 := Hid.mk' h6
          have h6b : (600 : Int) ≤ acc.length := by omega
          clear he h6
          go_wp2_with (go_at_call 62; refine (HT2.out _).mono ?_; rintro e w1 ⟨rfl, hb⟩)
          go_ret3
          have hrr : r = ⟨[], k, 4⟩ := by
            rw [← hinv.out]
            exact scan_full pat f _ k acc (by omega) (by rw [List.length_drop, len_data]; omega) (by rw [HR1.out]; exact HE.out) H6.out
          subst hrr
          exact ⟨_, rfl, Kd.R_nil _ _ _ _ _, (hbl.trans (hb.mono hsz)).alloc (by have := hb.size; omega) _⟩
        · have HE := Hid.mk' he
          have h6b : ¬ ((600 : Int) ≤ acc.length) := by omega
          have h6n : acc.length < 600 := by omega
          clear he h6
          go_wp2_with (first
            | (go_at_call 62; refine (HT2.out _).mono ?_; rintro e w1 ⟨rfl, hb⟩)
            | (at_builtin; refine Kd.R_append kTok (w0 := w) w.heap.size rfl _ _ 23 33 (.agg #[(.int .i64 0), (.string ⟨#[]⟩), (.int .i64 0), (.int .i64 0)]) 40 rfl Try.underlying23 info_tok rfl (by decide) (by omega) (.slice A acc.length c) acc ⟨r1.kind, tx r1.text, k, N⟩ _ (fun _ => True) (fun _ => False) rfl ?aX ?aP (fun _ hk => hk.elim) ?aF ?aO ?aB ?aS ?aL ?_))
          case aX => simp [Act.eval]
          case aP => exact kTok_mkM _ _ _ _
          case aF => exact fun _ _ => trivial
          case aO => exact Kd.R_below (Kd.R_below hR hb) ((Below.refl _ _).alloc (Nat.le_refl _) _)
          case aB => exact ((hbl.trans (hb.mono hsz)).alloc (by have := hb.size; omega) _)
          case aS => have := hb.size; simp; omega
          case aL => omega
          intro v2 w2 hR2 hb2 hg hat
          have hT : w2.heap[w1.heap.size]? = some (.cells #[.int .i64 r1.kind, .string (tx r1.text), .int .i64 k, .int .i64 N] 33 (0, 0)) := by
            rw [hg.block _ (by simp) ?_]
            · exact Go.heap_alloc_new _ _
            · intro e
              obtain ⟨inner, ho⟩ := Kd.R_own hR
              have := own_lt ho _ e.symm
              have := hb.size
              omega
          obtain ⟨y0, y1, y2, y3, g0, g1, g2, g3⟩ := tok4 hT
          have hs2 := hg.size
          have hs1 := hb.size
          simp at hs2
          clear hT hg hat
          go_wp2_with (go_at_call 61; refine (ref_skip s N j _ hs hN2 HJ).mono ?_; rintro e w' ⟨rfl, rfl⟩)
          go_roundw
          case rel => exact ⟨j, f - 1, _, by go_num, by omega, hR2, hb2, by omega, by omega, by simp; omega, show _ = _ by
            have hj := HJ.out
            have hn := HN.out
            rw [← hinv.out, scan_step pat f _ k acc (by omega) (by rw [List.length_drop, len_data]; omega) (by rw [HR1.out]; exact HE.out) (by omega)]
            have e1 : (s.data.toList.drop k).drop r1.len = s.data.toList.drop N := by rw [List.drop_drop, hn]
            rw [HR1.out, e1, List.drop_drop, hn, hj]⟩
          case measure => simp [intOf]; omega
      · have he1 : (r1.err == 0) = false := by rw [beq_eq_false_iff_ne]; exact he
        have HE := Hid.mk' he
        clear he
        go_wp2_with (go_at_call 62; refine (HTOK.out _).mono ?_; rintro e w1 ⟨⟨k', t, a, b, rfl, hh⟩, hb⟩)
        go_ret3
        have hrr : r = ⟨[], k, r1.err⟩ := by
          rw [← hinv.out, ← HR1.out]
          exact scan_bad pat f _ k acc (by omega) (by rw [List.length_drop, len_data]; omega) (by rw [HR1.out]; exact HE.out)
        subst hrr
        exact ⟨_, rfl, Kd.R_nil _ _ _ _ _, (hbl.trans (hb.mono hsz)).alloc (by have := hb.size; omega) _⟩
    · go_wp2
      go_ret3
      have hrr : r = ⟨acc, 0, 0⟩ := by
        rw [← hinv.out, List.drop_eq_nil_of_le (by rw [len_data]; omega)]
        exact scan_end pat f k acc
      subst hrr
      exact ⟨_, rfl, hR, hbl⟩

theorem ref_Scan (s : ByteArray) (w : World) (hs : s.size ≤ 1000000000) (r : SR) (hr : scanR false s.data.toList = r) :
    Calls Try.prog 15 #[.string s] w fun e w' => ∃ v, e = .returned (.tuple #[v, .int .i64 r.off, .int .i64 r.err]) ∧ Kd.R kTok 33 w' w.heap.size (fun _ => True) v r.toks ∧ Below w.heap.size w w' := by
  have HR := Hid.mk' hr
  clear hr
  go_enter Try.func15, Try.ntmps15
  go_wp2_with (go_at_call 45; refine (ref_scan s false _ hs r HR).mono ?_; rintro e w1 ⟨v, rfl, h1, h2⟩)
  go_ret3
  exact ⟨_, rfl, h1, h2⟩
theorem ref_ScanPattern (s : ByteArray) (w : World) (hs : s.size ≤ 1000000000) (r : SR) (hr : scanR true s.data.toList = r) :
    Calls Try.prog 18 #[.string s] w fun e w' => ∃ v, e = .returned (.tuple #[v, .int .i64 r.off, .int .i64 r.err]) ∧ Kd.R kTok 33 w' w.heap.size (fun _ => True) v r.toks ∧ Below w.heap.size w w' := by
  have HR := Hid.mk' hr
  clear hr
  go_enter Try.func18, Try.ntmps18
  go_wp2_with (go_at_call 45; refine (ref_scan s true _ hs r HR).mono ?_; rintro e w1 ⟨v, rfl, h1, h2⟩)
  go_ret3
  exact ⟨_, rfl, h1, h2⟩
end Go.Proofs.Ytlnoadnejefmoaa
