import Derived.Test.YtlnoadnejefmoaaTokF
import Derived.Test.YtlnoadnejefmoaaTokK
import Derived.Deep.QuietTactic
import Derived.BigQuiet
import Derived.IntWalk
set_option linter.unusedVariables false
set_option linter.unusedSimpArgs false
namespace Go.Proofs.Ytlnoadnejefmoaa
open Go.RowKit Go.Proofs.YtlnoadnejefmoaaW.PrintWords

theorem scan_step (pat : Bool) (f : Nat) (l : List UInt8) (k : Nat) (acc : List Tok) (hf : 0 < f) (hl : 0 < l.length) (he : (rdTok pat l).err = 0) (ha : acc.length < 600) :
    scanW pat f l k acc = scanW pat (f - 1) ((l.drop (rdTok pat l).len).drop (skipGo false (l.drop (rdTok pat l).len))) (k + (rdTok pat l).len + skipGo false (l.drop (rdTok pat l).len))
      (acc ++ [⟨(rdTok pat l).kind, tx (rdTok pat l).text, k, (k + (rdTok pat l).len : Nat)⟩]) := by
  obtain ⟨f, rfl⟩ : ∃ g, f = g + 1 := ⟨f - 1, by omega⟩
  cases l with
  | nil => simp at hl
  | cons c t =>
    rw [scanW]
    · rw [if_pos he, if_neg (by omega)]
      rfl
    · simp
theorem scan_full (pat : Bool) (f : Nat) (l : List UInt8) (k : Nat) (acc : List Tok) (hf : 0 < f) (hl : 0 < l.length) (he : (rdTok pat l).err = 0) (ha : acc.length = 600) : scanW pat f l k acc = ⟨[], k, 4⟩ := by
  obtain ⟨f, rfl⟩ : ∃ g, f = g + 1 := ⟨f - 1, by omega⟩
  cases l with
  | nil => simp at hl
  | cons c t =>
    rw [scanW]
    · rw [if_pos he, if_pos (by omega)]
    · simp
theorem scan_bad (pat : Bool) (f : Nat) (l : List UInt8) (k : Nat) (acc : List Tok) (hf : 0 < f) (hl : 0 < l.length) (he : (rdTok pat l).err ≠ 0) : scanW pat f l k acc = ⟨[], k, (rdTok pat l).err⟩ := by
  obtain ⟨f, rfl⟩ : ∃ g, f = g + 1 := ⟨f - 1, by omega⟩
  cases l with
  | nil => simp at hl
  | cons c t =>
    rw [scanW]
    · rw [if_neg he]
    · simp
theorem scan_end (pat : Bool) (f : Nat) (k : Nat) (acc : List Tok) : scanW pat f [] k acc = ⟨acc, 0, 0⟩ := by cases f <;> rfl

set_option maxHeartbeats 4000000 in
set_option maxRecDepth 100000 in
theorem tok_scan (s : ByteArray) (pat : Bool) (w : World) (hs : s.size ≤ 1000000000) (r : SR) (hr : Hid (scanR pat s.data.toList = r)) :
    Calls Try.prog 44 #[.string s, .bool pat] w fun e w' => ∃ v, e = .returned (.tuple #[v, .int .i64 r.off, .int .i64 r.err]) ∧ Kd.R kTok 33 w' w.heap.size (fun _ => True) v r.toks ∧ Below w.heap.size w w' := by
  have hsk := skipGo_le s.data.toList false
  rw [len_data] at hsk
  obtain ⟨k0, hk0⟩ : ∃ k0, skipB s = k0 := ⟨_, rfl⟩
  have hsk : k0 ≤ s.size := by rw [← hk0]; exact hsk
  have HK := Hid.mk' hk0
  clear hk0
  go_enter Try.func44, Try.ntmps44
  go_wp2_with (first
      | (go_at_call 59; refine (tok_skip_is _ k0 _ (by omega) HK.out).mono ?_; rintro e w' ⟨rfl, rfl⟩))
  go_loopw [7, 8] (fun v i wr => ∃ (k f : Nat) (acc : List Tok), i = .int .i64 k ∧ k ≤ s.size ∧ Kd.R kTok 33 wr w.heap.size (fun _ => True) v acc ∧ Below w.heap.size w wr ∧ w.heap.size ≤ wr.heap.size ∧ s.size - k < f ∧ acc.length ≤ 600 ∧ Hid (scanW pat f (s.data.toList.drop k) k acc = r)) (fun _ i _ => s.size - (intOf i).toNat)
  case atStart => exact ⟨k0, s.size + 1, [], rfl, hsk, Kd.R_nil _ _ _ _ _, Below.refl _ _, Nat.le_refl _, by omega, by simp, show _ = _ by rw [← hr.out, ← HK.out]; unfold scanR skipB; rw [len_data]⟩
  case round =>
    obtain ⟨k, f, acc, rfl, hk, hR, hbl, hsz, hf, hal, hinv⟩ := hrel
    obtain ⟨A, c, rfl⟩ := Kd.R_slice hR
    by_cases hlt : k < s.size
    · obtain ⟨r1, hr1⟩ : ∃ r1, rdTok pat (s.data.toList.drop k) = r1 := ⟨_, rfl⟩
      have hREAD : Hid (∀ w1, Calls Try.prog 60 #[.string (s.extract k s.size), .bool pat] w1 fun e w' => e = .returned (.tuple #[.agg #[.int .i64 r1.kind, .string (tx r1.text), .int .i64 0, .int .i64 r1.len], .int .i64 r1.err]) ∧ Below w1.heap.size w1 w') :=
        fun w1 => tok_is (by rw [extE_list]; exact hr1) (tok_read _ pat w1 (by simp; omega) (by simp; omega))
      have HR1 := Hid.mk' hr1
      clear hr1
      by_cases he : r1.err = 0
      · have he1 : (r1.err == 0) = true := by rw [he]; rfl
        have hl := HR1.out ▸ rdTok_len pat (s.data.toList.drop k) (by rw [HR1.out]; exact he)
        rw [List.length_drop, len_data] at hl
        obtain ⟨m, hm⟩ : ∃ m, r1.len = m := ⟨_, rfl⟩
        rw [hm] at hl hREAD
        have hm1 : 0 < m := hl.1
        have hm2 : k + m ≤ s.size := by omega
        have HM := Hid.mk' hm
        clear hl hm
        obtain ⟨j, hj⟩ : ∃ j, skipB (s.extract (k + m) s.size) = j := ⟨_, rfl⟩
        have hj1 : k + m + j ≤ s.size := by
          have h := skipGo_le (s.extract (k + m) s.size).data.toList false
          rw [extE_list, List.length_drop, len_data] at h
          rw [← hj]
          unfold skipB
          rw [extE_list]
          omega
        have hSKIP : Hid (∀ w1, Calls Try.prog 59 #[.string (s.extract (k + m) s.size)] w1 fun e w' => e = .returned (.int .i64 j) ∧ w1 = w') := fun w1 => tok_skip_is _ j w1 (by simp; omega) hj
        have HJ := Hid.mk' hj
        clear hj
        by_cases h6 : acc.length = 600
        · have HE := Hid.mk' he
          have H6 := Hid.mk' h6
          have h6b : ((acc.length : Int) == 600) = true := by rw [h6]; rfl
          clear he h6
          go_wp2_with (go_at_call 60; refine (hREAD.out _).mono ?_; rintro e w1 ⟨rfl, hb⟩)
          go_ret3
          have hrr : r = ⟨[], k, 4⟩ := by
            rw [← hinv.out]
            exact scan_full pat f _ k acc (by omega) (by rw [List.length_drop, len_data]; omega) (by rw [HR1.out]; exact HE.out) H6.out
          subst hrr
          exact ⟨_, rfl, Kd.R_nil _ _ _ _ _, (hbl.trans (hb.mono hsz)).alloc (by have := hb.size; omega) _⟩
        · have HE := Hid.mk' he
          have h6b : ((acc.length : Int) == 600) = false := by rw [beq_eq_false_iff_ne]; omega
          have h6n : acc.length < 600 := by omega
          clear he h6
          go_wp2_with (first
            | (go_at_call 60; refine (hREAD.out _).mono ?_; rintro e w1 ⟨rfl, hb⟩)
            | (at_builtin; refine Kd.R_append kTok (w0 := w) w.heap.size rfl _ _ 23 33 (.agg #[(.int .i64 0), (.string ⟨#[]⟩), (.int .i64 0), (.int .i64 0)]) 40 rfl Try.underlying23 info_tok rfl (by decide) (by omega) (.slice A acc.length c) acc ⟨r1.kind, tx r1.text, k, (k : Int) + m⟩ _ (fun _ => True) (fun _ => False) rfl ?aX ?aP (fun _ hk => hk.elim) ?aF ?aO ?aB ?aS ?aL ?_))
          case aX => simp [Act.eval]
          case aP => exact kTok_mkM _ _ _ _
          case aF => exact fun _ _ => trivial
          case aO => exact Kd.R_below (Kd.R_below hR hb) ((Below.refl _ _).alloc (Nat.le_refl _) _)
          case aB => exact ((hbl.trans (hb.mono hsz)).alloc (by have := hb.size; omega) _)
          case aS => have := hb.size; simp; omega
          case aL => omega
          intro v2 w2 hR2 hb2 hg hat
          have hT : w2.heap[w1.heap.size]? = some (.cells #[.int .i64 r1.kind, .string (tx r1.text), .int .i64 k, .int .i64 ((k : Int) + m)] 33 (0, 0)) := by
            rw [hg.block _ (by simp) ?_]
            · exact Go.heap_alloc_new _ _
            · intro e
              obtain ⟨inner, ho⟩ := Kd.R_own hR
              have := own_lt ho _ e.symm
              have := hb.size
              omega
          obtain ⟨y0, y1, y2, y3, g0, g1, g2, g3⟩ := tok4 hT
          have hs2 := hg.size
          have hs1 := hb.size
          simp at hs2
          clear hT hg hat
          have hmi : 0 ≤ (k : Int) + m := by omega
          have hmj : ((k : Int) + m).toNat = k + m := by omega
          have hsum : IntKind.i64.wrap ((k : Int) + m + j) = (k : Int) + m + j := IntWalk.i64_in _ (by omega)
          go_wp2
          go_quiet ((go_at_call 59; exact Calls.quiet_of_same ((hSKIP.out _).mono fun e w' h => ⟨h.1, h.2.symm⟩)))
          clear hsum hmj
          go_wp2
          go_roundw
          case rel => exact ⟨k + m + j, f - 1, _, by go_num, by omega, by first | exact Kd.R_drewN hR2 _ | exact hR2, by first | exact pw_below_drewN hb2 _ | exact hb2, by simp; omega, by omega, by simp; omega, show _ = _ by
            rw [← hinv.out, scan_step pat f _ k acc (by omega) (by rw [List.length_drop, len_data]; omega) (by rw [HR1.out]; exact HE.out) (by omega)]
            have hj := HJ.out
            unfold skipB at hj
            rw [extE_list, ← List.drop_drop] at hj
            rw [HR1.out, HM.out, hj, List.drop_drop, List.drop_drop, Int.natCast_add, ← Nat.add_assoc]⟩
          case measure => simp [intOf]; omega
      · have he1 : (r1.err == 0) = false := by rw [beq_eq_false_iff_ne]; exact he
        have HE := Hid.mk' he
        clear he
        go_wp2_with (go_at_call 60; refine (hREAD.out _).mono ?_; rintro e w1 ⟨rfl, hb⟩)
        go_ret3
        have hrr : r = ⟨[], k, r1.err⟩ := by
          rw [← hinv.out, ← HR1.out]
          exact scan_bad pat f _ k acc (by omega) (by rw [List.length_drop, len_data]; omega) (by rw [HR1.out]; exact HE.out)
        subst hrr
        exact ⟨_, rfl, Kd.R_nil _ _ _ _ _, (hbl.trans (hb.mono hsz)).alloc (by have := hb.size; omega) _⟩
    · go_wp2
      go_ret3
      have hrr : r = ⟨acc, 0, 0⟩ := by
        rw [← hinv.out, List.drop_eq_nil_of_le (by rw [len_data]; omega)]
        exact scan_end pat f k acc
      subst hrr
      exact ⟨_, rfl, hR, hbl⟩

theorem tok_Scan (s : ByteArray) (w : World) (hs : s.size ≤ 1000000000) (r : SR) (hr : scanR false s.data.toList = r) :
    Calls Try.prog 14 #[.string s] w fun e w' => ∃ v, e = .returned (.tuple #[v, .int .i64 r.off, .int .i64 r.err]) ∧ Kd.R kTok 33 w' w.heap.size (fun _ => True) v r.toks ∧ Below w.heap.size w w' := by
  have HR := Hid.mk' hr
  clear hr
  go_enter Try.func14, Try.ntmps14
  go_wp2_with (go_at_call 44; refine (tok_scan s false _ hs r HR).mono ?_; rintro e w1 ⟨v, rfl, h1, h2⟩)
  go_ret3
  exact ⟨_, rfl, h1, h2⟩
theorem tok_ScanPattern (s : ByteArray) (w : World) (hs : s.size ≤ 1000000000) (r : SR) (hr : scanR true s.data.toList = r) :
    Calls Try.prog 17 #[.string s] w fun e w' => ∃ v, e = .returned (.tuple #[v, .int .i64 r.off, .int .i64 r.err]) ∧ Kd.R kTok 33 w' w.heap.size (fun _ => True) v r.toks ∧ Below w.heap.size w w' := by
  have HR := Hid.mk' hr
  clear hr
  go_enter Try.func17, Try.ntmps17
  go_wp2_with (go_at_call 44; refine (tok_scan s true _ hs r HR).mono ?_; rintro e w1 ⟨v, rfl, h1, h2⟩)
  go_ret3
  exact ⟨_, rfl, h1, h2⟩
end Go.Proofs.Ytlnoadnejefmoaa
