import Derived.Test.YtlnoadnejefmoaaTokP
import Derived.Deep.RegionWith
set_option linter.unusedVariables false
set_option linter.unusedSimpArgs false
namespace Go.Proofs.Ytlnoadnejefmoaa
open Go.RowKit Go.Proofs.YtlnoadnejefmoaaW.PrintWords

theorem opt_if (c : Bool) (s : ByteArray) (b : Bool) (h : b = c) : OptRes (if c = true then some s.data.toList else none) (.returned (.tuple #[.string s, .bool b])) := by
  subst h
  cases b
  · exact OptRes_none _
  · have := OptRes_some s.data.toList
    rw [tx_data] at this
    exact this
theorem opt_pre (c : Bool) (P : List UInt8) (s t : ByteArray) (b : Bool) (h : b = c) (ht : t.data.toList = P ++ s.data.toList) : OptRes (if c = true then some (P ++ s.data.toList) else none) (.returned (.tuple #[.string t, .bool b])) := by
  rw [← ht]
  exact opt_if c t b h
theorem short_f {s : ByteArray} (h : nameB s = false) : (false : Bool) = shortL s.data.toList := by unfold shortL; unfold nameB at h; rw [h]; rfl
theorem short_t {s : ByteArray} (h : nameB s = true) : decide ((s.size : Int) ≤ 24) = shortL s.data.toList := by
  unfold shortL
  unfold nameB at h
  rw [h, len_data, Bool.true_and]
  apply decide_eq_decide.2
  omega
theorem intOk_nil (s : ByteArray) (h : s.size = 0) : intOk s.data.toList = false := by
  rw [List.eq_nil_of_length_eq_zero (show s.data.toList.length = 0 by rw [len_data]; exact h)]; rfl
theorem intOk_cons (s : ByteArray) (h0 : 0 < s.size) : intOk s.data.toList = (isDigitI s[0].toNat && decide ((intR s.data.toList).err = 0) && decide ((intR s.data.toList).text = s.data.toList)) := by
  have e := byte_at s 0 h0
  rw [List.drop_zero] at e
  unfold intOk
  rw [e]
theorem heap_ltQ {w : World} {b : Nat} {o : Obj} (h : w.heap[b]? = some o) : b < w.heap.size := (Array.getElem?_eq_some_iff.1 h).1
theorem int_beq (l : List UInt8) (s : ByteArray) : ((tx l).toList == s.toList) = decide (l = s.data.toList) := by
  rw [Lib.toList_data, Lib.toList_data, tx_list, Bool.eq_iff_iff, beq_iff_eq, decide_eq_true_eq]
theorem tx_eq_iff (l : List UInt8) (s : ByteArray) : tx l = s ↔ l = s.data.toList := ⟨fun h => by rw [← h]; rfl, fun h => by rw [h, tx_data]⟩

set_option maxRecDepth 100000 in
set_option maxHeartbeats 4000000 in
theorem tok_text_1 (s : ByteArray) (a b : Int) (w : World) (hs : s.size ≤ 1000000000) :
    Calls Try.prog 46 #[.agg #[.int .i64 1, .string s, .int .i64 a, .int .i64 b]] w fun e w' => OptRes (textO 1 s.data.toList) e ∧ Below w.heap.size w w' := by
  obtain ⟨r, hr⟩ : ∃ r, textO 1 s.data.toList = r := ⟨_, rfl⟩
  rw [hr]
  have HR : Hid (r = if shortL s.data.toList = true then some s.data.toList else none) := hr.symm.trans rfl
  clear hr
  cases hn : nameB s
  · go_enter Try.func46, Try.ntmps46
    go_wp2_with (first
      | (go_at_call 63; refine (tok_name _ _ (by omega)).mono ?_; rintro e w1 ⟨rfl, hb⟩; obtain ⟨h1, hb⟩ := keep1 hb; obtain ⟨y0, y1, y2, y3, g0, g1, g2, g3⟩ := tok4 h1))
    go_ret2
    exact ⟨HR.out ▸ opt_if _ s _ (short_f hn), hb⟩
  · go_enter Try.func46, Try.ntmps46
    go_wp2_with (first
      | (go_at_call 63; refine (tok_name _ _ (by omega)).mono ?_; rintro e w1 ⟨rfl, hb⟩; obtain ⟨h1, hb⟩ := keep1 hb; obtain ⟨y0, y1, y2, y3, g0, g1, g2, g3⟩ := tok4 h1))
    go_ret2
    exact ⟨HR.out ▸ opt_if _ s _ (short_t hn), hb⟩
set_option maxRecDepth 100000 in
set_option maxHeartbeats 4000000 in
theorem tok_text_6 (s : ByteArray) (a b : Int) (w : World) (hs : s.size ≤ 1000000000) :
    Calls Try.prog 46 #[.agg #[.int .i64 6, .string s, .int .i64 a, .int .i64 b]] w fun e w' => OptRes (textO 6 s.data.toList) e ∧ Below w.heap.size w w' := by
  obtain ⟨r, hr⟩ : ∃ r, textO 6 s.data.toList = r := ⟨_, rfl⟩
  rw [hr]
  have HR : Hid (r = if shortL s.data.toList = true then some (([36] : List UInt8) ++ s.data.toList) else none) := hr.symm.trans rfl
  clear hr
  cases hn : nameB s
  · go_enter Try.func46, Try.ntmps46
    go_wp2_with (first
      | (go_at_call 63; refine (tok_name _ _ (by omega)).mono ?_; rintro e w1 ⟨rfl, hb⟩; obtain ⟨h1, hb⟩ := keep1 hb; obtain ⟨y0, y1, y2, y3, g0, g1, g2, g3⟩ := tok4 h1))
    go_ret2
    exact ⟨HR.out ▸ opt_pre _ [36] s ((⟨#[36]⟩ : ByteArray) ++ s) _ (short_f hn) (by simp), hb⟩
  · go_enter Try.func46, Try.ntmps46
    go_wp2_with (first
      | (go_at_call 63; refine (tok_name _ _ (by omega)).mono ?_; rintro e w1 ⟨rfl, hb⟩; obtain ⟨h1, hb⟩ := keep1 hb; obtain ⟨y0, y1, y2, y3, g0, g1, g2, g3⟩ := tok4 h1))
    go_ret2
    exact ⟨HR.out ▸ opt_pre _ [36] s ((⟨#[36]⟩ : ByteArray) ++ s) _ (short_t hn) (by simp), hb⟩
set_option maxRecDepth 100000 in
set_option maxHeartbeats 4000000 in
theorem tok_text_7 (s : ByteArray) (a b : Int) (w : World) (hs : s.size ≤ 1000000000) :
    Calls Try.prog 46 #[.agg #[.int .i64 7, .string s, .int .i64 a, .int .i64 b]] w fun e w' => OptRes (textO 7 s.data.toList) e ∧ Below w.heap.size w w' := by
  obtain ⟨r, hr⟩ : ∃ r, textO 7 s.data.toList = r := ⟨_, rfl⟩
  rw [hr]
  have HR : Hid (r = if shortL s.data.toList = true then some (([36, 36] : List UInt8) ++ s.data.toList) else none) := hr.symm.trans rfl
  clear hr
  cases hn : nameB s
  · go_enter Try.func46, Try.ntmps46
    go_wp2_with (first
      | (go_at_call 63; refine (tok_name _ _ (by omega)).mono ?_; rintro e w1 ⟨rfl, hb⟩; obtain ⟨h1, hb⟩ := keep1 hb; obtain ⟨y0, y1, y2, y3, g0, g1, g2, g3⟩ := tok4 h1))
    go_ret2
    exact ⟨HR.out ▸ opt_pre _ [36, 36] s ((⟨#[36, 36]⟩ : ByteArray) ++ s) _ (short_f hn) (by simp), hb⟩
  · go_enter Try.func46, Try.ntmps46
    go_wp2_with (first
      | (go_at_call 63; refine (tok_name _ _ (by omega)).mono ?_; rintro e w1 ⟨rfl, hb⟩; obtain ⟨h1, hb⟩ := keep1 hb; obtain ⟨y0, y1, y2, y3, g0, g1, g2, g3⟩ := tok4 h1))
    go_ret2
    exact ⟨HR.out ▸ opt_pre _ [36, 36] s ((⟨#[36, 36]⟩ : ByteArray) ++ s) _ (short_t hn) (by simp), hb⟩
set_option maxRecDepth 100000 in
set_option maxHeartbeats 4000000 in
theorem tok_text_2 (s : ByteArray) (a b : Int) (w : World) (hs : s.size ≤ 1000000000) :
    Calls Try.prog 46 #[.agg #[.int .i64 2, .string s, .int .i64 a, .int .i64 b]] w fun e w' => OptRes (textO 2 s.data.toList) e ∧ Below w.heap.size w w' := by
  obtain ⟨r, hr⟩ : ∃ r, textO 2 s.data.toList = r := ⟨_, rfl⟩
  rw [hr]
  have HR : Hid (r = if kwB s = true then some s.data.toList else none) := hr.symm.trans rfl
  clear hr
  cases hn : nameB s
  · go_enter Try.func46, Try.ntmps46
    go_wp2_with (first
      | (go_at_call 63; refine (tok_name _ _ (by omega)).mono ?_; rintro e w1 ⟨rfl, hb⟩; obtain ⟨h1, hb⟩ := keep1 hb; obtain ⟨y0, y1, y2, y3, g0, g1, g2, g3⟩ := tok4 h1))
    go_region_with (go_at_call 25; refine (tok_keyword s _).mono ?_; rintro e w2 ⟨rfl, hb2⟩; have h2 := below_cells hb2 (heap_ltQ h1) h1; obtain ⟨x0, x1, x2, x3, f0, f1, f2, f3⟩ := tok4 h2)
    all_goals
      go_wp2
      go_ret2
      exact ⟨HR.out ▸ opt_if _ s _ rfl, hb.drew.trans (hb2.mono hb.size)⟩
  · go_enter Try.func46, Try.ntmps46
    go_wp2_with (first
      | (go_at_call 63; refine (tok_name _ _ (by omega)).mono ?_; rintro e w1 ⟨rfl, hb⟩; obtain ⟨h1, hb⟩ := keep1 hb; obtain ⟨y0, y1, y2, y3, g0, g1, g2, g3⟩ := tok4 h1))
    go_region_with (go_at_call 25; refine (tok_keyword s _).mono ?_; rintro e w2 ⟨rfl, hb2⟩; have h2 := below_cells hb2 (heap_ltQ h1) h1; obtain ⟨x0, x1, x2, x3, f0, f1, f2, f3⟩ := tok4 h2)
    all_goals
      go_wp2
      go_ret2
      exact ⟨HR.out ▸ opt_if _ s _ rfl, hb.drew.trans (hb2.mono hb.size)⟩
set_option maxRecDepth 100000 in
set_option maxHeartbeats 4000000 in
theorem tok_text_5 (s : ByteArray) (a b : Int) (w : World) (hs : s.size ≤ 1000000000) :
    Calls Try.prog 46 #[.agg #[.int .i64 5, .string s, .int .i64 a, .int .i64 b]] w fun e w' => OptRes (textO 5 s.data.toList) e ∧ Below w.heap.size w w' := by
  obtain ⟨r, hr⟩ : ∃ r, textO 5 s.data.toList = r := ⟨_, rfl⟩
  rw [hr]
  have HR : Hid (r = if markB s = true then some s.data.toList else none) := hr.symm.trans rfl
  clear hr
  cases hn : nameB s
  · go_enter Try.func46, Try.ntmps46
    go_wp2_with (first
      | (go_at_call 63; refine (tok_name _ _ (by omega)).mono ?_; rintro e w1 ⟨rfl, hb⟩; obtain ⟨h1, hb⟩ := keep1 hb; obtain ⟨y0, y1, y2, y3, g0, g1, g2, g3⟩ := tok4 h1))
    go_quiet ((go_at_call 67; exact Calls.quiet_of_same ((tok_mark s _).mono fun e w' h => ⟨h.1, h.2.symm⟩)))
    go_wp2
    go_ret2
    exact ⟨HR.out ▸ opt_if _ s _ rfl, pw_below_drewN hb _⟩
  · go_enter Try.func46, Try.ntmps46
    go_wp2_with (first
      | (go_at_call 63; refine (tok_name _ _ (by omega)).mono ?_; rintro e w1 ⟨rfl, hb⟩; obtain ⟨h1, hb⟩ := keep1 hb; obtain ⟨y0, y1, y2, y3, g0, g1, g2, g3⟩ := tok4 h1))
    go_quiet ((go_at_call 67; exact Calls.quiet_of_same ((tok_mark s _).mono fun e w' h => ⟨h.1, h.2.symm⟩)))
    go_wp2
    go_ret2
    exact ⟨HR.out ▸ opt_if _ s _ rfl, pw_below_drewN hb _⟩
set_option maxRecDepth 100000 in
set_option maxHeartbeats 4000000 in
theorem tok_text_4 (s : ByteArray) (a b : Int) (w : World) (hs : s.size ≤ 1000000000) :
    Calls Try.prog 46 #[.agg #[.int .i64 4, .string s, .int .i64 a, .int .i64 b]] w fun e w' => OptRes (textO 4 s.data.toList) e ∧ Below w.heap.size w w' := by
  obtain ⟨r, hr⟩ : ∃ r, textO 4 s.data.toList = r := ⟨_, rfl⟩
  rw [hr]
  have HR : Hid (r = quoteO s.data.toList) := hr.symm.trans rfl
  clear hr
  have HR2 : Hid (quoteO s.data.toList = r) := HR.out.symm
  cases hn : nameB s
  · go_enter Try.func46, Try.ntmps46
    go_wp2_with (first
      | (go_at_call 63; refine (tok_name _ _ (by omega)).mono ?_; rintro e w1 ⟨rfl, hb⟩; obtain ⟨h1, hb⟩ := keep1 hb; obtain ⟨y0, y1, y2, y3, g0, g1, g2, g3⟩ := tok4 h1)
      | (go_at_call 66; refine (tok_quote s _ _ hs HR2).mono ?_; rintro e w2 ⟨⟨s1, b1, rfl, hso⟩, hb2⟩))
    go_ret2
    exact ⟨⟨_, _, rfl, hso⟩, hb.trans (hb2.mono hb.size)⟩
  · go_enter Try.func46, Try.ntmps46
    go_wp2_with (first
      | (go_at_call 63; refine (tok_name _ _ (by omega)).mono ?_; rintro e w1 ⟨rfl, hb⟩; obtain ⟨h1, hb⟩ := keep1 hb; obtain ⟨y0, y1, y2, y3, g0, g1, g2, g3⟩ := tok4 h1)
      | (go_at_call 66; refine (tok_quote s _ _ hs HR2).mono ?_; rintro e w2 ⟨⟨s1, b1, rfl, hso⟩, hb2⟩))
    go_ret2
    exact ⟨⟨_, _, rfl, hso⟩, hb.trans (hb2.mono hb.size)⟩
set_option maxRecDepth 100000 in
set_option maxHeartbeats 4000000 in
theorem tok_text_3 (s : ByteArray) (a b : Int) (w : World) (hs : s.size ≤ 1000000000) :
    Calls Try.prog 46 #[.agg #[.int .i64 3, .string s, .int .i64 a, .int .i64 b]] w fun e w' => OptRes (textO 3 s.data.toList) e ∧ Below w.heap.size w w' := by
  obtain ⟨r, hr⟩ : ∃ r, textO 3 s.data.toList = r := ⟨_, rfl⟩
  rw [hr]
  have HR : Hid (r = if intOk s.data.toList = true then some s.data.toList else none) := hr.symm.trans rfl
  clear hr
  rcases Nat.eq_zero_or_pos s.size with h0 | h0
  · have hz := toList_nil s h0
    have H0 := Hid.mk' h0
    clear h0
    cases hn : nameB s
    · go_enter Try.func46, Try.ntmps46
      go_wp2_with (first
        | (go_at_call 63; refine (tok_name _ _ (by omega)).mono ?_; rintro e w1 ⟨rfl, hb⟩; obtain ⟨h1, hb⟩ := keep1 hb; obtain ⟨y0, y1, y2, y3, g0, g1, g2, g3⟩ := tok4 h1)
        | (go_at_call 64; refine (tok_digit _ _).mono ?_; rintro e w' ⟨rfl, rfl⟩))
      go_ret2
      have : r = none := by rw [HR.out, intOk_nil s H0.out]; rfl
      subst this
      exact ⟨OptRes_none _, hb⟩
    · go_enter Try.func46, Try.ntmps46
      go_wp2_with (first
        | (go_at_call 63; refine (tok_name _ _ (by omega)).mono ?_; rintro e w1 ⟨rfl, hb⟩; obtain ⟨h1, hb⟩ := keep1 hb; obtain ⟨y0, y1, y2, y3, g0, g1, g2, g3⟩ := tok4 h1)
        | (go_at_call 64; refine (tok_digit _ _).mono ?_; rintro e w' ⟨rfl, rfl⟩))
      go_ret2
      have : r = none := by rw [HR.out, intOk_nil s H0.out]; rfl
      subst this
      exact ⟨OptRes_none _, hb⟩
  · have hz := toList_cons s h0
    have hz2 : s.toList.isEmpty = false := by rw [Bool.eq_false_iff]; intro h; exact hz (List.isEmpty_iff.1 h)
    have hlt : (0 : Int) < s.size := by omega
    cases hd : isDigitI s[0].toNat
    · cases hn : nameB s
      · go_enter Try.func46, Try.ntmps46
        go_wp2_with (first
          | (go_at_call 63; refine (tok_name _ _ (by omega)).mono ?_; rintro e w1 ⟨rfl, hb⟩; obtain ⟨h1, hb⟩ := keep1 hb; obtain ⟨y0, y1, y2, y3, g0, g1, g2, g3⟩ := tok4 h1)
          | (go_at_call 64; refine (tok_digit _ _).mono ?_; rintro e w' ⟨rfl, rfl⟩))
        go_ret2
        have : r = none := by rw [HR.out, intOk_cons s h0, hd]; rfl
        subst this
        exact ⟨OptRes_none _, hb⟩
      · go_enter Try.func46, Try.ntmps46
        go_wp2_with (first
          | (go_at_call 63; refine (tok_name _ _ (by omega)).mono ?_; rintro e w1 ⟨rfl, hb⟩; obtain ⟨h1, hb⟩ := keep1 hb; obtain ⟨y0, y1, y2, y3, g0, g1, g2, g3⟩ := tok4 h1)
          | (go_at_call 64; refine (tok_digit _ _).mono ?_; rintro e w' ⟨rfl, rfl⟩))
        go_ret2
        have : r = none := by rw [HR.out, intOk_cons s h0, hd]; rfl
        subst this
        exact ⟨OptRes_none _, hb⟩
    · obtain ⟨r1, hr1⟩ : ∃ r1, intR s.data.toList = r1 := ⟨_, rfl⟩
      have HI := Hid.mk' hr1
      clear hr1
      by_cases he : r1.err = 0
      · have he1 : (r1.err == 0) = true := by rw [he]; rfl
        have HE := Hid.mk' he
        clear he
        cases hn : nameB s
        · go_enter Try.func46, Try.ntmps46
          go_wp2_with (first
            | (go_at_call 63; refine (tok_name _ _ (by omega)).mono ?_; rintro e w1 ⟨rfl, hb⟩; obtain ⟨h1, hb⟩ := keep1 hb; obtain ⟨y0, y1, y2, y3, g0, g1, g2, g3⟩ := tok4 h1)
            | (go_at_call 64; refine (tok_digit _ _).mono ?_; rintro e w' ⟨rfl, rfl⟩)
            | (go_at_call 65; refine (tok_is HI.out (tok_integer s _ (by omega) h0)).mono ?_; rintro e w2 ⟨rfl, hb2⟩; have h2 := below_cells hb2 (heap_ltQ h1) h1; obtain ⟨x0, x1, x2, x3, f0, f1, f2, f3⟩ := tok4 h2))
          obtain ⟨W3, hW⟩ : ∃ W, w2.alloc (.cells #[.int .i64 r1.kind, .string (tx r1.text), .int .i64 0, .int .i64 r1.len] 33) = W := ⟨_, rfl⟩
          have k1 : W3.heap[w2.heap.size]? = some (.cells #[.int .i64 r1.kind, .string (tx r1.text), .int .i64 0, .int .i64 r1.len] 33 (0, 0)) := by rw [← hW]; exact Go.heap_alloc_new _ _
          have k2 := (Below.heap_alloc w2 (.cells #[.int .i64 r1.kind, .string (tx r1.text), .int .i64 0, .int .i64 r1.len] 33) _ (heap_ltQ h2)).trans h2
          have k3 : Below w.heap.size w W3 := by rw [← hW]; exact (hb.trans (hb2.mono hb.size)).alloc (Nat.le_trans hb.size hb2.size) _
          rw [hW] at k2
          rw [hW]
          clear hW x0 x1 x2 x3 f0 f1 f2 f3 y0 y1 y2 y3 g0 g1 g2 g3
          obtain ⟨y0, y1, y2, y3, g0, g1, g2, g3⟩ := tok4 k1
          obtain ⟨x0, x1, x2, x3, f0, f1, f2, f3⟩ := tok4 k2
          clear k1 k2 h1 h2
          go_quiet (fail)
          go_wp2
          go_ret2
          have : intOk s.data.toList = ((tx r1.text).toList == s.toList) := by rw [intOk_cons s h0, hd, HI.out]; rw [int_beq]; simp [HE.out]
          exact ⟨HR.out ▸ opt_if _ s _ this.symm, pw_below_drewN k3 _⟩
        · go_enter Try.func46, Try.ntmps46
          go_wp2_with (first
            | (go_at_call 63; refine (tok_name _ _ (by omega)).mono ?_; rintro e w1 ⟨rfl, hb⟩; obtain ⟨h1, hb⟩ := keep1 hb; obtain ⟨y0, y1, y2, y3, g0, g1, g2, g3⟩ := tok4 h1)
            | (go_at_call 64; refine (tok_digit _ _).mono ?_; rintro e w' ⟨rfl, rfl⟩)
            | (go_at_call 65; refine (tok_is HI.out (tok_integer s _ (by omega) h0)).mono ?_; rintro e w2 ⟨rfl, hb2⟩; have h2 := below_cells hb2 (heap_ltQ h1) h1; obtain ⟨x0, x1, x2, x3, f0, f1, f2, f3⟩ := tok4 h2))
          obtain ⟨W3, hW⟩ : ∃ W, w2.alloc (.cells #[.int .i64 r1.kind, .string (tx r1.text), .int .i64 0, .int .i64 r1.len] 33) = W := ⟨_, rfl⟩
          have k1 : W3.heap[w2.heap.size]? = some (.cells #[.int .i64 r1.kind, .string (tx r1.text), .int .i64 0, .int .i64 r1.len] 33 (0, 0)) := by rw [← hW]; exact Go.heap_alloc_new _ _
          have k2 := (Below.heap_alloc w2 (.cells #[.int .i64 r1.kind, .string (tx r1.text), .int .i64 0, .int .i64 r1.len] 33) _ (heap_ltQ h2)).trans h2
          have k3 : Below w.heap.size w W3 := by rw [← hW]; exact (hb.trans (hb2.mono hb.size)).alloc (Nat.le_trans hb.size hb2.size) _
          rw [hW] at k2
          rw [hW]
          clear hW x0 x1 x2 x3 f0 f1 f2 f3 y0 y1 y2 y3 g0 g1 g2 g3
          obtain ⟨y0, y1, y2, y3, g0, g1, g2, g3⟩ := tok4 k1
          obtain ⟨x0, x1, x2, x3, f0, f1, f2, f3⟩ := tok4 k2
          clear k1 k2 h1 h2
          go_quiet (fail)
          go_wp2
          go_ret2
          have : intOk s.data.toList = ((tx r1.text).toList == s.toList) := by rw [intOk_cons s h0, hd, HI.out]; rw [int_beq]; simp [HE.out]
          exact ⟨HR.out ▸ opt_if _ s _ this.symm, pw_below_drewN k3 _⟩
      · have he1 : (r1.err == 0) = false := by rw [beq_eq_false_iff_ne]; exact he
        have HE := Hid.mk' he
        clear he
        cases hn : nameB s
        · go_enter Try.func46, Try.ntmps46
          go_wp2_with (first
            | (go_at_call 63; refine (tok_name _ _ (by omega)).mono ?_; rintro e w1 ⟨rfl, hb⟩; obtain ⟨h1, hb⟩ := keep1 hb; obtain ⟨y0, y1, y2, y3, g0, g1, g2, g3⟩ := tok4 h1)
            | (go_at_call 64; refine (tok_digit _ _).mono ?_; rintro e w' ⟨rfl, rfl⟩)
            | (go_at_call 65; refine (tok_is HI.out (tok_integer s _ (by omega) h0)).mono ?_; rintro e w2 ⟨rfl, hb2⟩; have h2 := below_cells hb2 (heap_ltQ h1) h1; obtain ⟨x0, x1, x2, x3, f0, f1, f2, f3⟩ := tok4 h2))
          obtain ⟨W3, hW⟩ : ∃ W, w2.alloc (.cells #[.int .i64 r1.kind, .string (tx r1.text), .int .i64 0, .int .i64 r1.len] 33) = W := ⟨_, rfl⟩
          have k1 : W3.heap[w2.heap.size]? = some (.cells #[.int .i64 r1.kind, .string (tx r1.text), .int .i64 0, .int .i64 r1.len] 33 (0, 0)) := by rw [← hW]; exact Go.heap_alloc_new _ _
          have k2 := (Below.heap_alloc w2 (.cells #[.int .i64 r1.kind, .string (tx r1.text), .int .i64 0, .int .i64 r1.len] 33) _ (heap_ltQ h2)).trans h2
          have k3 : Below w.heap.size w W3 := by rw [← hW]; exact (hb.trans (hb2.mono hb.size)).alloc (Nat.le_trans hb.size hb2.size) _
          rw [hW] at k2
          rw [hW]
          clear hW x0 x1 x2 x3 f0 f1 f2 f3 y0 y1 y2 y3 g0 g1 g2 g3
          obtain ⟨y0, y1, y2, y3, g0, g1, g2, g3⟩ := tok4 k1
          obtain ⟨x0, x1, x2, x3, f0, f1, f2, f3⟩ := tok4 k2
          clear k1 k2 h1 h2
          go_quiet (fail)
          go_wp2
          go_ret2
          have : intOk s.data.toList = false := by rw [intOk_cons s h0, hd, HI.out]; simp [HE.out]
          exact ⟨HR.out ▸ opt_if _ s _ this.symm, pw_below_drewN k3 _⟩
        · go_enter Try.func46, Try.ntmps46
          go_wp2_with (first
            | (go_at_call 63; refine (tok_name _ _ (by omega)).mono ?_; rintro e w1 ⟨rfl, hb⟩; obtain ⟨h1, hb⟩ := keep1 hb; obtain ⟨y0, y1, y2, y3, g0, g1, g2, g3⟩ := tok4 h1)
            | (go_at_call 64; refine (tok_digit _ _).mono ?_; rintro e w' ⟨rfl, rfl⟩)
            | (go_at_call 65; refine (tok_is HI.out (tok_integer s _ (by omega) h0)).mono ?_; rintro e w2 ⟨rfl, hb2⟩; have h2 := below_cells hb2 (heap_ltQ h1) h1; obtain ⟨x0, x1, x2, x3, f0, f1, f2, f3⟩ := tok4 h2))
          obtain ⟨W3, hW⟩ : ∃ W, w2.alloc (.cells #[.int .i64 r1.kind, .string (tx r1.text), .int .i64 0, .int .i64 r1.len] 33) = W := ⟨_, rfl⟩
          have k1 : W3.heap[w2.heap.size]? = some (.cells #[.int .i64 r1.kind, .string (tx r1.text), .int .i64 0, .int .i64 r1.len] 33 (0, 0)) := by rw [← hW]; exact Go.heap_alloc_new _ _
          have k2 := (Below.heap_alloc w2 (.cells #[.int .i64 r1.kind, .string (tx r1.text), .int .i64 0, .int .i64 r1.len] 33) _ (heap_ltQ h2)).trans h2
          have k3 : Below w.heap.size w W3 := by rw [← hW]; exact (hb.trans (hb2.mono hb.size)).alloc (Nat.le_trans hb.size hb2.size) _
          rw [hW] at k2
          rw [hW]
          clear hW x0 x1 x2 x3 f0 f1 f2 f3 y0 y1 y2 y3 g0 g1 g2 g3
          obtain ⟨y0, y1, y2, y3, g0, g1, g2, g3⟩ := tok4 k1
          obtain ⟨x0, x1, x2, x3, f0, f1, f2, f3⟩ := tok4 k2
          clear k1 k2 h1 h2
          go_quiet (fail)
          go_wp2
          go_ret2
          have : intOk s.data.toList = false := by rw [intOk_cons s h0, hd, HI.out]; simp [HE.out]
          exact ⟨HR.out ▸ opt_if _ s _ this.symm, pw_below_drewN k3 _⟩
end Go.Proofs.Ytlnoadnejefmoaa
