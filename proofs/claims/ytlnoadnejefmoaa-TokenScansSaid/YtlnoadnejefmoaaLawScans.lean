import Derived.Test.YtlnoadnejefmoaaLawA
set_option linter.unusedVariables false
set_option linter.unusedSimpArgs false
namespace Go.Proofs.Ytlnoadnejefmoaa
open Go.RowKit Go.Proofs.YtlnoadnejefmoaaW.PrintWords

/-- A scan by the program, and by the reference. -/
theorem scan_any (s : ByteArray) (L : List Tok) (off err : Int) (w : World) (hs : s.size ≤ 1000000000) (h : scanR false s.data.toList = ⟨L, off, err⟩) :
    Calls Try.prog 14 #[.string s] w fun e w' => ∃ A c, e = .returned (.tuple #[.slice A L.length c, .int .i64 off, .int .i64 err]) ∧ kTok.C w' A L.length L ∧ Below w.heap.size w w' := scan_known s L off err _ w hs h rfl
theorem scanp_any (s : ByteArray) (L : List Tok) (off err : Int) (w : World) (hs : s.size ≤ 1000000000) (h : scanR true s.data.toList = ⟨L, off, err⟩) :
    Calls Try.prog 17 #[.string s] w fun e w' => ∃ A c, e = .returned (.tuple #[.slice A L.length c, .int .i64 off, .int .i64 err]) ∧ kTok.C w' A L.length L ∧ Below w.heap.size w w' := scanp_known s L off err _ w hs h rfl
theorem rscan_any (s : ByteArray) (L : List Tok) (off err : Int) (w : World) (hs : s.size ≤ 1000000000) (h : scanR false s.data.toList = ⟨L, off, err⟩) :
    Calls Try.prog 15 #[.string s] w fun e w' => ∃ A c, e = .returned (.tuple #[.slice A L.length c, .int .i64 off, .int .i64 err]) ∧ kTok.C w' A L.length L ∧ Below w.heap.size w w' := by
  refine (ref_Scan s w hs _ h).mono ?_
  rintro e w' ⟨v, rfl, hR, hb⟩
  obtain ⟨A, c, rfl, _, hC⟩ := Kd.R_reads hR
  exact ⟨A, c, rfl, hC, hb⟩
theorem rscanp_any (s : ByteArray) (L : List Tok) (off err : Int) (w : World) (hs : s.size ≤ 1000000000) (h : scanR true s.data.toList = ⟨L, off, err⟩) :
    Calls Try.prog 18 #[.string s] w fun e w' => ∃ A c, e = .returned (.tuple #[.slice A L.length c, .int .i64 off, .int .i64 err]) ∧ kTok.C w' A L.length L ∧ Below w.heap.size w w' := by
  refine (ref_ScanPattern s w hs _ h).mono ?_
  rintro e w' ⟨v, rfl, hR, hb⟩
  obtain ⟨A, c, rfl, _, hC⟩ := Kd.R_reads hR
  exact ⟨A, c, rfl, hC, hb⟩
theorem scanR_parts (pat : Bool) (l : List UInt8) : ∃ L off err, scanR pat l = ⟨L, off, err⟩ := ⟨_, _, _, rfl⟩

set_option maxHeartbeats 4000000 in
set_option maxRecDepth 100000 in
theorem law_scans (s : ByteArray) (w : World) : Calls Try.prog 3 #[.string s] w fun e w' => e = .returned (.bool true) ∧ Below w.heap.size w w' := by
  rcases Nat.lt_or_ge 3000 s.size with hl | hl
  · have hl1 : (3000 : Int) < s.size := by omega
    go_enter Try.func3, Try.ntmps3
    go_wp2_with (go_at_call 13; refine (law_alive _).mono ?_; rintro e w1 ⟨rfl, hb1⟩)
    go_ret
    exact ⟨rfl, hb1⟩
  · have hl1 : ¬ ((3000 : Int) < s.size) := by omega
    have hs : s.size ≤ 1000000000 := by omega
    obtain ⟨L, off, err, h⟩ := scanR_parts false s.data.toList
    obtain ⟨L2, off2, err2, h2⟩ := scanR_parts true s.data.toList
    have H := Hid.mk' h
    have H2 := Hid.mk' h2
    clear h h2
    go_enter Try.func3, Try.ntmps3
    go_wp2_with (first
      | (go_at_call 13; refine (law_alive _).mono ?_; rintro e w1 ⟨rfl, hb1⟩)
      | (go_at_call 14; refine (scan_any s L off err _ hs H.out).mono ?_; rintro e w2 ⟨A, c, rfl, hC, hb2⟩)
      | (go_at_call 15; refine (rscan_any s L off err _ hs H.out).mono ?_; rintro e w3 ⟨B, d, rfl, hD, hb3⟩))
    refine (ref_Equal _ A B c d L L (Kd.C_below hC hb3) hD true (by simp)).mono ?_
    rintro e w4 ⟨rfl, hb4⟩
    replace hb4 : Below w.heap.size w w4 := ((hb1.trans (hb2.mono hb1.size)).trans (hb3.mono (Nat.le_trans hb1.size hb2.size))).trans (hb4.mono (Nat.le_trans (Nat.le_trans hb1.size hb2.size) hb3.size))
    clear hb1 hb2 hb3 hC hD
    go_wp2_with (first
      | (go_at_call 17; refine (scanp_any s L2 off2 err2 _ hs H2.out).mono ?_; rintro e w5 ⟨A, c, rfl, hC, hb5⟩)
      | (go_at_call 18; refine (rscanp_any s L2 off2 err2 _ hs H2.out).mono ?_; rintro e w6 ⟨B, d, rfl, hD, hb6⟩)
      | (go_at_call 16; refine (ref_Equal _ A B c d L2 L2 (Kd.C_below hC hb6) hD true (by simp)).mono ?_; rintro e w7 ⟨rfl, hb7⟩))
    go_ret
    exact ⟨rfl, ((hb4.trans (hb5.mono hb4.size)).trans (hb6.mono (Nat.le_trans hb4.size hb5.size))).trans (hb7.mono (Nat.le_trans (Nat.le_trans hb4.size hb5.size) hb6.size))⟩
end Go.Proofs.Ytlnoadnejefmoaa
