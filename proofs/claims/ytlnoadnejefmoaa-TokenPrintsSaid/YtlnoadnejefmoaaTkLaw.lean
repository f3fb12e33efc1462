/- The examples of chapter 11 hold, and codesearchlaw11.TokenScans returns true. For every string. -/
import Derived.Test.YtlnoadnejefmoaaTkProg
import Derived.Test.YtlnoadnejefmoaaTkRef
set_option linter.unusedVariables false
set_option linter.unusedSimpArgs false
namespace Go.Proofs.Ytlnoadnejefmoaa
open Go.RowKit Go.Proofs.YtlnoadnejefmoaaW.PrintWords

theorem flat_at (i : Nat) (hi : i < 4) : ∀ (xs : List Tok) (j : Nat) (p : Tok), xs[j]? = some p → (xs.flatMap tokCells)[j * 4 + i]? = (tokCells p)[i]?
  | [], j, p, h => by simp at h
  | x :: t, 0, p, h => by
    simp at h
    subst h
    rw [List.flatMap_cons, Nat.zero_mul, Nat.zero_add, List.getElem?_append_left (by simpa [tokCells] using hi)]
  | x :: t, j + 1, p, h => by
    rw [List.flatMap_cons, List.getElem?_append_right (by simp [tokCells]; omega)]
    have := flat_at i hi t j p (by simpa using h)
    rw [← this]
    congr 1
    simp [tokCells]
    omega
/-- A list of tokens that is written out, in memory. -/
theorem C_lit (w : World) (b : Nat) (xs : List Tok) (T : TypeId) (hn : xs.length ≤ 9223372036854775807) (h : w.heap[b]? = some (.cells (xs.flatMap tokCells).toArray T (0, 0))) : kTok.C w (some ⟨b, 0, none⟩) xs.length xs := by
  refine ⟨rfl, hn, fun _ => ⟨⟨b, 0, none⟩, rfl, fun j p hj => ⟨tokCells p, rfl, kTok_mk w p, fun i u hi => ?_⟩⟩⟩
  have hi4 : i < 4 := by
    rcases Nat.lt_or_ge i 4 with h | h
    · exact h
    · rw [List.getElem?_eq_none (by simpa [tokCells] using h)] at hi; cases hi
  rw [show kTok.sz = 4 from rfl, add_at, Nat.zero_add, cell_of h]
  rw [List.getElem?_toArray, flat_at i hi4 xs j p hj]
  exact hi

/-- Scan of a string that is known. -/
theorem scan_known (s : ByteArray) (L : List Tok) (off err : Int) (n : Nat) (w : World) (hs : s.size ≤ 1000000000) (h : scanR false s.data.toList = ⟨L, off, err⟩) (hn : L.length = n) :
    Calls Try.prog 14 #[.string s] w fun e w' => ∃ A c, e = .returned (.tuple #[.slice A n c, .int .i64 off, .int .i64 err]) ∧ kTok.C w' A n L ∧ Below w.heap.size w w' := by
  refine (tok_Scan s w hs _ h).mono ?_
  rintro e w' ⟨v, rfl, hR, hb⟩
  obtain ⟨A, c, rfl, _, hC⟩ := Kd.R_reads hR
  subst hn
  exact ⟨A, c, rfl, hC, hb⟩
theorem scanp_known (s : ByteArray) (L : List Tok) (off err : Int) (n : Nat) (w : World) (hs : s.size ≤ 1000000000) (h : scanR true s.data.toList = ⟨L, off, err⟩) (hn : L.length = n) :
    Calls Try.prog 17 #[.string s] w fun e w' => ∃ A c, e = .returned (.tuple #[.slice A n c, .int .i64 off, .int .i64 err]) ∧ kTok.C w' A n L ∧ Below w.heap.size w w' := by
  refine (tok_ScanPattern s w hs _ h).mono ?_
  rintro e w' ⟨v, rfl, hR, hb⟩
  obtain ⟨A, c, rfl, _, hC⟩ := Kd.R_reads hR
  subst hn
  exact ⟨A, c, rfl, hC, hb⟩

theorem scanp_form (s : ByteArray) (L : List Tok) (off err : Int) (n : Nat) (w : World) (hs : s.size ≤ 1000000000) (h : scanR true s.data.toList = ⟨L, off, err⟩) (hn : L.length = n) (hp : 0 < n) :
    Calls Try.prog 17 #[.string s] w fun e w' => ∃ g c, e = .returned (.tuple #[.slice (some ⟨g, 0, none⟩) n c, .int .i64 off, .int .i64 err]) ∧ kTok.C w' (some ⟨g, 0, none⟩) n L ∧ Below w.heap.size w w' := by
  refine (tok_ScanPattern s w hs _ h).mono ?_
  rintro e w' ⟨v, rfl, hR, hb⟩
  obtain ⟨A, c, rfl, _, hC⟩ := Kd.R_reads hR
  obtain ⟨g, cap, hv, _⟩ := Kd.R_form hR (by show 0 < L.length; omega)
  injection hv with h1 h2 h3
  subst h1
  subst hn
  exact ⟨g, c, rfl, hC, hb⟩
theorem tok_cells {w : World} {g n : Nat} {xs : List Tok} (h : kTok.C w (some ⟨g, 0, none⟩) n xs) (i : Nat) (h1 : i < n) (x : Tok) (hx : xs.getD i tok0 = x) :
    w.cell? ⟨g, i * 4, none⟩ = some (.int .i64 x.kind) ∧ w.cell? ⟨g, i * 4 + 1, none⟩ = some (.string x.text) ∧ w.cell? ⟨g, i * 4 + 2, none⟩ = some (.int .i64 x.at_) ∧ w.cell? ⟨g, i * 4 + 3, none⟩ = some (.int .i64 x.end_) := by
  obtain ⟨ad, e, c0, c1, c2, c3⟩ := kTok_at h i h1
  cases e
  rw [hx] at c0 c1 c2 c3
  rw [add_at] at c0 c1 c2 c3
  simp only [Nat.zero_add] at c0 c1 c2 c3
  exact ⟨c0, c1, c2, c3⟩

set_option maxRecDepth 100000 in
theorem law_fails (s : ByteArray) (off err : Int) (w : World) (hs : s.size ≤ 1000000000) (h : scanR false s.data.toList = ⟨[], off, err⟩) :
    Calls Try.prog 43 #[.string s, .int .i64 off, .int .i64 err] w fun e w' => e = .returned (.bool true) ∧ Below w.heap.size w w' := by
  have H := Hid.mk' h
  clear h
  go_enter Try.func43, Try.ntmps43
  go_wp2_with (go_at_call 14; refine (scan_known s [] off err 0 _ hs H.out rfl).mono ?_; rintro e w1 ⟨A, c, rfl, hC, hb⟩)
  go_ret
  exact ⟨rfl, hb⟩

def L1 : List Tok := [⟨1, ⟨#[120, 49]⟩, 0, 2⟩, ⟨5, ⟨#[61]⟩, 2, 3⟩, ⟨4, ⟨#[97, 10]⟩, 3, 8⟩, ⟨5, ⟨#[59]⟩, 8, 9⟩]
def L2 : List Tok := [⟨1, ⟨#[102]⟩, 0, 1⟩, ⟨5, ⟨#[40]⟩, 1, 2⟩, ⟨6, ⟨#[88]⟩, 2, 4⟩, ⟨5, ⟨#[44]⟩, 4, 5⟩, ⟨7, ⟨#[95]⟩, 6, 9⟩, ⟨5, ⟨#[41]⟩, 9, 10⟩]
def L3 : List Tok := [⟨1, ⟨#[97]⟩, 0, 0⟩, ⟨5, ⟨#[47]⟩, 0, 0⟩, ⟨5, ⟨#[47]⟩, 0, 0⟩]
theorem scan1 : scanR false [120, 49, 61, 34, 97, 92, 110, 34, 59, 32, 47, 47, 32, 101, 110, 100] = ⟨L1, 0, 0⟩ := by kernel_rfl
theorem scan2 : scanR true [102, 40, 36, 88, 44, 32, 36, 36, 95, 41] = ⟨L2, 0, 0⟩ := by kernel_rfl
theorem scan3 : scanR false [97, 32, 38, 32, 98] = ⟨[], 2, 11⟩ := by kernel_rfl
theorem scan4 : scanR false [48, 48, 55] = ⟨[], 0, 11⟩ := by kernel_rfl
theorem scan5 : scanR false [49, 50, 51, 52, 53, 54, 55, 56, 57, 48] = ⟨[], 0, 4⟩ := by kernel_rfl
theorem print1 : printO L3 = some [97, 32, 47, 32, 47] := by kernel_rfl
theorem kw1 : kwB ⟨#[116, 104, 105, 115]⟩ = true := by kernel_rfl
theorem kw2 : kwB ⟨#[84, 104, 105, 115]⟩ = false := by kernel_rfl

set_option maxHeartbeats 4000000 in
set_option maxRecDepth 100000 in
theorem law_alive (w : World) : Calls Try.prog 13 #[] w fun e w' => e = .returned (.bool true) ∧ Below w.heap.size w w' := by
  go_enter Try.func13, Try.ntmps13
  go_wp2_with (go_at_call 14; refine (scan_known ⟨#[120, 49, 61, 34, 97, 92, 110, 34, 59, 32, 47, 47, 32, 101, 110, 100]⟩ L1 0 0 4 _ (by decide) scan1 rfl).mono ?_; rintro e w1 ⟨A, c, rfl, hC, hb⟩)
  refine (ref_Equal _ A (some ⟨w1.heap.size, 0, none⟩) c 4 L1 L1 (Kd.C_alloc hC _) (C_lit _ _ L1 33 (by decide) (Go.heap_alloc_new _ _)) true (by simp)).mono ?_
  rintro e w2 ⟨rfl, hb2⟩
  replace hb2 : Below w.heap.size w w2 := (hb.alloc hb.size _).trans (hb2.mono (by have := hb.size; simp; omega))
  clear hC hb
  go_wp2_with (first
    | (go_at_call 43; ((with_reducible refine (law_fails ⟨#[97, 32, 38, 32, 98]⟩ 2 11 _ (by decide) scan3).mono ?_); rintro e w3 ⟨rfl, hb3⟩))
    | (go_at_call 43; ((with_reducible refine (law_fails ⟨#[48, 48, 55]⟩ 0 11 _ (by decide) scan4).mono ?_); rintro e w4 ⟨rfl, hb4⟩))
    | (go_at_call 43; ((with_reducible refine (law_fails ⟨#[49, 50, 51, 52, 53, 54, 55, 56, 57, 48]⟩ 0 4 _ (by decide) scan5).mono ?_); rintro e w5 ⟨rfl, hb5⟩))
    | (go_at_call 17; refine (scanp_form ⟨#[102, 40, 36, 88, 44, 32, 36, 36, 95, 41]⟩ L2 0 0 6 _ (by decide) scan2 rfl (by decide)).mono ?_; rintro e w6 ⟨g6, c6, rfl, hC6, hb6⟩; obtain ⟨p0, p1, _, _⟩ := tok_cells hC6 2 (by decide) ⟨6, ⟨#[88]⟩, 2, 4⟩ rfl; obtain ⟨q0, _, q2, q3⟩ := tok_cells hC6 4 (by decide) ⟨7, ⟨#[95]⟩, 6, 9⟩ rfl; simp only [Nat.reduceMul, Nat.reduceAdd] at p0 p1 q0 q2 q3; clear hC6))
  replace hb6 : Below w.heap.size w w6 := (((hb2.trans (hb3.mono hb2.size)).trans (hb4.mono (Nat.le_trans hb2.size hb3.size))).trans (hb5.mono (Nat.le_trans (Nat.le_trans hb2.size hb3.size) hb4.size))).trans (hb6.mono (Nat.le_trans (Nat.le_trans (Nat.le_trans hb2.size hb3.size) hb4.size) hb5.size))
  clear hb2 hb3 hb4 hb5
  refine (tok_Print _ (some ⟨w6.heap.size, 0, none⟩) 3 L3 (C_lit _ _ L3 33 (by decide) (Go.heap_alloc_new _ _)) (by decide) (by decide) _ print1).mono ?_
  rintro e w7 ⟨he, hb7⟩
  obtain rfl : e = .returned (.tuple #[.string ⟨#[97, 32, 47, 32, 47]⟩, .int .i64 0]) := he
  replace hb7 : Below w.heap.size w w7 := (hb6.alloc hb6.size _).trans (hb7.mono (by have := hb6.size; simp; omega))
  clear hb6
  go_wp2_with (first
    | (go_at_call 25; ((with_reducible refine (tok_keyword ⟨#[116, 104, 105, 115]⟩ _).mono ?_); rw [kw1]; rintro e w8 ⟨rfl, hb8⟩))
    | (go_at_call 25; ((with_reducible refine (tok_keyword ⟨#[84, 104, 105, 115]⟩ _).mono ?_); rw [kw2]; rintro e w9 ⟨rfl, hb9⟩)))
  go_ret
  exact ⟨rfl, (hb7.trans (hb8.mono hb7.size)).trans (hb9.mono (Nat.le_trans hb7.size hb8.size))⟩
end Go.Proofs.Ytlnoadnejefmoaa
set_option linter.unusedVariables false
set_option linter.unusedSimpArgs false
namespace Go.Proofs.Ytlnoadnejefmoaa
open Go.RowKit Go.Proofs.YtlnoadnejefmoaaW.PrintWords

/-- A scan by the program, and by the reference. -/
theorem scan_any (s : ByteArray) (L : List Tok) (off err : Int) (w : World) (hs : s.size ≤ 1000000000) (h : scanR false s.data.toList = ⟨L, off, err⟩) :
    Calls Try.prog 14 #[.string s] w fun e w' => ∃ A c, e = .returned (.tuple #[.slice A L.length c, .int .i64 off, .int .i64 err]) ∧ kTok.C w' A L.length L ∧ Below w.heap.size w w' := scan_known s L off err _ w hs h rfl
theorem scanp_any (s : ByteArray) (L : List Tok) (off err : Int) (w : World) (hs : s.size ≤ 1000000000) (h : scanR true s.data.toList = ⟨L, off, err⟩) :
    Calls Try.prog 17 #[.string s] w fun e w' => ∃ A c, e = .returned (.tuple #[.slice A L.length c, .int .i64 off, .int .i64 err]) ∧ kTok.C w' A L.length L ∧ Below w.heap.size w w' := scanp_known s L off err _ w hs h rfl
theorem rscan_any (s : ByteArray) (L : List Tok) (off err : Int) (w : World) (hs : s.size ≤ 1000000000) (h : scanR false s.data.toList = ⟨L, off, err⟩) :
    Calls Try.prog 15 #[.string s] w fun e w' => ∃ A c, e = .returned (.tuple #[.slice A L.length c, .int .i64 off, .int .i64 err]) ∧ kTok.C w' A L.length L ∧ Below w.heap.size w w' := by
  refine (ref_Scan s w hs _ h).mono ?_
  rintro e w' ⟨v, rfl, hR, hb⟩
  obtain ⟨A, c, rfl, _, hC⟩ := Kd.R_reads hR
  exact ⟨A, c, rfl, hC, hb⟩
theorem rscanp_any (s : ByteArray) (L : List Tok) (off err : Int) (w : World) (hs : s.size ≤ 1000000000) (h : scanR true s.data.toList = ⟨L, off, err⟩) :
    Calls Try.prog 18 #[.string s] w fun e w' => ∃ A c, e = .returned (.tuple #[.slice A L.length c, .int .i64 off, .int .i64 err]) ∧ kTok.C w' A L.length L ∧ Below w.heap.size w w' := by
  refine (ref_ScanPattern s w hs _ h).mono ?_
  rintro e w' ⟨v, rfl, hR, hb⟩
  obtain ⟨A, c, rfl, _, hC⟩ := Kd.R_reads hR
  exact ⟨A, c, rfl, hC, hb⟩
theorem scanR_parts (pat : Bool) (l : List UInt8) : ∃ L off err, scanR pat l = ⟨L, off, err⟩ := ⟨_, _, _, rfl⟩

set_option maxHeartbeats 4000000 in
set_option maxRecDepth 100000 in
theorem law_scans (s : ByteArray) (w : World) : Calls Try.prog 3 #[.string s] w fun e w' => e = .returned (.bool true) ∧ Below w.heap.size w w' := by
  rcases Nat.lt_or_ge 3000 s.size with hl | hl
  · have hl1 : (3000 : Int) < s.size := by omega
    go_enter Try.func3, Try.ntmps3
    go_wp2_with (go_at_call 13; refine (law_alive _).mono ?_; rintro e w1 ⟨rfl, hb1⟩)
    go_ret
    exact ⟨rfl, hb1⟩
  · have hl1 : ¬ ((3000 : Int) < s.size) := by omega
    have hs : s.size ≤ 1000000000 := by omega
    obtain ⟨L, off, err, h⟩ := scanR_parts false s.data.toList
    obtain ⟨L2, off2, err2, h2⟩ := scanR_parts true s.data.toList
    have H := Hid.mk' h
    have H2 := Hid.mk' h2
    clear h h2
    go_enter Try.func3, Try.ntmps3
    go_wp2_with (first
      | (go_at_call 13; refine (law_alive _).mono ?_; rintro e w1 ⟨rfl, hb1⟩)
      | (go_at_call 14; refine (scan_any s L off err _ hs H.out).mono ?_; rintro e w2 ⟨A, c, rfl, hC, hb2⟩)
      | (go_at_call 15; refine (rscan_any s L off err _ hs H.out).mono ?_; rintro e w3 ⟨B, d, rfl, hD, hb3⟩))
    refine (ref_Equal _ A B c d L L (Kd.C_below hC hb3) hD true (by simp)).mono ?_
    rintro e w4 ⟨rfl, hb4⟩
    replace hb4 : Below w.heap.size w w4 := ((hb1.trans (hb2.mono hb1.size)).trans (hb3.mono (Nat.le_trans hb1.size hb2.size))).trans (hb4.mono (Nat.le_trans (Nat.le_trans hb1.size hb2.size) hb3.size))
    clear hb1 hb2 hb3 hC hD
    go_wp2_with (first
      | (go_at_call 17; refine (scanp_any s L2 off2 err2 _ hs H2.out).mono ?_; rintro e w5 ⟨A, c, rfl, hC, hb5⟩)
      | (go_at_call 18; refine (rscanp_any s L2 off2 err2 _ hs H2.out).mono ?_; rintro e w6 ⟨B, d, rfl, hD, hb6⟩)
      | (go_at_call 16; refine (ref_Equal _ A B c d L2 L2 (Kd.C_below hC hb6) hD true (by simp)).mono ?_; rintro e w7 ⟨rfl, hb7⟩))
    go_ret
    exact ⟨rfl, ((hb4.trans (hb5.mono hb4.size)).trans (hb6.mono (Nat.le_trans hb4.size hb5.size))).trans (hb7.mono (Nat.le_trans (Nat.le_trans hb4.size hb5.size) hb6.size))⟩
end Go.Proofs.Ytlnoadnejefmoaa
