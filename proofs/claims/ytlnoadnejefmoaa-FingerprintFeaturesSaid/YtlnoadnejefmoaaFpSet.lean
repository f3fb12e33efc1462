/- fingerprint.features at every tree in memory. Strings of at most 1000000000 bytes, at most 1000000000 features. -/
import Derived.Test.YtlnoadnejefmoaaFpPure
import Derived.Laws.EntriesVeiled
set_option linter.unusedVariables false
set_option linter.unusedSimpArgs false
namespace Go.Proofs.Ytlnoadnejefmoaa.L20
open Go.RowKit Go.Maps Go.Sort Go.Proofs.YtlnoadnejefmoaaW.PrintWords
theorem five_at (w : World) (o0 o1 o2 o3 o4 : Obj) : (((((w.alloc o0).alloc o1).alloc o2).alloc o3).alloc o4).heap[w.heap.size]? = some o0 ∧ (((((w.alloc o0).alloc o1).alloc o2).alloc o3).alloc o4).heap[w.heap.size + 1]? = some o1 ∧
    (((((w.alloc o0).alloc o1).alloc o2).alloc o3).alloc o4).heap[w.heap.size + 1 + 1 + 1]? = some o3 ∧ (((((w.alloc o0).alloc o1).alloc o2).alloc o3).alloc o4).heap[w.heap.size + 1 + 1 + 1 + 1]? = some o4 := by
  have hz : ∀ (u : World) (o : Obj), (u.alloc o).heap.size = u.heap.size + 1 := fun u o => by simp
  have hn : ∀ (u : World) (o : Obj) (i : Nat), i = u.heap.size → (u.alloc o).heap[i]? = some o := fun u o i hi => by subst hi; show (u.heap.push o)[u.heap.size]? = _; exact Array.getElem?_push_size
  have ho : ∀ (u : World) (o : Obj) (i : Nat), i < u.heap.size → (u.alloc o).heap[i]? = u.heap[i]? := fun u o i hi => by show (u.heap.push o)[i]? = _; rw [Array.getElem?_push, if_neg (Nat.ne_of_lt hi)]
  refine ⟨?_, ?_, ?_, ?_⟩
  · rw [ho _ _ _ (by simp only [hz]; omega), ho _ _ _ (by simp only [hz]; omega), ho _ _ _ (by simp only [hz]; omega), ho _ _ _ (by simp only [hz]; omega), hn _ _ _ rfl]
  · rw [ho _ _ _ (by simp only [hz]; omega), ho _ _ _ (by simp only [hz]; omega), ho _ _ _ (by simp only [hz]; omega), hn _ _ _ (by simp only [hz])]
  · rw [ho _ _ _ (by simp only [hz]; omega), hn _ _ _ (by simp only [hz])]
  · rw [hn _ _ _ (by simp only [hz])]
set_option maxHeartbeats 4000000 in
set_option maxRecDepth 100000 in
theorem fp_features (n : S42) (A : Option Addr) (c k : Nat) (skip : Bool) (l : List Int) (w : World) (h : featL k skip n = some l) (hC : k42.C w A n.f4.length n.f4) (hl : l.length ≤ 1000000000) :
    Calls Try.prog 57 #[.agg #[.int .i64 n.f0, .string n.f1, .int .i64 n.f2, .int .i64 n.f3, .slice A n.f4.length c], .bool skip] w fun e w' => ∃ v, e = .returned v ∧
      (Kd.int .i64).R 3 w' w.heap.size (fun _ => True) v (insAll l) ∧ Below w.heap.size w w' := by
  have hmm := @run_makeMap Try.prog
  have H := Hid.mk' h
  clear h
  go_enter Try.func57, Try.ntmps57
  go_upto_region 4 with (fail)
  obtain ⟨W5, hW5⟩ : ∃ W, (((((w.alloc (.cells #[.int .i64 n.f0, .string n.f1, .int .i64 n.f2, .int .i64 n.f3, .slice A n.f4.length c] 42)).alloc (.cells #[.bool skip] 4)).alloc (.map #[] 0)).alloc (.cells #[.map (some (w.heap.size + 1 + 1))] 68)).alloc
    (.cells #[.func (Fn.func 77) #[] #[.pointer (some ⟨w.heap.size + 1, 0, none⟩), .pointer (some ⟨w.heap.size + 1 + 1 + 1, 0, none⟩), .pointer (some ⟨w.heap.size + 1 + 1 + 1 + 1, 0, none⟩)]] 87)) = W := ⟨_, rfl⟩
  rw [hW5]
  have c1 : Cell1 W5 (w.heap.size + 1) (.bool skip) 4 := by rw [← hW5]; exact (five_at _ _ _ _ _ _).2.1
  have c2 : Cell1 W5 (w.heap.size + 1 + 1 + 1) (.map (some (w.heap.size + 1 + 1))) 68 := by rw [← hW5]; exact (five_at _ _ _ _ _ _).2.2.1
  have c3 : Cell1 W5 (w.heap.size + 1 + 1 + 1 + 1) (.func (Fn.func 77) #[] #[.pointer (some ⟨w.heap.size + 1, 0, none⟩), .pointer (some ⟨w.heap.size + 1 + 1 + 1, 0, none⟩), .pointer (some ⟨w.heap.size + 1 + 1 + 1 + 1, 0, none⟩)]) 87 := by rw [← hW5]; exact (five_at _ _ _ _ _ _).2.2.2
  have b0 : W5.heap[w.heap.size]? = some (.cells #[.int .i64 n.f0, .string n.f1, .int .i64 n.f2, .int .i64 n.f3, .slice A n.f4.length c] 42 (0, 0)) := by rw [← hW5]; exact (five_at _ _ _ _ _ _).1
  have hS : IntSet W5 (w.heap.size + 1 + 1) [] := by
    rw [← hW5]
    have h1 := ((IntSet.made ((w.alloc (.cells #[.int .i64 n.f0, .string n.f1, .int .i64 n.f2, .int .i64 n.f3, .slice A n.f4.length c] 42)).alloc (.cells #[.bool skip] 4))).alloc (.cells #[.map (some (w.heap.size + 1 + 1))] 68)).alloc
      (.cells #[.func (Fn.func 77) #[] #[.pointer (some ⟨w.heap.size + 1, 0, none⟩), .pointer (some ⟨w.heap.size + 1 + 1 + 1, 0, none⟩), .pointer (some ⟨w.heap.size + 1 + 1 + 1 + 1, 0, none⟩)]] 87)
    simpa using h1
  have hB : Below w.heap.size w W5 := by
    rw [← hW5]
    repeat (first | exact Below.refl _ _ | apply below_alloc)
  clear hW5
  have r0 := blk_cell b0 0
  have r1 := blk_cell b0 1
  have r2 := blk_cell b0 2
  have r3 := blk_cell b0 3
  have r4 := blk_cell b0 4
  have e3 := c3.at
  have HV := fp_visit w (w.heap.size + 1) (w.heap.size + 1 + 1 + 1) (w.heap.size + 1 + 1) (w.heap.size + 1 + 1 + 1 + 1) (by omega) (by omega) (by omega) (by omega) skip k n A c [] l W5 H.out hC hB c1 c2 c3 hS (by simpa using hl)
  go_upto_region 5 with (go_at_call 77; refine HV.mono ?_; rintro e w6 ⟨rfl, hS6, hg6⟩)
  have c26 := c2.keep hg6 (by simp)
  have e2 := c26.at
  have hB6 : Below w.heap.size w w6 := hB.grown hg6 hB.size (fun q hq => by cases hq; omega)
  rw [List.nil_append] at hS6
  have hsz := World.ownsMap.size_le hS6
  have hsz6 := hB6.size
  obtain ⟨i0, hi, hz0, hz1, hz2⟩ := info_parts info3
  clear HV
  obtain ⟨cap, hcap⟩ : ∃ x, Maps.size (setD l) = x := ⟨_, rfl⟩
  rw [hcap] at hsz
  have HCAP := Hid.mk' hcap
  go_upto_region 6 with (first
    | (at_len; refine wpList_len_own _ rfl _ 68 rfl 3 4 Try.underlying68 _ (w.heap.size + 1 + 1) l.length (setD l) rfl hS6 ?_; rw [hcap])
    | (refine wpList_make_own _ rfl _ _ 45 rfl w.heap.size 3 i0 (.int .i64 0) 1 Try.underlying45 hi hz0 hz1 .i64 .i64 (cap : Int) cap rfl rfl rfl ?b2 ?b3 ?b4 ?_; (case b2 => rw [hz2]; omega); (case b3 => unfold maxLen; omega); (case b4 => exact hsz6); intro w7 hown7 hg7))
  have hS7 := hS6.grown hg7 (by simp)
  have c27 := c26.keep hg7 (by simp)
  have e27 := c27.at
  have hB7 : Below w.heap.size w w7 := hB6.grown hg7 hsz6 (fun q hq => by cases hq)
  obtain ⟨g, hg⟩ : ∃ x, w6.heap.size = x := ⟨_, rfl⟩
  rw [hg] at hown7
  try rw [hg]
  have hgb : w.heap.size ≤ g := by omega
  have hg7s : g < w7.heap.size := by
    rcases hown7.2 with ⟨h0, _⟩ | ⟨g', cap', cur, hv, hbb, hh, _⟩
    · cases h0
    · cases hv
      exact (Array.getElem?_eq_some_iff.1 hh).1
  have hgm : g ≠ w.heap.size + 1 + 1 := by have := hS6.lt; omega
  clear e2 e3 r0 r1 r2 r3 r4 b0 c1 c2 c3 hS hB hg6
  go_wp2_with (first
    | (at_range; refine wpList_range_own _ rfl _ 68 rfl 3 4 lawI Try.underlying68 _ (w.heap.size + 1 + 1) l.length (setD l) rfl hS7 ?_; intro w8 hrg8 hg8 hs8)
    | go_in)
  go_frame
  obtain ⟨r, hr⟩ : ∃ x, w7.heap.size = x := ⟨_, rfl⟩
  rw [hr] at hrg8
  try rw [hr]
  have hrw : w.heap.size ≤ r := by omega
  have hgr : g ≠ r := by omega
  go_loopw [7] (fun v wr => ∃ (left : Lit → Bool) (cnt : Nat) (ks : List Int), v = .slice (some ⟨g, 0, none⟩) ks.length cap ∧ wr.ranges Try.prog 3 (plainElem Try.prog 4) (w.heap.size + 1 + 1) r l.length (setD l) left cnt ∧
      wr.ownsRow w.heap.size 3 1 (.slice (some ⟨g, 0, none⟩) ks.length cap) ks.length (ks.map (Value.int .i64)) ∧ ks.length + cnt ≤ cap ∧ Below w.heap.size w wr ∧ Hid (Got l left ks))
    (fun _ wr => wr.rangeLeft (w.heap.size + 1 + 1) r)
  case atStart =>
    exact ⟨_, _, [], rfl, hrg8, hown7.kept hg8 (by simp [Value.ownBlock]), by rw [HCAP.out]; simp, hB7.grown hg8 (by omega) (fun q hq => by cases hq), Got.start l⟩
  case round =>
    obtain ⟨left, cnt, ks, rfl, hrg, hrow, hcnt, hBl, HG⟩ := hrel
    go_wp2_with (first
      | (at_next; refine wpList_next_ranges _ rfl _ rfl 3 lawI (plainElem Try.prog 4) (Value.int .i64) (fun c : Value => c) (fun key kl hk => by obtain ⟨x, hx, _⟩ := Maps.keyOf_int_inv Try.underlying3 hk; exact ⟨x, hx⟩) (fun v y _ => ⟨v, rfl⟩) (w.heap.size + 1 + 1) r l.length _ _ _ rfl hrg ?_ ?_)
      | go_in)
    · intro hc0 hl0
      have hs := HG.out.done hl0
      rcases hrow.2 with ⟨h0, _⟩ | ⟨g', cap', cur, hv, hbase, hb, q1, q2, q3, q4⟩
      · cases h0
      · cases hv
        have hH : Holds (Value.int .i64) wr g 0 ks.toArray := holds_of_blockI hb (by simpa using q4)
        have hgl : g < wr.heap.size := (Array.getElem?_eq_some_iff.1 hb).1
        have hsort := Try.slices_Sort_int g 0 cap ks wr hH hgl (by omega)
        have hl2 : (ks.mergeSort fun x y => decide (x ≤ y)).length = ks.length := List.length_mergeSort ks
        clear hrg hH
        go_wp2_with (go_at_call 79; refine hsort.mono ?_; rintro e w' ⟨rfl, nn, os, rfl⟩)
        go_ret
        have hgs := grownBy_sortedI (w := wr) (g := g) (n := nn) (os := os) (ks.mergeSort fun x y => decide (x ≤ y)).toArray
        have hro := ownsRow_sortedI (n := nn) (os := os) (ts := ks.mergeSort fun x y => decide (x ≤ y)) hl2 hbase hb q1 q2 q3
        rw [hs] at hro hl2 hgs
        rw [← hl2] at hro
        exact ⟨.slice (some ⟨g, 0, none⟩) (insAll l).length cap, (by first | (rw [hl2]; done) | (rw [hl2]; rfl)), Kd.R_of_own hro (fun _ _ => trivial), hBl.grown hgs hBl.size (fun q hq => by cases hq; exact hgb)⟩
    · intro x v kl y y2 w1 cnt1 hkey hlx hval hat hrg1 hlt hg1 hs1 hen
      obtain rfl : kl = litI x := by
        obtain ⟨x', e1, e2, _⟩ := Maps.keyOf_int_inv Try.underlying3 hkey
        cases e1
        exact e2
      have hrow1 := hrow.kept hg1 (by simp [Value.ownBlock, hgr])
      have hB1 := hBl.grown hg1 hBl.size (fun q hq => by cases hq; exact hrw)
      have HG1 := Hid.mk' (HG.out.more x hlx)
      clear hlx hat hval hkey hs1
      go_wp2_with (at_builtin; refine wpList_append_fits _ rfl _ _ 45 rfl w.heap.size 3 i0 1 Try.underlying45 hi hz1 g ks.length cap (ks.map (Value.int .i64)) rfl (hrow1.alloc _) ⟨w1.heap.size, 0, none⟩ 1 1 [.int .i64 x] rfl rfl (cell_one_new _ _ _) (by simp [Value.oneCell']) (by omega) ?_; intro w2 hown2 hg2)
      go_roundw
      case rel => exact ⟨_, cnt1, ks ++ [x], by simp, (hrg1.alloc _).kept hg2 (by simp; omega) (by simp; omega), by simpa using hown2, by simp; omega, (below_alloc hB1 _).grown hg2 (below_alloc hB1 _).size (fun q hq => by cases hq; exact hgb), HG1⟩
      case measure =>
        rw [((hrg1.alloc _).kept hg2 (by simp; omega) (by simp; omega)).left_eq, hrg.left_eq]
        omega
end Go.Proofs.Ytlnoadnejefmoaa.L20
