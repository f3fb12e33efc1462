/- The program's table of the checksum, and its checksum returns the plain checksum. For every row of bytes. -/
import Derived.Test.YtlnoadnejefmoaaCrcRef
import Derived.Outline
set_option linter.unusedVariables false
set_option linter.unusedSimpArgs false
namespace Go.Proofs.Ytlnoadnejefmoaa
open Go.RowKit Go.Proofs.YtlnoadnejefmoaaW.PrintWords
def tabL : List Nat := [0, 274646895, 549293790, 820201905, 1098587580, 1361435347, 1640403810, 1905808397, 2197175160, 2460548119, 2722870694, 2987750089, 3280807620, 3553878443, 3811616794, 4084100981]
def tabV (k : Nat) : Array Value := ((List.range 16).map fun i => Value.int .u32 ((if i < k then tabL.getD i 0 else 0 : Nat) : Int)).toArray
theorem tabL_is : ∀ i, i < 16 → tabL.getD i 0 = bsteps 4 i := by decide
theorem tabL_lt : ∀ i, i < 16 → tabL.getD i 0 < 4294967296 := by decide
theorem tabV_set (k : Nat) (hk : k < 16) : (tabV k).setIfInBounds k (.int .u32 ((bsteps 4 k : Nat) : Int)) = tabV (k + 1) := by
  unfold tabV
  apply Array.ext
  · simp
  · intro i h1 h2
    simp at h1 h2
    rw [Array.getElem_setIfInBounds (by simpa using h1)]
    simp only [List.getElem_toArray, List.getElem_map, List.getElem_range]
    split
    · rename_i h
      subst h
      rw [if_pos (by omega), tabL_is _ hk]
    · by_cases h : i < k
      · rw [if_pos h, if_pos (by omega)]
      · rw [if_neg h, if_neg (by omega)]
theorem tabV_get (k i : Nat) (hi : i < 16) : (tabV k)[i]? = some (.int .u32 ((if i < k then tabL.getD i 0 else 0 : Nat) : Int)) := by
  unfold tabV
  rw [List.getElem?_toArray, List.getElem?_map, List.getElem?_range hi]
  rfl
theorem tabV_0 : tabV 0 = #[.int .u32 0, .int .u32 0, .int .u32 0, .int .u32 0, .int .u32 0, .int .u32 0, .int .u32 0, .int .u32 0, .int .u32 0, .int .u32 0, .int .u32 0, .int .u32 0, .int .u32 0, .int .u32 0, .int .u32 0, .int .u32 0] := by rfl
theorem tabV_16 : tabV 16 = #[.int .u32 0, .int .u32 274646895, .int .u32 549293790, .int .u32 820201905, .int .u32 1098587580, .int .u32 1361435347, .int .u32 1640403810, .int .u32 1905808397, .int .u32 2197175160, .int .u32 2460548119, .int .u32 2722870694, .int .u32 2987750089, .int .u32 3280807620, .int .u32 3553878443, .int .u32 3811616794, .int .u32 4084100981] := by rfl
set_option maxHeartbeats 4000000 in
set_option maxRecDepth 100000 in
theorem crc_table (w : World) : Calls Try.prog 97 #[] w fun e w' => e = .returned (.agg #[.int .u32 0, .int .u32 274646895, .int .u32 549293790, .int .u32 820201905, .int .u32 1098587580, .int .u32 1361435347, .int .u32 1640403810, .int .u32 1905808397, .int .u32 2197175160, .int .u32 2460548119, .int .u32 2722870694, .int .u32 2987750089, .int .u32 3280807620, .int .u32 3553878443, .int .u32 3811616794, .int .u32 4084100981]) ∧ Below w.heap.size w w' := by
  go_enter Try.func97, Try.ntmps97
  go_wp2
  go_loopw [4] (fun i wr => ∃ k : Nat, i = .int .i64 k ∧ k ≤ 16 ∧ Below w.heap.size w wr ∧ w.heap.size + 2 = wr.heap.size ∧ Hid (wr.heap[w.heap.size]? = some (.cells #[.int .u32 0, .int .u32 0, .int .u32 0, .int .u32 0, .int .u32 0, .int .u32 0, .int .u32 0, .int .u32 0, .int .u32 0, .int .u32 0, .int .u32 0, .int .u32 0, .int .u32 0, .int .u32 0, .int .u32 0, .int .u32 0] 94 (0, 0)) ∧ wr.heap[w.heap.size + 1]? = some (.cells (tabV k) 94 (0, 0)))) (fun i _ => 16 - (intOf i).toNat)
  case atStart =>
    refine ⟨0, rfl, by omega, ((Below.refl _ _).alloc (Nat.le_refl _) _).alloc (by simp) _, by simp, ?_, ?_⟩
    · exact blk_alloc (Go.heap_alloc_new w _) _
    · have := Go.heap_alloc_new (w.alloc (.cells #[.int .u32 0, .int .u32 0, .int .u32 0, .int .u32 0, .int .u32 0, .int .u32 0, .int .u32 0, .int .u32 0, .int .u32 0, .int .u32 0, .int .u32 0, .int .u32 0, .int .u32 0, .int .u32 0, .int .u32 0, .int .u32 0] 94)) (.cells #[.int .u32 0, .int .u32 0, .int .u32 0, .int .u32 0, .int .u32 0, .int .u32 0, .int .u32 0, .int .u32 0, .int .u32 0, .int .u32 0, .int .u32 0, .int .u32 0, .int .u32 0, .int .u32 0, .int .u32 0, .int .u32 0] 94)
      rw [tabV_0]
      simpa using this
  case round =>
    obtain ⟨k, rfl, hk, hbl, hsz, hb⟩ := hrel
    by_cases hlt : k < 16
    · have hlti : (k : Int) < 16 := by omega
      have c1 : wr.cell? ⟨w.heap.size + 1, k, none⟩ = some (.int .u32 0) := by
        rw [blk_cell hb.out.2 k, tabV_get k k hlt, if_neg (by omega)]; rfl
      have c2 : wr.frozen? ⟨w.heap.size + 1, k, none⟩ = false := blk_frozen hb.out.2 k
      go_wp2
      go_loop [3, 9] (fun v i => ∃ (j y : Nat), i = .int .i64 j ∧ j ≤ 4 ∧ v = .int .u32 y ∧ y < 4294967296 ∧ Hid (bsteps (4 - j) y = bsteps 4 k)) (fun _ i => 4 - (intOf i).toNat)
      case atStart => exact ⟨0, k, rfl, by omega, rfl, by omega, rfl⟩
      case round =>
        obtain ⟨j, y, rfl, hj, rfl, hy, hinv⟩ := hrel
        by_cases hjt : j < 4
        · have hjti : (j : Int) < 4 := by omega
          have hs : Hid (bsteps (4 - (j + 1)) (bstep y) = bsteps 4 k) := by
            have := hinv.out
            rw [show 4 - j = (4 - (j + 1)) + 1 from by omega] at this
            exact this
          have hb1 := bstep_lt y hy
          have ha := bits_and1 y hy
          by_cases ho : y % 2 = 1
          · have ho1 : (bits .and .u32 (y : Int) 1 == 1) = true := by rw [ha, ho]; rfl
            have hx1 := bits_xor32 (y / 2) 2197175160 (by omega) (by decide)
            have hx2 : bits .xor .u32 ((y : Int) / 2) 2197175160 = ((bstep y : Nat) : Int) := by
              unfold bstep
              rw [if_pos ho, ← hx1]
              congr 1
            clear hx1 ha
            have HO := Hid.mk' ho
            clear ho
            go_wp2
            have HX := Hid.mk' hx2
            clear hx2
            go_round
            case rel => exact ⟨j + 1, bstep y, by go_num, by omega, rfl, hb1, hs.out⟩
            case measure => simp [intOf]; omega
          · have ho1 : (bits .and .u32 (y : Int) 1 == 1) = false := by rw [ha, beq_eq_false_iff_ne]; omega
            have he : bstep y = y / 2 := by unfold bstep; rw [if_neg ho]
            have HO := Hid.mk' ho
            have HE := Hid.mk' he
            clear ho he ha
            go_wp2
            go_round
            case rel => exact ⟨j + 1, bstep y, by go_num, by omega, by rw [HE.out]; rfl, hb1, hs.out⟩
            case measure => simp [intOf]; omega
        · have hy2 : bsteps 4 k = y := by
            have := hinv.out
            rw [show 4 - j = 0 from by omega] at this
            exact this.symm
          have HY := Hid.mk' hy2
          clear hy2
          go_wp2
          go_roundw
          case rel => exact ⟨k + 1, by go_num, by omega, hbl.setCell (by show w.heap.size ≤ w.heap.size + 1; omega) _, by simpa using hsz, blk_far hb.out.1 (by show w.heap.size ≠ w.heap.size + 1; omega) _, blk_put hb.out.2 k _ (by rw [← HY.out]; exact tabV_set k hlt)⟩
          case measure => simp [intOf]; omega
    · have hk16 : k = 16 := by omega
      subst hk16
      obtain ⟨h0, h1⟩ := hb.out
      rw [tabV_16] at h1
      have r0 : wr.cell? ⟨w.heap.size + 1, 0, none⟩ = some (.int .u32 0) := blk_cell h1 0
      have r1 : wr.cell? ⟨w.heap.size + 1, 1, none⟩ = some (.int .u32 274646895) := blk_cell h1 1
      have r2 : wr.cell? ⟨w.heap.size + 1, 2, none⟩ = some (.int .u32 549293790) := blk_cell h1 2
      have r3 : wr.cell? ⟨w.heap.size + 1, 3, none⟩ = some (.int .u32 820201905) := blk_cell h1 3
      have r4 : wr.cell? ⟨w.heap.size + 1, 4, none⟩ = some (.int .u32 1098587580) := blk_cell h1 4
      have r5 : wr.cell? ⟨w.heap.size + 1, 5, none⟩ = some (.int .u32 1361435347) := blk_cell h1 5
      have r6 : wr.cell? ⟨w.heap.size + 1, 6, none⟩ = some (.int .u32 1640403810) := blk_cell h1 6
      have r7 : wr.cell? ⟨w.heap.size + 1, 7, none⟩ = some (.int .u32 1905808397) := blk_cell h1 7
      have r8 : wr.cell? ⟨w.heap.size + 1, 8, none⟩ = some (.int .u32 2197175160) := blk_cell h1 8
      have r9 : wr.cell? ⟨w.heap.size + 1, 9, none⟩ = some (.int .u32 2460548119) := blk_cell h1 9
      have r10 : wr.cell? ⟨w.heap.size + 1, 10, none⟩ = some (.int .u32 2722870694) := blk_cell h1 10
      have r11 : wr.cell? ⟨w.heap.size + 1, 11, none⟩ = some (.int .u32 2987750089) := blk_cell h1 11
      have r12 : wr.cell? ⟨w.heap.size + 1, 12, none⟩ = some (.int .u32 3280807620) := blk_cell h1 12
      have r13 : wr.cell? ⟨w.heap.size + 1, 13, none⟩ = some (.int .u32 3553878443) := blk_cell h1 13
      have r14 : wr.cell? ⟨w.heap.size + 1, 14, none⟩ = some (.int .u32 3811616794) := blk_cell h1 14
      have r15 : wr.cell? ⟨w.heap.size + 1, 15, none⟩ = some (.int .u32 4084100981) := blk_cell h1 15
      have q0 : wr.cell? ⟨w.heap.size, 0, none⟩ = some (.int .u32 0) := blk_cell h0 0
      have f0 : wr.frozen? ⟨w.heap.size, 0, none⟩ = false := blk_frozen h0 0
      have q1 : wr.cell? ⟨w.heap.size, 1, none⟩ = some (.int .u32 0) := blk_cell h0 1
      have f1 : wr.frozen? ⟨w.heap.size, 1, none⟩ = false := blk_frozen h0 1
      have q2 : wr.cell? ⟨w.heap.size, 2, none⟩ = some (.int .u32 0) := blk_cell h0 2
      have f2 : wr.frozen? ⟨w.heap.size, 2, none⟩ = false := blk_frozen h0 2
      have q3 : wr.cell? ⟨w.heap.size, 3, none⟩ = some (.int .u32 0) := blk_cell h0 3
      have f3 : wr.frozen? ⟨w.heap.size, 3, none⟩ = false := blk_frozen h0 3
      have q4 : wr.cell? ⟨w.heap.size, 4, none⟩ = some (.int .u32 0) := blk_cell h0 4
      have f4 : wr.frozen? ⟨w.heap.size, 4, none⟩ = false := blk_frozen h0 4
      have q5 : wr.cell? ⟨w.heap.size, 5, none⟩ = some (.int .u32 0) := blk_cell h0 5
      have f5 : wr.frozen? ⟨w.heap.size, 5, none⟩ = false := blk_frozen h0 5
      have q6 : wr.cell? ⟨w.heap.size, 6, none⟩ = some (.int .u32 0) := blk_cell h0 6
      have f6 : wr.frozen? ⟨w.heap.size, 6, none⟩ = false := blk_frozen h0 6
      have q7 : wr.cell? ⟨w.heap.size, 7, none⟩ = some (.int .u32 0) := blk_cell h0 7
      have f7 : wr.frozen? ⟨w.heap.size, 7, none⟩ = false := blk_frozen h0 7
      have q8 : wr.cell? ⟨w.heap.size, 8, none⟩ = some (.int .u32 0) := blk_cell h0 8
      have f8 : wr.frozen? ⟨w.heap.size, 8, none⟩ = false := blk_frozen h0 8
      have q9 : wr.cell? ⟨w.heap.size, 9, none⟩ = some (.int .u32 0) := blk_cell h0 9
      have f9 : wr.frozen? ⟨w.heap.size, 9, none⟩ = false := blk_frozen h0 9
      have q10 : wr.cell? ⟨w.heap.size, 10, none⟩ = some (.int .u32 0) := blk_cell h0 10
      have f10 : wr.frozen? ⟨w.heap.size, 10, none⟩ = false := blk_frozen h0 10
      have q11 : wr.cell? ⟨w.heap.size, 11, none⟩ = some (.int .u32 0) := blk_cell h0 11
      have f11 : wr.frozen? ⟨w.heap.size, 11, none⟩ = false := blk_frozen h0 11
      have q12 : wr.cell? ⟨w.heap.size, 12, none⟩ = some (.int .u32 0) := blk_cell h0 12
      have f12 : wr.frozen? ⟨w.heap.size, 12, none⟩ = false := blk_frozen h0 12
      have q13 : wr.cell? ⟨w.heap.size, 13, none⟩ = some (.int .u32 0) := blk_cell h0 13
      have f13 : wr.frozen? ⟨w.heap.size, 13, none⟩ = false := blk_frozen h0 13
      have q14 : wr.cell? ⟨w.heap.size, 14, none⟩ = some (.int .u32 0) := blk_cell h0 14
      have f14 : wr.frozen? ⟨w.heap.size, 14, none⟩ = false := blk_frozen h0 14
      have q15 : wr.cell? ⟨w.heap.size, 15, none⟩ = some (.int .u32 0) := blk_cell h0 15
      have f15 : wr.frozen? ⟨w.heap.size, 15, none⟩ = false := blk_frozen h0 15
      have HB := Hid.mk' h0
      clear h0 h1 hb
      go_wp2
      refine bodyPost_ret (results_cell_row rfl _ _ w.heap.size 94 #[.int .u32 0, .int .u32 274646895, .int .u32 549293790, .int .u32 820201905, .int .u32 1098587580, .int .u32 1361435347, .int .u32 1640403810, .int .u32 1905808397, .int .u32 2197175160, .int .u32 2460548119, .int .u32 2722870694, .int .u32 2987750089, .int .u32 3280807620, .int .u32 3553878443, .int .u32 3811616794, .int .u32 4084100981] (0, 0) _ rfl ?_ Try.underlying94 rfl (by kernel_rfl)) rfl ⟨rfl, ?_⟩
      · skip
        refine blk_put (cs := #[.int .u32 0, .int .u32 274646895, .int .u32 549293790, .int .u32 820201905, .int .u32 1098587580, .int .u32 1361435347, .int .u32 1640403810, .int .u32 1905808397, .int .u32 2197175160, .int .u32 2460548119, .int .u32 2722870694, .int .u32 2987750089, .int .u32 3280807620, .int .u32 3553878443, .int .u32 3811616794, .int .u32 0]) ?_ 15 _ rfl
        refine blk_put (cs := #[.int .u32 0, .int .u32 274646895, .int .u32 549293790, .int .u32 820201905, .int .u32 1098587580, .int .u32 1361435347, .int .u32 1640403810, .int .u32 1905808397, .int .u32 2197175160, .int .u32 2460548119, .int .u32 2722870694, .int .u32 2987750089, .int .u32 3280807620, .int .u32 3553878443, .int .u32 0, .int .u32 0]) ?_ 14 _ rfl
        refine blk_put (cs := #[.int .u32 0, .int .u32 274646895, .int .u32 549293790, .int .u32 820201905, .int .u32 1098587580, .int .u32 1361435347, .int .u32 1640403810, .int .u32 1905808397, .int .u32 2197175160, .int .u32 2460548119, .int .u32 2722870694, .int .u32 2987750089, .int .u32 3280807620, .int .u32 0, .int .u32 0, .int .u32 0]) ?_ 13 _ rfl
        refine blk_put (cs := #[.int .u32 0, .int .u32 274646895, .int .u32 549293790, .int .u32 820201905, .int .u32 1098587580, .int .u32 1361435347, .int .u32 1640403810, .int .u32 1905808397, .int .u32 2197175160, .int .u32 2460548119, .int .u32 2722870694, .int .u32 2987750089, .int .u32 0, .int .u32 0, .int .u32 0, .int .u32 0]) ?_ 12 _ rfl
        refine blk_put (cs := #[.int .u32 0, .int .u32 274646895, .int .u32 549293790, .int .u32 820201905, .int .u32 1098587580, .int .u32 1361435347, .int .u32 1640403810, .int .u32 1905808397, .int .u32 2197175160, .int .u32 2460548119, .int .u32 2722870694, .int .u32 0, .int .u32 0, .int .u32 0, .int .u32 0, .int .u32 0]) ?_ 11 _ rfl
        refine blk_put (cs := #[.int .u32 0, .int .u32 274646895, .int .u32 549293790, .int .u32 820201905, .int .u32 1098587580, .int .u32 1361435347, .int .u32 1640403810, .int .u32 1905808397, .int .u32 2197175160, .int .u32 2460548119, .int .u32 0, .int .u32 0, .int .u32 0, .int .u32 0, .int .u32 0, .int .u32 0]) ?_ 10 _ rfl
        refine blk_put (cs := #[.int .u32 0, .int .u32 274646895, .int .u32 549293790, .int .u32 820201905, .int .u32 1098587580, .int .u32 1361435347, .int .u32 1640403810, .int .u32 1905808397, .int .u32 2197175160, .int .u32 0, .int .u32 0, .int .u32 0, .int .u32 0, .int .u32 0, .int .u32 0, .int .u32 0]) ?_ 9 _ rfl
        refine blk_put (cs := #[.int .u32 0, .int .u32 274646895, .int .u32 549293790, .int .u32 820201905, .int .u32 1098587580, .int .u32 1361435347, .int .u32 1640403810, .int .u32 1905808397, .int .u32 0, .int .u32 0, .int .u32 0, .int .u32 0, .int .u32 0, .int .u32 0, .int .u32 0, .int .u32 0]) ?_ 8 _ rfl
        refine blk_put (cs := #[.int .u32 0, .int .u32 274646895, .int .u32 549293790, .int .u32 820201905, .int .u32 1098587580, .int .u32 1361435347, .int .u32 1640403810, .int .u32 0, .int .u32 0, .int .u32 0, .int .u32 0, .int .u32 0, .int .u32 0, .int .u32 0, .int .u32 0, .int .u32 0]) ?_ 7 _ rfl
        refine blk_put (cs := #[.int .u32 0, .int .u32 274646895, .int .u32 549293790, .int .u32 820201905, .int .u32 1098587580, .int .u32 1361435347, .int .u32 0, .int .u32 0, .int .u32 0, .int .u32 0, .int .u32 0, .int .u32 0, .int .u32 0, .int .u32 0, .int .u32 0, .int .u32 0]) ?_ 6 _ rfl
        refine blk_put (cs := #[.int .u32 0, .int .u32 274646895, .int .u32 549293790, .int .u32 820201905, .int .u32 1098587580, .int .u32 0, .int .u32 0, .int .u32 0, .int .u32 0, .int .u32 0, .int .u32 0, .int .u32 0, .int .u32 0, .int .u32 0, .int .u32 0, .int .u32 0]) ?_ 5 _ rfl
        refine blk_put (cs := #[.int .u32 0, .int .u32 274646895, .int .u32 549293790, .int .u32 820201905, .int .u32 0, .int .u32 0, .int .u32 0, .int .u32 0, .int .u32 0, .int .u32 0, .int .u32 0, .int .u32 0, .int .u32 0, .int .u32 0, .int .u32 0, .int .u32 0]) ?_ 4 _ rfl
        refine blk_put (cs := #[.int .u32 0, .int .u32 274646895, .int .u32 549293790, .int .u32 0, .int .u32 0, .int .u32 0, .int .u32 0, .int .u32 0, .int .u32 0, .int .u32 0, .int .u32 0, .int .u32 0, .int .u32 0, .int .u32 0, .int .u32 0, .int .u32 0]) ?_ 3 _ rfl
        refine blk_put (cs := #[.int .u32 0, .int .u32 274646895, .int .u32 0, .int .u32 0, .int .u32 0, .int .u32 0, .int .u32 0, .int .u32 0, .int .u32 0, .int .u32 0, .int .u32 0, .int .u32 0, .int .u32 0, .int .u32 0, .int .u32 0, .int .u32 0]) ?_ 2 _ rfl
        refine blk_put (cs := #[.int .u32 0, .int .u32 0, .int .u32 0, .int .u32 0, .int .u32 0, .int .u32 0, .int .u32 0, .int .u32 0, .int .u32 0, .int .u32 0, .int .u32 0, .int .u32 0, .int .u32 0, .int .u32 0, .int .u32 0, .int .u32 0]) ?_ 1 _ rfl
        refine blk_put (cs := #[.int .u32 0, .int .u32 0, .int .u32 0, .int .u32 0, .int .u32 0, .int .u32 0, .int .u32 0, .int .u32 0, .int .u32 0, .int .u32 0, .int .u32 0, .int .u32 0, .int .u32 0, .int .u32 0, .int .u32 0, .int .u32 0]) ?_ 0 _ rfl
        exact HB.out
      exact Below.setCell (p := ⟨w.heap.size, 15, none⟩) (Below.setCell (p := ⟨w.heap.size, 14, none⟩) (Below.setCell (p := ⟨w.heap.size, 13, none⟩) (Below.setCell (p := ⟨w.heap.size, 12, none⟩) (Below.setCell (p := ⟨w.heap.size, 11, none⟩) (Below.setCell (p := ⟨w.heap.size, 10, none⟩) (Below.setCell (p := ⟨w.heap.size, 9, none⟩) (Below.setCell (p := ⟨w.heap.size, 8, none⟩) (Below.setCell (p := ⟨w.heap.size, 7, none⟩) (Below.setCell (p := ⟨w.heap.size, 6, none⟩) (Below.setCell (p := ⟨w.heap.size, 5, none⟩) (Below.setCell (p := ⟨w.heap.size, 4, none⟩) (Below.setCell (p := ⟨w.heap.size, 3, none⟩) (Below.setCell (p := ⟨w.heap.size, 2, none⟩) (Below.setCell (p := ⟨w.heap.size, 1, none⟩) (Below.setCell (p := ⟨w.heap.size, 0, none⟩) (hbl) (Nat.le_refl _) _) (Nat.le_refl _) _) (Nat.le_refl _) _) (Nat.le_refl _) _) (Nat.le_refl _) _) (Nat.le_refl _) _) (Nat.le_refl _) _) (Nat.le_refl _) _) (Nat.le_refl _) _) (Nat.le_refl _) _) (Nat.le_refl _) _) (Nat.le_refl _) _) (Nat.le_refl _) _) (Nat.le_refl _) _) (Nat.le_refl _) _) (Nat.le_refl _) _
/-- A place of the table. -/
theorem tab_at (z : Nat) : (#[.int .u32 0, .int .u32 274646895, .int .u32 549293790, .int .u32 820201905, .int .u32 1098587580, .int .u32 1361435347, .int .u32 1640403810, .int .u32 1905808397, .int .u32 2197175160, .int .u32 2460548119, .int .u32 2722870694, .int .u32 2987750089, .int .u32 3280807620, .int .u32 3553878443, .int .u32 3811616794, .int .u32 4084100981] : Array Value)[z % 16]? = some (.int .u32 ((bsteps 4 (z % 16) : Nat) : Int)) := by
  rw [← tabV_16, tabV_get 16 _ (Nat.mod_lt _ (by decide)), if_pos (Nat.mod_lt _ (by decide)), tabL_is _ (Nat.mod_lt _ (by decide))]
theorem half_xor (y z : Nat) (hy : y < 4294967296) : bits .xor .u32 (((y : Nat) : Int) / 16) ((bsteps 4 (y % 16) : Nat) : Int) = ((bsteps 4 y : Nat) : Int) := by
  rw [bsteps4 y, ← bits_xor32 (y / 16) (bsteps 4 (y % 16)) (by omega) (bsteps_lt 4 _ (by omega))]
  congr 1
set_option maxHeartbeats 4000000 in
set_option maxRecDepth 100000 in
theorem crc_extend (A : Option Addr) (c : Nat) (l : List Nat) (w : World) (hC : (Kd.int .u8).C w A l.length (nats l)) (hl : ∀ c ∈ l, c < 256) :
    Calls Try.prog 75 #[.int .u32 0, .slice A l.length c] w fun e w' => e = .returned (.int .u32 ((crcOf l : Nat) : Int)) ∧ Below w.heap.size w w' := by
  have hm := Kd.C_max hC
  have h1 := bits_max32 0 (by decide)
  go_enter Try.func75, Try.ntmps75
  go_wp2_with (go_at_call 97; refine (crc_table _).mono ?_; rintro e w1 ⟨rfl, hb1⟩)
  rw [show bits BinOp.xor IntKind.u32 IntKind.u32.max 0 = (4294967295 : Int) from h1]
  clear h1
  have hw1 : w1.heap.size ≤ (w1.alloc (.cells #[.int .u32 0, .int .u32 274646895, .int .u32 549293790, .int .u32 820201905, .int .u32 1098587580, .int .u32 1361435347, .int .u32 1640403810, .int .u32 1905808397, .int .u32 2197175160, .int .u32 2460548119, .int .u32 2722870694, .int .u32 2987750089, .int .u32 3280807620, .int .u32 3553878443, .int .u32 3811616794, .int .u32 4084100981] 94)).heap.size := by simp
  go_loopw [6, 14] (fun v i wr => ∃ k : Nat, i = .int .i64 k ∧ k ≤ l.length ∧ v = .int .u32 ((crcGo 4294967295 (l.take k) : Nat) : Int) ∧ Below w.heap.size w wr ∧ Hid (wr.heap[w1.heap.size]? = some (.cells #[.int .u32 0, .int .u32 274646895, .int .u32 549293790, .int .u32 820201905, .int .u32 1098587580, .int .u32 1361435347, .int .u32 1640403810, .int .u32 1905808397, .int .u32 2197175160, .int .u32 2460548119, .int .u32 2722870694, .int .u32 2987750089, .int .u32 3280807620, .int .u32 3553878443, .int .u32 3811616794, .int .u32 4084100981] 94 (0, 0)))) (fun _ i _ => l.length - (intOf i).toNat)
  case atStart => exact ⟨0, rfl, by omega, rfl, hb1.alloc hb1.size _, Go.heap_alloc_new _ _⟩
  case round =>
    obtain ⟨k, rfl, hk, rfl, hbl, hT⟩ := hrel
    have hlt2 := crcGo_lt (l.take k) 4294967295 (by decide) (fun d hd => hl d (List.mem_of_mem_take hd))
    obtain ⟨y, hy⟩ : ∃ y, crcGo 4294967295 (l.take k) = y := ⟨_, rfl⟩
    rw [hy] at hlt2 ⊢
    have HY := Hid.mk' hy
    clear hy
    by_cases hlt : k < l.length
    · have hlti : (k : Int) < l.length := by omega
      obtain ⟨ad, rfl, hc⟩ := nats_at (Kd.C_below hC hbl) k hlt
      obtain ⟨d, hd⟩ : ∃ d, l.getD k 0 = d := ⟨_, rfl⟩
      have hd2 : d < 256 := hl d (by rw [← hd, List.getD_eq_getElem?_getD, List.getElem?_eq_getElem hlt]; exact List.getElem_mem hlt)
      rw [hd] at hc
      have hs : Hid (crcGo 4294967295 (l.take (k + 1)) = crcTake y d) := by
        show _ = _
        rw [List.take_succ_eq_append_getElem hlt, crcGo_snoc, HY.out]
        rw [List.getD_eq_getElem?_getD, List.getElem?_eq_getElem hlt] at hd
        simp at hd
        rw [hd]
      clear hd
      obtain ⟨z, hz⟩ : ∃ z, y ^^^ d = z := ⟨_, rfl⟩
      have hzl : z < 4294967296 := by rw [← hz]; exact Nat.xor_lt_two_pow (n := 32) hlt2 (by omega)
      obtain ⟨z2, hz2⟩ : ∃ z2, bsteps 4 z = z2 := ⟨_, rfl⟩
      have hz2l : z2 < 4294967296 := by rw [← hz2]; exact bsteps_lt 4 z hzl
      obtain ⟨z3, hz3⟩ : ∃ z3, bsteps 4 z2 = z3 := ⟨_, rfl⟩
      have hfin : Hid (crcTake y d = z3) := by rw [← hz3, ← hz2, ← hz]; exact crcTake_two y d
      obtain ⟨m1, hm1⟩ : ∃ m, z % 16 = m := ⟨_, rfl⟩
      obtain ⟨m2, hm2⟩ : ∃ m, z2 % 16 = m := ⟨_, rfl⟩
      have hm1l : m1 < 16 := by omega
      have hm2l : m2 < 16 := by omega
      have t1 : wr.cell? ⟨w1.heap.size, m1, none⟩ = some (.int .u32 ((bsteps 4 m1 : Nat) : Int)) := by rw [blk_cell hT.out, ← hm1]; exact tab_at z
      have t2 : wr.cell? ⟨w1.heap.size, m2, none⟩ = some (.int .u32 ((bsteps 4 m2 : Nat) : Int)) := by rw [blk_cell hT.out, ← hm2]; exact tab_at z2
      obtain ⟨v1, hv1⟩ : ∃ v, bsteps 4 m1 = v := ⟨_, rfl⟩
      obtain ⟨v2, hv2⟩ : ∃ v, bsteps 4 m2 = v := ⟨_, rfl⟩
      rw [hv1] at t1
      rw [hv2] at t2
      have x0 : bits .xor .u32 (y : Int) (d : Int) = ((z : Nat) : Int) := by rw [bits_xor32 y d hlt2 (by omega), hz]
      have x1 : bits .and .u32 (z : Int) 15 = ((m1 : Nat) : Int) := by rw [bits_and15 z hzl, hm1]
      have x2 : bits .xor .u32 ((z : Int) / 16) ((v1 : Nat) : Int) = ((z2 : Nat) : Int) := by rw [← hv1, ← hm1, half_xor z z hzl, hz2]
      have x3 : bits .and .u32 (z2 : Int) 15 = ((m2 : Nat) : Int) := by rw [bits_and15 z2 hz2l, hm2]
      have x4 : bits .xor .u32 ((z2 : Int) / 16) ((v2 : Nat) : Int) = ((z3 : Nat) : Int) := by rw [← hv2, ← hm2, half_xor z2 z2 hz2l, hz3]
      clear hz hz2 hz3 hm1 hm2 hv1 hv2
      go_wp2
      have X := Hid.mk' (And.intro x0 (And.intro x1 (And.intro x2 (And.intro x3 x4))))
      clear x0 x1 x2 x3 x4
      go_roundw
      case rel => exact ⟨k + 1, by go_num, by omega, by rw [hs.out, hfin.out], hbl, hT.out⟩
      case measure => simp [intOf]; omega
    · go_wp2
      go_ret
      refine ⟨ret_intE ?_, hbl⟩
      rw [bits_max32 y hlt2, ← HY.out, List.take_of_length_le (by omega)]
      rfl
theorem crc_sum (A : Option Addr) (c : Nat) (l : List Nat) (w : World) (h : (Kd.int .u8).C w A l.length (nats l)) (hl : ∀ c ∈ l, c < 256) :
    Calls Try.prog 53 #[.slice A l.length c] w fun e w' => e = .returned (.int .u32 ((crcOf l : Nat) : Int)) ∧ Below w.heap.size w w' := by
  go_enter Try.func53, Try.ntmps53
  go_wp2_with (go_at_call 75; refine (crc_extend A c l _ h hl).mono ?_; rintro e w' ⟨rfl, hb⟩)
  go_ret
  exact ⟨rfl, hb⟩
end Go.Proofs.Ytlnoadnejefmoaa
