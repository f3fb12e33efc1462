/- The closure of fingerprint.features at another node of a pattern. Strings of at most 1000000000 bytes. -/
import Derived.Test.YtlnoadnejefmoaaFpFeat
set_option linter.unusedVariables false
set_option linter.unusedSimpArgs false
namespace Go.Proofs.Ytlnoadnejefmoaa.L20
open Go.RowKit Go.Maps Go.Proofs.YtlnoadnejefmoaaW.PrintWords
set_option maxHeartbeats 4000000 in
set_option maxRecDepth 100000 in
theorem fp_visit_3 (w0 : World) (bs bf bm bv : Nat) (hbm : w0.heap.size ≤ bm) (h1 : bs ≠ bm) (h2 : bf ≠ bm) (h3 : bv ≠ bm) (k : Nat) (ih : VisitAt w0 bs bf bm bv true k)
    (n : S42) (A : Option Addr) (c : Nat) (acc : List Int) (ls : List (List Int)) (w : World) (hsz : n.f1.size ≤ 1000000000) (hkl : n.f4.length ≤ maxLen) (HM : Hid (isM n = false)) (HLS : Hid (n.f4.mapM (fun c => (featL k true c).map (kidF true n c ++ ·)) = some ls)) (hC : k42.C w0 A n.f4.length n.f4)
    (hb0 : Below w0.heap.size w0 w) (c1 : Cell1 w bs (.bool true) 4) (c2 : Cell1 w bf (.map (some bm)) 68) (c3 : Cell1 w bv (.func (Fn.func 77) #[] #[.pointer (some ⟨bs, 0, none⟩), .pointer (some ⟨bf, 0, none⟩), .pointer (some ⟨bv, 0, none⟩)]) 87)
    (hS : IntSet w bm acc) (hn : acc.length + (ownF true n ++ ls.flatten).length ≤ 1000000000) :
    Calls Try.prog 77 #[.agg #[.int .i64 n.f0, .string n.f1, .int .i64 n.f2, .int .i64 n.f3, .slice A n.f4.length c], .pointer (some ⟨bs, 0, none⟩), .pointer (some ⟨bf, 0, none⟩), .pointer (some ⟨bv, 0, none⟩)] w fun e w' => e = .returned (.tuple #[]) ∧ IntSet w' bm (acc ++ (ownF true n ++ ls.flatten)) ∧ w.grownBy w' (some bm) := by
  have hlt := hS.lt
  have hacc : acc.length < maxLen := by unfold maxLen; omega
  unfold maxLen at hkl
  have hne : w.heap.size ≠ bm := by omega
  obtain ⟨W1, hW1⟩ : ∃ W, w.alloc (.cells #[.int .i64 n.f0, .string n.f1, .int .i64 n.f2, .int .i64 n.f3, .slice A n.f4.length c] 42) = W := ⟨_, rfl⟩
  have g1 : w.grownBy W1 (some bm) := by rw [← hW1]; exact World.grownBy_alloc w _ _
  have b4 : W1.heap[w.heap.size]? = some (.cells #[.int .i64 n.f0, .string n.f1, .int .i64 n.f2, .int .i64 n.f3, .slice A n.f4.length c] 42 (0, 0)) := by rw [← hW1]; exact Go.heap_alloc_new _ _
  have hS1 : IntSet W1 bm acc := by rw [← hW1]; exact hS.alloc _
  have E0 : VEnv n A c bs bf bm bv true w W1 := ⟨b4, c1.keep g1 (by simpa using h1), c2.keep g1 (by simpa using h2), c3.keep g1 (by simpa using h3), g1⟩
  have k1 := E0.2.1.at
  have r0 := blk_cell b4 0
  have r1 := blk_cell b4 1
  have r2 := blk_cell b4 2
  have r3 := blk_cell b4 3
  have r4 := blk_cell b4 4
  go_enter Try.func77, Try.ntmps77
  go_upto_if 14 with (go_at_call 78; refine (fp_meta n A c _ _ HM.out).mono ?_; rintro e w2 ⟨rfl, hb2⟩)
  have E1 := E0.step h1 h2 h3 hne (grown_of_below hb2 (some bm))
  have hS2x := hS1.below hb2 hS1.lt
  go_cut [15] (fun v15 wc => VEnv n A c bs bf bm bv true w wc ∧ IntSet wc bm (acc ++ ownF true n))
  case first =>
    have k2 := E1.2.2.1.at
    have q0 := blk_cell E1.1 0
    have q1 := blk_cell E1.1 1
    have hSd : IntSet w2.drew bm acc := hS2x
    have Ed : VEnv n A c bs bf bm bv true w w2.drew := E1.drew
    go_wp2_with (fail)
    go_region_held3 (fun w' => w'.cell? ⟨bf, 0, none⟩ = some (.map (some bm)) ∧ w'.cell? ⟨w.heap.size, 0, none⟩ = some (.int .i64 n.f0) ∧ w'.cell? ⟨w.heap.size, 1, none⟩ = some (.string n.f1))
      (first
        | exact ⟨k2, q0, q1⟩
        | exact ⟨E3e.2.2.1.at, blk_cell E3e.1 0, blk_cell E3e.1 1⟩
        | exact ⟨E4e.2.2.1.at, blk_cell E4e.1 0, blk_cell E4e.1 1⟩
        | go_keep)
      ((go_at_call 28; refine (fp_node n.f0 n.f1 _ hsz).mono ?_; rintro e w3 ⟨rfl, hb3⟩; have hS2 := hSd.below hb3 hSd.lt; obtain ⟨w4, hrun, hS4, hg4⟩ := hS2.update hacc (nodeF n.f0 n.f1) (nodeF_wf _ _); have E3e := Ed.step h1 h2 h3 hne (grown_of_below hb3 (some bm)); have E4e := E3e.step h1 h2 h3 hne hg4))
    go_wp2_with (fail)
    go_meet
    case rel => exact ⟨E4e, by rw [show ownF true n = [nodeF n.f0 n.f1] from by unfold ownF; rw [HM.out]; rfl]; exact hS4⟩
  case rest =>
    obtain ⟨E2, hSc⟩ := hcut
    have q4 := blk_cell E2.1 4
    go_wp2_with (fail)
    go_loopw [24] (fun i wr => ∃ j : Nat, i = .int .i64 j ∧ j ≤ n.f4.length ∧ VEnv n A c bs bf bm bv true w wr ∧ IntSet wr bm (acc ++ ownF true n ++ (ls.take j).flatten)) (fun i _ => n.f4.length - (intOf i).toNat)
    case atStart => exact ⟨0, rfl, by omega, E2, by rw [List.take_zero, List.flatten_nil, List.append_nil]; exact hSc⟩
    case round =>
      obtain ⟨j, rfl, hj, E3, hS3⟩ := hrel
      by_cases hlt : j < n.f4.length
      · have hlti : (j : Int) < n.f4.length := by omega
        obtain ⟨y, hy1, hy2⟩ := mapM_at HLS.out j hlt
        obtain ⟨l', hl', rfl⟩ := Option.map_eq_some_iff.1 hy2
        have hbw : Below w0.heap.size w0 wr := hb0.grown E3.2.2.2.2 hb0.size (fun q hq => by cases hq; exact hbm)
        obtain ⟨ad, A4, c4, rfl, z0, z1, z2, z3, z4, l4, C4⟩ := at_T42 hC (j : Int) (by omega) hlti
        have z0 := pw_cell_below hbw z0
        have z1 := pw_cell_below hbw z1
        have z2 := pw_cell_below hbw z2
        have z3 := pw_cell_below hbw z3
        have z4 := pw_cell_below hbw z4
        have hrd : rd_T42 n.f4 (j : Int) = n.f4[j] := by unfold rd_T42; rw [List.getD_eq_getElem?_getD, Int.toNat_natCast, List.getElem?_eq_getElem hlt]; rfl
        rw [hrd] at z0 z1 z2 z3 z4 l4 C4
        simp only [Int.toNat_natCast] at z0 z1 z2 z3 z4
        obtain ⟨x, hx⟩ : ∃ x, n.f4[j] = x := ⟨_, rfl⟩
        rw [hx] at z0 z1 z2 z3 z4 l4 C4 hl' hy1
        have hxs : x.f1.size ≤ 1000000000 := featL_size hl'
        have hlen : (acc ++ ownF true n ++ (ls.take j).flatten).length + (kidF true n x ++ l').length ≤ 1000000000 := by
          have := flat_len ls j _ hy1
          simp only [List.length_append] at hn this ⊢
          omega
        have htk : (ls.take (j + 1)).flatten = (ls.take j).flatten ++ (kidF true n x ++ l') := flat_take ls j _ hy1
        have HTK := Hid.mk' htk
        have HL' := Hid.mk' hl'
        have hacc3 : (acc ++ ownF true n ++ (ls.take j).flatten).length < maxLen := by unfold maxLen; omega
        have HX := Hid.mk' hx
        obtain ⟨acc3, ha3⟩ : ∃ a, acc ++ ownF true n ++ (ls.take j).flatten = a := ⟨_, rfl⟩
        rw [ha3] at hS3 hlen hacc3
        have HA3 := Hid.mk' ha3
        clear htk hl' hrd hy1 hy2 hx ha3
        obtain ⟨W2, hW2⟩ : ∃ W, wr.alloc (.cells #[.int .i64 x.f0, .string x.f1, .int .i64 x.f2, .int .i64 x.f3, .slice A4 x.f4.length c4] 42) = W := ⟨_, rfl⟩
        have g2 : wr.grownBy W2 (some bm) := by rw [← hW2]; exact World.grownBy_alloc wr _ _
        have b7 : W2.heap[wr.heap.size]? = some (.cells #[.int .i64 x.f0, .string x.f1, .int .i64 x.f2, .int .i64 x.f3, .slice A4 x.f4.length c4] 42 (0, 0)) := by rw [← hW2]; exact Go.heap_alloc_new _ _
        have hS2 : IntSet W2 bm acc3 := by rw [← hW2]; exact hS3.alloc _
        have E4 := E3.step h1 h2 h3 hne g2
        have s0 := blk_cell b7 0
        have s1 := blk_cell b7 1
        have s2 := blk_cell b7 2
        have s3 := blk_cell b7 3
        have s4 := blk_cell b7 4
        have hne7 : wr.heap.size ≠ bm := by have := hS3.lt; omega
        have k1b := E4.2.1.at
        cases hMx : isM x with
        | true =>
          have HMX := Hid.mk' hMx
          clear hMx
          go_upto_if 37 with (go_at_call 78; refine (fp_meta x A4 c4 _ _ HMX.out).mono ?_; rintro e w6 ⟨rfl, hb6⟩)
          have g6 := grown_of_below hb6 (some bm)
          have E6 := E4.step h1 h2 h3 hne g6
          have hS6 := hS2.below hb6 hS2.lt
          have b76 := blk_below b7 hb6
          have s0 := blk_cell b76 0
          have s1 := blk_cell b76 1
          have s2 := blk_cell b76 2
          have s3 := blk_cell b76 3
          have s4 := blk_cell b76 4
          have hkn : kidF true n x = [] := by unfold kidF; rw [HMX.out]; simp
          have HKN := Hid.mk' hkn
          clear hkn
          have hSx : IntSet w6 bm (acc3 ++ kidF true n x) := by rw [HKN.out, List.append_nil]; exact hS6
          have k3 := E6.2.2.2.1.at
          go_wp2_with (go_at_call 77; refine (ih x A4 c4 _ l' _ HL'.out C4 (hb0.grown E6.2.2.2.2 hb0.size (fun q hq => by cases hq; exact hbm)) E6.2.1 E6.2.2.1 E6.2.2.2.1 hSx (by simp only [List.length_append] at hlen ⊢; omega)).mono ?_; rintro e w9 ⟨rfl, hS9, hg9⟩)
          go_roundw
          case rel => exact ⟨j + 1, by go_num, by omega, E6.step h1 h2 h3 hne hg9, by rw [HTK.out, ← List.append_assoc, HA3.out, ← List.append_assoc]; exact hS9⟩
          case measure => simp [intOf]; omega
        | false =>
          have HMX := Hid.mk' hMx
          clear hMx
          go_upto_if 37 with (go_at_call 78; refine (fp_meta x A4 c4 _ _ HMX.out).mono ?_; rintro e w6 ⟨rfl, hb6⟩)
          have g6 := grown_of_below hb6 (some bm)
          have E6 := E4.step h1 h2 h3 hne g6
          have hS6 := hS2.below hb6 hS2.lt
          have b76 := blk_below b7 hb6
          have k2 := E6.2.2.1.at
          have q0 := blk_cell E6.1 0
          have q1 := blk_cell E6.1 1
          have p0 := blk_cell b76 0
          have p1 := blk_cell b76 1
          have hSd : IntSet w6.drew bm acc3 := hS6
          have Ed : VEnv n (some ad) c bs bf bm bv true w w6.drew := E6.drew
          have b7d : w6.drew.heap[wr.heap.size]? = some (.cells #[.int .i64 x.f0, .string x.f1, .int .i64 x.f2, .int .i64 x.f3, .slice A4 x.f4.length c4] 42 (0, 0)) := b76
          go_upto_region 8 with (fail)
          go_cut [38] (fun v38 wc => VEnv n (some ad) c bs bf bm bv true w wc ∧ IntSet wc bm (acc3 ++ kidF true n x) ∧ Hid (wc.heap[wr.heap.size]? = some (.cells #[.int .i64 x.f0, .string x.f1, .int .i64 x.f2, .int .i64 x.f3, .slice A4 x.f4.length c4] 42 (0, 0))))
          case first =>
            go_region_held3 (fun w' => w'.cell? ⟨bf, 0, none⟩ = some (.map (some bm)) ∧ w'.cell? ⟨w.heap.size, 0, none⟩ = some (.int .i64 n.f0) ∧ w'.cell? ⟨w.heap.size, 1, none⟩ = some (.string n.f1) ∧
                w'.cell? ⟨wr.heap.size, 0, none⟩ = some (.int .i64 x.f0) ∧ w'.cell? ⟨wr.heap.size, 1, none⟩ = some (.string x.f1))
              (first
                | exact ⟨k2, q0, q1, p0, p1⟩
                | exact ⟨E3e.2.2.1.at, blk_cell E3e.1 0, blk_cell E3e.1 1, blk_cell b73e 0, blk_cell b73e 1⟩
                | exact ⟨E4e.2.2.1.at, blk_cell E4e.1 0, blk_cell E4e.1 1, blk_cell b74e 0, blk_cell b74e 1⟩
                | go_keep)
              ((go_at_call 30; refine (fp_pair n.f0 n.f1 x.f0 x.f1 _ hsz hxs).mono ?_; rintro e w3 ⟨rfl, hb3⟩; have hSe := hSd.below hb3 hSd.lt; obtain ⟨w4, hrun, hS4, hg4⟩ := hSe.update hacc3 (pairF n.f0 n.f1 x.f0 x.f1) (pairF_wf _ _ _ _); have E3e := Ed.step h1 h2 h3 hne (grown_of_below hb3 (some bm)); have b73e := blk_below b7d hb3; have E4e := E3e.step h1 h2 h3 hne hg4; have b74e := blk_grown b73e hg4 (by simpa using hne7)))
            go_wp2_with (fail)
            go_meet
            case rel => exact ⟨E4e, by rw [show kidF true n x = [pairF n.f0 n.f1 x.f0 x.f1] from by unfold kidF; rw [HM.out, HMX.out]; simp]; exact hS4, b74e⟩
          case rest =>
            obtain ⟨E5, hS5, hb7⟩ := hcut
            have b75 := hb7.out
            have k3 := E5.2.2.2.1.at
            have s0 := blk_cell b75 0
            have s1 := blk_cell b75 1
            have s2 := blk_cell b75 2
            have s3 := blk_cell b75 3
            have s4 := blk_cell b75 4
            go_wp2_with (go_at_call 77; refine (ih x A4 c4 _ l' _ HL'.out C4 (hb0.grown E5.2.2.2.2 hb0.size (fun q hq => by cases hq; exact hbm)) E5.2.1 E5.2.2.1 E5.2.2.2.1 hS5 (by simp only [List.length_append] at hlen ⊢; omega)).mono ?_; rintro e w9 ⟨rfl, hS9, hg9⟩)
            go_roundw
            case rel => exact ⟨j + 1, by go_num, by omega, E5.step h1 h2 h3 hne hg9, by rw [HTK.out, ← List.append_assoc, HA3.out, ← List.append_assoc]; exact hS9⟩
            case measure => simp [intOf]; omega
      · rw [List.take_of_length_le (by have := mapM_some_length HLS.out; omega)] at hS3
        go_wp2_with (fail)
        go_end0
        exact ⟨rfl, by rw [← List.append_assoc]; exact hS3, E3.2.2.2.2⟩
end Go.Proofs.Ytlnoadnejefmoaa.L20
