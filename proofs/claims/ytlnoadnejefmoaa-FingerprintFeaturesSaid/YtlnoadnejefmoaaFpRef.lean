/- codesearchref20.features adds the features of a tree to a list. For every tree in memory with strings of at most 1000000000 bytes and at most 1000000000 features. -/
import Derived.Test.YtlnoadnejefmoaaFpRefPut
set_option linter.unusedVariables false
set_option linter.unusedSimpArgs false
namespace Go.Proofs.Ytlnoadnejefmoaa.L20
open Go.RowKit Go.Maps Go.Proofs.YtlnoadnejefmoaaW.PrintWords Go.Proofs.Ytlnoadnejefmoaa.L05
theorem rf_meta (n : S42) (A : Option Addr) (c : Nat) (w : World) (r : Bool) (hr : isM n = r) :
    Calls Try.prog 80 #[.agg #[.int .i64 n.f0, .string n.f1, .int .i64 n.f2, .int .i64 n.f3, .slice A n.f4.length c]] w fun e w' => e = .returned (.bool r) ∧ Below w.heap.size w w' := by
  unfold isM at hr
  cases h1 : (n.f0 == 25) with
  | true =>
    rw [h1, Bool.true_or] at hr
    subst hr
    go_enter Try.func80, Try.ntmps80
    go_wp2
    go_ret
    exact ⟨rfl, (Below.refl _ _).alloc (Nat.le_refl _) _⟩
  | false =>
    rw [h1, Bool.false_or] at hr
    cases h2 : (n.f0 == 26) with
    | true =>
      rw [h2] at hr
      subst hr
      go_enter Try.func80, Try.ntmps80
      go_wp2
      go_ret
      exact ⟨rfl, (Below.refl _ _).alloc (Nat.le_refl _) _⟩
    | false =>
      rw [h2] at hr
      subst hr
      go_enter Try.func80, Try.ntmps80
      go_wp2
      go_ret
      exact ⟨rfl, (Below.refl _ _).alloc (Nat.le_refl _) _⟩
theorem insS_len (l : List Int) (x : Int) : (insS l x).length ≤ l.length + 1 := by
  induction l with
  | nil => simp [insS]
  | cons y r ih =>
    unfold insS
    split
    · simp
    · split
      · simp
      · simp only [List.length_cons]; omega
theorem insF_len (l : List Int) : ∀ acc : List Int, (l.foldl insS acc).length ≤ acc.length + l.length := by
  induction l with
  | nil => intro acc; simp
  | cons x r ih =>
    intro acc
    have := ih (insS acc x)
    have := insS_len acc x
    simp only [List.foldl_cons, List.length_cons]
    omega
/-- What a call of the function does, k levels deep. -/
def RefAt (b0 : Nat) (skip : Bool) (k : Nat) : Prop := ∀ (n : S42) (A : Option Addr) (c : Nat) (acc l : List Int) (v : Value) (w : World), featL k skip n = some l → k42.C w A n.f4.length n.f4 →
    (Kd.int .i64).R 3 w b0 (fun _ => True) v acc → b0 ≤ w.heap.size → acc.length + l.length ≤ 1000000000 →
    Calls Try.prog 58 #[v, .agg #[.int .i64 n.f0, .string n.f1, .int .i64 n.f2, .int .i64 n.f3, .slice A n.f4.length c], .bool skip] w fun e w' => ∃ v', e = .returned v' ∧ (Kd.int .i64).R 3 w' b0 (fun _ => True) v' (l.foldl insS acc) ∧ Below w.heap.size w w'
set_option maxHeartbeats 4000000 in
set_option maxRecDepth 100000 in
theorem rf_visit_1 (b0 k : Nat) (ih : RefAt b0 false k)
    (n : S42) (A : Option Addr) (c : Nat) (acc : List Int) (ls : List (List Int)) (v : Value) (w : World) (hsz : n.f1.size ≤ 1000000000) (hkl : n.f4.length ≤ maxLen) (HLS : Hid (n.f4.mapM (fun c => (featL k false c).map (kidF false n c ++ ·)) = some ls)) (hC : k42.C w A n.f4.length n.f4)
    (hR : (Kd.int .i64).R 3 w b0 (fun _ => True) v acc) (hb0 : b0 ≤ w.heap.size) (hn : acc.length + (ownF false n ++ ls.flatten).length ≤ 1000000000) :
    Calls Try.prog 58 #[v, .agg #[.int .i64 n.f0, .string n.f1, .int .i64 n.f2, .int .i64 n.f3, .slice A n.f4.length c], .bool false] w fun e w' => ∃ v', e = .returned v' ∧ (Kd.int .i64).R 3 w' b0 (fun _ => True) v' ((ownF false n ++ ls.flatten).foldl insS acc) ∧ Below w.heap.size w w' := by
  unfold maxLen at hkl
  obtain ⟨B, cb, rfl, hcb, hA⟩ := Kd.R_reads hR
  have hacc : acc.length ≤ 1000000000 := by omega
  obtain ⟨W1, hW1⟩ : ∃ W, w.alloc (.cells #[.int .i64 n.f0, .string n.f1, .int .i64 n.f2, .int .i64 n.f3, .slice A n.f4.length c] 42) = W := ⟨_, rfl⟩
  have hB1 : Below w.heap.size w W1 := by rw [← hW1]; exact below_alloc (Below.refl _ _) _
  have b4 : W1.heap[w.heap.size]? = some (.cells #[.int .i64 n.f0, .string n.f1, .int .i64 n.f2, .int .i64 n.f3, .slice A n.f4.length c] 42 (0, 0)) := by rw [← hW1]; exact Go.heap_alloc_new _ _
  have hs1 : w.heap.size < W1.heap.size := (Array.getElem?_eq_some_iff.1 b4).1
  have r0 := blk_cell b4 0
  have r1 := blk_cell b4 1
  have r2 := blk_cell b4 2
  have r3 := blk_cell b4 3
  have r4 := blk_cell b4 4
  obtain ⟨own, hown⟩ : ∃ o, ownF false n = o := ⟨_, rfl⟩
  have hown2 : own = [nodeF n.f0 n.f1] := by rw [← hown]; unfold ownF; simp
  rw [hown] at hn ⊢
  have HO2 := Hid.mk' hown2
  clear hown hown2
  go_enter Try.func58, Try.ntmps58
  have HA1 := Kd.C_below hA hB1
  go_upto_region 3 with (first
    | (go_at_call 29; refine (rf_node n.f0 n.f1 _ hsz).mono ?_; rintro e w2 ⟨rfl, hb2⟩)
    | (go_at_call 81; refine (rf_put B cb acc _ _ (Kd.C_below HA1 hb2) hcb hacc).mono ?_; rintro e w3 ⟨v3, rfl, hR3, hb3⟩))
  have hb13 := below_step hb2 hb3
  have E3 := blk_below b4 hb13
  have hR3' := Kd.R_lower hR3 (show b0 ≤ _ by have := hb2.size; have := hB1.size; omega)
  have hB3 : Below w.heap.size w w3 := below_step hB1 hb13
  have hsz3 : w.heap.size < w3.heap.size := by have := hb13.size; omega
  clear r0 r1 r2 r3 r4
  go_wp2_with (fail)
  go_loopw [0, 7] (fun o i wr => ∃ j : Nat, i = .int .i64 j ∧ j ≤ n.f4.length ∧ (Kd.int .i64).R 3 wr b0 (fun _ => True) o ((own ++ (ls.take j).flatten).foldl insS acc) ∧ Below w.heap.size w wr ∧ wr.heap[w.heap.size]? = some (.cells #[.int .i64 n.f0, .string n.f1, .int .i64 n.f2, .int .i64 n.f3, .slice A n.f4.length c] 42 (0, 0))) (fun _ i _ => n.f4.length - (intOf i).toNat)
  case atStart => exact ⟨0, rfl, by omega, by rw [List.take_zero, List.flatten_nil, List.append_nil, HO2.out]; exact hR3', hB3, E3⟩
  case round =>
    obtain ⟨j, rfl, hj, hRj, hBj, b4⟩ := hrel
    have hszj : w.heap.size < wr.heap.size := (Array.getElem?_eq_some_iff.1 b4).1
    have s4 := blk_cell b4 4
    by_cases hlt : j < n.f4.length
    · have hlti : (j : Int) < n.f4.length := by omega
      obtain ⟨y, hy1, hy2⟩ := mapM_at HLS.out j hlt
      obtain ⟨l', hl', rfl⟩ := Option.map_eq_some_iff.1 hy2
      obtain ⟨ad, A4, c4, rfl, z0, z1, z2, z3, z4, l4, C4⟩ := at_T42 hC (j : Int) (by omega) hlti
      have z0 := pw_cell_below hBj z0
      have z1 := pw_cell_below hBj z1
      have z2 := pw_cell_below hBj z2
      have z3 := pw_cell_below hBj z3
      have z4 := pw_cell_below hBj z4
      have hrd : rd_T42 n.f4 (j : Int) = n.f4[j] := by unfold rd_T42; rw [List.getD_eq_getElem?_getD, Int.toNat_natCast, List.getElem?_eq_getElem hlt]; rfl
      rw [hrd] at z0 z1 z2 z3 z4 l4 C4
      simp only [Int.toNat_natCast] at z0 z1 z2 z3 z4
      obtain ⟨x, hx⟩ : ∃ x, n.f4[j] = x := ⟨_, rfl⟩
      rw [hx] at z0 z1 z2 z3 z4 l4 C4 hl' hy1
      have hxs : x.f1.size ≤ 1000000000 := featL_size hl'
      have htk : (ls.take (j + 1)).flatten = (ls.take j).flatten ++ (kidF false n x ++ l') := flat_take ls j _ hy1
      obtain ⟨acc3, ha3⟩ : ∃ a, (own ++ (ls.take j).flatten).foldl insS acc = a := ⟨_, rfl⟩
      have hlen : acc3.length + (kidF false n x ++ l').length ≤ 1000000000 := by
        have := flat_len ls j _ hy1
        have := insF_len (own ++ (ls.take j).flatten) acc
        rw [ha3] at this
        simp only [List.length_append] at *
        omega
      have hnew : (own ++ (ls.take (j + 1)).flatten).foldl insS acc = l'.foldl insS ((kidF false n x).foldl insS acc3) := by
        rw [htk, ← List.append_assoc, List.foldl_append, List.foldl_append, ha3]
      rw [ha3] at hRj
      have HNEW := Hid.mk' hnew
      have HL' := Hid.mk' hl'
      clear hnew htk hl' hrd hy1 hy2 hx ha3
      have hkid : kidF false n x = kidF false n x := rfl
      obtain ⟨B3, c3, rfl, hc3, hA3⟩ := Kd.R_reads hRj
      obtain ⟨W2, hW2⟩ : ∃ W, wr.alloc (.cells #[.int .i64 x.f0, .string x.f1, .int .i64 x.f2, .int .i64 x.f3, .slice A4 x.f4.length c4] 42) = W := ⟨_, rfl⟩
      have g2 : Below wr.heap.size wr W2 := by rw [← hW2]; exact below_alloc (Below.refl _ _) _
      have b7 : W2.heap[wr.heap.size]? = some (.cells #[.int .i64 x.f0, .string x.f1, .int .i64 x.f2, .int .i64 x.f3, .slice A4 x.f4.length c4] 42 (0, 0)) := by rw [← hW2]; exact Go.heap_alloc_new _ _
      have hsz7 : wr.heap.size < W2.heap.size := (Array.getElem?_eq_some_iff.1 b7).1
      have b42 := blk_below b4 g2
      have hB2 : Below w.heap.size w W2 := below_step hBj g2
      have s0 := blk_cell b7 0
      have s1 := blk_cell b7 1
      have s2 := blk_cell b7 2
      have s3 := blk_cell b7 3
      have s4' := blk_cell b7 4
      have t0 := blk_cell b42 0
      have t1 := blk_cell b42 1
      have hkx : kidF false n x = [pairF n.f0 n.f1 x.f0 x.f1] := by unfold kidF; simp
      have hacc3 : acc3.length ≤ 1000000000 := by omega
      have HKX := Hid.mk' hkx
      have hlen2 : (insS acc3 (pairF n.f0 n.f1 x.f0 x.f1)).length + l'.length ≤ 1000000000 := by have := insS_len acc3 (pairF n.f0 n.f1 x.f0 x.f1); rw [hkx] at hlen; simp only [List.length_append, List.length_singleton] at hlen; omega
      clear hkx
      go_upto_region 9 with (first
        | (go_at_call 31; refine (rf_pair n.f0 n.f1 x.f0 x.f1 _ hsz hxs).mono ?_; rintro e w5 ⟨rfl, hb5⟩)
        | (go_at_call 81; refine (rf_put B3 c3 acc3 _ _ (Kd.C_below (Kd.C_below hA3 g2) hb5) hc3 hacc3).mono ?_; rintro e w6 ⟨v6, rfl, hR6, hb6⟩))
      have hb56 := below_step hb5 hb6
      have hbX : Below W2.heap.size W2 w6 := hb56
      have hR6' := Kd.R_lower hR6 (show b0 ≤ _ by have := hb5.size; omega)
      have b4X := blk_below b42 hbX
      have b7X := blk_below b7 hbX
      have hBX : Below w.heap.size w w6 := below_step hB2 hbX
      have s0 := blk_cell b7X 0
      have s1 := blk_cell b7X 1
      have s2 := blk_cell b7X 2
      have s3 := blk_cell b7X 3
      have s4' := blk_cell b7X 4
      have hszX := hBX.size
      go_wp2_with (go_at_call 58; refine (ih x A4 c4 _ l' _ _ HL'.out (Kd.C_below C4 hBX) hR6' (by omega) hlen2).mono ?_; rintro e w9 ⟨v9, rfl, hR9, hb9⟩)
      go_roundw
      case rel => exact ⟨j + 1, by go_num, by omega, by rw [HNEW.out, HKX.out]; exact hR9, below_step hBX hb9, blk_below b4X hb9⟩
      case measure => simp [intOf]; omega
    · rw [List.take_of_length_le (by have := mapM_some_length HLS.out; omega)] at hRj
      go_wp2_with (fail)
      go_ret
      exact ⟨_, rfl, hRj, hBj⟩
set_option maxHeartbeats 4000000 in
set_option maxRecDepth 100000 in
theorem rf_visit_2 (b0 k : Nat) (ih : RefAt b0 true k)
    (n : S42) (A : Option Addr) (c : Nat) (acc : List Int) (ls : List (List Int)) (v : Value) (w : World) (hsz : n.f1.size ≤ 1000000000) (hkl : n.f4.length ≤ maxLen) (HM : Hid (isM n = true)) (HLS : Hid (n.f4.mapM (fun c => (featL k true c).map (kidF true n c ++ ·)) = some ls)) (hC : k42.C w A n.f4.length n.f4)
    (hR : (Kd.int .i64).R 3 w b0 (fun _ => True) v acc) (hb0 : b0 ≤ w.heap.size) (hn : acc.length + (ownF true n ++ ls.flatten).length ≤ 1000000000) :
    Calls Try.prog 58 #[v, .agg #[.int .i64 n.f0, .string n.f1, .int .i64 n.f2, .int .i64 n.f3, .slice A n.f4.length c], .bool true] w fun e w' => ∃ v', e = .returned v' ∧ (Kd.int .i64).R 3 w' b0 (fun _ => True) v' ((ownF true n ++ ls.flatten).foldl insS acc) ∧ Below w.heap.size w w' := by
  unfold maxLen at hkl
  obtain ⟨B, cb, rfl, hcb, hA⟩ := Kd.R_reads hR
  have hacc : acc.length ≤ 1000000000 := by omega
  obtain ⟨W1, hW1⟩ : ∃ W, w.alloc (.cells #[.int .i64 n.f0, .string n.f1, .int .i64 n.f2, .int .i64 n.f3, .slice A n.f4.length c] 42) = W := ⟨_, rfl⟩
  have hB1 : Below w.heap.size w W1 := by rw [← hW1]; exact below_alloc (Below.refl _ _) _
  have b4 : W1.heap[w.heap.size]? = some (.cells #[.int .i64 n.f0, .string n.f1, .int .i64 n.f2, .int .i64 n.f3, .slice A n.f4.length c] 42 (0, 0)) := by rw [← hW1]; exact Go.heap_alloc_new _ _
  have hs1 : w.heap.size < W1.heap.size := (Array.getElem?_eq_some_iff.1 b4).1
  have r0 := blk_cell b4 0
  have r1 := blk_cell b4 1
  have r2 := blk_cell b4 2
  have r3 := blk_cell b4 3
  have r4 := blk_cell b4 4
  obtain ⟨own, hown⟩ : ∃ o, ownF true n = o := ⟨_, rfl⟩
  have hown2 : own = [] := by rw [← hown]; unfold ownF; rw [HM.out]; rfl
  rw [hown] at hn ⊢
  have HO2 := Hid.mk' hown2
  clear hown hown2
  go_enter Try.func58, Try.ntmps58
  go_upto_region 3 with (go_at_call 80; refine (rf_meta n A c _ _ HM.out).mono ?_; rintro e w3 ⟨rfl, hb13⟩)
  have E3 := blk_below b4 hb13
  have hR3' := Kd.R_below (Kd.R_below hR hB1) hb13
  have hB3 : Below w.heap.size w w3 := below_step hB1 hb13
  have hsz3 : w.heap.size < w3.heap.size := by have := hb13.size; omega
  clear r0 r1 r2 r3 r4
  go_wp2_with (fail)
  go_loopw [0, 7] (fun o i wr => ∃ j : Nat, i = .int .i64 j ∧ j ≤ n.f4.length ∧ (Kd.int .i64).R 3 wr b0 (fun _ => True) o ((own ++ (ls.take j).flatten).foldl insS acc) ∧ Below w.heap.size w wr ∧ wr.heap[w.heap.size]? = some (.cells #[.int .i64 n.f0, .string n.f1, .int .i64 n.f2, .int .i64 n.f3, .slice A n.f4.length c] 42 (0, 0))) (fun _ i _ => n.f4.length - (intOf i).toNat)
  case atStart => exact ⟨0, rfl, by omega, by rw [List.take_zero, List.flatten_nil, List.append_nil, HO2.out]; exact hR3', hB3, E3⟩
  case round =>
    obtain ⟨j, rfl, hj, hRj, hBj, b4⟩ := hrel
    have hszj : w.heap.size < wr.heap.size := (Array.getElem?_eq_some_iff.1 b4).1
    have s4 := blk_cell b4 4
    by_cases hlt : j < n.f4.length
    · have hlti : (j : Int) < n.f4.length := by omega
      obtain ⟨y, hy1, hy2⟩ := mapM_at HLS.out j hlt
      obtain ⟨l', hl', rfl⟩ := Option.map_eq_some_iff.1 hy2
      obtain ⟨ad, A4, c4, rfl, z0, z1, z2, z3, z4, l4, C4⟩ := at_T42 hC (j : Int) (by omega) hlti
      have z0 := pw_cell_below hBj z0
      have z1 := pw_cell_below hBj z1
      have z2 := pw_cell_below hBj z2
      have z3 := pw_cell_below hBj z3
      have z4 := pw_cell_below hBj z4
      have hrd : rd_T42 n.f4 (j : Int) = n.f4[j] := by unfold rd_T42; rw [List.getD_eq_getElem?_getD, Int.toNat_natCast, List.getElem?_eq_getElem hlt]; rfl
      rw [hrd] at z0 z1 z2 z3 z4 l4 C4
      simp only [Int.toNat_natCast] at z0 z1 z2 z3 z4
      obtain ⟨x, hx⟩ : ∃ x, n.f4[j] = x := ⟨_, rfl⟩
      rw [hx] at z0 z1 z2 z3 z4 l4 C4 hl' hy1
      have hxs : x.f1.size ≤ 1000000000 := featL_size hl'
      have htk : (ls.take (j + 1)).flatten = (ls.take j).flatten ++ (kidF true n x ++ l') := flat_take ls j _ hy1
      obtain ⟨acc3, ha3⟩ : ∃ a, (own ++ (ls.take j).flatten).foldl insS acc = a := ⟨_, rfl⟩
      have hlen : acc3.length + (kidF true n x ++ l').length ≤ 1000000000 := by
        have := flat_len ls j _ hy1
        have := insF_len (own ++ (ls.take j).flatten) acc
        rw [ha3] at this
        simp only [List.length_append] at *
        omega
      have hnew : (own ++ (ls.take (j + 1)).flatten).foldl insS acc = l'.foldl insS ((kidF true n x).foldl insS acc3) := by
        rw [htk, ← List.append_assoc, List.foldl_append, List.foldl_append, ha3]
      rw [ha3] at hRj
      have HNEW := Hid.mk' hnew
      have HL' := Hid.mk' hl'
      clear hnew htk hl' hrd hy1 hy2 hx ha3
      have hkid : kidF true n x = kidF true n x := rfl
      obtain ⟨B3, c3, rfl, hc3, hA3⟩ := Kd.R_reads hRj
      obtain ⟨W2, hW2⟩ : ∃ W, wr.alloc (.cells #[.int .i64 x.f0, .string x.f1, .int .i64 x.f2, .int .i64 x.f3, .slice A4 x.f4.length c4] 42) = W := ⟨_, rfl⟩
      have g2 : Below wr.heap.size wr W2 := by rw [← hW2]; exact below_alloc (Below.refl _ _) _
      have b7 : W2.heap[wr.heap.size]? = some (.cells #[.int .i64 x.f0, .string x.f1, .int .i64 x.f2, .int .i64 x.f3, .slice A4 x.f4.length c4] 42 (0, 0)) := by rw [← hW2]; exact Go.heap_alloc_new _ _
      have hsz7 : wr.heap.size < W2.heap.size := (Array.getElem?_eq_some_iff.1 b7).1
      have b42 := blk_below b4 g2
      have hB2 : Below w.heap.size w W2 := below_step hBj g2
      have s0 := blk_cell b7 0
      have s1 := blk_cell b7 1
      have s2 := blk_cell b7 2
      have s3 := blk_cell b7 3
      have s4' := blk_cell b7 4
      have t0 := blk_cell b42 0
      have t1 := blk_cell b42 1
      have t2 := blk_cell b42 2
      have t3 := blk_cell b42 3
      have t4 := blk_cell b42 4
      go_upto_region 9 with (go_at_call 80; refine (rf_meta n _ c _ _ HM.out).mono ?_; rintro e w4 ⟨rfl, hb4⟩)
      have hkx : kidF true n x = [] := by unfold kidF; rw [HM.out]; simp
      have HKX := Hid.mk' hkx
      have hlen2 : acc3.length + l'.length ≤ 1000000000 := by rw [hkx] at hlen; simpa using hlen
      clear hkx
      have hRX := Kd.R_below (Kd.R_below hRj g2) hb4
      have hbX : Below W2.heap.size W2 w4 := hb4
      have b4X := blk_below b42 hbX
      have b7X := blk_below b7 hbX
      have hBX : Below w.heap.size w w4 := below_step hB2 hbX
      have s0 := blk_cell b7X 0
      have s1 := blk_cell b7X 1
      have s2 := blk_cell b7X 2
      have s3 := blk_cell b7X 3
      have s4' := blk_cell b7X 4
      have hszX := hBX.size
      go_wp2_with (go_at_call 58; refine (ih x A4 c4 _ l' _ _ HL'.out (Kd.C_below C4 hBX) hRX (by omega) hlen2).mono ?_; rintro e w9 ⟨v9, rfl, hR9, hb9⟩)
      go_roundw
      case rel => exact ⟨j + 1, by go_num, by omega, by rw [HNEW.out, HKX.out]; exact hR9, below_step hBX hb9, blk_below b4X hb9⟩
      case measure => simp [intOf]; omega
    · rw [List.take_of_length_le (by have := mapM_some_length HLS.out; omega)] at hRj
      go_wp2_with (fail)
      go_ret
      exact ⟨_, rfl, hRj, hBj⟩
set_option maxHeartbeats 4000000 in
set_option maxRecDepth 100000 in
theorem rf_visit_3 (b0 k : Nat) (ih : RefAt b0 true k)
    (n : S42) (A : Option Addr) (c : Nat) (acc : List Int) (ls : List (List Int)) (v : Value) (w : World) (hsz : n.f1.size ≤ 1000000000) (hkl : n.f4.length ≤ maxLen) (HM : Hid (isM n = false)) (HLS : Hid (n.f4.mapM (fun c => (featL k true c).map (kidF true n c ++ ·)) = some ls)) (hC : k42.C w A n.f4.length n.f4)
    (hR : (Kd.int .i64).R 3 w b0 (fun _ => True) v acc) (hb0 : b0 ≤ w.heap.size) (hn : acc.length + (ownF true n ++ ls.flatten).length ≤ 1000000000) :
    Calls Try.prog 58 #[v, .agg #[.int .i64 n.f0, .string n.f1, .int .i64 n.f2, .int .i64 n.f3, .slice A n.f4.length c], .bool true] w fun e w' => ∃ v', e = .returned v' ∧ (Kd.int .i64).R 3 w' b0 (fun _ => True) v' ((ownF true n ++ ls.flatten).foldl insS acc) ∧ Below w.heap.size w w' := by
  unfold maxLen at hkl
  obtain ⟨B, cb, rfl, hcb, hA⟩ := Kd.R_reads hR
  have hacc : acc.length ≤ 1000000000 := by omega
  obtain ⟨W1, hW1⟩ : ∃ W, w.alloc (.cells #[.int .i64 n.f0, .string n.f1, .int .i64 n.f2, .int .i64 n.f3, .slice A n.f4.length c] 42) = W := ⟨_, rfl⟩
  have hB1 : Below w.heap.size w W1 := by rw [← hW1]; exact below_alloc (Below.refl _ _) _
  have b4 : W1.heap[w.heap.size]? = some (.cells #[.int .i64 n.f0, .string n.f1, .int .i64 n.f2, .int .i64 n.f3, .slice A n.f4.length c] 42 (0, 0)) := by rw [← hW1]; exact Go.heap_alloc_new _ _
  have hs1 : w.heap.size < W1.heap.size := (Array.getElem?_eq_some_iff.1 b4).1
  have r0 := blk_cell b4 0
  have r1 := blk_cell b4 1
  have r2 := blk_cell b4 2
  have r3 := blk_cell b4 3
  have r4 := blk_cell b4 4
  obtain ⟨own, hown⟩ : ∃ o, ownF true n = o := ⟨_, rfl⟩
  have hown2 : own = [nodeF n.f0 n.f1] := by rw [← hown]; unfold ownF; rw [HM.out]; rfl
  rw [hown] at hn ⊢
  have HO2 := Hid.mk' hown2
  clear hown hown2
  go_enter Try.func58, Try.ntmps58
  have HA1 := Kd.C_below hA hB1
  go_upto_region 2 with (go_at_call 80; refine (rf_meta n A c _ _ HM.out).mono ?_; rintro e w2a ⟨rfl, hb2a⟩)
  have E2 := blk_below b4 hb2a
  have q0 := blk_cell E2 0
  have q1 := blk_cell E2 1
  go_upto_region 3 with (first
    | (go_at_call 29; refine (rf_node n.f0 n.f1 _ hsz).mono ?_; rintro e w2 ⟨rfl, hb2b⟩)
    | (go_at_call 81; refine (rf_put B cb acc _ _ (Kd.C_below (Kd.C_below HA1 hb2a) hb2b) hcb hacc).mono ?_; rintro e w3 ⟨v3, rfl, hR3, hb3⟩))
  have hb2 := below_step hb2a hb2b
  have hb13 := below_step hb2 hb3
  have E3 := blk_below b4 hb13
  have hR3' := Kd.R_lower hR3 (show b0 ≤ _ by have := hb2.size; have := hB1.size; omega)
  have hB3 : Below w.heap.size w w3 := below_step hB1 hb13
  have hsz3 : w.heap.size < w3.heap.size := by have := hb13.size; omega
  clear r0 r1 r2 r3 r4
  go_wp2_with (fail)
  go_loopw [0, 7] (fun o i wr => ∃ j : Nat, i = .int .i64 j ∧ j ≤ n.f4.length ∧ (Kd.int .i64).R 3 wr b0 (fun _ => True) o ((own ++ (ls.take j).flatten).foldl insS acc) ∧ Below w.heap.size w wr ∧ wr.heap[w.heap.size]? = some (.cells #[.int .i64 n.f0, .string n.f1, .int .i64 n.f2, .int .i64 n.f3, .slice A n.f4.length c] 42 (0, 0))) (fun _ i _ => n.f4.length - (intOf i).toNat)
  case atStart => exact ⟨0, rfl, by omega, by rw [List.take_zero, List.flatten_nil, List.append_nil, HO2.out]; exact hR3', hB3, E3⟩
  case round =>
    obtain ⟨j, rfl, hj, hRj, hBj, b4⟩ := hrel
    have hszj : w.heap.size < wr.heap.size := (Array.getElem?_eq_some_iff.1 b4).1
    have s4 := blk_cell b4 4
    by_cases hlt : j < n.f4.length
    · have hlti : (j : Int) < n.f4.length := by omega
      obtain ⟨y, hy1, hy2⟩ := mapM_at HLS.out j hlt
      obtain ⟨l', hl', rfl⟩ := Option.map_eq_some_iff.1 hy2
      obtain ⟨ad, A4, c4, rfl, z0, z1, z2, z3, z4, l4, C4⟩ := at_T42 hC (j : Int) (by omega) hlti
      have z0 := pw_cell_below hBj z0
      have z1 := pw_cell_below hBj z1
      have z2 := pw_cell_below hBj z2
      have z3 := pw_cell_below hBj z3
      have z4 := pw_cell_below hBj z4
      have hrd : rd_T42 n.f4 (j : Int) = n.f4[j] := by unfold rd_T42; rw [List.getD_eq_getElem?_getD, Int.toNat_natCast, List.getElem?_eq_getElem hlt]; rfl
      rw [hrd] at z0 z1 z2 z3 z4 l4 C4
      simp only [Int.toNat_natCast] at z0 z1 z2 z3 z4
      obtain ⟨x, hx⟩ : ∃ x, n.f4[j] = x := ⟨_, rfl⟩
      rw [hx] at z0 z1 z2 z3 z4 l4 C4 hl' hy1
      have hxs : x.f1.size ≤ 1000000000 := featL_size hl'
      have htk : (ls.take (j + 1)).flatten = (ls.take j).flatten ++ (kidF true n x ++ l') := flat_take ls j _ hy1
      obtain ⟨acc3, ha3⟩ : ∃ a, (own ++ (ls.take j).flatten).foldl insS acc = a := ⟨_, rfl⟩
      have hlen : acc3.length + (kidF true n x ++ l').length ≤ 1000000000 := by
        have := flat_len ls j _ hy1
        have := insF_len (own ++ (ls.take j).flatten) acc
        rw [ha3] at this
        simp only [List.length_append] at *
        omega
      have hnew : (own ++ (ls.take (j + 1)).flatten).foldl insS acc = l'.foldl insS ((kidF true n x).foldl insS acc3) := by
        rw [htk, ← List.append_assoc, List.foldl_append, List.foldl_append, ha3]
      rw [ha3] at hRj
      have HNEW := Hid.mk' hnew
      have HL' := Hid.mk' hl'
      clear hnew htk hl' hrd hy1 hy2 hx ha3
      have hkid : kidF true n x = kidF true n x := rfl
      obtain ⟨B3, c3, rfl, hc3, hA3⟩ := Kd.R_reads hRj
      obtain ⟨W2, hW2⟩ : ∃ W, wr.alloc (.cells #[.int .i64 x.f0, .string x.f1, .int .i64 x.f2, .int .i64 x.f3, .slice A4 x.f4.length c4] 42) = W := ⟨_, rfl⟩
      have g2 : Below wr.heap.size wr W2 := by rw [← hW2]; exact below_alloc (Below.refl _ _) _
      have b7 : W2.heap[wr.heap.size]? = some (.cells #[.int .i64 x.f0, .string x.f1, .int .i64 x.f2, .int .i64 x.f3, .slice A4 x.f4.length c4] 42 (0, 0)) := by rw [← hW2]; exact Go.heap_alloc_new _ _
      have hsz7 : wr.heap.size < W2.heap.size := (Array.getElem?_eq_some_iff.1 b7).1
      have b42 := blk_below b4 g2
      have hB2 : Below w.heap.size w W2 := below_step hBj g2
      have s0 := blk_cell b7 0
      have s1 := blk_cell b7 1
      have s2 := blk_cell b7 2
      have s3 := blk_cell b7 3
      have s4' := blk_cell b7 4
      have t0 := blk_cell b42 0
      have t1 := blk_cell b42 1
      have t2 := blk_cell b42 2
      have t3 := blk_cell b42 3
      have t4 := blk_cell b42 4
      cases hMx : isM x with
      | true =>
        have HMX := Hid.mk' hMx
        clear hMx
        go_upto_region 9 with (first
          | (go_at_call 80; with_reducible (refine (rf_meta n (some ad) c _ _ HM.out).mono ?_); rintro e w4 ⟨rfl, hb4⟩; have u0 := blk_cell (blk_below b7 hb4) 0; have u1 := blk_cell (blk_below b7 hb4) 1; have u2 := blk_cell (blk_below b7 hb4) 2; have u3 := blk_cell (blk_below b7 hb4) 3; have u4 := blk_cell (blk_below b7 hb4) 4)
          | (go_at_call 80; refine (rf_meta x A4 c4 _ _ HMX.out).mono ?_; rintro e w5a ⟨rfl, hb5a⟩))
        have hb45 := below_step hb4 hb5a
        have hkx : kidF true n x = [] := by unfold kidF; rw [HMX.out]; simp
        have HKX := Hid.mk' hkx
        have hlen2 : acc3.length + l'.length ≤ 1000000000 := by rw [hkx] at hlen; simpa using hlen
        clear hkx
        have hRX := Kd.R_below (Kd.R_below hRj g2) hb45
        have hbX : Below W2.heap.size W2 w5a := hb45
        have b4X := blk_below b42 hbX
        have b7X := blk_below b7 hbX
        have hBX : Below w.heap.size w w5a := below_step hB2 hbX
        have s0 := blk_cell b7X 0
        have s1 := blk_cell b7X 1
        have s2 := blk_cell b7X 2
        have s3 := blk_cell b7X 3
        have s4' := blk_cell b7X 4
        have hszX := hBX.size
        go_wp2_with (go_at_call 58; refine (ih x A4 c4 _ l' _ _ HL'.out (Kd.C_below C4 hBX) hRX (by omega) hlen2).mono ?_; rintro e w9 ⟨v9, rfl, hR9, hb9⟩)
        go_roundw
        case rel => exact ⟨j + 1, by go_num, by omega, by rw [HNEW.out, HKX.out]; exact hR9, below_step hBX hb9, blk_below b4X hb9⟩
        case measure => simp [intOf]; omega
      | false =>
        have HMX := Hid.mk' hMx
        clear hMx
        go_upto_region 8 with (first
          | (go_at_call 80; with_reducible (refine (rf_meta n (some ad) c _ _ HM.out).mono ?_); rintro e w4 ⟨rfl, hb4⟩; have u0 := blk_cell (blk_below b7 hb4) 0; have u1 := blk_cell (blk_below b7 hb4) 1; have u2 := blk_cell (blk_below b7 hb4) 2; have u3 := blk_cell (blk_below b7 hb4) 3; have u4 := blk_cell (blk_below b7 hb4) 4)
          | (go_at_call 80; refine (rf_meta x A4 c4 _ _ HMX.out).mono ?_; rintro e w5a ⟨rfl, hb5a⟩))
        have hb45 := below_step hb4 hb5a
        have b7y := blk_below b7 hb45
        have b4y := blk_below b42 hb45
        have p0 := blk_cell b7y 0
        have p1 := blk_cell b7y 1
        have t0 := blk_cell b4y 0
        have t1 := blk_cell b4y 1
        have hkx : kidF true n x = [pairF n.f0 n.f1 x.f0 x.f1] := by unfold kidF; rw [HM.out, HMX.out]; simp
        have hacc3 : acc3.length ≤ 1000000000 := by omega
        have HKX := Hid.mk' hkx
        have hlen2 : (insS acc3 (pairF n.f0 n.f1 x.f0 x.f1)).length + l'.length ≤ 1000000000 := by have := insS_len acc3 (pairF n.f0 n.f1 x.f0 x.f1); rw [hkx] at hlen; simp only [List.length_append, List.length_singleton] at hlen; omega
        clear hkx
        go_upto_region 9 with (first
          | (go_at_call 31; refine (rf_pair n.f0 n.f1 x.f0 x.f1 _ hsz hxs).mono ?_; rintro e w5 ⟨rfl, hb5⟩)
          | (go_at_call 81; refine (rf_put B3 c3 acc3 _ _ (Kd.C_below (Kd.C_below hA3 (below_step g2 hb45)) hb5) hc3 hacc3).mono ?_; rintro e w6 ⟨v6, rfl, hR6, hb6⟩))
        have hb56 := below_step hb5 hb6
        have hbX : Below W2.heap.size W2 w6 := below_step hb45 hb56
        have hR6' := Kd.R_lower hR6 (show b0 ≤ _ by have := hb5.size; have := hb45.size; omega)
        have b4X := blk_below b42 hbX
        have b7X := blk_below b7 hbX
        have hBX : Below w.heap.size w w6 := below_step hB2 hbX
        have s0 := blk_cell b7X 0
        have s1 := blk_cell b7X 1
        have s2 := blk_cell b7X 2
        have s3 := blk_cell b7X 3
        have s4' := blk_cell b7X 4
        have hszX := hBX.size
        go_wp2_with (go_at_call 58; refine (ih x A4 c4 _ l' _ _ HL'.out (Kd.C_below C4 hBX) hR6' (by omega) hlen2).mono ?_; rintro e w9 ⟨v9, rfl, hR9, hb9⟩)
        go_roundw
        case rel => exact ⟨j + 1, by go_num, by omega, by rw [HNEW.out, HKX.out]; exact hR9, below_step hBX hb9, blk_below b4X hb9⟩
        case measure => simp [intOf]; omega
    · rw [List.take_of_length_le (by have := mapM_some_length HLS.out; omega)] at hRj
      go_wp2_with (fail)
      go_ret
      exact ⟨_, rfl, hRj, hBj⟩
theorem rf_visit (b0 : Nat) (skip : Bool) : ∀ k, RefAt b0 skip k := by
  intro k
  induction k with
  | zero => intro n A c acc l v w h; cases h
  | succ k ih =>
    intro n A c acc l v w h hC hR hb0 hn
    unfold featL at h
    split at h
    case isFalse => cases h
    rename_i hsz
    obtain ⟨ls, hls, rfl⟩ := Option.map_eq_some_iff.1 h
    cases skip with
    | false => exact rf_visit_1 b0 k ih n A c acc ls v w hsz.1 hsz.2 (Hid.mk' hls) hC hR hb0 hn
    | true =>
      cases hM : isM n with
      | true => exact rf_visit_2 b0 k ih n A c acc ls v w hsz.1 hsz.2 (Hid.mk' hM) (Hid.mk' hls) hC hR hb0 hn
      | false => exact rf_visit_3 b0 k ih n A c acc ls v w hsz.1 hsz.2 (Hid.mk' hM) (Hid.mk' hls) hC hR hb0 hn
end Go.Proofs.Ytlnoadnejefmoaa.L20
