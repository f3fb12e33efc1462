/- What the printed texts of chapter 20 take from the walks by hand: the functions of the features as plain functions, with their contracts; what is in a tree's features. Strings of at most 1000000000 bytes, trees of at most 40 levels. -/
import Derived.Test.YtlnoadnejefmoaaFpB
import Derived.Test.YtlnoadnejefmoaaL05x1
set_option linter.unusedVariables false
set_option linter.unusedSimpArgs false
namespace Go.Proofs.Ytlnoadnejefmoaa.L20
open Go.RowKit Go.Maps Go.Proofs.YtlnoadnejefmoaaW.PrintWords Go.Proofs.Ytlnoadnejefmoaa.L05
theorem rd_at (l : List Int) (j : Nat) (y : Int) (r : List Int) (h : l.drop j = y :: r) : rd l (j : Int) = y ∧ l.drop (j + 1) = r ∧ j < l.length := by
  have hj : j < l.length := by
    rcases Nat.lt_or_ge j l.length with h1 | h1
    · exact h1
    · rw [List.drop_eq_nil_of_le h1] at h; cases h
  have h1 := List.drop_eq_getElem_cons hj
  rw [h] at h1
  injection h1 with h2 h3
  refine ⟨?_, h3.symm, hj⟩
  unfold rd
  rw [Int.toNat_natCast, List.getD_eq_getElem?_getD, List.getElem?_eq_getElem hj, h2]
  rfl
theorem wrap_nat (j : Nat) (h : j ≤ 2000000000) : wrap64 ((j : Int) + 1) = ((j + 1 : Nat) : Int) := by
  rw [show ((j + 1 : Nat) : Int) = (j : Int) + 1 from by omega]
  unfold wrap64
  omega
theorem put_done (l : List Int) (x : Int) (hl : l.length ≤ 1000000000) : ∀ (m : List Int) (k j : Nat) (acc : List Int), l.drop j = m → 2 * m.length < k → acc.length + m.length ≤ 2000000000 → codesearchref05_Put.l0 k l x acc true (j : Int) = some (acc ++ m) := by
  intro m
  induction m with
  | nil =>
    intro k j acc hd hk ha
    have hj : l.length ≤ j := List.drop_eq_nil_iff.1 hd
    cases k with
    | zero => omega
    | succ k => unfold codesearchref05_Put.l0; rw [if_neg (by omega), if_pos rfl, List.append_nil]
  | cons y r ih =>
    intro k j acc hd hk ha
    obtain ⟨h1, h2, hj⟩ := rd_at l j y r hd
    rw [List.length_cons] at hk ha
    obtain ⟨k, rfl⟩ : ∃ q, k = q + 2 := ⟨k - 2, by omega⟩
    unfold codesearchref05_Put.l0
    rw [if_pos (by omega), if_pos rfl]
    unfold codesearchref05_Put.j1
    rw [if_neg (by simp), if_pos (by omega), if_pos (by omega), if_pos (by omega), h1, wrap_nat j (by omega), ih k (j + 1) (acc ++ [y]) h2 (by omega) (by rw [List.length_append]; simp; omega), List.append_assoc]
    rfl
theorem put_more (l : List Int) (x : Int) (hl : l.length ≤ 1000000000) : ∀ (m : List Int) (k j : Nat) (acc : List Int), l.drop j = m → 2 * m.length < k → acc.length + m.length ≤ 1500000000 → codesearchref05_Put.l0 k l x acc false (j : Int) = some (acc ++ insS m x) := by
  intro m
  induction m with
  | nil =>
    intro k j acc hd hk ha
    have hj : l.length ≤ j := List.drop_eq_nil_iff.1 hd
    cases k with
    | zero => omega
    | succ k => unfold codesearchref05_Put.l0; rw [if_neg (by omega), if_neg (by simp), if_pos (by simp at ha; omega)]; rfl
  | cons y r ih =>
    intro k j acc hd hk ha
    obtain ⟨h1, h2, hj⟩ := rd_at l j y r hd
    rw [List.length_cons] at hk ha
    obtain ⟨k, rfl⟩ : ∃ q, k = q + 2 := ⟨k - 2, by omega⟩
    unfold codesearchref05_Put.l0
    rw [if_pos (by omega), if_neg (by simp), if_pos (by omega), h1]
    unfold codesearchref05_Put.j1
    rw [h1]
    unfold insS
    by_cases hge : y ≥ x
    · rw [if_pos (by simpa using hge), if_pos (by omega), if_pos (by omega)]
      by_cases hgt : y > x
      · rw [if_pos hgt, if_pos (by omega), if_pos (by omega), Option.bind_some, if_pos (by rw [List.length_append]; simp; omega), wrap_nat j (by omega), put_done l x hl r k (j + 1) _ h2 (by omega) (by simp; omega)]
        simp
      · have : x = y := by omega
        rw [if_neg hgt, if_pos (by omega), if_neg (by omega), if_pos this, wrap_nat j (by omega), put_done l x hl r k (j + 1) _ h2 (by omega) (by simp; omega)]
        simp
    · rw [if_neg (by simpa using hge), if_pos (by omega), if_pos (by omega), if_pos (by omega), if_neg (by omega), if_neg (by omega), wrap_nat j (by omega), ih k (j + 1) (acc ++ [y]) h2 (by omega) (by rw [List.length_append]; simp; omega), List.append_assoc]
      rfl
theorem rf_put (B : Option Addr) (cb : Nat) (acc : List Int) (x : Int) (w : World) (hC : (Kd.int .i64).C w B acc.length acc) (hc : acc.length ≤ cb) (hl : acc.length ≤ 1000000000) :
    Calls Try.prog 81 #[.slice B acc.length cb, .int .i64 x] w fun e w' => ∃ v, e = .returned v ∧ (Kd.int .i64).R 3 w' w.heap.size (fun _ => True) v (insS acc x) ∧ Below w.heap.size w w' :=
  codesearchref05_Put.calls (2 * acc.length + 1) B cb acc x (insS acc x) w hC hc (put_more acc x hl acc _ 0 [] rfl (by omega) (by simp; omega))
end Go.Proofs.Ytlnoadnejefmoaa.L20
set_option linter.unusedVariables false
set_option linter.unusedSimpArgs false
namespace Go.Proofs.Ytlnoadnejefmoaa.L20
open Go.RowKit Go.Maps Go.Proofs.YtlnoadnejefmoaaW.PrintWords Go.Proofs.Ytlnoadnejefmoaa.L05
theorem rf_meta (n : S42) (A : Option Addr) (c : Nat) (w : World) (r : Bool) (hr : isM n = r) :
    Calls Try.prog 80 #[.agg #[.int .i64 n.f0, .string n.f1, .int .i64 n.f2, .int .i64 n.f3, .slice A n.f4.length c]] w fun e w' => e = .returned (.bool r) ∧ Below w.heap.size w w' := by
  unfold isM at hr
  cases h1 : (n.f0 == 25) with
  | true =>
    rw [h1, Bool.true_or] at hr
    subst hr
    go_enter Try.func80, Try.ntmps80
    go_wp2
    go_ret
    exact ⟨rfl, (Below.refl _ _).alloc (Nat.le_refl _) _⟩
  | false =>
    rw [h1, Bool.false_or] at hr
    cases h2 : (n.f0 == 26) with
    | true =>
      rw [h2] at hr
      subst hr
      go_enter Try.func80, Try.ntmps80
      go_wp2
      go_ret
      exact ⟨rfl, (Below.refl _ _).alloc (Nat.le_refl _) _⟩
    | false =>
      rw [h2] at hr
      subst hr
      go_enter Try.func80, Try.ntmps80
      go_wp2
      go_ret
      exact ⟨rfl, (Below.refl _ _).alloc (Nat.le_refl _) _⟩
theorem insS_len (l : List Int) (x : Int) : (insS l x).length ≤ l.length + 1 := by
  induction l with
  | nil => simp [insS]
  | cons y r ih =>
    unfold insS
    split
    · simp
    · split
      · simp
      · simp only [List.length_cons]; omega
theorem insF_len (l : List Int) : ∀ acc : List Int, (l.foldl insS acc).length ≤ acc.length + l.length := by
  induction l with
  | nil => intro acc; simp
  | cons x r ih =>
    intro acc
    have := ih (insS acc x)
    have := insS_len acc x
    simp only [List.foldl_cons, List.length_cons]
    omega
/-- What a call of the function does, k levels deep. -/
def RefAt (b0 : Nat) (skip : Bool) (k : Nat) : Prop := ∀ (n : S42) (A : Option Addr) (c : Nat) (acc l : List Int) (v : Value) (w : World), featL k skip n = some l → k42.C w A n.f4.length n.f4 →
    (Kd.int .i64).R 3 w b0 (fun _ => True) v acc → b0 ≤ w.heap.size → acc.length + l.length ≤ 1000000000 →
    Calls Try.prog 58 #[v, .agg #[.int .i64 n.f0, .string n.f1, .int .i64 n.f2, .int .i64 n.f3, .slice A n.f4.length c], .bool skip] w fun e w' => ∃ v', e = .returned v' ∧ (Kd.int .i64).R 3 w' b0 (fun _ => True) v' (l.foldl insS acc) ∧ Below w.heap.size w w'
set_option maxHeartbeats 4000000 in
set_option maxRecDepth 100000 in
theorem rf_visit_1 (b0 k : Nat) (ih : RefAt b0 false k)
    (n : S42) (A : Option Addr) (c : Nat) (acc : List Int) (ls : List (List Int)) (v : Value) (w : World) (hsz : n.f1.size ≤ 1000000000) (hkl : n.f4.length ≤ maxLen) (HLS : Hid (n.f4.mapM (fun c => (featL k false c).map (kidF false n c ++ ·)) = some ls)) (hC : k42.C w A n.f4.length n.f4)
    (hR : (Kd.int .i64).R 3 w b0 (fun _ => True) v acc) (hb0 : b0 ≤ w.heap.size) (hn : acc.length + (ownF false n ++ ls.flatten).length ≤ 1000000000) :
    Calls Try.prog 58 #[v, .agg #[.int .i64 n.f0, .string n.f1, .int .i64 n.f2, .int .i64 n.f3, .slice A n.f4.length c], .bool false] w fun e w' => ∃ v', e = .returned v' ∧ (Kd.int .i64).R 3 w' b0 (fun _ => True) v' ((ownF false n ++ ls.flatten).foldl insS acc) ∧ Below w.heap.size w w' := by
  unfold maxLen at hkl
  obtain ⟨B, cb, rfl, hcb, hA⟩ := Kd.R_reads hR
  have hacc : acc.length ≤ 1000000000 := by omega
  obtain ⟨W1, hW1⟩ : ∃ W, w.alloc (.cells #[.int .i64 n.f0, .string n.f1, .int .i64 n.f2, .int .i64 n.f3, .slice A n.f4.length c] 42) = W := ⟨_, rfl⟩
  have hB1 : Below w.heap.size w W1 := by rw [← hW1]; exact below_alloc (Below.refl _ _) _
  have b4 : W1.heap[w.heap.size]? = some (.cells #[.int .i64 n.f0, .string n.f1, .int .i64 n.f2, .int .i64 n.f3, .slice A n.f4.length c] 42 (0, 0)) := by rw [← hW1]; exact Go.heap_alloc_new _ _
  have hs1 : w.heap.size < W1.heap.size := (Array.getElem?_eq_some_iff.1 b4).1
  have r0 := blk_cell b4 0
  have r1 := blk_cell b4 1
  have r2 := blk_cell b4 2
  have r3 := blk_cell b4 3
  have r4 := blk_cell b4 4
  obtain ⟨own, hown⟩ : ∃ o, ownF false n = o := ⟨_, rfl⟩
  have hown2 : own = [nodeF n.f0 n.f1] := by rw [← hown]; unfold ownF; simp
  rw [hown] at hn ⊢
  have HO2 := Hid.mk' hown2
  clear hown hown2
  go_enter Try.func58, Try.ntmps58
  have HA1 := Kd.C_below hA hB1
  go_upto_region 3 with (first
    | (go_at_call 29; refine (rf_node n.f0 n.f1 _ hsz).mono ?_; rintro e w2 ⟨rfl, hb2⟩)
    | (go_at_call 81; refine (rf_put B cb acc _ _ (Kd.C_below HA1 hb2) hcb hacc).mono ?_; rintro e w3 ⟨v3, rfl, hR3, hb3⟩))
  have hb13 := below_step hb2 hb3
  have E3 := blk_below b4 hb13
  have hR3' := Kd.R_lower hR3 (show b0 ≤ _ by have := hb2.size; have := hB1.size; omega)
  have hB3 : Below w.heap.size w w3 := below_step hB1 hb13
  have hsz3 : w.heap.size < w3.heap.size := by have := hb13.size; omega
  clear r0 r1 r2 r3 r4
  go_wp2_with (fail)
  go_loopw [0, 7] (fun o i wr => ∃ j : Nat, i = .int .i64 j ∧ j ≤ n.f4.length ∧ (Kd.int .i64).R 3 wr b0 (fun _ => True) o ((own ++ (ls.take j).flatten).foldl insS acc) ∧ Below w.heap.size w wr ∧ wr.heap[w.heap.size]? = some (.cells #[.int .i64 n.f0, .string n.f1, .int .i64 n.f2, .int .i64 n.f3, .slice A n.f4.length c] 42 (0, 0))) (fun _ i _ => n.f4.length - (intOf i).toNat)
  case atStart => exact ⟨0, rfl, by omega, by rw [List.take_zero, List.flatten_nil, List.append_nil, HO2.out]; exact hR3', hB3, E3⟩
  case round =>
    obtain ⟨j, rfl, hj, hRj, hBj, b4⟩ := hrel
    have hszj : w.heap.size < wr.heap.size := (Array.getElem?_eq_some_iff.1 b4).1
    have s4 := blk_cell b4 4
    by_cases hlt : j < n.f4.length
    · have hlti : (j : Int) < n.f4.length := by omega
      obtain ⟨y, hy1, hy2⟩ := mapM_at HLS.out j hlt
      obtain ⟨l', hl', rfl⟩ := Option.map_eq_some_iff.1 hy2
      obtain ⟨ad, A4, c4, rfl, z0, z1, z2, z3, z4, l4, C4⟩ := at_T42 hC (j : Int) (by omega) hlti
      have z0 := pw_cell_below hBj z0
      have z1 := pw_cell_below hBj z1
      have z2 := pw_cell_below hBj z2
      have z3 := pw_cell_below hBj z3
      have z4 := pw_cell_below hBj z4
      have hrd : rd_T42 n.f4 (j : Int) = n.f4[j] := by unfold rd_T42; rw [List.getD_eq_getElem?_getD, Int.toNat_natCast, List.getElem?_eq_getElem hlt]; rfl
      rw [hrd] at z0 z1 z2 z3 z4 l4 C4
      simp only [Int.toNat_natCast] at z0 z1 z2 z3 z4
      obtain ⟨x, hx⟩ : ∃ x, n.f4[j] = x := ⟨_, rfl⟩
      rw [hx] at z0 z1 z2 z3 z4 l4 C4 hl' hy1
      have hxs : x.f1.size ≤ 1000000000 := featL_size hl'
      have htk : (ls.take (j + 1)).flatten = (ls.take j).flatten ++ (kidF false n x ++ l') := flat_take ls j _ hy1
      obtain ⟨acc3, ha3⟩ : ∃ a, (own ++ (ls.take j).flatten).foldl insS acc = a := ⟨_, rfl⟩
      have hlen : acc3.length + (kidF false n x ++ l').length ≤ 1000000000 := by
        have := flat_len ls j _ hy1
        have := insF_len (own ++ (ls.take j).flatten) acc
        rw [ha3] at this
        simp only [List.length_append] at *
        omega
      have hnew : (own ++ (ls.take (j + 1)).flatten).foldl insS acc = l'.foldl insS ((kidF false n x).foldl insS acc3) := by
        rw [htk, ← List.append_assoc, List.foldl_append, List.foldl_append, ha3]
      rw [ha3] at hRj
      have HNEW := Hid.mk' hnew
      have HL' := Hid.mk' hl'
      clear hnew htk hl' hrd hy1 hy2 hx ha3
      have hkid : kidF false n x = kidF false n x := rfl
      obtain ⟨B3, c3, rfl, hc3, hA3⟩ := Kd.R_reads hRj
      obtain ⟨W2, hW2⟩ : ∃ W, wr.alloc (.cells #[.int .i64 x.f0, .string x.f1, .int .i64 x.f2, .int .i64 x.f3, .slice A4 x.f4.length c4] 42) = W := ⟨_, rfl⟩
      have g2 : Below wr.heap.size wr W2 := by rw [← hW2]; exact below_alloc (Below.refl _ _) _
      have b7 : W2.heap[wr.heap.size]? = some (.cells #[.int .i64 x.f0, .string x.f1, .int .i64 x.f2, .int .i64 x.f3, .slice A4 x.f4.length c4] 42 (0, 0)) := by rw [← hW2]; exact Go.heap_alloc_new _ _
      have hsz7 : wr.heap.size < W2.heap.size := (Array.getElem?_eq_some_iff.1 b7).1
      have b42 := blk_below b4 g2
      have hB2 : Below w.heap.size w W2 := below_step hBj g2
      have s0 := blk_cell b7 0
      have s1 := blk_cell b7 1
      have s2 := blk_cell b7 2
      have s3 := blk_cell b7 3
      have s4' := blk_cell b7 4
      have t0 := blk_cell b42 0
      have t1 := blk_cell b42 1
      have hkx : kidF false n x = [pairF n.f0 n.f1 x.f0 x.f1] := by unfold kidF; simp
      have hacc3 : acc3.length ≤ 1000000000 := by omega
      have HKX := Hid.mk' hkx
      have hlen2 : (insS acc3 (pairF n.f0 n.f1 x.f0 x.f1)).length + l'.length ≤ 1000000000 := by have := insS_len acc3 (pairF n.f0 n.f1 x.f0 x.f1); rw [hkx] at hlen; simp only [List.length_append, List.length_singleton] at hlen; omega
      clear hkx
      go_upto_region 9 with (first
        | (go_at_call 31; refine (rf_pair n.f0 n.f1 x.f0 x.f1 _ hsz hxs).mono ?_; rintro e w5 ⟨rfl, hb5⟩)
        | (go_at_call 81; refine (rf_put B3 c3 acc3 _ _ (Kd.C_below (Kd.C_below hA3 g2) hb5) hc3 hacc3).mono ?_; rintro e w6 ⟨v6, rfl, hR6, hb6⟩))
      have hb56 := below_step hb5 hb6
      have hbX : Below W2.heap.size W2 w6 := hb56
      have hR6' := Kd.R_lower hR6 (show b0 ≤ _ by have := hb5.size; omega)
      have b4X := blk_below b42 hbX
      have b7X := blk_below b7 hbX
      have hBX : Below w.heap.size w w6 := below_step hB2 hbX
      have s0 := blk_cell b7X 0
      have s1 := blk_cell b7X 1
      have s2 := blk_cell b7X 2
      have s3 := blk_cell b7X 3
      have s4' := blk_cell b7X 4
      have hszX := hBX.size
      go_wp2_with (go_at_call 58; refine (ih x A4 c4 _ l' _ _ HL'.out (Kd.C_below C4 hBX) hR6' (by omega) hlen2).mono ?_; rintro e w9 ⟨v9, rfl, hR9, hb9⟩)
      go_roundw
      case rel => exact ⟨j + 1, by go_num, by omega, by rw [HNEW.out, HKX.out]; exact hR9, below_step hBX hb9, blk_below b4X hb9⟩
      case measure => simp [intOf]; omega
    · rw [List.take_of_length_le (by have := mapM_some_length HLS.out; omega)] at hRj
      go_wp2_with (fail)
      go_ret
      exact ⟨_, rfl, hRj, hBj⟩
set_option maxHeartbeats 4000000 in
set_option maxRecDepth 100000 in
theorem rf_visit_2 (b0 k : Nat) (ih : RefAt b0 true k)
    (n : S42) (A : Option Addr) (c : Nat) (acc : List Int) (ls : List (List Int)) (v : Value) (w : World) (hsz : n.f1.size ≤ 1000000000) (hkl : n.f4.length ≤ maxLen) (HM : Hid (isM n = true)) (HLS : Hid (n.f4.mapM (fun c => (featL k true c).map (kidF true n c ++ ·)) = some ls)) (hC : k42.C w A n.f4.length n.f4)
    (hR : (Kd.int .i64).R 3 w b0 (fun _ => True) v acc) (hb0 : b0 ≤ w.heap.size) (hn : acc.length + (ownF true n ++ ls.flatten).length ≤ 1000000000) :
    Calls Try.prog 58 #[v, .agg #[.int .i64 n.f0, .string n.f1, .int .i64 n.f2, .int .i64 n.f3, .slice A n.f4.length c], .bool true] w fun e w' => ∃ v', e = .returned v' ∧ (Kd.int .i64).R 3 w' b0 (fun _ => True) v' ((ownF true n ++ ls.flatten).foldl insS acc) ∧ Below w.heap.size w w' := by
  unfold maxLen at hkl
  obtain ⟨B, cb, rfl, hcb, hA⟩ := Kd.R_reads hR
  have hacc : acc.length ≤ 1000000000 := by omega
  obtain ⟨W1, hW1⟩ : ∃ W, w.alloc (.cells #[.int .i64 n.f0, .string n.f1, .int .i64 n.f2, .int .i64 n.f3, .slice A n.f4.length c] 42) = W := ⟨_, rfl⟩
  have hB1 : Below w.heap.size w W1 := by rw [← hW1]; exact below_alloc (Below.refl _ _) _
  have b4 : W1.heap[w.heap.size]? = some (.cells #[.int .i64 n.f0, .string n.f1, .int .i64 n.f2, .int .i64 n.f3, .slice A n.f4.length c] 42 (0, 0)) := by rw [← hW1]; exact Go.heap_alloc_new _ _
  have hs1 : w.heap.size < W1.heap.size := (Array.getElem?_eq_some_iff.1 b4).1
  have r0 := blk_cell b4 0
  have r1 := blk_cell b4 1
  have r2 := blk_cell b4 2
  have r3 := blk_cell b4 3
  have r4 := blk_cell b4 4
  obtain ⟨own, hown⟩ : ∃ o, ownF true n = o := ⟨_, rfl⟩
  have hown2 : own = [] := by rw [← hown]; unfold ownF; rw [HM.out]; rfl
  rw [hown] at hn ⊢
  have HO2 := Hid.mk' hown2
  clear hown hown2
  go_enter Try.func58, Try.ntmps58
  go_upto_region 3 with (go_at_call 80; refine (rf_meta n A c _ _ HM.out).mono ?_; rintro e w3 ⟨rfl, hb13⟩)
  have E3 := blk_below b4 hb13
  have hR3' := Kd.R_below (Kd.R_below hR hB1) hb13
  have hB3 : Below w.heap.size w w3 := below_step hB1 hb13
  have hsz3 : w.heap.size < w3.heap.size := by have := hb13.size; omega
  clear r0 r1 r2 r3 r4
  go_wp2_with (fail)
  go_loopw [0, 7] (fun o i wr => ∃ j : Nat, i = .int .i64 j ∧ j ≤ n.f4.length ∧ (Kd.int .i64).R 3 wr b0 (fun _ => True) o ((own ++ (ls.take j).flatten).foldl insS acc) ∧ Below w.heap.size w wr ∧ wr.heap[w.heap.size]? = some (.cells #[.int .i64 n.f0, .string n.f1, .int .i64 n.f2, .int .i64 n.f3, .slice A n.f4.length c] 42 (0, 0))) (fun _ i _ => n.f4.length - (intOf i).toNat)
  case atStart => exact ⟨0, rfl, by omega, by rw [List.take_zero, List.flatten_nil, List.append_nil, HO2.out]; exact hR3', hB3, E3⟩
  case round =>
    obtain ⟨j, rfl, hj, hRj, hBj, b4⟩ := hrel
    have hszj : w.heap.size < wr.heap.size := (Array.getElem?_eq_some_iff.1 b4).1
    have s4 := blk_cell b4 4
    by_cases hlt : j < n.f4.length
    · have hlti : (j : Int) < n.f4.length := by omega
      obtain ⟨y, hy1, hy2⟩ := mapM_at HLS.out j hlt
      obtain ⟨l', hl', rfl⟩ := Option.map_eq_some_iff.1 hy2
      obtain ⟨ad, A4, c4, rfl, z0, z1, z2, z3, z4, l4, C4⟩ := at_T42 hC (j : Int) (by omega) hlti
      have z0 := pw_cell_below hBj z0
      have z1 := pw_cell_below hBj z1
      have z2 := pw_cell_below hBj z2
      have z3 := pw_cell_below hBj z3
      have z4 := pw_cell_below hBj z4
      have hrd : rd_T42 n.f4 (j : Int) = n.f4[j] := by unfold rd_T42; rw [List.getD_eq_getElem?_getD, Int.toNat_natCast, List.getElem?_eq_getElem hlt]; rfl
      rw [hrd] at z0 z1 z2 z3 z4 l4 C4
      simp only [Int.toNat_natCast] at z0 z1 z2 z3 z4
      obtain ⟨x, hx⟩ : ∃ x, n.f4[j] = x := ⟨_, rfl⟩
      rw [hx] at z0 z1 z2 z3 z4 l4 C4 hl' hy1
      have hxs : x.f1.size ≤ 1000000000 := featL_size hl'
      have htk : (ls.take (j + 1)).flatten = (ls.take j).flatten ++ (kidF true n x ++ l') := flat_take ls j _ hy1
      obtain ⟨acc3, ha3⟩ : ∃ a, (own ++ (ls.take j).flatten).foldl insS acc = a := ⟨_, rfl⟩
      have hlen : acc3.length + (kidF true n x ++ l').length ≤ 1000000000 := by
        have := flat_len ls j _ hy1
        have := insF_len (own ++ (ls.take j).flatten) acc
        rw [ha3] at this
        simp only [List.length_append] at *
        omega
      have hnew : (own ++ (ls.take (j + 1)).flatten).foldl insS acc = l'.foldl insS ((kidF true n x).foldl insS acc3) := by
        rw [htk, ← List.append_assoc, List.foldl_append, List.foldl_append, ha3]
      rw [ha3] at hRj
      have HNEW := Hid.mk' hnew
      have HL' := Hid.mk' hl'
      clear hnew htk hl' hrd hy1 hy2 hx ha3
      have hkid : kidF true n x = kidF true n x := rfl
      obtain ⟨B3, c3, rfl, hc3, hA3⟩ := Kd.R_reads hRj
      obtain ⟨W2, hW2⟩ : ∃ W, wr.alloc (.cells #[.int .i64 x.f0, .string x.f1, .int .i64 x.f2, .int .i64 x.f3, .slice A4 x.f4.length c4] 42) = W := ⟨_, rfl⟩
      have g2 : Below wr.heap.size wr W2 := by rw [← hW2]; exact below_alloc (Below.refl _ _) _
      have b7 : W2.heap[wr.heap.size]? = some (.cells #[.int .i64 x.f0, .string x.f1, .int .i64 x.f2, .int .i64 x.f3, .slice A4 x.f4.length c4] 42 (0, 0)) := by rw [← hW2]; exact Go.heap_alloc_new _ _
      have hsz7 : wr.heap.size < W2.heap.size := (Array.getElem?_eq_some_iff.1 b7).1
      have b42 := blk_below b4 g2
      have hB2 : Below w.heap.size w W2 := below_step hBj g2
      have s0 := blk_cell b7 0
      have s1 := blk_cell b7 1
      have s2 := blk_cell b7 2
      have s3 := blk_cell b7 3
      have s4' := blk_cell b7 4
      have t0 := blk_cell b42 0
      have t1 := blk_cell b42 1
      have t2 := blk_cell b42 2
      have t3 := blk_cell b42 3
      have t4 := blk_cell b42 4
      go_upto_region 9 with (go_at_call 80; refine (rf_meta n _ c _ _ HM.out).mono ?_; rintro e w4 ⟨rfl, hb4⟩)
      have hkx : kidF true n x = [] := by unfold kidF; rw [HM.out]; simp
      have HKX := Hid.mk' hkx
      have hlen2 : acc3.length + l'.length ≤ 1000000000 := by rw [hkx] at hlen; simpa using hlen
      clear hkx
      have hRX := Kd.R_below (Kd.R_below hRj g2) hb4
      have hbX : Below W2.heap.size W2 w4 := hb4
      have b4X := blk_below b42 hbX
      have b7X := blk_below b7 hbX
      have hBX : Below w.heap.size w w4 := below_step hB2 hbX
      have s0 := blk_cell b7X 0
      have s1 := blk_cell b7X 1
      have s2 := blk_cell b7X 2
      have s3 := blk_cell b7X 3
      have s4' := blk_cell b7X 4
      have hszX := hBX.size
      go_wp2_with (go_at_call 58; refine (ih x A4 c4 _ l' _ _ HL'.out (Kd.C_below C4 hBX) hRX (by omega) hlen2).mono ?_; rintro e w9 ⟨v9, rfl, hR9, hb9⟩)
      go_roundw
      case rel => exact ⟨j + 1, by go_num, by omega, by rw [HNEW.out, HKX.out]; exact hR9, below_step hBX hb9, blk_below b4X hb9⟩
      case measure => simp [intOf]; omega
    · rw [List.take_of_length_le (by have := mapM_some_length HLS.out; omega)] at hRj
      go_wp2_with (fail)
      go_ret
      exact ⟨_, rfl, hRj, hBj⟩
set_option maxHeartbeats 4000000 in
set_option maxRecDepth 100000 in
theorem rf_visit_3 (b0 k : Nat) (ih : RefAt b0 true k)
    (n : S42) (A : Option Addr) (c : Nat) (acc : List Int) (ls : List (List Int)) (v : Value) (w : World) (hsz : n.f1.size ≤ 1000000000) (hkl : n.f4.length ≤ maxLen) (HM : Hid (isM n = false)) (HLS : Hid (n.f4.mapM (fun c => (featL k true c).map (kidF true n c ++ ·)) = some ls)) (hC : k42.C w A n.f4.length n.f4)
    (hR : (Kd.int .i64).R 3 w b0 (fun _ => True) v acc) (hb0 : b0 ≤ w.heap.size) (hn : acc.length + (ownF true n ++ ls.flatten).length ≤ 1000000000) :
    Calls Try.prog 58 #[v, .agg #[.int .i64 n.f0, .string n.f1, .int .i64 n.f2, .int .i64 n.f3, .slice A n.f4.length c], .bool true] w fun e w' => ∃ v', e = .returned v' ∧ (Kd.int .i64).R 3 w' b0 (fun _ => True) v' ((ownF true n ++ ls.flatten).foldl insS acc) ∧ Below w.heap.size w w' := by
  unfold maxLen at hkl
  obtain ⟨B, cb, rfl, hcb, hA⟩ := Kd.R_reads hR
  have hacc : acc.length ≤ 1000000000 := by omega
  obtain ⟨W1, hW1⟩ : ∃ W, w.alloc (.cells #[.int .i64 n.f0, .string n.f1, .int .i64 n.f2, .int .i64 n.f3, .slice A n.f4.length c] 42) = W := ⟨_, rfl⟩
  have hB1 : Below w.heap.size w W1 := by rw [← hW1]; exact below_alloc (Below.refl _ _) _
  have b4 : W1.heap[w.heap.size]? = some (.cells #[.int .i64 n.f0, .string n.f1, .int .i64 n.f2, .int .i64 n.f3, .slice A n.f4.length c] 42 (0, 0)) := by rw [← hW1]; exact Go.heap_alloc_new _ _
  have hs1 : w.heap.size < W1.heap.size := (Array.getElem?_eq_some_iff.1 b4).1
  have r0 := blk_cell b4 0
  have r1 := blk_cell b4 1
  have r2 := blk_cell b4 2
  have r3 := blk_cell b4 3
  have r4 := blk_cell b4 4
  obtain ⟨own, hown⟩ : ∃ o, ownF true n = o := ⟨_, rfl⟩
  have hown2 : own = [nodeF n.f0 n.f1] := by rw [← hown]; unfold ownF; rw [HM.out]; rfl
  rw [hown] at hn ⊢
  have HO2 := Hid.mk' hown2
  clear hown hown2
  go_enter Try.func58, Try.ntmps58
  have HA1 := Kd.C_below hA hB1
  go_upto_region 2 with (go_at_call 80; refine (rf_meta n A c _ _ HM.out).mono ?_; rintro e w2a ⟨rfl, hb2a⟩)
  have E2 := blk_below b4 hb2a
  have q0 := blk_cell E2 0
  have q1 := blk_cell E2 1
  go_upto_region 3 with (first
    | (go_at_call 29; refine (rf_node n.f0 n.f1 _ hsz).mono ?_; rintro e w2 ⟨rfl, hb2b⟩)
    | (go_at_call 81; refine (rf_put B cb acc _ _ (Kd.C_below (Kd.C_below HA1 hb2a) hb2b) hcb hacc).mono ?_; rintro e w3 ⟨v3, rfl, hR3, hb3⟩))
  have hb2 := below_step hb2a hb2b
  have hb13 := below_step hb2 hb3
  have E3 := blk_below b4 hb13
  have hR3' := Kd.R_lower hR3 (show b0 ≤ _ by have := hb2.size; have := hB1.size; omega)
  have hB3 : Below w.heap.size w w3 := below_step hB1 hb13
  have hsz3 : w.heap.size < w3.heap.size := by have := hb13.size; omega
  clear r0 r1 r2 r3 r4
  go_wp2_with (fail)
  go_loopw [0, 7] (fun o i wr => ∃ j : Nat, i = .int .i64 j ∧ j ≤ n.f4.length ∧ (Kd.int .i64).R 3 wr b0 (fun _ => True) o ((own ++ (ls.take j).flatten).foldl insS acc) ∧ Below w.heap.size w wr ∧ wr.heap[w.heap.size]? = some (.cells #[.int .i64 n.f0, .string n.f1, .int .i64 n.f2, .int .i64 n.f3, .slice A n.f4.length c] 42 (0, 0))) (fun _ i _ => n.f4.length - (intOf i).toNat)
  case atStart => exact ⟨0, rfl, by omega, by rw [List.take_zero, List.flatten_nil, List.append_nil, HO2.out]; exact hR3', hB3, E3⟩
  case round =>
    obtain ⟨j, rfl, hj, hRj, hBj, b4⟩ := hrel
    have hszj : w.heap.size < wr.heap.size := (Array.getElem?_eq_some_iff.1 b4).1
    have s4 := blk_cell b4 4
    by_cases hlt : j < n.f4.length
    · have hlti : (j : Int) < n.f4.length := by omega
      obtain ⟨y, hy1, hy2⟩ := mapM_at HLS.out j hlt
      obtain ⟨l', hl', rfl⟩ := Option.map_eq_some_iff.1 hy2
      obtain ⟨ad, A4, c4, rfl, z0, z1, z2, z3, z4, l4, C4⟩ := at_T42 hC (j : Int) (by omega) hlti
      have z0 := pw_cell_below hBj z0
      have z1 := pw_cell_below hBj z1
      have z2 := pw_cell_below hBj z2
      have z3 := pw_cell_below hBj z3
      have z4 := pw_cell_below hBj z4
      have hrd : rd_T42 n.f4 (j : Int) = n.f4[j] := by unfold rd_T42; rw [List.getD_eq_getElem?_getD, Int.toNat_natCast, List.getElem?_eq_getElem hlt]; rfl
      rw [hrd] at z0 z1 z2 z3 z4 l4 C4
      simp only [Int.toNat_natCast] at z0 z1 z2 z3 z4
      obtain ⟨x, hx⟩ : ∃ x, n.f4[j] = x := ⟨_, rfl⟩
      rw [hx] at z0 z1 z2 z3 z4 l4 C4 hl' hy1
      have hxs : x.f1.size ≤ 1000000000 := featL_size hl'
      have htk : (ls.take (j + 1)).flatten = (ls.take j).flatten ++ (kidF true n x ++ l') := flat_take ls j _ hy1
      obtain ⟨acc3, ha3⟩ : ∃ a, (own ++ (ls.take j).flatten).foldl insS acc = a := ⟨_, rfl⟩
      have hlen : acc3.length + (kidF true n x ++ l').length ≤ 1000000000 := by
        have := flat_len ls j _ hy1
        have := insF_len (own ++ (ls.take j).flatten) acc
        rw [ha3] at this
        simp only [List.length_append] at *
        omega
      have hnew : (own ++ (ls.take (j + 1)).flatten).foldl insS acc = l'.foldl insS ((kidF true n x).foldl insS acc3) := by
        rw [htk, ← List.append_assoc, List.foldl_append, List.foldl_append, ha3]
      rw [ha3] at hRj
      have HNEW := Hid.mk' hnew
      have HL' := Hid.mk' hl'
      clear hnew htk hl' hrd hy1 hy2 hx ha3
      have hkid : kidF true n x = kidF true n x := rfl
      obtain ⟨B3, c3, rfl, hc3, hA3⟩ := Kd.R_reads hRj
      obtain ⟨W2, hW2⟩ : ∃ W, wr.alloc (.cells #[.int .i64 x.f0, .string x.f1, .int .i64 x.f2, .int .i64 x.f3, .slice A4 x.f4.length c4] 42) = W := ⟨_, rfl⟩
      have g2 : Below wr.heap.size wr W2 := by rw [← hW2]; exact below_alloc (Below.refl _ _) _
      have b7 : W2.heap[wr.heap.size]? = some (.cells #[.int .i64 x.f0, .string x.f1, .int .i64 x.f2, .int .i64 x.f3, .slice A4 x.f4.length c4] 42 (0, 0)) := by rw [← hW2]; exact Go.heap_alloc_new _ _
      have hsz7 : wr.heap.size < W2.heap.size := (Array.getElem?_eq_some_iff.1 b7).1
      have b42 := blk_below b4 g2
      have hB2 : Below w.heap.size w W2 := below_step hBj g2
      have s0 := blk_cell b7 0
      have s1 := blk_cell b7 1
      have s2 := blk_cell b7 2
      have s3 := blk_cell b7 3
      have s4' := blk_cell b7 4
      have t0 := blk_cell b42 0
      have t1 := blk_cell b42 1
      have t2 := blk_cell b42 2
      have t3 := blk_cell b42 3
      have t4 := blk_cell b42 4
      cases hMx : isM x with
      | true =>
        have HMX := Hid.mk' hMx
        clear hMx
        go_upto_region 9 with (first
          | (go_at_call 80; with_reducible (refine (rf_meta n (some ad) c _ _ HM.out).mono ?_); rintro e w4 ⟨rfl, hb4⟩; have u0 := blk_cell (blk_below b7 hb4) 0; have u1 := blk_cell (blk_below b7 hb4) 1; have u2 := blk_cell (blk_below b7 hb4) 2; have u3 := blk_cell (blk_below b7 hb4) 3; have u4 := blk_cell (blk_below b7 hb4) 4)
          | (go_at_call 80; refine (rf_meta x A4 c4 _ _ HMX.out).mono ?_; rintro e w5a ⟨rfl, hb5a⟩))
        have hb45 := below_step hb4 hb5a
        have hkx : kidF true n x = [] := by unfold kidF; rw [HMX.out]; simp
        have HKX := Hid.mk' hkx
        have hlen2 : acc3.length + l'.length ≤ 1000000000 := by rw [hkx] at hlen; simpa using hlen
        clear hkx
        have hRX := Kd.R_below (Kd.R_below hRj g2) hb45
        have hbX : Below W2.heap.size W2 w5a := hb45
        have b4X := blk_below b42 hbX
        have b7X := blk_below b7 hbX
        have hBX : Below w.heap.size w w5a := below_step hB2 hbX
        have s0 := blk_cell b7X 0
        have s1 := blk_cell b7X 1
        have s2 := blk_cell b7X 2
        have s3 := blk_cell b7X 3
        have s4' := blk_cell b7X 4
        have hszX := hBX.size
        go_wp2_with (go_at_call 58; refine (ih x A4 c4 _ l' _ _ HL'.out (Kd.C_below C4 hBX) hRX (by omega) hlen2).mono ?_; rintro e w9 ⟨v9, rfl, hR9, hb9⟩)
        go_roundw
        case rel => exact ⟨j + 1, by go_num, by omega, by rw [HNEW.out, HKX.out]; exact hR9, below_step hBX hb9, blk_below b4X hb9⟩
        case measure => simp [intOf]; omega
      | false =>
        have HMX := Hid.mk' hMx
        clear hMx
        go_upto_region 8 with (first
          | (go_at_call 80; with_reducible (refine (rf_meta n (some ad) c _ _ HM.out).mono ?_); rintro e w4 ⟨rfl, hb4⟩; have u0 := blk_cell (blk_below b7 hb4) 0; have u1 := blk_cell (blk_below b7 hb4) 1; have u2 := blk_cell (blk_below b7 hb4) 2; have u3 := blk_cell (blk_below b7 hb4) 3; have u4 := blk_cell (blk_below b7 hb4) 4)
          | (go_at_call 80; refine (rf_meta x A4 c4 _ _ HMX.out).mono ?_; rintro e w5a ⟨rfl, hb5a⟩))
        have hb45 := below_step hb4 hb5a
        have b7y := blk_below b7 hb45
        have b4y := blk_below b42 hb45
        have p0 := blk_cell b7y 0
        have p1 := blk_cell b7y 1
        have t0 := blk_cell b4y 0
        have t1 := blk_cell b4y 1
        have hkx : kidF true n x = [pairF n.f0 n.f1 x.f0 x.f1] := by unfold kidF; rw [HM.out, HMX.out]; simp
        have hacc3 : acc3.length ≤ 1000000000 := by omega
        have HKX := Hid.mk' hkx
        have hlen2 : (insS acc3 (pairF n.f0 n.f1 x.f0 x.f1)).length + l'.length ≤ 1000000000 := by have := insS_len acc3 (pairF n.f0 n.f1 x.f0 x.f1); rw [hkx] at hlen; simp only [List.length_append, List.length_singleton] at hlen; omega
        clear hkx
        go_upto_region 9 with (first
          | (go_at_call 31; refine (rf_pair n.f0 n.f1 x.f0 x.f1 _ hsz hxs).mono ?_; rintro e w5 ⟨rfl, hb5⟩)
          | (go_at_call 81; refine (rf_put B3 c3 acc3 _ _ (Kd.C_below (Kd.C_below hA3 (below_step g2 hb45)) hb5) hc3 hacc3).mono ?_; rintro e w6 ⟨v6, rfl, hR6, hb6⟩))
        have hb56 := below_step hb5 hb6
        have hbX : Below W2.heap.size W2 w6 := below_step hb45 hb56
        have hR6' := Kd.R_lower hR6 (show b0 ≤ _ by have := hb5.size; have := hb45.size; omega)
        have b4X := blk_below b42 hbX
        have b7X := blk_below b7 hbX
        have hBX : Below w.heap.size w w6 := below_step hB2 hbX
        have s0 := blk_cell b7X 0
        have s1 := blk_cell b7X 1
        have s2 := blk_cell b7X 2
        have s3 := blk_cell b7X 3
        have s4' := blk_cell b7X 4
        have hszX := hBX.size
        go_wp2_with (go_at_call 58; refine (ih x A4 c4 _ l' _ _ HL'.out (Kd.C_below C4 hBX) hR6' (by omega) hlen2).mono ?_; rintro e w9 ⟨v9, rfl, hR9, hb9⟩)
        go_roundw
        case rel => exact ⟨j + 1, by go_num, by omega, by rw [HNEW.out, HKX.out]; exact hR9, below_step hBX hb9, blk_below b4X hb9⟩
        case measure => simp [intOf]; omega
    · rw [List.take_of_length_le (by have := mapM_some_length HLS.out; omega)] at hRj
      go_wp2_with (fail)
      go_ret
      exact ⟨_, rfl, hRj, hBj⟩
theorem rf_visit (b0 : Nat) (skip : Bool) : ∀ k, RefAt b0 skip k := by
  intro k
  induction k with
  | zero => intro n A c acc l v w h; cases h
  | succ k ih =>
    intro n A c acc l v w h hC hR hb0 hn
    unfold featL at h
    split at h
    case isFalse => cases h
    rename_i hsz
    obtain ⟨ls, hls, rfl⟩ := Option.map_eq_some_iff.1 h
    cases skip with
    | false => exact rf_visit_1 b0 k ih n A c acc ls v w hsz.1 hsz.2 (Hid.mk' hls) hC hR hb0 hn
    | true =>
      cases hM : isM n with
      | true => exact rf_visit_2 b0 k ih n A c acc ls v w hsz.1 hsz.2 (Hid.mk' hM) (Hid.mk' hls) hC hR hb0 hn
      | false => exact rf_visit_3 b0 k ih n A c acc ls v w hsz.1 hsz.2 (Hid.mk' hM) (Hid.mk' hls) hC hR hb0 hn
end Go.Proofs.Ytlnoadnejefmoaa.L20
set_option linter.unusedVariables false
set_option linter.unusedSimpArgs false
namespace Go.Proofs.Ytlnoadnejefmoaa.L20
open Go.RowKit Go.Maps Go.Proofs.YtlnoadnejefmoaaW.PrintWords
def featD (a0 : Int) (a1 : ByteArray) (a2 a3 : Int) (l : List S42) (skip : Bool) : Option (List Int) := (featL 40 skip ⟨a0, a1, a2, a3, l⟩).bind fun r => if r.length ≤ 1000000000 then some (insAll r) else none
theorem featD_some {a0 : Int} {a1 : ByteArray} {a2 a3 : Int} {l : List S42} {skip : Bool} {r : List Int} (h : featD a0 a1 a2 a3 l skip = some r) : ∃ q, featL 40 skip ⟨a0, a1, a2, a3, l⟩ = some q ∧ q.length ≤ 1000000000 ∧ insAll q = r := by
  obtain ⟨q, h1, h2⟩ := Option.bind_eq_some_iff.1 h
  split at h2
  · exact ⟨q, h1, by assumption, Option.some.inj h2⟩
  · cases h2
def fingerprint_features.f (a0 : Int) (a1 : ByteArray) (a2 a3 : Int) (l : List S42) (skip : Bool) : Option (List Int) := featD a0 a1 a2 a3 l skip
theorem fingerprint_features.calls (a0 : Int) (a1 : ByteArray) (a2 a3 : Int) (A : Option Addr) (c : Nat) (l : List S42) (skip : Bool) (r : List Int) (w : World) (hC : Kd.C k42 w A l.length l) (hc : l.length ≤ c) (h : fingerprint_features.f a0 a1 a2 a3 l skip = some r) :
    Calls Try.prog 57 #[.agg #[.int .i64 a0, .string a1, .int .i64 a2, .int .i64 a3, .slice A l.length c], .bool skip] w fun e w' => ∃ v0_ : Value, e = .returned (v0_) ∧ Kd.R (Kd.int .i64) 3 w' w.heap.size (fun _ => True) v0_ r ∧ Below w.heap.size w w' := by
  obtain ⟨q, h1, h2, rfl⟩ := featD_some h
  exact fp_features ⟨a0, a1, a2, a3, l⟩ A c 40 skip q w h1 hC h2
def codesearchref20_Of.f (a0 : Int) (a1 : ByteArray) (a2 a3 : Int) (l : List S42) : Option (List Int) := featD a0 a1 a2 a3 l false
set_option maxHeartbeats 2000000 in
set_option maxRecDepth 100000 in
theorem codesearchref20_Of.calls (a0 : Int) (a1 : ByteArray) (a2 a3 : Int) (A : Option Addr) (c : Nat) (l : List S42) (r : List Int) (w : World) (hC : Kd.C k42 w A l.length l) (hc : l.length ≤ c) (h : codesearchref20_Of.f a0 a1 a2 a3 l = some r) :
    Calls Try.prog 35 #[.agg #[.int .i64 a0, .string a1, .int .i64 a2, .int .i64 a3, .slice A l.length c]] w fun e w' => ∃ v0_ : Value, e = .returned (v0_) ∧ Kd.R (Kd.int .i64) 3 w' w.heap.size (fun _ => True) v0_ r ∧ Below w.heap.size w w' := by
  obtain ⟨q, h1, h2, h3⟩ := featD_some h
  have H1 := Hid.mk' h1
  clear h h1
  obtain ⟨W1, hW1⟩ : ∃ W, w.alloc (.cells #[.int .i64 a0, .string a1, .int .i64 a2, .int .i64 a3, .slice A l.length c] 42) = W := ⟨_, rfl⟩
  have hB1 : Below w.heap.size w W1 := by rw [← hW1]; exact below_alloc (Below.refl _ _) _
  have b4 : W1.heap[w.heap.size]? = some (.cells #[.int .i64 a0, .string a1, .int .i64 a2, .int .i64 a3, .slice A l.length c] 42 (0, 0)) := by rw [← hW1]; exact Go.heap_alloc_new _ _
  have r0 := blk_cell b4 0
  have r1 := blk_cell b4 1
  have r2 := blk_cell b4 2
  have r3 := blk_cell b4 3
  have r4 := blk_cell b4 4
  have hCall := rf_visit w.heap.size false 40 ⟨a0, a1, a2, a3, l⟩ A c [] q (.slice none 0 0) W1 H1.out (Kd.C_below hC hB1) (Kd.R_nil _ _ _ _ _) hB1.size (by simpa using h2)
  have HCALL := Hid.mk' hCall
  clear hCall
  go_enter Try.func35, Try.ntmps35
  go_wp2_with (go_at_call 58; refine HCALL.out.mono ?_; rintro e w2 ⟨v, rfl, hR, hb⟩)
  go_ret
  exact ⟨_, rfl, by rw [← h3]; exact hR, below_step hB1 hb⟩
def codesearchref20_Need.f (a0 : Int) (a1 : ByteArray) (a2 a3 : Int) (l : List S42) : Option (List Int) := featD a0 a1 a2 a3 l true
set_option maxHeartbeats 2000000 in
set_option maxRecDepth 100000 in
theorem codesearchref20_Need.calls (a0 : Int) (a1 : ByteArray) (a2 a3 : Int) (A : Option Addr) (c : Nat) (l : List S42) (r : List Int) (w : World) (hC : Kd.C k42 w A l.length l) (hc : l.length ≤ c) (h : codesearchref20_Need.f a0 a1 a2 a3 l = some r) :
    Calls Try.prog 37 #[.agg #[.int .i64 a0, .string a1, .int .i64 a2, .int .i64 a3, .slice A l.length c]] w fun e w' => ∃ v0_ : Value, e = .returned (v0_) ∧ Kd.R (Kd.int .i64) 3 w' w.heap.size (fun _ => True) v0_ r ∧ Below w.heap.size w w' := by
  obtain ⟨q, h1, h2, h3⟩ := featD_some h
  have H1 := Hid.mk' h1
  clear h h1
  obtain ⟨W1, hW1⟩ : ∃ W, w.alloc (.cells #[.int .i64 a0, .string a1, .int .i64 a2, .int .i64 a3, .slice A l.length c] 42) = W := ⟨_, rfl⟩
  have hB1 : Below w.heap.size w W1 := by rw [← hW1]; exact below_alloc (Below.refl _ _) _
  have b4 : W1.heap[w.heap.size]? = some (.cells #[.int .i64 a0, .string a1, .int .i64 a2, .int .i64 a3, .slice A l.length c] 42 (0, 0)) := by rw [← hW1]; exact Go.heap_alloc_new _ _
  have r0 := blk_cell b4 0
  have r1 := blk_cell b4 1
  have r2 := blk_cell b4 2
  have r3 := blk_cell b4 3
  have r4 := blk_cell b4 4
  have hCall := rf_visit w.heap.size true 40 ⟨a0, a1, a2, a3, l⟩ A c [] q (.slice none 0 0) W1 H1.out (Kd.C_below hC hB1) (Kd.R_nil _ _ _ _ _) hB1.size (by simpa using h2)
  have HCALL := Hid.mk' hCall
  clear hCall
  go_enter Try.func37, Try.ntmps37
  go_wp2_with (go_at_call 58; refine HCALL.out.mono ?_; rintro e w2 ⟨v, rfl, hR, hb⟩)
  go_ret
  exact ⟨_, rfl, by rw [← h3]; exact hR, below_step hB1 hb⟩
def fingerprint_Possible.f (l0 l1 : List Int) : Option Bool := if (l0.all (fun x => (Lit.int .i64 x).wf) && l1.all (fun x => (Lit.int .i64 x).wf) && decide (l1.length ≤ 1000000000)) = true then some (subB l0 l1) else none
theorem fingerprint_Possible.calls (A0 : Option Addr) (c0 : Nat) (l0 : List Int) (A1 : Option Addr) (c1 : Nat) (l1 : List Int) (r : Bool) (w : World) (hC0 : Kd.C (Kd.int .i64) w A0 l0.length l0) (hc0 : l0.length ≤ c0) (hC1 : Kd.C (Kd.int .i64) w A1 l1.length l1) (hc1 : l1.length ≤ c1) (h : fingerprint_Possible.f l0 l1 = some r) :
    Calls Try.prog 38 #[.slice A0 l0.length c0, .slice A1 l1.length c1] w fun e w' => e = .returned (.bool r) ∧ Below w.heap.size w w' := by
  unfold fingerprint_Possible.f at h
  split at h
  · rename_i hg
    rw [Bool.and_eq_true, Bool.and_eq_true, decide_eq_true_eq, List.all_eq_true, List.all_eq_true] at hg
    obtain rfl := Option.some.inj h
    exact fp_possible A0 A1 c0 c1 l0 l1 w hC0 hC1 hg.1.1 hg.1.2 hg.2
  · cases h
def nodeD (a : Int) (s : ByteArray) : Option Int := if s.size ≤ 1000000000 then some (nodeF a s) else none
def pairD (a : Int) (s : ByteArray) (b : Int) (t : ByteArray) : Option Int := if s.size ≤ 1000000000 ∧ t.size ≤ 1000000000 then some (pairF a s b t) else none
def fingerprint_Node.f (a : Int) (s : ByteArray) : Option Int := nodeD a s
def codesearchref20_Node.f (a : Int) (s : ByteArray) : Option Int := nodeD a s
def fingerprint_Pair.f (a : Int) (s : ByteArray) (b : Int) (t : ByteArray) : Option Int := pairD a s b t
def codesearchref20_Pair.f (a : Int) (s : ByteArray) (b : Int) (t : ByteArray) : Option Int := pairD a s b t
theorem fingerprint_Node.calls (a : Int) (s : ByteArray) (r : Int) (w : World) (h : fingerprint_Node.f a s = some r) : Calls Try.prog 28 #[.int .i64 a, .string s] w fun e w' => e = .returned (.int .i64 r) ∧ Below w.heap.size w w' := by
  unfold fingerprint_Node.f nodeD at h
  split at h
  · obtain rfl := Option.some.inj h
    exact fp_node a s w (by assumption)
  · cases h
theorem codesearchref20_Node.calls (a : Int) (s : ByteArray) (r : Int) (w : World) (h : codesearchref20_Node.f a s = some r) : Calls Try.prog 29 #[.int .i64 a, .string s] w fun e w' => e = .returned (.int .i64 r) ∧ Below w.heap.size w w' := by
  unfold codesearchref20_Node.f nodeD at h
  split at h
  · obtain rfl := Option.some.inj h
    exact rf_node a s w (by assumption)
  · cases h
theorem fingerprint_Pair.calls (a : Int) (s : ByteArray) (b : Int) (t : ByteArray) (r : Int) (w : World) (h : fingerprint_Pair.f a s b t = some r) : Calls Try.prog 30 #[.int .i64 a, .string s, .int .i64 b, .string t] w fun e w' => e = .returned (.int .i64 r) ∧ Below w.heap.size w w' := by
  unfold fingerprint_Pair.f pairD at h
  split at h
  · rename_i hg
    obtain rfl := Option.some.inj h
    exact fp_pair a s b t w hg.1 hg.2
  · cases h
theorem codesearchref20_Pair.calls (a : Int) (s : ByteArray) (b : Int) (t : ByteArray) (r : Int) (w : World) (h : codesearchref20_Pair.f a s b t = some r) : Calls Try.prog 31 #[.int .i64 a, .string s, .int .i64 b, .string t] w fun e w' => e = .returned (.int .i64 r) ∧ Below w.heap.size w w' := by
  unfold codesearchref20_Pair.f pairD at h
  split at h
  · rename_i hg
    obtain rfl := Option.some.inj h
    exact rf_pair a s b t w hg.1 hg.2
  · cases h
end Go.Proofs.Ytlnoadnejefmoaa.L20
set_option linter.unusedVariables false
set_option linter.unusedSimpArgs false
namespace Go.Proofs.Ytlnoadnejefmoaa.L20
open Go.RowKit Go.Maps Go.Proofs.YtlnoadnejefmoaaW.PrintWords
section
variable {α β : Type} {f g : α → Option β}
theorem mapM_cons_some {x : α} {l : List α} {ls : List β} (h : (x :: l).mapM f = some ls) : ∃ y r, f x = some y ∧ l.mapM f = some r ∧ ls = y :: r := by
  rw [List.mapM_cons] at h
  cases hx : f x with
  | none => rw [hx] at h; cases h
  | some y =>
    cases hr : l.mapM f with
    | none => rw [hx, hr] at h; cases h
    | some r => rw [hx, hr] at h; exact ⟨y, r, rfl, rfl, (Option.some.inj h).symm⟩
theorem mapM_cons_of {x : α} {l : List α} {y : β} {r : List β} (h1 : f x = some y) (h2 : l.mapM f = some r) : (x :: l).mapM f = some (y :: r) := by
  rw [List.mapM_cons, h1, h2]
  rfl
theorem mapM_mem : ∀ {l : List α} {ls : List β}, l.mapM f = some ls → (∀ y ∈ ls, ∃ c ∈ l, f c = some y) ∧ ∀ c ∈ l, ∃ y ∈ ls, f c = some y := by
  intro l
  induction l with
  | nil => intro ls h; cases h; exact ⟨fun y hy => absurd hy (by simp), fun c hc => absurd hc (by simp)⟩
  | cons x l ih =>
    intro ls h
    obtain ⟨y, r, h1, h2, rfl⟩ := mapM_cons_some h
    obtain ⟨i1, i2⟩ := ih h2
    refine ⟨fun z hz => ?_, fun c hc => ?_⟩
    · rcases List.mem_cons.1 hz with rfl | hz
      · exact ⟨x, List.mem_cons_self, h1⟩
      · obtain ⟨c, hc, e⟩ := i1 z hz
        exact ⟨c, List.mem_cons_of_mem _ hc, e⟩
    · rcases List.mem_cons.1 hc with rfl | hc
      · exact ⟨y, List.mem_cons_self, h1⟩
      · obtain ⟨z, hz, e⟩ := i2 c hc
        exact ⟨z, List.mem_cons_of_mem _ hz, e⟩
theorem mapM_imp : ∀ {l : List α} {ls : List β}, l.mapM f = some ls → (∀ c ∈ l, ∀ y, f c = some y → g c = some y) → l.mapM g = some ls := by
  intro l
  induction l with
  | nil => intro ls h _; cases h; rfl
  | cons x l ih =>
    intro ls h hfg
    obtain ⟨y, r, h1, h2, rfl⟩ := mapM_cons_some h
    exact mapM_cons_of (hfg x List.mem_cons_self y h1) (ih h2 fun c hc => hfg c (List.mem_cons_of_mem _ hc))
end
abbrev Nd := S42
theorem featL_parts {k : Nat} {skip : Bool} {n : Nd} {l : List Int} (h : featL (k + 1) skip n = some l) : n.f1.size ≤ 1000000000 ∧ n.f4.length ≤ maxLen ∧ ∃ ls, n.f4.mapM (fun c => (featL k skip c).map (kidF skip n c ++ ·)) = some ls ∧ l = ownF skip n ++ ls.flatten := by
  unfold featL at h
  split at h
  · rename_i hs
    obtain ⟨ls, h1, h2⟩ := Option.map_eq_some_iff.1 h
    exact ⟨hs.1, hs.2, ls, h1, h2.symm⟩
  · cases h
theorem featL_of {k : Nat} {skip : Bool} {n : Nd} {ls : List (List Int)} (h1 : n.f1.size ≤ 1000000000) (h2 : n.f4.length ≤ maxLen) (h3 : n.f4.mapM (fun c => (featL k skip c).map (kidF skip n c ++ ·)) = some ls) : featL (k + 1) skip n = some (ownF skip n ++ ls.flatten) := by
  unfold featL
  rw [if_pos ⟨h1, h2⟩, h3]
  rfl
theorem featL_mono {skip : Bool} : ∀ {k : Nat} {n : Nd} {l : List Int}, featL k skip n = some l → featL (k + 1) skip n = some l := by
  intro k
  induction k with
  | zero => intro n l h; cases h
  | succ k ih =>
    intro n l h
    obtain ⟨h1, h2, ls, h3, rfl⟩ := featL_parts h
    refine featL_of h1 h2 (mapM_imp h3 fun c _ y hy => ?_)
    obtain ⟨z, hz, rfl⟩ := Option.map_eq_some_iff.1 hy
    rw [ih hz]
    rfl
theorem featL_more {skip : Bool} {k m : Nat} {n : Nd} {l : List Int} (h : featL k skip n = some l) (hm : k ≤ m) : featL m skip n = some l := by
  obtain ⟨d, rfl⟩ := Nat.exists_eq_add_of_le hm
  induction d with
  | zero => exact h
  | succ d ih => exact featL_mono (ih (by omega))
theorem featL_mem {k : Nat} {skip : Bool} {n : Nd} {l : List Int} (h : featL (k + 1) skip n = some l) (x : Int) : x ∈ l ↔ x ∈ ownF skip n ∨ ∃ c ∈ n.f4, x ∈ kidF skip n c ∨ ∃ lc, featL k skip c = some lc ∧ x ∈ lc := by
  obtain ⟨_, _, ls, h3, rfl⟩ := featL_parts h
  obtain ⟨m1, m2⟩ := mapM_mem h3
  rw [List.mem_append, List.mem_flatten]
  constructor
  · rintro (h | ⟨y, hy, hx⟩)
    · exact .inl h
    · obtain ⟨c, hc, e⟩ := m1 y hy
      obtain ⟨z, hz, rfl⟩ := Option.map_eq_some_iff.1 e
      rcases List.mem_append.1 hx with hx | hx
      · exact .inr ⟨c, hc, .inl hx⟩
      · exact .inr ⟨c, hc, .inr ⟨z, hz, hx⟩⟩
  · rintro (h | ⟨c, hc, h⟩)
    · exact .inl h
    · obtain ⟨y, hy, e⟩ := m2 c hc
      obtain ⟨z, hz, rfl⟩ := Option.map_eq_some_iff.1 e
      refine .inr ⟨_, hy, ?_⟩
      rcases h with h | ⟨lc, hlc, h⟩
      · exact List.mem_append_left _ h
      · rw [hz] at hlc
        obtain rfl := Option.some.inj hlc
        exact List.mem_append_right _ h
theorem featL_kid {k : Nat} {skip : Bool} {n : Nd} {l : List Int} (h : featL (k + 1) skip n = some l) (c : Nd) (hc : c ∈ n.f4) : ∃ lc, featL k skip c = some lc := by
  obtain ⟨_, _, ls, h3, rfl⟩ := featL_parts h
  obtain ⟨y, hy, e⟩ := (mapM_mem h3).2 c hc
  obtain ⟨z, hz, rfl⟩ := Option.map_eq_some_iff.1 e
  exact ⟨z, hz⟩
theorem ownF_wf (skip : Bool) (n : Nd) : ∀ x ∈ ownF skip n, wfI x := by
  intro x hx
  unfold ownF at hx
  split at hx
  · cases hx
  · rw [List.mem_singleton] at hx; subst hx; exact nodeF_wf _ _
theorem kidF_wf (skip : Bool) (n c : Nd) : ∀ x ∈ kidF skip n c, wfI x := by
  intro x hx
  unfold kidF at hx
  split at hx
  · cases hx
  · rw [List.mem_singleton] at hx; subst hx; exact pairF_wf _ _ _ _
theorem featL_wf {skip : Bool} : ∀ {k : Nat} {n : Nd} {l : List Int}, featL k skip n = some l → ∀ x ∈ l, wfI x := by
  intro k
  induction k with
  | zero => intro n l h; cases h
  | succ k ih =>
    intro n l h x hx
    rcases (featL_mem h x).1 hx with h1 | ⟨c, _, h1 | ⟨lc, hlc, h1⟩⟩
    · exact ownF_wf _ _ x h1
    · exact kidF_wf _ _ _ x h1
    · exact ih hlc x h1
/-- What a pattern needs is among its features. -/
theorem need_sub : ∀ {k : Nat} {n : Nd} {a b : List Int}, featL k true n = some a → featL k false n = some b → ∀ x ∈ a, x ∈ b := by
  intro k
  induction k with
  | zero => intro n a b h; cases h
  | succ k ih =>
    intro n a b ha hb x hx
    refine (featL_mem hb x).2 ?_
    rcases (featL_mem ha x).1 hx with h1 | ⟨c, hc, h1 | ⟨lc, hlc, h1⟩⟩
    · left
      unfold ownF at h1 ⊢
      split at h1
      · cases h1
      · simpa using h1
    · right
      refine ⟨c, hc, .inl ?_⟩
      unfold kidF at h1 ⊢
      split at h1
      · cases h1
      · simpa using h1
    · right
      obtain ⟨ld, hld⟩ := featL_kid hb c hc
      exact ⟨c, hc, .inr ⟨ld, hld, ih hlc hld x h1⟩⟩
theorem kidF_len (skip : Bool) (n c : Nd) : (kidF skip n c).length ≤ 1 := by unfold kidF; split <;> simp
theorem ownF_len (skip : Bool) (n : Nd) : (ownF skip n).length ≤ 1 := by unfold ownF; split <;> simp
end Go.Proofs.Ytlnoadnejefmoaa.L20
