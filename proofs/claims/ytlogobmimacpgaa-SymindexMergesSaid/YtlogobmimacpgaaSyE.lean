/- The program's index of occurrences. At most 1000000 occurrences with names of at most 1000000 bytes. -/
import Derived.Test.YtlogobmimacpgaaSyD
import Derived.Deep.Cut
import Derived.WalkSpells
set_option linter.unusedVariables false
set_option linter.unusedSimpArgs false
namespace Go.Proofs.Ytlogobmimacpgaa.L32
open Go.RowKit Go.Lib Go.Sort Go.Shelf Go.Maps Go.Proofs.YtlogobmimacpgaaW.PrintWords Go.Proofs.YtlogobmimacpgaaW.PrintLast Go.Proofs.YtlogobmimacpgaaW.PrintMore
theorem few_get {l : List S56} (h : few l = true) : l.length ≤ 1000000 ∧ ∀ x ∈ l, x.f3.size ≤ 1000000 := by
  unfold few at h
  simp only [Bool.and_eq_true, decide_eq_true_eq, List.all_eq_true] at h
  exact h
theorem rd_get (l : List S56) (k : Nat) (x : S56) (h : l[k]? = some x) : rd_T56 l (k : Int) = x := by
  unfold rd_T56
  rw [Int.toNat_natCast, List.getD_eq_getElem?_getD, h]
  rfl
theorem take_get {α : Type} (l : List α) (k : Nat) (x : α) (h : l[k]? = some x) : l.take (k + 1) = l.take k ++ [x] := by
  obtain ⟨hj, rfl⟩ := List.getElem?_eq_some_iff.1 h
  exact List.take_succ_eq_append_getElem hj
theorem cells_new (w : World) (cs : Array Value) (t : TypeId) (g : Nat) (hg : g = w.heap.size) : ∀ j u, cs.toList[j]? = some u → (w.alloc (.cells cs t)).cell? ((⟨g, 0, none⟩ : Addr).add j) = some u := by
  subst hg
  intro j u h
  have h1 := heap_alloc_new w (.cells cs t)
  have h2 : (w.alloc (.cells cs t)).cell? ⟨w.heap.size, j, none⟩ = cs[j]? := blk_cell h1 j
  have h3 : (⟨w.heap.size, 0, none⟩ : Addr).add j = ⟨w.heap.size, j, none⟩ := by unfold Addr.add; split <;> simp_all
  rw [h3, h2, ← Array.getElem?_toList, h]
set_option maxHeartbeats 8000000 in
set_option maxRecDepth 100000 in
theorem index_w (A : Option Addr) (c : Nat) (l : List S56) (w : World) (hC : k56.C w A l.length l) (hf : few l = true) :
    Calls Try.prog 31 #[.slice A l.length c] w fun e w' => ∃ v, e = .returned v ∧ Kd.N k58 58 w' w.heap.size (fun k_ => w.heap.size ≤ k_) v ((idxS l).map post) ∧ Below w.heap.size w w' := by
  obtain ⟨hl, hsz⟩ := few_get hf
  have hmm := @run_makeMap Try.prog
  obtain ⟨i0, hi, hz0, hz1, hz2⟩ := info_parts info56
  obtain ⟨i1, hi1, hy0, hy1, hy2⟩ := info_parts info58
  go_enter Try.func31, Try.ntmps31
  go_wp2
  go_loopw [13] (fun i wr => ∃ k D V, i = .int .i64 ((k : Nat) : Int) ∧ k ≤ l.length ∧ Groups wr (w.heap.size + 1) w.heap.size k (l.take k) D V ∧ Below w.heap.size w wr) (fun i _ => l.length - (intOf i).toNat)
  case atStart => exact ⟨0, _, _, rfl, by omega, Groups.made w, below_alloc (Below.refl _ _) _⟩
  case round =>
    obtain ⟨k, D, V, rfl, hk, hG, hB⟩ := hrel
    by_cases hlt : k < l.length
    · have hlti : (k : Int) < l.length := by omega
      obtain ⟨x, hx⟩ : ∃ x, l[k]? = some x := ⟨_, List.getElem?_eq_getElem hlt⟩
      obtain ⟨ad, rfl, z0, z1, z2, z3⟩ := at_T56 (Kd.C_below hC hB) (k : Int) (by omega) hlti
      rw [rd_get l k x hx] at z0 z1 z2 z3
      simp only [Int.toNat_natCast] at z0 z1 z2 z3
      have hxs : x.f3.size ≤ 1000000 := hsz x (List.mem_of_getElem? hx)
      have HT := Hid.mk' (take_get l k x hx)
      have hgl : (grp (l.take k) (keyS x)).length ≤ 1000000 := by have := grp_len (l.take k) (keyS x); rw [List.length_take] at this; omega
      have hks : (keyS x).size ≤ maxLen := by have := simpleB_size x.f3; unfold keyS maxLen; omega
      clear hx
      have hbl : w.heap.size < wr.heap.size := hG.map.lt
      have hVb : some w.heap.size ≠ (V (keyS x)).ownBlock := fun e => by have := (hG.row (keyS x)).lt w.heap.size e.symm; omega
      go_wp2_with (first
        | (go_at_call 35; refine (decl_Simple.calls (x.f3.size + 1) x.f3 (keyS x) _ (simple_f x.f3 hxs _ (by omega))).mono ?_; rintro e w2 ⟨rfl, q2, rfl⟩)
        | (at_lookup; refine wpList_lookupG _ rfl _ _ 71 rfl Try.underlying71 _ _ _ _ D V rfl (hG.none (grown_trans0 (World.grownBy_alloc _ _ _) (grown_drewN _ _ _))) (keyS x) rfl hks ?_)
        | (at_builtin; go_must (refine wpList_append_own_at _ rfl _ _ 35 rfl (w.heap.size + 1) 56 i0 _ 4 40 Try.underlying35 hi hz0 hz1 hz2 rfl (by decide) (V (keyS x)) (grp (l.take k) (keyS x)).length (flat encS (grp (l.take k) (keyS x))) rfl (((hG.none (grown_trans0 (World.grownBy_alloc _ _ _) (grown_drewN _ _ _))).row (keyS x)).alloc _) ⟨wr.heap.size + 1, 0, none⟩ 1 1 (encS x) rfl rfl ?c1 (one_cells x) (by unfold maxLen; omega) (by omega) (by simp; omega) ?_; (case c1 => intro j u hj; exact (cells_new _ _ _ _ (by simp) j u hj)); intro v' w4 hown4 hg4 hnil4 hat4; have hg04 := grown_trans0 (grown_trans0 (grown_trans0 (World.grownBy_alloc wr _ _) (grown_drewN _ _ _)) (World.grownBy_alloc _ _ _)) hg4))
        | (at_mapUpdate; refine wpList_mapUpdate_own _ rfl _ _ _ 71 rfl 9 35 lawN Try.underlying71 RV w.heap.size k D rfl (hG.map.kept hg04 hVb) (by unfold maxLen; omega) _ _ (litN (keyS x)) rfl rfl (Go.WideMaps.keyOf_string_mk Try.underlying9 hks) (.held v') [] rfl ?_; intro w5 hmap5 hg5))
      go_roundw
      case rel => exact ⟨k + 1, _, _, by go_num, by omega, by rw [HT.out]; exact Groups.add x hG hg04 hown4 (hat4.imp id (fun h => ⟨_, h, by simp; omega⟩)) hmap5 hg5, (hB.grown hg04 (Nat.le_of_lt hbl) (fun j hj => by have := (hG.row (keyS x)).lt j hj; omega)).grown hg5 (by have := hg04.size; omega) (fun j hj => by cases hj; exact Nat.le_refl _)⟩
      case measure => simp [intOf]; omega
    · obtain rfl : k = l.length := by omega
      obtain ⟨wA, hwA⟩ : ∃ x, x = wr := ⟨wr, rfl⟩
      subst hwA
      rw [List.take_of_length_le (Nat.le_refl _)] at hG
      have hap := hG.apart
      have hV : ∀ n k, (V n).ownBlock = some k → w.heap.size + 1 ≤ k ∧ k < wA.heap.size := fun n k hk => (hG.row n).lt k hk
      have hbl : w.heap.size < wA.heap.size := hG.map.lt
      have HHas := Hid.mk' hG.has
      have HAt := Hid.mk' hG.at_
      have HSZ := Hid.mk' hsz
      clear hC hsz
      have hown := hG.map
      go_wp2_with (first
        | (at_range; refine wpList_range_own _ rfl _ 71 rfl 9 35 lawN Try.underlying71 RV w.heap.size l.length D rfl hown ?_; intro w1 hrg0 hg0 hs0))
      go_frame
      go_loopw [7] (fun u wr2 => ∃ left cnt xs, L2 wr2 (w.heap.size + 1) wA.heap.size w.heap.size l.length l D V left cnt u xs ∧ Below w.heap.size w wr2) (fun _ wr2 => wr2.rangeLeft w.heap.size wA.heap.size)
      case atStart => exact ⟨_, _, [], L2.start hG hrg0 hg0, hB.grown hg0 (by omega) (fun j hj => by cases hj)⟩
      case round =>
        obtain ⟨left, cnt, xs, hL, hB2⟩ := hrel
        go_wp2_with (first
          | (at_next; refine wpList_nextG _ rfl _ rfl rfl hL HAt.out HHas.out ?_ ?_ (fun n k hk => (hV n k hk).2)))
        · intro hl0
          have hXl : xs.length ≤ 1000000 := by have := names_len hL.nodup (fun q hq => ((hL.names q).1 hq).1); omega
          have hwl := hL.rg.lt
          rcases hL.row.2 with ⟨hnil, hk0⟩ | ⟨g, cap, cur, hv, hbase, hb, h1, h2, h3, h4⟩
          · obtain rfl : xs = [] := List.eq_nil_of_length_eq_zero hk0
            have hend := hL.end_ (base0 := w.heap.size) hl0 (by omega) hl hV (grownBy_refl _ _) (List.Perm.refl _) List.Pairwise.nil hL.row
            have HEND := Hid.mk' hend
            clear hend hL
            subst hnil
            go_wp2_with (go_at_call 49; refine (sortP_none _).mono ?_; rintro e w' ⟨rfl, rfl⟩)
            go_ret
            exact ⟨_, rfl, HEND.out, hB2⟩
          · have hrow := hL.row
            rw [hv] at hrow
            have hgr := hL.fresh g (by rw [hv]; rfl)
            have HL := Hid.mk' hL
            have HV := Hid.mk' hv
            clear hL
            have hx := hv
            subst hv
            go_wp2_with (go_at_call 49; refine (sortP_w g cap (w.heap.size + 1) xs _ hXl hrow).mono ?_; rintro e w' ⟨rfl, hg, ps, hp, hs, hrow'⟩)
            go_ret
            exact ⟨_, rfl, HL.out.end_ (base0 := w.heap.size) hl0 (by omega) hl hV hg hp hs hrow', hB2.grown hg (by omega) (fun j hj => by cases hj; omega)⟩
        · intro n g cap w2 cnt2 hn hne hVn hcap hrow hgr0 hrg hlt hg1 hsz1 hen
          have hgv : (V n).ownBlock = some g := by rw [hVn]; rfl
          have hgl := (hV n g hgv)
          have hgm : (grp l n).length ≤ 1000000 := by have := grp_len l n; omega
          have hcl := cgrp_len l n
          have HVn := Hid.mk' hVn
          clear hVn
          have hm0 : wr.rangeLeft w.heap.size wA.heap.size = cnt := hL.rg.left_eq
          have hwl := hL.rg.lt
          have hXl : xs.length ≤ 1000000 := by have := names_len hL.nodup (fun q hq => ((hL.names q).1 hq).1); omega
          go_wp2_with (first
            | (go_at_call 46; refine (sort_w g cap (w.heap.size + 1) (grp l n) _ hgm hrow).mono ?_; rintro e w3 ⟨rfl, hg2, tl, hR2⟩)
            | (go_at_call 48; refine (compact_grp l n g cap tl _ hl hcap hR2).mono ?_; rintro e w4 ⟨rfl, hg3, ys, hR3, htk⟩)
            | (at_builtin; refine wpList_append_own_at _ rfl _ _ 32 rfl (w.heap.size + 1) 58 i1 _ 2 40 Try.underlying32 hi1 hy0 hy1 hy2 rfl (by decide) _ xs.length (flat encP xs) rfl (hL.row4 hg1 hgl.2 (grown_trans0 hg2 hg3) (World.grownBy_alloc _ _ _)) ⟨w4.heap.size, 0, none⟩ 1 1 (encP (n, g, (cgrp l n).length, cap)) rfl rfl ?c1 (encP_one _) (by unfold maxLen; omega) (by omega) (by have := hg1.size; have := hg2.size; have := hg3.size; simp; omega) ?_; (case c1 => intro j u hj; exact (cells_new _ _ _ _ (by simp) j u hj)); intro u' w5 hown4 hg5 hnil4 hat4))
          have hLn := hL.step hV hap (by omega) (by omega) hn hne hrg hg1 hgv (grown_trans0 hg2 hg3) hR3 htk (by omega) (World.grownBy_alloc _ _ _) hg5 hown4 (hat4.imp id (fun h => ⟨_, h, by have := hg1.size; have := hg2.size; have := hg3.size; simp; omega⟩))
          go_roundw
          case rel => exact ⟨_, cnt2, _, hLn, (((hB2.grown hg1 (by omega) (fun j hj => by cases hj; omega)).grown (grown_trans0 hg2 hg3) (by have := hg1.size; omega) (fun j hj => by cases hj; omega)).alloc (by have := hg1.size; have := hg2.size; have := hg3.size; omega) _).grown hg5 (by have := hg1.size; have := hg2.size; have := hg3.size; simp; omega) (fun j hj => by have := hL.fresh j hj; omega)⟩
          case measure => rw [hLn.rg.left_eq, hm0]; exact hlt
theorem symindex_index.calls (A0 : Option Addr) (c0 : Nat) (l0 : List S56) (r : List S58) (w : World) (hr0 : Kd.C k56 w A0 l0.length l0) (hc0 : l0.length ≤ c0) (h : symindex_index.f l0 = some r) :
    Calls Try.prog 31 #[.slice A0 l0.length c0] w fun e w' => ∃ v0_ : Value, e = .returned (v0_) ∧ Kd.N k58 58 w' w.heap.size (fun k_ => w.heap.size ≤ k_) v0_ r ∧ Below w.heap.size w w' := by
  unfold symindex_index.f at h
  split at h
  · rename_i hf
    injection h with h
    subst h
    exact index_w A0 c0 l0 w hr0 hf
  · cases h
end Go.Proofs.Ytlogobmimacpgaa.L32
