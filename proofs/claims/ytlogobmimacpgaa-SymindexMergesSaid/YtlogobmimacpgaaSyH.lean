/- The documents of occurrences: Docs. At most 1000000 occurrences. -/
import Derived.Test.YtlogobmimacpgaaSyE
import Derived.Lib.RowBridge
set_option linter.unusedVariables false
set_option linter.unusedSimpArgs false
namespace Go.Proofs.Ytlogobmimacpgaa.L32
open Go.RowKit Go.Lib Go.Sort Go.Shelf Go.Proofs.YtlogobmimacpgaaW.PrintWords
def docS (l : List S56) : List Int := l.map (·.f0)
def sortI (l : List Int) : List Int := l.mergeSort fun x y => decide (x ≤ y)
def symindex_Docs.f (l : List S56) : Option (List Int) := if l.length ≤ 1000000 then some (Lib.compact (sortI (docS l))) else none
theorem docS_snoc (l : List S56) (k : Nat) (x : S56) (h : l[k]? = some x) : (docS (l.take (k + 1))).map (Value.int .i64) = (docS (l.take k)).map (Value.int .i64) ++ [.int .i64 x.f0] := by
  rw [take_get l k x h]
  simp [docS]
theorem compact_sub (l : List Int) : (Lib.compact l).length ≤ l.length := Lib.compact_length_le l
/-- A row of integers, cut. -/
theorem own_cut {w : World} {base g cap n m : Nat} {xs ys : List Value} (h : w.ownsRow base 3 1 (.slice (some ⟨g, 0, none⟩) n cap) n xs) (hm : m ≤ n) (hy : xs.take m = ys) : w.ownsRow base 3 1 (.slice (some ⟨g, 0, none⟩) m cap) m ys := by
  rcases h.2 with ⟨e, _⟩ | ⟨g', cap', cur, e, hbase, hb, h1, h2, h3, h4⟩
  · cases e
  · injection e with e1 e2 e3
    injection e1 with e1
    injection e1 with e1
    subst e1
    subst e3
    have hl := h.1
    refine ⟨by rw [← hy, List.length_take, hl]; omega, .inr ⟨g, cap, cur, rfl, hbase, hb, by omega, h2, h3, ?_⟩⟩
    rw [← hy, ← h4, List.take_take]
    congr 1
    omega
theorem compactI_w (g cap base : Nat) (zs : List Int) (w : World) (hz : zs.length ≤ 1000000) (h : w.ownsRow base 3 1 (.slice (some ⟨g, 0, none⟩) zs.length cap) zs.length (zs.map (Value.int .i64))) :
    Calls Try.prog 37 #[.slice (some ⟨g, 0, none⟩) zs.length cap] w fun e w' => e = .returned (.slice (some ⟨g, 0, none⟩) (Lib.compact zs).length cap) ∧ w.grownBy w' (some g) ∧ w'.ownsRow base 3 1 (.slice (some ⟨g, 0, none⟩) (Lib.compact zs).length cap) (Lib.compact zs).length ((Lib.compact zs).map (Value.int .i64)) := by
  rcases h.2 with ⟨e, _⟩ | ⟨g', cap', cur, e, hbase, hb, h1, h2, h3, h4⟩
  · cases e
  · injection e with e1 e2 e3
    injection e1 with e1
    injection e1 with e1
    subst e1
    subst e3
    have hH : Holds (Value.int .i64) w g 0 zs.toArray := holds_of_blockI hb (by simpa using h4)
    refine (Try.slices_Compact_int g 0 cap zs w hH (by omega) h1).mono fun e w' hh => ?_
    obtain ⟨he, q, hw⟩ := hh
    have hcl := compact_sub zs
    have e0 : ∀ W : World, W = grow W #[] := fun W => (grow_empty W).symm
    rw [e0 (putRow _ _ _ _ _)] at hw
    refine ⟨he, by rw [hw]; exact grownBy_sortedI _, ?_⟩
    have h5 := ownsRow_sortedI (w := w) (base := base) (g := g) (cap := cap) (n := q) (os := #[]) (ss := zs) (ts := Lib.compact zs ++ List.replicate (zs.length - (Lib.compact zs).length) 0) (by simp; omega) hbase hb h1 h2 h3
    rw [← hw] at h5
    exact own_cut h5 hcl (by rw [List.map_append, List.take_left' (by simp)])
set_option maxHeartbeats 4000000 in
theorem docs_w (A : Option Addr) (c : Nat) (l : List S56) (w : World) (hC : Kd.C k56 w A l.length l) (hl : l.length ≤ 1000000) :
    Calls Try.prog 19 #[.slice A l.length c] w fun e w' => ∃ v, e = .returned v ∧ w'.ownsRow w.heap.size 3 1 v (Lib.compact (sortI (docS l))).length ((Lib.compact (sortI (docS l))).map (Value.int .i64)) ∧ Below w.heap.size w w' := by
  obtain ⟨i0, hi, hz0, hz1, hz2⟩ := info_parts info3
  go_enter Try.func19, Try.ntmps19
  go_wp2
  go_loopw [3, 8] (fun u i wr => ∃ k, i = .int .i64 ((k : Nat) : Int) ∧ k ≤ l.length ∧ wr.ownsRow w.heap.size 3 1 u k ((docS (l.take k)).map (Value.int .i64)) ∧ Below w.heap.size w wr) (fun _ i _ => l.length - (intOf i).toNat)
  case atStart => exact ⟨0, rfl, by omega, World.ownsRow_nil _ _ _ _, Below.refl _ _⟩
  case round =>
    obtain ⟨k, rfl, hk, hrow, hB⟩ := hrel
    by_cases hlt : k < l.length
    · have hlti : (k : Int) < l.length := by omega
      obtain ⟨x, hx⟩ : ∃ x, l[k]? = some x := ⟨_, List.getElem?_eq_getElem hlt⟩
      obtain ⟨ad, rfl, z0, z1, z2, z3⟩ := at_T56 (Kd.C_below hC hB) (k : Int) (by omega) hlti
      rw [rd_get l k x hx] at z0 z1 z2 z3
      simp only [Int.toNat_natCast] at z0 z1 z2 z3
      have HT := Hid.mk' (docS_snoc l k x hx)
      clear hx
      have hbs := hB.size
      go_wp2_with (at_builtin; refine wpList_append_own_at _ rfl _ _ 41 rfl w.heap.size 3 i0 _ 1 8 Try.underlying41 hi hz0 hz1 hz2 rfl (by decide) _ k ((docS (l.take k)).map (Value.int .i64)) rfl ((hrow.alloc _).alloc _) ⟨wr.heap.size + 1, 0, none⟩ 1 1 [.int .i64 x.f0] rfl rfl ?c1 (by simp [Value.oneCell']) (by unfold maxLen; omega) (by omega) (by simp; omega) ?_; (case c1 => intro j u hj; exact (cells_new _ #[.int .i64 x.f0] _ _ (by simp) j u hj)); intro v' w4 hown4 hg4 hnil4 hat4)
      go_roundw
      case rel => exact ⟨k + 1, by go_num, by omega, by rw [HT.out]; exact hown4, ((hB.alloc (by omega) _).alloc (by simp; omega) _).grown hg4 (by simp; omega) (fun j hj => (hrow.lt j hj).1)⟩
      case measure => simp [intOf]; omega
    · obtain rfl : k = l.length := by omega
      rw [List.take_of_length_le (Nat.le_refl _)] at hrow
      have hdl : (docS l).length = l.length := by simp [docS]
      have hsl : (sortI (docS l)).length = l.length := by rw [← hdl]; exact List.length_mergeSort _
      have hcl := compact_sub (sortI (docS l))
      rcases hrow.2 with ⟨hnil, hk0⟩ | ⟨g, cap, cur, hv, hbase, hb, h1, h2, h3, h4⟩
      · have he : l = [] := List.eq_nil_of_length_eq_zero hk0
        subst he hnil
        go_wp2_with (first
          | (go_at_call 36; refine (Try.slices_Sort_int_none _ _ _).mono ?_; rintro e w' ⟨rfl, rfl⟩)
          | (go_at_call 37; refine (Try.slices_Compact_int_empty _ _ _).mono ?_; rintro e w' ⟨rfl, rfl⟩))
        go_ret
        have e0 : Lib.compact (sortI (docS ([] : List S56))) = [] := by simp [sortI, docS, Lib.compact, Lib.compactUpTo]
        refine ⟨_, rfl, ?_, hB⟩
        rw [e0]
        exact World.ownsRow_nil _ _ _ _
      · have hH : Holds (Value.int .i64) wr g 0 (docS l).toArray := holds_of_blockI hb (by rw [hdl]; simpa using h4)
        have hgl : g < wr.heap.size := (Array.getElem?_eq_some_iff.1 hb).1
        have hsort : Calls Try.prog 36 #[.slice (some ⟨g, 0, none⟩) l.length cap] wr fun e w1 => e = .returned (.tuple #[]) ∧ wr.grownBy w1 (some g) ∧ w1.ownsRow w.heap.size 3 1 (.slice (some ⟨g, 0, none⟩) (sortI (docS l)).length cap) (sortI (docS l)).length ((sortI (docS l)).map (Value.int .i64)) := by
          have hs := Try.slices_Sort_int g 0 cap (docS l) wr hH hgl (by omega)
          rw [hdl] at hs
          refine hs.mono fun e w1 hh => ?_
          obtain ⟨he, n1, os1, hw1⟩ := hh
          have h5 := ownsRow_sortedI (w := wr) (base := w.heap.size) (g := g) (cap := cap) (n := n1) (os := os1) (ss := docS l) (ts := sortI (docS l)) (by rw [hsl, hdl]) hbase hb (by omega) h2 h3
          refine ⟨he, by rw [hw1]; exact grownBy_sortedI _, ?_⟩
          rw [hw1, hsl, ← hdl]
          exact h5
        have hcall := fun (w1 : World) (h : w1.ownsRow w.heap.size 3 1 (.slice (some ⟨g, 0, none⟩) (sortI (docS l)).length cap) (sortI (docS l)).length ((sortI (docS l)).map (Value.int .i64))) => compactI_w g cap w.heap.size (sortI (docS l)) w1 (by omega) h
        simp only [hsl] at hcall hsort
        have hbs := hB.size
        clear hrow hH
        subst hv
        go_wp2_with (first
          | (go_at_call 36; refine hsort.mono ?_; rintro e w1 ⟨rfl, hg1, hr1⟩)
          | (go_at_call 37; refine (hcall _ hr1).mono ?_; rintro e w2 ⟨rfl, hg2, hr2⟩))
        go_ret
        exact ⟨_, rfl, hr2, (hB.grown hg1 (by omega) (fun j hj => by cases hj; exact hbase)).grown hg2 (by have := hg1.size; omega) (fun j hj => by cases hj; exact hbase)⟩
theorem symindex_Docs.calls (A0 : Option Addr) (c0 : Nat) (l0 : List S56) (r : List Int) (w : World) (hr0 : Kd.C k56 w A0 l0.length l0) (hc0 : l0.length ≤ c0) (h : symindex_Docs.f l0 = some r) :
    Calls Try.prog 19 #[.slice A0 l0.length c0] w fun e w' => ∃ v0_ : Value, e = .returned (v0_) ∧ Kd.R (Kd.int .i64) 3 w' w.heap.size (fun _ => True) v0_ r ∧ Below w.heap.size w w' := by
  unfold symindex_Docs.f at h
  split at h
  · rename_i hl
    injection h with h
    subst h
    refine (docs_w A0 c0 l0 w hr0 hl).mono fun e w' hh => ?_
    obtain ⟨v, h1, h2, h3⟩ := hh
    exact ⟨v, h1, Kd.R_of_own h2 (fun _ _ => trivial), h3⟩
  · cases h
end Go.Proofs.Ytlogobmimacpgaa.L32
