/- fingerprint.Possible tells whether all elements of a list are in another one. For every two lists of whole numbers in memory, the second of at most 1000000000 elements. -/
import Derived.Test.YtlnoadnejefmoaaIntSet
set_option linter.unusedVariables false
set_option linter.unusedSimpArgs false
namespace Go.Proofs.Ytlnoadnejefmoaa
open Go.RowKit Go.Maps Go.Proofs.YtlnoadnejefmoaaW.PrintWords
theorem ints_at {w : World} {A : Option Addr} {n : Nat} {l : List Int} (h : (Kd.int .i64).C w A n l) (k : Nat) (hk : k < l.length) : ∃ ad, A = some ad ∧ w.cell? (ad.add k) = some (.int .i64 (l.getD k 0)) := by
  have hn : l.length = n := h.1
  obtain ⟨ad, e1, e2⟩ := Kd.at_int h (k : Int) (by omega) (by omega)
  refine ⟨ad, e1, ?_⟩
  rw [Int.toNat_natCast] at e2
  rw [e2]
  congr 2
theorem take_getD (l : List Int) (k : Nat) (h : k < l.length) : l.take (k + 1) = l.take k ++ [l.getD k 0] := by
  rw [List.take_succ_eq_append_getElem h, List.getD_eq_getElem?_getD, List.getElem?_eq_getElem h]
  rfl
theorem getD_mem (l : List Int) (k : Nat) (h : k < l.length) : l.getD k 0 ∈ l := by
  rw [List.getD_eq_getElem?_getD, List.getElem?_eq_getElem h]
  exact List.getElem_mem h
def subB (need hav : List Int) : Bool := need.all fun x => decide (x ∈ hav)
theorem subB_no (need hav : List Int) (k : Nat) (hk : k < need.length) (h : decide (need.getD k 0 ∈ hav) = false) : subB need hav = false := by
  unfold subB
  rw [List.all_eq_false]
  exact ⟨_, getD_mem need k hk, by rw [h]; simp⟩
theorem subB_yes (need hav : List Int) (h : ∀ j, j < need.length → need.getD j 0 ∈ hav) : subB need hav = true := by
  unfold subB
  rw [List.all_eq_true]
  intro x hx
  obtain ⟨j, hj, rfl⟩ := List.getElem_of_mem hx
  have := h j hj
  rw [List.getD_eq_getElem?_getD, List.getElem?_eq_getElem hj] at this
  exact decide_eq_true this
set_option maxHeartbeats 2000000 in
set_option maxRecDepth 100000 in
theorem fp_possible (A B : Option Addr) (c d : Nat) (need hav : List Int) (w : World) (hN : (Kd.int .i64).C w A need.length need) (hH : (Kd.int .i64).C w B hav.length hav) (wN : ∀ x ∈ need, wfI x) (wH : ∀ x ∈ hav, wfI x) (hl : hav.length ≤ 1000000000) :
    Calls Try.prog 38 #[.slice A need.length c, .slice B hav.length d] w fun e w' => e = .returned (.bool (subB need hav)) ∧ Below w.heap.size w w' := by
  have hm1 := Kd.C_max hN
  have hmm := @run_makeMap Try.prog
  obtain ⟨r, hr⟩ : ∃ r, subB need hav = r := ⟨_, rfl⟩
  rw [hr]
  have HR := Hid.mk' hr
  clear hr
  go_enter Try.func38, Try.ntmps38
  go_wp2
  go_loopw [13] (fun i wr => ∃ k : Nat, i = .int .i64 k ∧ k ≤ hav.length ∧ Below w.heap.size w wr ∧ IntSet wr w.heap.size (hav.take k)) (fun i _ => hav.length - (intOf i).toNat)
  case atStart => exact ⟨0, rfl, by omega, (Below.refl _ _).alloc (Nat.le_refl _) _, by rw [List.take_zero]; exact IntSet.made w⟩
  case round =>
    obtain ⟨k, rfl, hk, hbl, hS⟩ := hrel
    by_cases hlt : k < hav.length
    · have hlti : (k : Int) < hav.length := by omega
      obtain ⟨ad, rfl, hc⟩ := ints_at (Kd.C_below hH hbl) k hlt
      have htk := take_getD hav k hlt
      obtain ⟨x, hx⟩ : ∃ x, hav.getD k 0 = x := ⟨_, rfl⟩
      have hw : wfI x := wH x (by rw [← hx]; exact getD_mem hav k hlt)
      rw [hx] at hc htk
      have HT := Hid.mk' htk
      have hlen : (hav.take k).length < maxLen := by rw [List.length_take]; unfold maxLen; omega
      clear hx htk
      go_wp2_with (refine wpList_insert_int _ rfl _ _ _ 68 rfl Try.underlying68 w.heap.size (hav.take k) rfl hS hlen x rfl hw rfl ?_; intro w1 hS1 hg1)
      go_roundw
      case rel => exact ⟨k + 1, by go_num, by omega, hbl.grown hg1 (by have := hS.lt; omega) (fun j hj => by cases hj; exact Nat.le_refl _), by rw [HT.out]; exact hS1⟩
      case measure => simp [intOf]; omega
    · rw [List.take_of_length_le (by omega)] at hS
      go_wp2
      go_loopw [22] (fun i wr2 => ∃ j : Nat, i = .int .i64 j ∧ j ≤ need.length ∧ wr = wr2 ∧ Hid (∀ q, q < j → need.getD q 0 ∈ hav)) (fun i _ => need.length - (intOf i).toNat)
      case atStart => exact ⟨0, rfl, by omega, rfl, fun q hq => absurd hq (by omega)⟩
      case round =>
        obtain ⟨j, rfl, hj, rfl, hinv⟩ := hrel
        by_cases hjt : j < need.length
        · have hjti : (j : Int) < need.length := by omega
          obtain ⟨ad, rfl, hc⟩ := ints_at (Kd.C_below hN hbl) j hjt
          obtain ⟨x, hx⟩ : ∃ x, need.getD j 0 = x := ⟨_, rfl⟩
          have hw : wfI x := wN x (by rw [← hx]; exact getD_mem need j hjt)
          rw [hx] at hc
          have HX := Hid.mk' hx
          clear hx
          cases hin : decide (x ∈ hav) with
          | true =>
            have HI : Hid (x ∈ hav) := (show x ∈ hav from of_decide_eq_true hin)
            go_wp2_with (at_lookup; refine wpList_lookup_int _ rfl _ _ 68 rfl Try.underlying68 w.heap.size hav rfl hS x rfl hw ?_)
            go_roundw
            case rel => exact ⟨j + 1, by go_num, by omega, by first | rfl | trivial, fun q hq => by
              rcases Nat.lt_or_ge q j with h | h
              · exact hinv.out q h
              · obtain rfl : q = j := by omega
                rw [HX.out]
                exact HI.out⟩
            case measure => simp [intOf]; omega
          | false =>
            have hno : subB need hav = false := subB_no need hav j hjt (by rw [HX.out]; exact hin)
            have HNO := Hid.mk' hno
            clear hno
            go_wp2_with (at_lookup; refine wpList_lookup_int _ rfl _ _ 68 rfl Try.underlying68 w.heap.size hav rfl hS x rfl hw ?_)
            go_ret
            exact ⟨ret_boolE (by rw [← HR.out, HNO.out]), hbl⟩
        · go_wp2
          go_ret
          exact ⟨ret_boolE (by rw [← HR.out, subB_yes need hav (fun q hq => hinv.out q (by omega))]), hbl⟩
end Go.Proofs.Ytlnoadnejefmoaa
