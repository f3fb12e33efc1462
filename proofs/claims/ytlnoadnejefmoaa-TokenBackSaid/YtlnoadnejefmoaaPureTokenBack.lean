/- The plain law of TokenBack: what is printed is read back. For every list of tokens. -/
import Derived.Test.YtlnoadnejefmoaaPureTokenAgain
set_option linter.unusedVariables false
set_option linter.unusedSimpArgs false
namespace Go.Proofs.Ytlnoadnejefmoaa.L11
open Go.RowKit Go.Proofs.YtlnoadnejefmoaaW.PrintWords Go.Proofs.YtlnoadnejefmoaaW.PrintLast

theorem rd_get (l : List S33) (i : Nat) (h : i < l.length) : rd_T33 l (i : Int) = l[i] := by
  unfold rd_T33
  rw [List.getD_eq_getElem?_getD, Int.toNat_natCast, List.getElem?_eq_getElem h]
  rfl
theorem toS_toT (xs : List S33) : (xs.map toT).map toS = xs := by rw [List.map_map, show toS ∘ toT = id from rfl, List.map_id]

def smallB (l : List S33) : Bool := l.all fun x => decide (x.f1.size ≤ 100)
theorem bounded_loop (l : List S33) (hl : l.length ≤ 700) : ∀ (d k i : Nat), i + d = l.length → d < k → codesearchlaw11_bounded.l0 k l i = some (smallB (l.drop i)) := by
  intro d
  induction d with
  | zero =>
    intro k i hi hk
    obtain ⟨k, rfl⟩ : ∃ m, k = m + 1 := ⟨k - 1, by omega⟩
    simp only [codesearchlaw11_bounded.l0]
    rw [if_neg (by omega), List.drop_eq_nil_of_le (by omega)]
    rfl
  | succ d ih =>
    intro k i hi hk
    obtain ⟨k, rfl⟩ : ∃ m, k = m + 1 := ⟨k - 1, by omega⟩
    simp only [codesearchlaw11_bounded.l0]
    have hlt : i < l.length := by omega
    rw [if_pos (by omega), if_pos (by omega), rd_get l i hlt, List.drop_eq_getElem_cons hlt]
    have hw : wrap64 ((i : Int) + 1) = ((i + 1 : Nat) : Int) := by unfold wrap64; omega
    rw [hw]
    by_cases h : (l[i].f1.size : Int) > 100
    · rw [if_pos h]
      unfold smallB
      rw [List.all_cons, decide_eq_false (by omega)]
      rfl
    · rw [if_neg h, ih k (i + 1) (by omega) (by omega)]
      unfold smallB
      rw [List.all_cons, decide_eq_true (show l[i].f1.size ≤ 100 by omega), Bool.true_and]
def boundB (l : List S33) : Bool := decide (l.length ≤ 700) && smallB l
theorem bounded_is (l : List S33) (k : Nat) (hk : 701 ≤ k) : codesearchlaw11_bounded.f k l = some (boundB l) := by
  unfold codesearchlaw11_bounded.f boundB
  by_cases h : (l.length : Int) > 700
  · rw [if_pos h, decide_eq_false (by omega)]; rfl
  · rw [if_neg h, decide_eq_true (show l.length ≤ 700 by omega), Bool.true_and]
    exact bounded_loop l (by omega) l.length k 0 (by omega) (by omega)
theorem boundB_parts {l : List S33} (h : boundB l = true) : l.length ≤ 700 ∧ ∀ x ∈ l, x.f1.size ≤ 100 := by
  unfold boundB smallB at h
  rw [Bool.and_eq_true, decide_eq_true_eq, List.all_eq_true] at h
  exact ⟨h.1, fun x hx => by simpa using h.2 x hx⟩
def metaB (l : List S33) : Bool := l.any fun x => decide (x.f0 = 6 ∨ x.f0 = 7)
theorem metas_loop (l : List S33) (hl : l.length ≤ 700) : ∀ (d k i : Nat), i + d = l.length → d < k → codesearchlaw11_metas.l0 k l i = some (metaB (l.drop i)) := by
  intro d
  induction d with
  | zero =>
    intro k i hi hk
    obtain ⟨k, rfl⟩ : ∃ m, k = m + 1 := ⟨k - 1, by omega⟩
    simp only [codesearchlaw11_metas.l0]
    rw [if_neg (by omega), List.drop_eq_nil_of_le (by omega)]
    rfl
  | succ d ih =>
    intro k i hi hk
    obtain ⟨k, rfl⟩ : ∃ m, k = m + 1 := ⟨k - 1, by omega⟩
    simp only [codesearchlaw11_metas.l0]
    have hlt : i < l.length := by omega
    rw [if_pos (by omega), if_pos (by omega), rd_get l i hlt, List.drop_eq_getElem_cons hlt]
    have hw : wrap64 ((i : Int) + 1) = ((i + 1 : Nat) : Int) := by unfold wrap64; omega
    rw [hw]
    unfold metaB
    rw [List.any_cons]
    by_cases h : l[i].f0 = 6
    · rw [if_pos h, decide_eq_true (Or.inl h)]; rfl
    · rw [if_neg h]
      by_cases h7 : l[i].f0 = 7
      · rw [if_pos h7, decide_eq_true (Or.inr h7)]; rfl
      · rw [if_neg h7, decide_eq_false (by omega), Bool.false_or]
        exact ih k (i + 1) (by omega) (by omega)
theorem metas_is (l : List S33) (hl : l.length ≤ 700) (k : Nat) (hk : 701 ≤ k) : codesearchlaw11_metas.f k l = some (metaB l) := metas_loop l hl l.length k 0 (by omega) (by omega)

theorem short_of_bound {l : List S33} (h : boundB l = true) : shortT l := by
  obtain ⟨h1, h2⟩ := boundB_parts h
  exact ⟨by omega, fun x hx => by have := h2 x hx; omega⟩

theorem back_holds (l : List S33) : codesearchlaw11_TokenBack.f 800 l = some true := by
  unfold codesearchlaw11_TokenBack.f
  rw [show codesearchlaw11_alive.f = some true from rfl]
  simp only [Option.bind_some, if_true]
  rw [bounded_is l 800 (by omega)]
  simp only [Option.bind_some]
  have htrue : codesearchlaw11_TokenBack.j0 800 l true = some true := rfl
  cases hb : boundB l with
  | false => exact htrue
  | true =>
    rw [if_pos rfl]
    by_cases h6 : (l.length : Int) > 600
    · rw [decide_eq_true h6]; exact htrue
    · rw [decide_eq_false h6]
      have hn : l.length ≤ 600 := by omega
      have hl7 : l.length ≤ 700 := by omega
      rw [show (800 : Nat) = 799 + 1 from rfl]
      simp only [codesearchlaw11_TokenBack.j0]
      rw [if_neg (by simp)]
      have hxs := toS_toT l
      have hxl : (l.map toT).length ≤ 600 := by rw [List.length_map]; exact hn
      cases ho : outs (l.map toT) with
      | none =>
        have e : token_Print.f l = some (tx [], 1) := by
          unfold token_Print.f
          rw [if_pos (short_of_bound hb)]
          unfold printF printO
          rw [ho]
          rfl
        rw [e]
        simp only [Option.bind_some]
        rw [if_neg (by decide), if_pos trivial, show (tx []).toList = [] from by rw [Lib.toList_data]; rfl]
        rfl
      | some os =>
        have e := print_S _ os ho hxl
        rw [hxs] at e
        rw [e]
        simp only [Option.bind_some, if_true]
        have hsz := join_size _ os ho hxl
        obtain ⟨ts, h1, h2⟩ := back_scan true (l.map toT) os ho (fun _ _ _ => rfl) hxl
        have e2 : token_ScanPattern.f (tx (joinL os)) = some (ts.map toS, 0, 0) := scanF_is hsz (by rw [tx_list]; exact h1)
        have same : ∀ ts : List Tok, ts.map (fun t => (t.kind, t.text)) = (l.map toT).map (fun t => (t.kind, t.text)) → codesearchref11_Same.f l (ts.map toS) = some true := by
          intro ts h
          unfold codesearchref11_Same.f sameL
          rw [toT_toS]
          congr 1
          rw [decide_eq_true_eq]
          exact h.symm
        rw [e2]
        simp only [Option.bind_some, if_true]
        rw [same ts h2]
        simp only [Option.bind_some, Bool.not_true]
        rw [show (799 : Nat) = 798 + 1 from rfl]
        simp only [codesearchlaw11_TokenBack.j1]
        rw [if_neg (by simp)]
        obtain ⟨L, off, err, h3⟩ := scanR_parts false (joinL os)
        have e3 : token_Scan.f (tx (joinL os)) = some (L.map toS, off, err) := scanF_is hsz (by rw [tx_list]; exact h3)
        rw [e3, metas_is l hl7 798 (by omega)]
        simp only [Option.bind_some]
        cases hm : metaB l with
        | true =>
          have : err = 11 := by
            have hm' : ∃ x ∈ l.map toT, x.kind = 6 ∨ x.kind = 7 := by
              unfold metaB at hm
              rw [List.any_eq_true] at hm
              obtain ⟨x, hx, hk⟩ := hm
              exact ⟨toT x, List.mem_map_of_mem hx, by rw [decide_eq_true_eq] at hk; exact hk⟩
            have := meta_scan (l.map toT) os ho hm' hxl
            rw [h3] at this
            exact this
          subst this
          rfl
        | false =>
          obtain ⟨ts', h4, h5⟩ := back_scan false (l.map toT) os ho (fun x hx hk => by
            obtain ⟨y, hy, rfl⟩ := List.mem_map.1 hx
            unfold metaB at hm
            rw [List.any_eq_false] at hm
            have := hm y hy
            rw [decide_eq_true_eq] at this
            exact absurd hk this) hxl
          rw [h4] at h3
          injection h3 with q1 q2 q3
          subst q1 q2 q3
          rw [if_neg (by simp), if_pos rfl, same ts' h5]
          rfl
end Go.Proofs.Ytlnoadnejefmoaa.L11
