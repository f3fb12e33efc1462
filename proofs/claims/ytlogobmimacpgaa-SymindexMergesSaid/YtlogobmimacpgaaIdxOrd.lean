/- The orders of names and of occurrences, as the program and the reference compare them. Plain Lean. -/
import Derived.Test.YtlogobmimacpgaaIdxPure
import Derived.Sort.Walk0
set_option linter.unusedVariables false
set_option linter.unusedSimpArgs false
namespace Go.Proofs.Ytlogobmimacpgaa.Idx
def ltN (a b : ByteArray) : Bool := Op.bytesLess a.toList b.toList
theorem ltN_eq (a b : ByteArray) : ltN a b = decide (a.toList < b.toList) := Go.Proofs.bytesLess_eq _ _
theorem ba_ext {a b : ByteArray} (h : a.toList = b.toList) : a = b := by
  rw [ByteArray.toList_eq, ByteArray.toList_eq] at h
  cases a; cases b
  simp at h
  rw [h]
theorem ordN : Ord ltN where
  irr x := by rw [ltN_eq]; simp
  tr x y z h1 h2 := by rw [ltN_eq, decide_eq_true_eq] at *; exact List.lt_trans h1 h2
  tot x y h1 h2 := by
    rw [ltN_eq, decide_eq_false_iff_not] at *
    exact ba_ext (List.le_antisymm (List.not_lt.1 h2) (List.not_lt.1 h1))
/-- An occurrence: document, place, kind, name. -/
abbrev Occ := Int × Int × Int × ByteArray
def ltA (a b : Occ) : Bool := if a.1 = b.1 then (if a.2.1 = b.2.1 then (if a.2.2.1 = b.2.2.1 then ltN a.2.2.2 b.2.2.2 else decide (a.2.2.1 < b.2.2.1)) else decide (a.2.1 < b.2.1)) else decide (a.1 < b.1)
theorem ltA_iff (a b : Occ) : ltA a b = true ↔ a.1 < b.1 ∨ (a.1 = b.1 ∧ (a.2.1 < b.2.1 ∨ (a.2.1 = b.2.1 ∧ (a.2.2.1 < b.2.2.1 ∨ (a.2.2.1 = b.2.2.1 ∧ ltN a.2.2.2 b.2.2.2 = true))))) := by
  unfold ltA
  by_cases h1 : a.1 = b.1
  · rw [if_pos h1]
    by_cases h2 : a.2.1 = b.2.1
    · rw [if_pos h2]
      by_cases h3 : a.2.2.1 = b.2.2.1
      · rw [if_pos h3]; simp [h1, h2, h3]
      · rw [if_neg h3]; simp [h1, h2, h3]
    · rw [if_neg h2]; simp [h1, h2]
  · rw [if_neg h1]; simp [h1]
theorem ordA : Ord ltA where
  irr x := by unfold ltA; simp [ordN.irr]
  tr x y z h1 h2 := by
    rw [ltA_iff] at *
    rcases h1 with h1 | ⟨h1, h1'⟩ <;> rcases h2 with h2 | ⟨h2, h2'⟩
    · left; omega
    · left; omega
    · left; omega
    · right
      refine ⟨by omega, ?_⟩
      rcases h1' with h3 | ⟨h3, h3'⟩ <;> rcases h2' with h4 | ⟨h4, h4'⟩
      · left; omega
      · left; omega
      · left; omega
      · right
        refine ⟨by omega, ?_⟩
        rcases h3' with h5 | ⟨h5, h5'⟩ <;> rcases h4' with h6 | ⟨h6, h6'⟩
        · left; omega
        · left; omega
        · left; omega
        · exact .inr ⟨by omega, ordN.tr _ _ _ h5' h6'⟩
  tot x y h1 h2 := by
    have n1 : ¬ (ltA x y = true) := by rw [h1]; simp
    have n2 : ¬ (ltA y x = true) := by rw [h2]; simp
    rw [ltA_iff] at n1 n2
    obtain ⟨a, b, c, d⟩ := x
    obtain ⟨a', b', c', d'⟩ := y
    simp only at n1 n2
    have e1 : a = a' := by
      rcases Int.lt_trichotomy a a' with h | h | h
      · exact absurd (.inl h) n1
      · exact h
      · exact absurd (.inl h) n2
    subst e1
    have e2 : b = b' := by
      rcases Int.lt_trichotomy b b' with h | h | h
      · exact absurd (.inr ⟨rfl, .inl h⟩) n1
      · exact h
      · exact absurd (.inr ⟨rfl, .inl h⟩) n2
    subst e2
    have e3 : c = c' := by
      rcases Int.lt_trichotomy c c' with h | h | h
      · exact absurd (.inr ⟨rfl, .inr ⟨rfl, .inl h⟩⟩) n1
      · exact h
      · exact absurd (.inr ⟨rfl, .inr ⟨rfl, .inl h⟩⟩) n2
    subst e3
    have e4 : d = d' := ordN.tot d d' (by
      cases e : ltN d d' with
      | false => rfl
      | true => exact absurd (.inr ⟨rfl, .inr ⟨rfl, .inr ⟨rfl, e⟩⟩⟩) n1) (by
      cases e : ltN d' d with
      | false => rfl
      | true => exact absurd (.inr ⟨rfl, .inr ⟨rfl, .inr ⟨rfl, e⟩⟩⟩) n2)
    rw [e4]
section
variable {α κ : Type} {lt : α → α → Bool} {ltk : κ → κ → Bool} {key : α → κ}
/-- The occurrences of an index. -/
def allP (i : List (κ × List α)) : List α := i.flatMap (·.2)
theorem mem_all (i : List (κ × List α)) (a : α) : a ∈ allP i ↔ Holds i a := by
  unfold allP Holds
  rw [List.mem_flatMap]
theorem mem_idx (o : Ord lt) (ok : Ord ltk) (l : List α) (a : α) : a ∈ allP (idx lt ltk key l) ↔ a ∈ l := by rw [mem_all, idx_holds o ok]
end
end Go.Proofs.Ytlogobmimacpgaa.Idx
