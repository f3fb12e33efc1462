/- The law of Possible: both sides tell whether all elements of a list are in another one. Plain Lean. -/
import Derived.Test.YtlnoadnejefmoaaL20x5
import Derived.Test.YtlnoadnejefmoaaPureFp0
set_option linter.unusedVariables false
set_option linter.unusedSimpArgs false
namespace Go.Proofs.Ytlnoadnejefmoaa.L20
open Go.RowKit Go.Maps Go.Proofs.YtlnoadnejefmoaaW.PrintWords
theorem in_ok (l : List Int) (a : Int) (hl : l.length ≤ 1000000000) : ∀ (m : List Int) (k j : Nat), l.drop j = m → m.length < k → codesearchref05_In.l0 k l a (j : Int) = some (decide (a ∈ m)) := by
  intro m
  induction m with
  | nil =>
    intro k j hd hk
    have hj : l.length ≤ j := List.drop_eq_nil_iff.1 hd
    cases k with
    | zero => omega
    | succ k => unfold codesearchref05_In.l0; rw [if_neg (by omega)]; simp
  | cons y r ih =>
    intro k j hd hk
    obtain ⟨h1, h2, hj⟩ := rd_at l j y r hd
    rw [List.length_cons] at hk
    obtain ⟨k, rfl⟩ : ∃ q, k = q + 1 := ⟨k - 1, by omega⟩
    unfold codesearchref05_In.l0
    rw [if_pos (by omega), if_pos (by omega), h1]
    by_cases e : y = a
    · rw [if_pos e]; simp [e]
    · rw [if_neg e, wrap_nat j (by omega), ih k (j + 1) h2 (by omega)]
      simp [Ne.symm e]
theorem in_f (k : Nat) (l : List Int) (a : Int) (hl : l.length ≤ 1000000000) (hk : l.length < k) : codesearchref05_In.f k l a = some (decide (a ∈ l)) := in_ok l a hl l k 0 rfl hk
theorem poss_ok (l0 l1 : List Int) (h0 : l0.length ≤ 1000000000) (hl : l1.length ≤ 1000000000) : ∀ (m : List Int) (k j : Nat), l0.drop j = m → m.length + l1.length + 1 < k → codesearchref20_Possible.l0 k l0 l1 (j : Int) = some (subB m l1) := by
  intro m
  induction m with
  | nil =>
    intro k j hd hk
    have hj : l0.length ≤ j := List.drop_eq_nil_iff.1 hd
    cases k with
    | zero => omega
    | succ k => unfold codesearchref20_Possible.l0; rw [if_neg (by omega)]; rfl
  | cons y r ih =>
    intro k j hd hk
    obtain ⟨h1, h2, hj⟩ := rd_at l0 j y r hd
    rw [List.length_cons] at hk
    obtain ⟨k, rfl⟩ : ∃ q, k = q + 1 := ⟨k - 1, by omega⟩
    unfold codesearchref20_Possible.l0
    rw [if_pos (by omega), if_pos (by omega), h1, in_f k l1 y hl (by omega), Option.bind_some]
    by_cases e : y ∈ l1
    · rw [decide_eq_true e, if_pos rfl, wrap_nat j (by omega), ih k (j + 1) h2 (by omega)]
      simp [subB, e]
    · rw [decide_eq_false e, if_neg (by simp)]
      simp [subB, e]
theorem poss_f (k : Nat) (l0 l1 : List Int) (h0 : l0.length ≤ 1000000000) (hl : l1.length ≤ 1000000000) (hk : l0.length + l1.length + 1 < k) : codesearchref20_Possible.f k l0 l1 = some (subB l0 l1) := poss_ok l0 l1 h0 hl l0 k 0 rfl hk
theorem possible_f (l0 l1 : List Int) (h0 : ∀ x ∈ l0, wfI x) (h1 : ∀ x ∈ l1, wfI x) (hl : l1.length ≤ 1000000000) : fingerprint_Possible.f l0 l1 = some (subB l0 l1) := by
  unfold fingerprint_Possible.f
  rw [if_pos (by rw [Bool.and_eq_true, Bool.and_eq_true, decide_eq_true_eq, List.all_eq_true, List.all_eq_true]; exact ⟨⟨h0, h1⟩, hl⟩)]
theorem law_possible : codesearchlaw20_FingerprintPossible.Pure := by
  intro l0 l1 _ _ w0 _ _ w1
  refine ⟨300, ?_⟩
  unfold codesearchlaw20_FingerprintPossible.f
  rw [alive_ok 298, Option.bind_some, if_pos rfl]
  by_cases h1 : (l0.length : Int) > 100
  · rw [if_pos h1]; rfl
  · rw [if_neg h1]
    by_cases h2 : (l1.length : Int) > 100
    · rw [decide_eq_true h2]; rfl
    · rw [decide_eq_false h2]
      show (if false = true then some true else (fingerprint_Possible.f l0 l1).bind fun t185 => (codesearchref20_Possible.f 299 l0 l1).bind fun t186 => some (t185 == t186)) = some true
      rw [if_neg (by simp), possible_f l0 l1 w0 w1 (by omega), poss_f _ l0 l1 (by omega) (by omega) (by omega)]
      simp
end Go.Proofs.Ytlnoadnejefmoaa.L20
namespace Go.Proofs.Ytlnoadnejefmoaa.Pure
theorem FingerprintPossible : L20.codesearchlaw20_FingerprintPossible.Pure := L20.law_possible
end Go.Proofs.Ytlnoadnejefmoaa.Pure
