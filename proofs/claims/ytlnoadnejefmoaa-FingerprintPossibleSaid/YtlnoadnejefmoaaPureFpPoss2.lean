/- The law of Possible for any two lists of whole numbers. Plain Lean. -/
import Derived.Test.YtlnoadnejefmoaaPureFingerprintPossible
import Derived.Test.YtlnoadnejefmoaaOpen
set_option linter.unusedVariables false
set_option linter.unusedSimpArgs false
namespace Go.Proofs.Ytlnoadnejefmoaa.L20
open Go.RowKit Go.Maps Go.Proofs.YtlnoadnejefmoaaW.PrintWords
theorem law_poss (l0 l1 : List Int) (w0 : ∀ x ∈ l0, (Lit.int .i64 x).wf = true) (w1 : ∀ x ∈ l1, (Lit.int .i64 x).wf = true) : codesearchlaw20_FingerprintPossible.f 300 l0 l1 = some true := by
  unfold codesearchlaw20_FingerprintPossible.f
  rw [alive_ok 298, Option.bind_some, if_pos rfl]
  by_cases h1 : (l0.length : Int) > 100
  · rw [if_pos h1]; rfl
  · rw [if_neg h1]
    by_cases h2 : (l1.length : Int) > 100
    · rw [decide_eq_true h2]; rfl
    · rw [decide_eq_false h2]
      show (if false = true then some true else (fingerprint_Possible.f l0 l1).bind fun t185 => (codesearchref20_Possible.f 299 l0 l1).bind fun t186 => some (t185 == t186)) = some true
      rw [if_neg (by simp), possible_f l0 l1 w0 w1 (by omega), poss_f _ l0 l1 (by omega) (by omega) (by omega)]
      simp
end Go.Proofs.Ytlnoadnejefmoaa.L20
