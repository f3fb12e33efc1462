/- The laws of single features and of Possible; the examples of the chapter, reckoned. Plain Lean. -/
import Derived.Test.YtlnoadnejefmoaaL20x2
import Derived.Test.YtlnoadnejefmoaaFgn20
set_option linter.unusedVariables false
set_option linter.unusedSimpArgs false
namespace Go.Proofs.Ytlnoadnejefmoaa.L20
open Go.RowKit Go.Maps Go.Proofs.YtlnoadnejefmoaaW.PrintWords
set_option maxRecDepth 100000 in
theorem alive_ok (k : Nat) : codesearchlaw20_alive.f (k + 2) = some true := by kernel_rfl
theorem law_features (a0 : Int) (a1 : ByteArray) (b0 : Int) (b1 : ByteArray) : codesearchlaw20_FingerprintFeatures.f 2 a0 a1 b0 b1 = some true := by
  unfold codesearchlaw20_FingerprintFeatures.f
  rw [alive_ok 0, Option.bind_some, if_pos rfl]
  by_cases h1 : (a1.size : Int) > 300
  · rw [if_pos h1]; rfl
  · rw [if_neg h1]
    by_cases h2 : (b1.size : Int) > 300
    · rw [decide_eq_true h2]; rfl
    · rw [decide_eq_false h2]
      unfold codesearchlaw20_FingerprintFeatures.j0
      have e1 : nodeD a0 a1 = some (nodeF a0 a1) := by unfold nodeD; rw [if_pos (by omega)]
      have e2 : pairD a0 a1 b0 b1 = some (pairF a0 a1 b0 b1) := by unfold pairD; rw [if_pos (by omega)]
      simp [fingerprint_Node.f, codesearchref20_Node.f, fingerprint_Pair.f, codesearchref20_Pair.f, e1, e2]
end Go.Proofs.Ytlnoadnejefmoaa.L20
