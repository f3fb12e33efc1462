/- SyntaxModules and SyntaxFragments come to true. -/
import Derived.Test.YtmofhelddcnecaaGreatDoorBW
import Derived.Test.YtmofhelddcnecaaGreatDoorBLc
set_option linter.unusedVariables false
set_option linter.unusedSimpArgs false
set_option linter.unusedSectionVars false
set_option maxRecDepth 4000
namespace Go.Ev
open PV
section
variable {n : Nat} {sg : List (List PV)} {K : Res → Out}
/-- The tree that was read is no wider than n. -/
theorem wid_no {n : Nat} (h : 1000 ≤ n) : Wid n noTree := .mk _ _ _ _ _ (by simp; omega) fun _ h => (List.not_mem_nil h).elim
theorem out_wid {n : Nat} {r : PR Tree} (hn : 1000 ≤ n) (h : ∀ x m, r = .ok x m → Wid n x) : Wid n (outT r).1 := by
  cases r with
  | ok x m =>
    unfold outT
    dsimp only
    cases deepT 12 x with
    | some a => exact wid_no hn
    | none => exact h x m rfl
  | bad a m => exact wid_no hn
  | out => exact wid_no hn
theorem whole_wid {p : Ps Tree} [Fw p] (hp : WG wT p) {S : Src} (hS : S.T.length ≤ 600) (hn : 1000 ≤ n) : Wid n (outT (wholeP p S 0)).1 := by
  refine out_wid hn fun x m e => ?_
  obtain ⟨y, k, e1, e2⟩ := PR.bind_ok e
  unfold moreC at e2
  dsimp only at e2
  split at e2
  · cases e2
  · cases e2
    exact (hp S 0 x m (Nat.zero_le _) hS e1).mono hn
theorem resM_wid {s : ByteArray} (hn : 1000 ≤ n) (hs : s.size ≤ 1000000000) : Wid n (resM s).1 := by
  have h6 := (scan_fit false s.data.toList s.size (by rw [len_data]; exact hs)).2
  unfold resM outM
  split
  · exact wid_no hn
  · exact whole_wid WG.module_ h6 hn
end
end Go.Ev
