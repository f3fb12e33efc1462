/- The calls of SyntaxModules and SyntaxFragments. -/
import Derived.Test.YtmofhelddcnecaaGreatDoorV6
import Derived.Test.YtmofhelddcnecaaGreatDoorVL1
set_option linter.unusedVariables false
namespace Go.Ev
open PV Go.RowKit
theorem modules_calls {W : World} (hT : ∀ c : Nat, c < 256 → W.cell? ⟨0, c, none⟩ = some (.int .u8 (if Lib.isSp (UInt8.ofNat c) then 1 else 0))) (s : ByteArray) :
    Calls Go.Proofs.Tryz.prog 3 #[.string s] W fun e W' => e = .returned (.bool true) ∧ Below W.heap.size W W' := by
  obtain ⟨d, hd⟩ := hgt_ex (resM s).1
  obtain ⟨n, hn⟩ : ∃ n : Nat, n = 2000010 := ⟨_, rfl⟩
  obtain ⟨k, hk⟩ : ∃ k : Nat, k = dD 601 + eD 601 + d + 100 := ⟨_, rfl⟩
  exact law_calls (n := n) (k := k) hT (fun K h => modules_spec (by omega) (by omega) hd (by omega) (fun e => h _)) (args1 (.str s))
theorem fragments_calls {W : World} (hT : ∀ c : Nat, c < 256 → W.cell? ⟨0, c, none⟩ = some (.int .u8 (if Lib.isSp (UInt8.ofNat c) then 1 else 0))) (x : Int) (s : ByteArray) :
    Calls Go.Proofs.Tryz.prog 4 #[.int .i64 x, .string s] W fun e W' => e = .returned (.bool true) ∧ Below W.heap.size W W' := by
  obtain ⟨d, hd⟩ := hgt_ex (resG x s).1
  obtain ⟨n, hn⟩ : ∃ n : Nat, n = 2000010 := ⟨_, rfl⟩
  obtain ⟨k, hk⟩ : ∃ k : Nat, k = dD 601 + eD 601 + d + 100 := ⟨_, rfl⟩
  exact law_calls (n := n) (k := k) hT (fun K h => fragments_spec (by omega) (by omega) hd (by omega) (fun e => h _)) (args2 (.int _ _) (.str s))
end Go.Ev
