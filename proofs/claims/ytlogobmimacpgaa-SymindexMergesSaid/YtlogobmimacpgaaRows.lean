/-
  No cell of these rows narrows 'for every input' (looked for: loops, veiled, ifaces, maps, wideKeys, modest, calm, conditions, laid).
  DERIVED. THE GIVEN ROWS OF THIS SEAT. 4 by the template 'for every input the law returns true; each argument reads behind the call as it read before'; 0 by the template 'total and deterministic' (their statements: YtlogobmimacpgaaTotals.lean).
  GIVEN WITH THE SEED: the statements are not yours to turn. If you find one false, say at which input.
  Laid BY PROGRAM, IN A SANDBOX (cutbox-rows.mjs): the forced cells as the released guide's own fill.sh prints them over the translation a0bdd6a796ee69df… (all of the seat's roots in one cut). By AI agents, Wed Nov 11 2026. No macro, syntax, notation, axiom, sorry.
-/
import Derived.Test.YtlogobmimacpgaaChecked
import GoSem.Claim
import GoSem.ClaimJoined
import GoSem.ClaimMapViews
import Derived.JoinedTies
import Derived.KernelRfl
namespace Go.Proofs.Ytlogobmimacpgaa
/- THE CELL 'sum', in the pinned program and in every row, IS THE sha256 OF THE DUMP (.gsa) THAT YtlogobmimacpgaaProg.lean LOADS. Nothing in Lean hashes anything: it is a label: what it is worth is what the hold of that sum in a sandbox is worth. -/
noncomputable def Try.pinned : Pinned := { name := "ytlogobmimacpgaa", sum := "a0bdd6a796ee69df02f28845a3ebc1f443907533c2a6d000695168dbd98d7d57", checked := Try.checked }
namespace Rows
def none {H : Type} : Left H := { results := [], args := [] }

/-- 'codesearchlaw32.SymindexBuilds': WHATEVER THE INPUT: true; the input reads as it did. -/
def symindexBuildsSpec : ChangeSpec := { name := "symindexBuilds", fn := fun _ => fun
  | [d] => { results := [.lit (.bool true)], args := [d] }
  | _ => none }
def symindexBuildsRow : OpenClaim := { program := "ytlogobmimacpgaa", sum := "a0bdd6a796ee69df02f28845a3ebc1f443907533c2a6d000695168dbd98d7d57", func := "codesearch/codesearchlaw32.SymindexBuilds", spec := "symindexBuilds", inPlace := ["internal/bytealg.abigen_runtime_cmpstring"], unfollowed := true, recurses := true, apart := false }
def SymindexBuildsSaid : Prop := symindexBuildsRow.holds Try.pinned (OpenSpec.ofChange symindexBuildsSpec)

/-- ITS FALSE NEIGHBOUR: 'it returns false'. Refute it at one input. -/
def symindexBuildsWrong : ChangeSpec := { name := "symindexBuilds", fn := fun _ => fun
  | [d] => { results := [.lit (.bool false)], args := [d] }
  | _ => none }
def SymindexBuildsWrongFalsely : Prop := symindexBuildsRow.holds Try.pinned (OpenSpec.ofChange symindexBuildsWrong)

/-- 'codesearchlaw32.SymindexAsks': WHATEVER THE INPUT: true; the input reads as it did. -/
def symindexAsksSpec : ChangeSpec := { name := "symindexAsks", fn := fun _ => fun
  | [d1, d2] => { results := [.lit (.bool true)], args := [d1, d2] }
  | _ => none }
def symindexAsksRow : OpenClaim := { program := "ytlogobmimacpgaa", sum := "a0bdd6a796ee69df02f28845a3ebc1f443907533c2a6d000695168dbd98d7d57", func := "codesearch/codesearchlaw32.SymindexAsks", spec := "symindexAsks", inPlace := ["internal/bytealg.abigen_runtime_cmpstring"], unfollowed := true, recurses := true, apart := false }
def SymindexAsksSaid : Prop := symindexAsksRow.holds Try.pinned (OpenSpec.ofChange symindexAsksSpec)

/-- ITS FALSE NEIGHBOUR: 'it returns false'. Refute it at one input. -/
def symindexAsksWrong : ChangeSpec := { name := "symindexAsks", fn := fun _ => fun
  | [d1, d2] => { results := [.lit (.bool false)], args := [d1, d2] }
  | _ => none }
def SymindexAsksWrongFalsely : Prop := symindexAsksRow.holds Try.pinned (OpenSpec.ofChange symindexAsksWrong)

/-- 'codesearchlaw32.SymindexMerges': WHATEVER THE INPUT: true; the input reads as it did. -/
def symindexMergesSpec : ChangeSpec := { name := "symindexMerges", fn := fun _ => fun
  | [d1, d2, d3] => { results := [.lit (.bool true)], args := [d1, d2, d3] }
  | _ => none }
def symindexMergesRow : OpenClaim := { program := "ytlogobmimacpgaa", sum := "a0bdd6a796ee69df02f28845a3ebc1f443907533c2a6d000695168dbd98d7d57", func := "codesearch/codesearchlaw32.SymindexMerges", spec := "symindexMerges", inPlace := ["internal/bytealg.abigen_runtime_cmpstring"], unfollowed := true, recurses := true, apart := false }
def SymindexMergesSaid : Prop := symindexMergesRow.holds Try.pinned (OpenSpec.ofChange symindexMergesSpec)

/-- ITS FALSE NEIGHBOUR: 'it returns false'. Refute it at one input. -/
def symindexMergesWrong : ChangeSpec := { name := "symindexMerges", fn := fun _ => fun
  | [d1, d2, d3] => { results := [.lit (.bool false)], args := [d1, d2, d3] }
  | _ => none }
def SymindexMergesWrongFalsely : Prop := symindexMergesRow.holds Try.pinned (OpenSpec.ofChange symindexMergesWrong)

/-- 'codesearchlaw32.SymindexParts': WHATEVER THE INPUT: true; the input reads as it did. -/
def symindexPartsSpec : ChangeSpec := { name := "symindexParts", fn := fun _ => fun
  | [d1, d2] => { results := [.lit (.bool true)], args := [d1, d2] }
  | _ => none }
def symindexPartsRow : OpenClaim := { program := "ytlogobmimacpgaa", sum := "a0bdd6a796ee69df02f28845a3ebc1f443907533c2a6d000695168dbd98d7d57", func := "codesearch/codesearchlaw32.SymindexParts", spec := "symindexParts", inPlace := ["internal/bytealg.abigen_runtime_cmpstring"], unfollowed := true, recurses := true, apart := false }
def SymindexPartsSaid : Prop := symindexPartsRow.holds Try.pinned (OpenSpec.ofChange symindexPartsSpec)

/-- ITS FALSE NEIGHBOUR: 'it returns false'. Refute it at one input. -/
def symindexPartsWrong : ChangeSpec := { name := "symindexParts", fn := fun _ => fun
  | [d1, d2] => { results := [.lit (.bool false)], args := [d1, d2] }
  | _ => none }
def SymindexPartsWrongFalsely : Prop := symindexPartsRow.holds Try.pinned (OpenSpec.ofChange symindexPartsWrong)

/- THE SECOND FORM. 'bulk': how many values and letters a reading holds, each counted each time it is reached (what is shared counts as often as it is met; a slice's spare places count too). A statement '..UptoSaid' is the law's where the arguments, and the package variables that the reading takes, are together of bulk at most 1048576: NARROWER than '..Said'. Prove '..Said' where nothing that the law and all that it calls make is longer than what came in: it says more and counts as full. Else prove '..UptoSaid'. A law counts once. -/
mutual
def uptoBulk {H : Type} : DataW H → Nat
  | .lit (.string bytes) => bytes.length + 1
  | .lit _ => 1
  | .nil => 1
  | .ptr d => uptoBulk d + 1
  | .slice elems spare => uptoBulkAll elems + uptoBulkAll spare + 1
  | .agg parts => uptoBulkAll parts + 1
  | .iface _ d => uptoBulk d + 1
  | .map entries => uptoBulkEntries entries + 1
  | .held _ => 1
def uptoBulkAll {H : Type} : List (DataW H) → Nat
  | [] => 0
  | d :: r => uptoBulk d + uptoBulkAll r
def uptoBulkEntries {H : Type} : List (Lit × DataW H) → Nat
  | [] => 0
  | x :: r => uptoBulkEntry x + uptoBulkEntries r
def uptoBulkEntry {H : Type} : Lit × DataW H → Nat
  | (.string bytes, d) => bytes.length + uptoBulk d + 1
  | (_, d) => uptoBulk d + 1
 end
def uptoSmall : (H : Type) → List (DataW H) → Bool := fun _ ds => decide (uptoBulkAll ds ≤ 1048576)
def OpenSpec.upto (s : _root_.Go.ChangeSpec) : _root_.Go.OpenSpec := { _root_.Go.OpenSpec.ofChange s with cond := some uptoSmall }

/-- 'codesearchlaw32.SymindexBuilds', WHERE WHAT IT READS IS OF BULK AT MOST 1048576: true; the input reads as it did. -/
def symindexBuildsUptoRow : OpenClaim := { program := "ytlogobmimacpgaa", sum := "a0bdd6a796ee69df02f28845a3ebc1f443907533c2a6d000695168dbd98d7d57", func := "codesearch/codesearchlaw32.SymindexBuilds", spec := "symindexBuilds", inPlace := ["internal/bytealg.abigen_runtime_cmpstring"], unfollowed := true, recurses := true, apart := false, narrowed := true }
def SymindexBuildsUptoSaid : Prop := symindexBuildsUptoRow.holds Try.pinned (OpenSpec.upto symindexBuildsSpec)

/-- 'codesearchlaw32.SymindexAsks', WHERE WHAT IT READS IS OF BULK AT MOST 1048576: true; the input reads as it did. -/
def symindexAsksUptoRow : OpenClaim := { program := "ytlogobmimacpgaa", sum := "a0bdd6a796ee69df02f28845a3ebc1f443907533c2a6d000695168dbd98d7d57", func := "codesearch/codesearchlaw32.SymindexAsks", spec := "symindexAsks", inPlace := ["internal/bytealg.abigen_runtime_cmpstring"], unfollowed := true, recurses := true, apart := false, narrowed := true }
def SymindexAsksUptoSaid : Prop := symindexAsksUptoRow.holds Try.pinned (OpenSpec.upto symindexAsksSpec)

/-- 'codesearchlaw32.SymindexMerges', WHERE WHAT IT READS IS OF BULK AT MOST 1048576: true; the input reads as it did. -/
def symindexMergesUptoRow : OpenClaim := { program := "ytlogobmimacpgaa", sum := "a0bdd6a796ee69df02f28845a3ebc1f443907533c2a6d000695168dbd98d7d57", func := "codesearch/codesearchlaw32.SymindexMerges", spec := "symindexMerges", inPlace := ["internal/bytealg.abigen_runtime_cmpstring"], unfollowed := true, recurses := true, apart := false, narrowed := true }
def SymindexMergesUptoSaid : Prop := symindexMergesUptoRow.holds Try.pinned (OpenSpec.upto symindexMergesSpec)

/-- 'codesearchlaw32.SymindexParts', WHERE WHAT IT READS IS OF BULK AT MOST 1048576: true; the input reads as it did. -/
def symindexPartsUptoRow : OpenClaim := { program := "ytlogobmimacpgaa", sum := "a0bdd6a796ee69df02f28845a3ebc1f443907533c2a6d000695168dbd98d7d57", func := "codesearch/codesearchlaw32.SymindexParts", spec := "symindexParts", inPlace := ["internal/bytealg.abigen_runtime_cmpstring"], unfollowed := true, recurses := true, apart := false, narrowed := true }
def SymindexPartsUptoSaid : Prop := symindexPartsUptoRow.holds Try.pinned (OpenSpec.upto symindexPartsSpec)

end Rows
end Go.Proofs.Ytlogobmimacpgaa
