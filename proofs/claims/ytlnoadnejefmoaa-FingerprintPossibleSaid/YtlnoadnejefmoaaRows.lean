/-
  NARROWER THAN 'FOR EVERY INPUT', by the rows' own cells (each row's printed sentence says how): FingerprintTrees: loops · FingerprintParts: loops.
  DERIVED. THE GIVEN ROWS OF THIS SEAT. 10 by the template 'for every input the law returns true; each argument reads behind the call as it read before'; 0 by the template 'total and deterministic' (their statements: YtlnoadnejefmoaaTotals.lean).
  GIVEN WITH THE SEED: the statements are not yours to turn. If you find one false, say at which input.
  Laid BY PROGRAM, IN A SANDBOX (cutbox-rows.mjs): the forced cells as the released guide's own fill.sh prints them over the translation 85980caec0afe994… (all of the seat's roots in one cut). By AI agents, Wed Nov 11 2026. No macro, syntax, notation, axiom, sorry.
-/
import Derived.Test.YtlnoadnejefmoaaChecked
import GoSem.Claim
import GoSem.ClaimJoined
import GoSem.ClaimMapViews
import Derived.JoinedTies
import Derived.KernelRfl
namespace Go.Proofs.Ytlnoadnejefmoaa
/- THE CELL 'sum', in the pinned program and in every row, IS THE sha256 OF THE DUMP (.gsa) THAT YtlnoadnejefmoaaProg.lean LOADS. Nothing in Lean hashes anything: it is a label: what it is worth is what the hold of that sum in a sandbox is worth. -/
noncomputable def Try.pinned : Pinned := { name := "ytlnoadnejefmoaa", sum := "85980caec0afe994e352fb007986f4a81fa5fb0324d96442ac2ad09ef9f0adb1", checked := Try.checked }
namespace Rows
def none {H : Type} : Left H := { results := [], args := [] }

/-- 'codesearchlaw11.TokenScans': WHATEVER THE INPUT: true; the input reads as it did. -/
def tokenScansSpec : ChangeSpec := { name := "tokenScans", fn := fun _ => fun
  | [d] => { results := [.lit (.bool true)], args := [d] }
  | _ => none }
def tokenScansRow : OpenClaim := { program := "ytlnoadnejefmoaa", sum := "85980caec0afe994e352fb007986f4a81fa5fb0324d96442ac2ad09ef9f0adb1", func := "codesearch/codesearchlaw11.TokenScans", spec := "tokenScans", inPlace := ["internal/bytealg.IndexByteString", "internal/abi.NoEscape", "internal/bytealg.MakeNoZero"], apart := false }
def TokenScansSaid : Prop := tokenScansRow.holds Try.pinned (OpenSpec.ofChange tokenScansSpec)

/-- ITS FALSE NEIGHBOUR: 'it returns false'. Refute it at one input. -/
def tokenScansWrong : ChangeSpec := { name := "tokenScans", fn := fun _ => fun
  | [d] => { results := [.lit (.bool false)], args := [d] }
  | _ => none }
def TokenScansWrongFalsely : Prop := tokenScansRow.holds Try.pinned (OpenSpec.ofChange tokenScansWrong)

/-- 'codesearchlaw11.TokenBack': WHATEVER THE INPUT: true; the input reads as it did. -/
def tokenBackSpec : ChangeSpec := { name := "tokenBack", fn := fun _ => fun
  | [d] => { results := [.lit (.bool true)], args := [d] }
  | _ => none }
def tokenBackRow : OpenClaim := { program := "ytlnoadnejefmoaa", sum := "85980caec0afe994e352fb007986f4a81fa5fb0324d96442ac2ad09ef9f0adb1", func := "codesearch/codesearchlaw11.TokenBack", spec := "tokenBack", inPlace := ["internal/bytealg.IndexByteString", "internal/abi.NoEscape", "internal/bytealg.MakeNoZero"], apart := false }
def TokenBackSaid : Prop := tokenBackRow.holds Try.pinned (OpenSpec.ofChange tokenBackSpec)

/-- ITS FALSE NEIGHBOUR: 'it returns false'. Refute it at one input. -/
def tokenBackWrong : ChangeSpec := { name := "tokenBack", fn := fun _ => fun
  | [d] => { results := [.lit (.bool false)], args := [d] }
  | _ => none }
def TokenBackWrongFalsely : Prop := tokenBackRow.holds Try.pinned (OpenSpec.ofChange tokenBackWrong)

/-- 'codesearchlaw11.TokenPlaces': WHATEVER THE INPUT: true; the input reads as it did. -/
def tokenPlacesSpec : ChangeSpec := { name := "tokenPlaces", fn := fun _ => fun
  | [d] => { results := [.lit (.bool true)], args := [d] }
  | _ => none }
def tokenPlacesRow : OpenClaim := { program := "ytlnoadnejefmoaa", sum := "85980caec0afe994e352fb007986f4a81fa5fb0324d96442ac2ad09ef9f0adb1", func := "codesearch/codesearchlaw11.TokenPlaces", spec := "tokenPlaces", inPlace := ["internal/bytealg.IndexByteString", "internal/abi.NoEscape", "internal/bytealg.MakeNoZero"], apart := false }
def TokenPlacesSaid : Prop := tokenPlacesRow.holds Try.pinned (OpenSpec.ofChange tokenPlacesSpec)

/-- ITS FALSE NEIGHBOUR: 'it returns false'. Refute it at one input. -/
def tokenPlacesWrong : ChangeSpec := { name := "tokenPlaces", fn := fun _ => fun
  | [d] => { results := [.lit (.bool false)], args := [d] }
  | _ => none }
def TokenPlacesWrongFalsely : Prop := tokenPlacesRow.holds Try.pinned (OpenSpec.ofChange tokenPlacesWrong)

/-- 'codesearchlaw11.TokenPieces': WHATEVER THE INPUT: true; the input reads as it did. -/
def tokenPiecesSpec : ChangeSpec := { name := "tokenPieces", fn := fun _ => fun
  | [d1, d2] => { results := [.lit (.bool true)], args := [d1, d2] }
  | _ => none }
def tokenPiecesRow : OpenClaim := { program := "ytlnoadnejefmoaa", sum := "85980caec0afe994e352fb007986f4a81fa5fb0324d96442ac2ad09ef9f0adb1", func := "codesearch/codesearchlaw11.TokenPieces", spec := "tokenPieces", inPlace := ["internal/bytealg.IndexByteString", "internal/abi.NoEscape", "internal/bytealg.MakeNoZero"], apart := false }
def TokenPiecesSaid : Prop := tokenPiecesRow.holds Try.pinned (OpenSpec.ofChange tokenPiecesSpec)

/-- ITS FALSE NEIGHBOUR: 'it returns false'. Refute it at one input. -/
def tokenPiecesWrong : ChangeSpec := { name := "tokenPieces", fn := fun _ => fun
  | [d1, d2] => { results := [.lit (.bool false)], args := [d1, d2] }
  | _ => none }
def TokenPiecesWrongFalsely : Prop := tokenPiecesRow.holds Try.pinned (OpenSpec.ofChange tokenPiecesWrong)

/-- 'codesearchlaw11.TokenPrints': WHATEVER THE INPUT: true; the input reads as it did. -/
def tokenPrintsSpec : ChangeSpec := { name := "tokenPrints", fn := fun _ => fun
  | [d1, d2] => { results := [.lit (.bool true)], args := [d1, d2] }
  | _ => none }
def tokenPrintsRow : OpenClaim := { program := "ytlnoadnejefmoaa", sum := "85980caec0afe994e352fb007986f4a81fa5fb0324d96442ac2ad09ef9f0adb1", func := "codesearch/codesearchlaw11.TokenPrints", spec := "tokenPrints", inPlace := ["internal/bytealg.IndexByteString", "internal/abi.NoEscape", "internal/bytealg.MakeNoZero"], unfollowed := true, recurses := true, apart := false }
def TokenPrintsSaid : Prop := tokenPrintsRow.holds Try.pinned (OpenSpec.ofChange tokenPrintsSpec)

/-- ITS FALSE NEIGHBOUR: 'it returns false'. Refute it at one input. -/
def tokenPrintsWrong : ChangeSpec := { name := "tokenPrints", fn := fun _ => fun
  | [d1, d2] => { results := [.lit (.bool false)], args := [d1, d2] }
  | _ => none }
def TokenPrintsWrongFalsely : Prop := tokenPrintsRow.holds Try.pinned (OpenSpec.ofChange tokenPrintsWrong)

/-- 'codesearchlaw11.TokenAgain': WHATEVER THE INPUT: true; the input reads as it did. -/
def tokenAgainSpec : ChangeSpec := { name := "tokenAgain", fn := fun _ => fun
  | [d] => { results := [.lit (.bool true)], args := [d] }
  | _ => none }
def tokenAgainRow : OpenClaim := { program := "ytlnoadnejefmoaa", sum := "85980caec0afe994e352fb007986f4a81fa5fb0324d96442ac2ad09ef9f0adb1", func := "codesearch/codesearchlaw11.TokenAgain", spec := "tokenAgain", inPlace := ["internal/bytealg.IndexByteString", "internal/abi.NoEscape", "internal/bytealg.MakeNoZero"], unfollowed := true, recurses := true, apart := false }
def TokenAgainSaid : Prop := tokenAgainRow.holds Try.pinned (OpenSpec.ofChange tokenAgainSpec)

/-- ITS FALSE NEIGHBOUR: 'it returns false'. Refute it at one input. -/
def tokenAgainWrong : ChangeSpec := { name := "tokenAgain", fn := fun _ => fun
  | [d] => { results := [.lit (.bool false)], args := [d] }
  | _ => none }
def TokenAgainWrongFalsely : Prop := tokenAgainRow.holds Try.pinned (OpenSpec.ofChange tokenAgainWrong)

/-- 'codesearchlaw20.FingerprintFeatures': WHATEVER THE INPUT: true; the input reads as it did. -/
def fingerprintFeaturesSpec : ChangeSpec := { name := "fingerprintFeatures", fn := fun _ => fun
  | [d1, d2] => { results := [.lit (.bool true)], args := [d1, d2] }
  | _ => none }
def fingerprintFeaturesRow : OpenClaim := { program := "ytlnoadnejefmoaa", sum := "85980caec0afe994e352fb007986f4a81fa5fb0324d96442ac2ad09ef9f0adb1", func := "codesearch/codesearchlaw20.FingerprintFeatures", spec := "fingerprintFeatures", unfollowed := true, recurses := true, apart := false }
def FingerprintFeaturesSaid : Prop := fingerprintFeaturesRow.holds Try.pinned (OpenSpec.ofChange fingerprintFeaturesSpec)

/-- ITS FALSE NEIGHBOUR: 'it returns false'. Refute it at one input. -/
def fingerprintFeaturesWrong : ChangeSpec := { name := "fingerprintFeatures", fn := fun _ => fun
  | [d1, d2] => { results := [.lit (.bool false)], args := [d1, d2] }
  | _ => none }
def FingerprintFeaturesWrongFalsely : Prop := fingerprintFeaturesRow.holds Try.pinned (OpenSpec.ofChange fingerprintFeaturesWrong)

/-- 'codesearchlaw20.FingerprintTrees': WHATEVER THE INPUT: true; the input reads as it did. -/
def fingerprintTreesSpec : ChangeSpec := { name := "fingerprintTrees", fn := fun _ => fun
  | [d] => { results := [.lit (.bool true)], args := [d] }
  | _ => none }
def fingerprintTreesRow : OpenClaim := { program := "ytlnoadnejefmoaa", sum := "85980caec0afe994e352fb007986f4a81fa5fb0324d96442ac2ad09ef9f0adb1", func := "codesearch/codesearchlaw20.FingerprintTrees", spec := "fingerprintTrees", unfollowed := true, recurses := true, loops := true, apart := false }
def FingerprintTreesSaid : Prop := fingerprintTreesRow.holds Try.pinned (OpenSpec.ofChange fingerprintTreesSpec)

/-- ITS FALSE NEIGHBOUR: 'it returns false'. Refute it at one input. -/
def fingerprintTreesWrong : ChangeSpec := { name := "fingerprintTrees", fn := fun _ => fun
  | [d] => { results := [.lit (.bool false)], args := [d] }
  | _ => none }
def FingerprintTreesWrongFalsely : Prop := fingerprintTreesRow.holds Try.pinned (OpenSpec.ofChange fingerprintTreesWrong)

/-- 'codesearchlaw20.FingerprintPossible': WHATEVER THE INPUT: true; the input reads as it did. -/
def fingerprintPossibleSpec : ChangeSpec := { name := "fingerprintPossible", fn := fun _ => fun
  | [d1, d2] => { results := [.lit (.bool true)], args := [d1, d2] }
  | _ => none }
def fingerprintPossibleRow : OpenClaim := { program := "ytlnoadnejefmoaa", sum := "85980caec0afe994e352fb007986f4a81fa5fb0324d96442ac2ad09ef9f0adb1", func := "codesearch/codesearchlaw20.FingerprintPossible", spec := "fingerprintPossible", unfollowed := true, recurses := true, apart := false }
def FingerprintPossibleSaid : Prop := fingerprintPossibleRow.holds Try.pinned (OpenSpec.ofChange fingerprintPossibleSpec)

/-- ITS FALSE NEIGHBOUR: 'it returns false'. Refute it at one input. -/
def fingerprintPossibleWrong : ChangeSpec := { name := "fingerprintPossible", fn := fun _ => fun
  | [d1, d2] => { results := [.lit (.bool false)], args := [d1, d2] }
  | _ => none }
def FingerprintPossibleWrongFalsely : Prop := fingerprintPossibleRow.holds Try.pinned (OpenSpec.ofChange fingerprintPossibleWrong)

/-- 'codesearchlaw20.FingerprintParts': WHATEVER THE INPUT: true; the input reads as it did. -/
def fingerprintPartsSpec : ChangeSpec := { name := "fingerprintParts", fn := fun _ => fun
  | [d] => { results := [.lit (.bool true)], args := [d] }
  | _ => none }
def fingerprintPartsRow : OpenClaim := { program := "ytlnoadnejefmoaa", sum := "85980caec0afe994e352fb007986f4a81fa5fb0324d96442ac2ad09ef9f0adb1", func := "codesearch/codesearchlaw20.FingerprintParts", spec := "fingerprintParts", unfollowed := true, recurses := true, loops := true, apart := false }
def FingerprintPartsSaid : Prop := fingerprintPartsRow.holds Try.pinned (OpenSpec.ofChange fingerprintPartsSpec)

/-- ITS FALSE NEIGHBOUR: 'it returns false'. Refute it at one input. -/
def fingerprintPartsWrong : ChangeSpec := { name := "fingerprintParts", fn := fun _ => fun
  | [d] => { results := [.lit (.bool false)], args := [d] }
  | _ => none }
def FingerprintPartsWrongFalsely : Prop := fingerprintPartsRow.holds Try.pinned (OpenSpec.ofChange fingerprintPartsWrong)

/- THE SECOND FORM. 'bulk': how many values and letters a reading holds, each counted each time it is reached (what is shared counts as often as it is met; a slice's spare places count too). A statement '..UptoSaid' is the law's where the arguments, and the package variables that the reading takes, are together of bulk at most 1048576: NARROWER than '..Said'. Prove '..Said' where nothing that the law and all that it calls make is longer than what came in: it says more and counts as full. Else prove '..UptoSaid'. A law counts once. -/
mutual
def uptoBulk {H : Type} : DataW H → Nat
  | .lit (.string bytes) => bytes.length + 1
  | .lit _ => 1
  | .nil => 1
  | .ptr d => uptoBulk d + 1
  | .slice elems spare => uptoBulkAll elems + uptoBulkAll spare + 1
  | .agg parts => uptoBulkAll parts + 1
  | .iface _ d => uptoBulk d + 1
  | .map entries => uptoBulkEntries entries + 1
  | .held _ => 1
def uptoBulkAll {H : Type} : List (DataW H) → Nat
  | [] => 0
  | d :: r => uptoBulk d + uptoBulkAll r
def uptoBulkEntries {H : Type} : List (Lit × DataW H) → Nat
  | [] => 0
  | x :: r => uptoBulkEntry x + uptoBulkEntries r
def uptoBulkEntry {H : Type} : Lit × DataW H → Nat
  | (.string bytes, d) => bytes.length + uptoBulk d + 1
  | (_, d) => uptoBulk d + 1
 end
def uptoSmall : (H : Type) → List (DataW H) → Bool := fun _ ds => decide (uptoBulkAll ds ≤ 1048576)
def OpenSpec.upto (s : _root_.Go.ChangeSpec) : _root_.Go.OpenSpec := { _root_.Go.OpenSpec.ofChange s with cond := some uptoSmall }

/-- 'codesearchlaw11.TokenScans', WHERE WHAT IT READS IS OF BULK AT MOST 1048576: true; the input reads as it did. -/
def tokenScansUptoRow : OpenClaim := { program := "ytlnoadnejefmoaa", sum := "85980caec0afe994e352fb007986f4a81fa5fb0324d96442ac2ad09ef9f0adb1", func := "codesearch/codesearchlaw11.TokenScans", spec := "tokenScans", inPlace := ["internal/bytealg.IndexByteString", "internal/abi.NoEscape", "internal/bytealg.MakeNoZero"], apart := false, narrowed := true }
def TokenScansUptoSaid : Prop := tokenScansUptoRow.holds Try.pinned (OpenSpec.upto tokenScansSpec)

/-- 'codesearchlaw11.TokenBack', WHERE WHAT IT READS IS OF BULK AT MOST 1048576: true; the input reads as it did. -/
def tokenBackUptoRow : OpenClaim := { program := "ytlnoadnejefmoaa", sum := "85980caec0afe994e352fb007986f4a81fa5fb0324d96442ac2ad09ef9f0adb1", func := "codesearch/codesearchlaw11.TokenBack", spec := "tokenBack", inPlace := ["internal/bytealg.IndexByteString", "internal/abi.NoEscape", "internal/bytealg.MakeNoZero"], apart := false, narrowed := true }
def TokenBackUptoSaid : Prop := tokenBackUptoRow.holds Try.pinned (OpenSpec.upto tokenBackSpec)

/-- 'codesearchlaw11.TokenPlaces', WHERE WHAT IT READS IS OF BULK AT MOST 1048576: true; the input reads as it did. -/
def tokenPlacesUptoRow : OpenClaim := { program := "ytlnoadnejefmoaa", sum := "85980caec0afe994e352fb007986f4a81fa5fb0324d96442ac2ad09ef9f0adb1", func := "codesearch/codesearchlaw11.TokenPlaces", spec := "tokenPlaces", inPlace := ["internal/bytealg.IndexByteString", "internal/abi.NoEscape", "internal/bytealg.MakeNoZero"], apart := false, narrowed := true }
def TokenPlacesUptoSaid : Prop := tokenPlacesUptoRow.holds Try.pinned (OpenSpec.upto tokenPlacesSpec)

/-- 'codesearchlaw11.TokenPieces', WHERE WHAT IT READS IS OF BULK AT MOST 1048576: true; the input reads as it did. -/
def tokenPiecesUptoRow : OpenClaim := { program := "ytlnoadnejefmoaa", sum := "85980caec0afe994e352fb007986f4a81fa5fb0324d96442ac2ad09ef9f0adb1", func := "codesearch/codesearchlaw11.TokenPieces", spec := "tokenPieces", inPlace := ["internal/bytealg.IndexByteString", "internal/abi.NoEscape", "internal/bytealg.MakeNoZero"], apart := false, narrowed := true }
def TokenPiecesUptoSaid : Prop := tokenPiecesUptoRow.holds Try.pinned (OpenSpec.upto tokenPiecesSpec)

/-- 'codesearchlaw11.TokenPrints', WHERE WHAT IT READS IS OF BULK AT MOST 1048576: true; the input reads as it did. -/
def tokenPrintsUptoRow : OpenClaim := { program := "ytlnoadnejefmoaa", sum := "85980caec0afe994e352fb007986f4a81fa5fb0324d96442ac2ad09ef9f0adb1", func := "codesearch/codesearchlaw11.TokenPrints", spec := "tokenPrints", inPlace := ["internal/bytealg.IndexByteString", "internal/abi.NoEscape", "internal/bytealg.MakeNoZero"], unfollowed := true, recurses := true, apart := false, narrowed := true }
def TokenPrintsUptoSaid : Prop := tokenPrintsUptoRow.holds Try.pinned (OpenSpec.upto tokenPrintsSpec)

/-- 'codesearchlaw11.TokenAgain', WHERE WHAT IT READS IS OF BULK AT MOST 1048576: true; the input reads as it did. -/
def tokenAgainUptoRow : OpenClaim := { program := "ytlnoadnejefmoaa", sum := "85980caec0afe994e352fb007986f4a81fa5fb0324d96442ac2ad09ef9f0adb1", func := "codesearch/codesearchlaw11.TokenAgain", spec := "tokenAgain", inPlace := ["internal/bytealg.IndexByteString", "internal/abi.NoEscape", "internal/bytealg.MakeNoZero"], unfollowed := true, recurses := true, apart := false, narrowed := true }
def TokenAgainUptoSaid : Prop := tokenAgainUptoRow.holds Try.pinned (OpenSpec.upto tokenAgainSpec)

/-- 'codesearchlaw20.FingerprintFeatures', WHERE WHAT IT READS IS OF BULK AT MOST 1048576: true; the input reads as it did. -/
def fingerprintFeaturesUptoRow : OpenClaim := { program := "ytlnoadnejefmoaa", sum := "85980caec0afe994e352fb007986f4a81fa5fb0324d96442ac2ad09ef9f0adb1", func := "codesearch/codesearchlaw20.FingerprintFeatures", spec := "fingerprintFeatures", unfollowed := true, recurses := true, apart := false, narrowed := true }
def FingerprintFeaturesUptoSaid : Prop := fingerprintFeaturesUptoRow.holds Try.pinned (OpenSpec.upto fingerprintFeaturesSpec)

/-- 'codesearchlaw20.FingerprintTrees', WHERE WHAT IT READS IS OF BULK AT MOST 1048576: true; the input reads as it did. -/
def fingerprintTreesUptoRow : OpenClaim := { program := "ytlnoadnejefmoaa", sum := "85980caec0afe994e352fb007986f4a81fa5fb0324d96442ac2ad09ef9f0adb1", func := "codesearch/codesearchlaw20.FingerprintTrees", spec := "fingerprintTrees", unfollowed := true, recurses := true, loops := true, apart := false, narrowed := true }
def FingerprintTreesUptoSaid : Prop := fingerprintTreesUptoRow.holds Try.pinned (OpenSpec.upto fingerprintTreesSpec)

/-- 'codesearchlaw20.FingerprintPossible', WHERE WHAT IT READS IS OF BULK AT MOST 1048576: true; the input reads as it did. -/
def fingerprintPossibleUptoRow : OpenClaim := { program := "ytlnoadnejefmoaa", sum := "85980caec0afe994e352fb007986f4a81fa5fb0324d96442ac2ad09ef9f0adb1", func := "codesearch/codesearchlaw20.FingerprintPossible", spec := "fingerprintPossible", unfollowed := true, recurses := true, apart := false, narrowed := true }
def FingerprintPossibleUptoSaid : Prop := fingerprintPossibleUptoRow.holds Try.pinned (OpenSpec.upto fingerprintPossibleSpec)

/-- 'codesearchlaw20.FingerprintParts', WHERE WHAT IT READS IS OF BULK AT MOST 1048576: true; the input reads as it did. -/
def fingerprintPartsUptoRow : OpenClaim := { program := "ytlnoadnejefmoaa", sum := "85980caec0afe994e352fb007986f4a81fa5fb0324d96442ac2ad09ef9f0adb1", func := "codesearch/codesearchlaw20.FingerprintParts", spec := "fingerprintParts", unfollowed := true, recurses := true, loops := true, apart := false, narrowed := true }
def FingerprintPartsUptoSaid : Prop := fingerprintPartsUptoRow.holds Try.pinned (OpenSpec.upto fingerprintPartsSpec)

end Rows
end Go.Proofs.Ytlnoadnejefmoaa
