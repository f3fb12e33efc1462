/- FingerprintFeatures: for every input the law returns true, and what came in reads as before. No condition. -/
import Derived.Test.YtlnoadnejefmoaaRows
import Derived.Test.YtlnoadnejefmoaaOpen
import Derived.Test.YtlnoadnejefmoaaL20x2
import Derived.Test.YtlnoadnejefmoaaPureFp0
import Derived.Test.YtlnoadnejefmoaaOpens20
import Derived.WalkKit
import Derived.ProofKit
import Derived.OpenShut
import Derived.ShutString
import Derived.ChangeOld
import Derived.Below
import Derived.SizedLaws
set_option linter.unusedVariables false
namespace Go.Proofs.Ytlnoadnejefmoaa.fingerprintFeatures
open Go.ChangeShapes Go.WideShapes Go.ChangeAt Go.RowKit
open Go.ChangeMaps (open_string shut_string)
theorem own : ownKnob Try.prog.godebug = none := by kernel_rfl
theorem laidOut : laidOutB Try.prog = true := by kernel_rfl
set_option maxRecDepth 100000 in
theorem lifted (os : Os) (started : os.Started) (H : Type) (enc : TypeId × Value → H) :
    ReturnsInHanded {} Try.checked os 9 .any (Rows.fingerprintFeaturesSpec.pre6 enc Try.prog Try.f9 Rows.fingerprintFeaturesRow.domain false) (Rows.fingerprintFeaturesSpec.post enc Try.prog Try.f9 false true false false) := by
  refine returnsInHanded_of_change (C := Try.checked) own started (by kernel_rfl) Try.func9
    (ChangeSpec.witness6 (enc := enc) (C := Try.checked) false ⟨#[], #[.agg #[.int .i64 0, .string ByteArray.empty], .agg #[.int .i64 0, .string ByteArray.empty]], []⟩ 8 (by kernel_rfl) (by kernel_rfl) (by kernel_rfl) (by kernel_rfl)) ?_
  intro W base args ds gs before hval0 hW hcnd _
  have hval : ∀ (j : Nat) t v, Try.f9.params[j]? = some t → args[j]? = some v → Value.okWide Try.prog W .any base t v := hval0
  have hW' := hW
  obtain ⟨p, q, hA0, hV, rfl, hfz, hnd⟩ := hW
  have hA : DataW.TrodAll enc Try.prog W 0 (fun _ => true) true Try.f9.params.toList args.toList ds p := hA0
  rw [Try.params9] at hA hval
  obtain ⟨v0, vs0, d0, ds0, p0, q0, hargs, rfl, rfl, h0, r0⟩ := trodAll_cons hA
  obtain ⟨v1, vs1, d1, ds1, p1, q1, rfl, rfl, rfl, h1, r1⟩ := trodAll_cons r0
  obtain ⟨rfl, rfl, rfl⟩ := trodAll_nil r1
  obtain rfl : args = #[v0, v1] := by cases args; simp_all
  obtain ⟨rfl, rfl⟩ := trodVars_none hV
  have H0 := h0
  obtain ⟨x0, cs0, rfl, hK0, hV0⟩ := open_struct (d := (Go.Proofs.YtlnoadnejefmoaaW.PrintWords.Kd.pair (Go.Proofs.YtlnoadnejefmoaaW.PrintWords.Kd.int .i64) Go.Proofs.YtlnoadnejefmoaaW.PrintWords.Kd.string)) (V := (fun _ => True)) Try.underlying36 (fun m => L20.opensLabel m) (hval 0 36 v0 rfl rfl) h0
  obtain ⟨ca0, cb0, e0, ea0, eb0⟩ := hK0
  obtain rfl : cs0 = #[.int .i64 x0.1, .string x0.2] := by cases cs0; rw [ea0, eb0] at e0; simpa using e0
  have H1 := h1
  obtain ⟨x1, cs1, rfl, hK1, hV1⟩ := open_struct (d := (Go.Proofs.YtlnoadnejefmoaaW.PrintWords.Kd.pair (Go.Proofs.YtlnoadnejefmoaaW.PrintWords.Kd.int .i64) Go.Proofs.YtlnoadnejefmoaaW.PrintWords.Kd.string)) (V := (fun _ => True)) Try.underlying36 (fun m => L20.opensLabel m) (hval 1 36 v1 rfl rfl) h1
  obtain ⟨ca1, cb1, e1, ea1, eb1⟩ := hK1
  obtain rfl : cs1 = #[.int .i64 x1.1, .string x1.2] := by cases cs1; rw [ea1, eb1] at e1; simpa using e1
  clear hA0 hval0
  refine (L20.codesearchlaw20_FingerprintFeatures.calls 2 x0.1 x0.2 x1.1 x1.2 true W (L20.law_features x0.1 x0.2 x1.1 x1.2)).mono fun e W' ⟨he, bel⟩ => ?_
  subst he
  exact ⟨_, rfl, _, _, _, [], _, [], hW', trodAll_mk1 (shut_bool Try.underlying4 _), (trodAll_cons_mk (stays laidOut (by kernel_rfl) (of_decide_eq_true (by kernel_rfl)) bel H0) (trodAll_cons_mk (stays laidOut (by kernel_rfl) (of_decide_eq_true (by kernel_rfl)) bel H1) trodAll_mk0)), rfl, bel.frame _, fun h => by cases h⟩
theorem over : Rows.fingerprintFeaturesRow.holds Try.pinned (OpenSpec.ofChange Rows.fingerprintFeaturesSpec) :=
  OpenClaim.holds_of_wide 9 Try.f9 rfl rfl rfl rfl rfl rfl rfl ⟨rfl, rfl, rfl, rfl, rfl⟩ rfl rfl rfl rfl rfl (by kernel_rfl) Try.func9 (by kernel_rfl)
    (of_decide_eq_true (by kernel_rfl)) (by unfold Func.isWrapper; first | (rw [if_pos (by decide +kernel)]; kernel_rfl) | (rw [if_neg (by decide +kernel)]; exact ⟨rfl, rfl⟩))
    (fun os started H enc _ => lifted os started H enc)
theorem proved : Rows.FingerprintFeaturesSaid := over
end Go.Proofs.Ytlnoadnejefmoaa.fingerprintFeatures
namespace Go.Proofs.Ytlnoadnejefmoaa
/-- The row, under a short name, for the claim. -/
theorem fingerprintFeatures_holds : Rows.FingerprintFeaturesSaid := fingerprintFeatures.proved
end Go.Proofs.Ytlnoadnejefmoaa
