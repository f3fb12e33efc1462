/- FingerprintParts: for every input the law returns true, and what came in reads as before. No condition. -/
import Derived.Test.YtlnoadnejefmoaaRows
import Derived.Test.YtlnoadnejefmoaaOpen
import Derived.Test.YtlnoadnejefmoaaL20x7
import Derived.Test.YtlnoadnejefmoaaPureFingerprintParts
import Derived.Test.YtlnoadnejefmoaaOpens20
import Derived.WalkKit
import Derived.ProofKit
import Derived.OpenShut
import Derived.ShutString
import Derived.ChangeOld
import Derived.Below
import Derived.SizedLaws
set_option linter.unusedVariables false
namespace Go.Proofs.Ytlnoadnejefmoaa.fingerprintParts
open Go.ChangeShapes Go.WideShapes Go.ChangeAt Go.RowKit
open Go.ChangeMaps (open_string shut_string)
theorem own : ownKnob Try.prog.godebug = none := by kernel_rfl
theorem laidOut : laidOutB Try.prog = true := by kernel_rfl
set_option maxRecDepth 100000 in
theorem lifted (os : Os) (started : os.Started) (H : Type) (enc : TypeId × Value → H) :
    ReturnsInHanded {} Try.checked os 12 .any (Rows.fingerprintPartsSpec.pre6 enc Try.prog Try.f12 Rows.fingerprintPartsRow.domain false) (Rows.fingerprintPartsSpec.post enc Try.prog Try.f12 false true false false) := by
  refine returnsInHanded_of_change (C := Try.checked) own started (by kernel_rfl) Try.func12
    (ChangeSpec.witness6 (enc := enc) (C := Try.checked) false ⟨#[], #[.agg #[.int .i64 0, .string ByteArray.empty, .int .i64 0, .int .i64 0, .slice none 0 0]], []⟩ 8 (by kernel_rfl) (by kernel_rfl) (by kernel_rfl) (by kernel_rfl)) ?_
  intro W base args ds gs before hval0 hW hcnd _
  have hval : ∀ (j : Nat) t v, Try.f12.params[j]? = some t → args[j]? = some v → Value.okWide Try.prog W .any base t v := hval0
  have hW' := hW
  obtain ⟨p, q, hA0, hV, rfl, hfz, hnd⟩ := hW
  have hA : DataW.TrodAll enc Try.prog W 0 (fun _ => true) true Try.f12.params.toList args.toList ds p := hA0
  rw [Try.params12] at hA hval
  obtain ⟨v0, vs0, d0, ds0, p0, q0, hargs, rfl, rfl, h0, r0⟩ := trodAll_cons hA
  obtain ⟨rfl, rfl, rfl⟩ := trodAll_nil r0
  obtain rfl : args = #[v0] := by cases args; simp_all
  obtain ⟨rfl, rfl⟩ := trodVars_none hV
  have H0 := h0
  obtain ⟨x0, cs0, rfl, hK0, hV0⟩ := open_struct (d := L20.k42) (V := L20.V42) Try.underlying42 (fun m => L20.opens42 m) (hval 0 42 v0 rfl rfl) h0
  obtain ⟨A0, c0, e0, hl0, hC0⟩ := L20.k42_open hK0
  obtain rfl : cs0 = #[.int .i64 x0.f0, .string x0.f1, .int .i64 x0.f2, .int .i64 x0.f3, .slice A0 x0.f4.length c0] := by cases cs0; simpa using e0
  clear hA0 hval0
  refine (L20.codesearchlaw20_FingerprintParts.calls 100000 x0.f0 x0.f1 x0.f2 x0.f3 A0 c0 x0.f4 true W hC0 hl0 (L20.law_parts x0.f0 x0.f1 x0.f2 x0.f3 x0.f4)).mono fun e W' ⟨he, bel⟩ => ?_
  subst he
  exact ⟨_, rfl, _, _, _, [], _, [], hW', trodAll_mk1 (shut_bool Try.underlying4 _), (trodAll_cons_mk (stays laidOut (by kernel_rfl) (of_decide_eq_true (by kernel_rfl)) bel H0) trodAll_mk0), rfl, bel.frame _, fun h => by cases h⟩
theorem over : Rows.fingerprintPartsRow.holds Try.pinned (OpenSpec.ofChange Rows.fingerprintPartsSpec) :=
  OpenClaim.holds_of_wide 12 Try.f12 rfl rfl rfl rfl rfl rfl rfl ⟨rfl, rfl, rfl, rfl, rfl⟩ rfl rfl rfl rfl rfl (by kernel_rfl) Try.func12 (by kernel_rfl)
    (of_decide_eq_true (by kernel_rfl)) (by unfold Func.isWrapper; first | (rw [if_pos (by decide +kernel)]; kernel_rfl) | (rw [if_neg (by decide +kernel)]; exact ⟨rfl, rfl⟩))
    (fun os started H enc _ => lifted os started H enc)
theorem proved : Rows.FingerprintPartsSaid := over
end Go.Proofs.Ytlnoadnejefmoaa.fingerprintParts
namespace Go.Proofs.Ytlnoadnejefmoaa
/-- The row, under a short name, for the claim. -/
theorem fingerprintParts_holds : Rows.FingerprintPartsSaid := fingerprintParts.proved
end Go.Proofs.Ytlnoadnejefmoaa
