/- FingerprintPossible: for every input the law returns true, and what came in reads as before. No condition. -/
import Derived.Test.YtlnoadnejefmoaaRows
import Derived.Test.YtlnoadnejefmoaaOpen
import Derived.Test.YtlnoadnejefmoaaL20x5
import Derived.Test.YtlnoadnejefmoaaPureFpPoss2
import Derived.WalkKit
import Derived.ProofKit
import Derived.OpenShut
import Derived.ShutString
import Derived.ChangeOld
import Derived.Below
import Derived.SizedLaws
set_option linter.unusedVariables false
namespace Go.Proofs.Ytlnoadnejefmoaa.fingerprintPossible
open Go.ChangeShapes Go.WideShapes Go.ChangeAt Go.RowKit
open Go.ChangeMaps (open_string shut_string)
theorem own : ownKnob Try.prog.godebug = none := by kernel_rfl
theorem laidOut : laidOutB Try.prog = true := by kernel_rfl
set_option maxRecDepth 100000 in
theorem lifted (os : Os) (started : os.Started) (H : Type) (enc : TypeId × Value → H) :
    ReturnsInHanded {} Try.checked os 11 .any (Rows.fingerprintPossibleSpec.pre6 enc Try.prog Try.f11 Rows.fingerprintPossibleRow.domain false) (Rows.fingerprintPossibleSpec.post enc Try.prog Try.f11 false true false false) := by
  refine returnsInHanded_of_change (C := Try.checked) own started (by kernel_rfl) Try.func11
    (ChangeSpec.witness6 (enc := enc) (C := Try.checked) false ⟨#[], #[.slice none 0 0, .slice none 0 0], []⟩ 8 (by kernel_rfl) (by kernel_rfl) (by kernel_rfl) (by kernel_rfl)) ?_
  intro W base args ds gs before hval0 hW hcnd _
  have hval : ∀ (j : Nat) t v, Try.f11.params[j]? = some t → args[j]? = some v → Value.okWide Try.prog W .any base t v := hval0
  have hW' := hW
  obtain ⟨p, q, hA0, hV, rfl, hfz, hnd⟩ := hW
  have hA : DataW.TrodAll enc Try.prog W 0 (fun _ => true) true Try.f11.params.toList args.toList ds p := hA0
  rw [Try.params11] at hA hval
  obtain ⟨v0, vs0, d0, ds0, p0, q0, hargs, rfl, rfl, h0, r0⟩ := trodAll_cons hA
  obtain ⟨v1, vs1, d1, ds1, p1, q1, rfl, rfl, rfl, h1, r1⟩ := trodAll_cons r0
  obtain ⟨rfl, rfl, rfl⟩ := trodAll_nil r1
  obtain rfl : args = #[v0, v1] := by cases args; simp_all
  obtain ⟨rfl, rfl⟩ := trodVars_none hV
  have H0 := h0
  obtain ⟨A0, c0, l0, rfl, hl0, hm0, hC0, hV0⟩ := open_rows (d := (Go.Proofs.YtlnoadnejefmoaaW.PrintWords.Kd.int .i64)) (V := (fun z => (Lit.int .i64 z).wf = true)) Try.underlying45 (by kernel_rfl) (fun m => opens_int Try.underlying3) (hval 0 45 v0 rfl rfl) h0
  have H1 := h1
  obtain ⟨A1, c1, l1, rfl, hl1, hm1, hC1, hV1⟩ := open_rows (d := (Go.Proofs.YtlnoadnejefmoaaW.PrintWords.Kd.int .i64)) (V := (fun z => (Lit.int .i64 z).wf = true)) Try.underlying45 (by kernel_rfl) (fun m => opens_int Try.underlying3) (hval 1 45 v1 rfl rfl) h1
  clear hA0 hval0
  refine (L20.codesearchlaw20_FingerprintPossible.calls 300 A0 c0 l0 A1 c1 l1 true W hC0 hl0 hC1 hl1 (L20.law_poss l0 l1 hV0 hV1)).mono fun e W' ⟨he, bel⟩ => ?_
  subst he
  exact ⟨_, rfl, _, _, _, [], _, [], hW', trodAll_mk1 (shut_bool Try.underlying4 _), (trodAll_cons_mk (stays laidOut (by kernel_rfl) (of_decide_eq_true (by kernel_rfl)) bel H0) (trodAll_cons_mk (stays laidOut (by kernel_rfl) (of_decide_eq_true (by kernel_rfl)) bel H1) trodAll_mk0)), rfl, bel.frame _, fun h => by cases h⟩
theorem over : Rows.fingerprintPossibleRow.holds Try.pinned (OpenSpec.ofChange Rows.fingerprintPossibleSpec) :=
  OpenClaim.holds_of_wide 11 Try.f11 rfl rfl rfl rfl rfl rfl rfl ⟨rfl, rfl, rfl, rfl, rfl⟩ rfl rfl rfl rfl rfl (by kernel_rfl) Try.func11 (by kernel_rfl)
    (of_decide_eq_true (by kernel_rfl)) (by unfold Func.isWrapper; first | (rw [if_pos (by decide +kernel)]; kernel_rfl) | (rw [if_neg (by decide +kernel)]; exact ⟨rfl, rfl⟩))
    (fun os started H enc _ => lifted os started H enc)
theorem proved : Rows.FingerprintPossibleSaid := over
end Go.Proofs.Ytlnoadnejefmoaa.fingerprintPossible
namespace Go.Proofs.Ytlnoadnejefmoaa
/-- The row, under a short name, for the claim. -/
theorem fingerprintPossible_holds : Rows.FingerprintPossibleSaid := fingerprintPossible.proved
end Go.Proofs.Ytlnoadnejefmoaa
