/- SymindexBuilds: for every input the law returns true, and what came in reads as before. No condition. -/
import Derived.Test.YtlogobmimacpgaaRows
import Derived.Test.YtlogobmimacpgaaOpen
import Derived.Test.YtlogobmimacpgaaSyLawB
import Derived.Test.YtlogobmimacpgaaOpens32
import Derived.WalkKit
import Derived.ProofKit
import Derived.OpenShut
import Derived.ShutString
import Derived.ChangeOld
import Derived.Below
import Derived.SizedLaws
set_option linter.unusedVariables false
namespace Go.Proofs.Ytlogobmimacpgaa.symindexBuilds
open Go.ChangeShapes Go.WideShapes Go.ChangeAt Go.RowKit
open Go.ChangeMaps (open_string shut_string)
theorem own : ownKnob Try.prog.godebug = none := by kernel_rfl
theorem laidOut : laidOutB Try.prog = true := by kernel_rfl
set_option maxRecDepth 100000 in
theorem lifted (os : Os) (started : os.Started) (H : Type) (enc : TypeId × Value → H) :
    ReturnsInHanded {} Try.checked os 3 .any (Rows.symindexBuildsSpec.pre6 enc Try.prog Try.f3 Rows.symindexBuildsRow.domain false) (Rows.symindexBuildsSpec.post enc Try.prog Try.f3 false true false false) := by
  refine returnsInHanded_of_change (C := Try.checked) own started (by kernel_rfl) Try.func3
    (ChangeSpec.witness6 (enc := enc) (C := Try.checked) false ⟨#[], #[.agg #[.slice none 0 0, .slice none 0 0, .slice none 0 0, .slice none 0 0]], []⟩ 8 (by kernel_rfl) (by kernel_rfl) (by kernel_rfl) (by kernel_rfl)) ?_
  intro W base args ds gs before hval0 hW hcnd _
  have hval : ∀ (j : Nat) t v, Try.f3.params[j]? = some t → args[j]? = some v → Value.okWide Try.prog W .any base t v := hval0
  have hW' := hW
  obtain ⟨p, q, hA0, hV, rfl, hfz, hnd⟩ := hW
  have hA : DataW.TrodAll enc Try.prog W 0 (fun _ => true) true Try.f3.params.toList args.toList ds p := hA0
  rw [Try.params3] at hA hval
  obtain ⟨v0, vs0, d0, ds0, p0, q0, hargs, rfl, rfl, h0, r0⟩ := trodAll_cons hA
  obtain ⟨rfl, rfl, rfl⟩ := trodAll_nil r0
  obtain rfl : args = #[v0] := by cases args; simp_all
  obtain ⟨rfl, rfl⟩ := trodVars_none hV
  have H0 := h0
  obtain ⟨x0, cs0, rfl, hK0, hV0⟩ := open_struct (d := L32.kGraph) (V := (fun _ => True)) Try.underlying26 (fun m => L32.opensGraph m) (hval 0 26 v0 rfl rfl) h0
  obtain ⟨ca, cb, e0, ⟨A0, c0, ea, hl0, hC0⟩, ⟨cc, cd, eb, ⟨A1, c1, ec, hl1, hC1⟩, ⟨ce, cf, ed, ⟨A2, c2, ee, hl2, hC2⟩, ⟨A3, c3, ef, hl3, hC3⟩⟩⟩⟩ := hK0
  obtain rfl : cs0 = #[.slice A0 x0.1.length c0, .slice A1 x0.2.1.length c1, .slice A2 x0.2.2.1.length c2, .slice A3 x0.2.2.2.length c3] := by cases cs0; rw [ea, eb, ec, ed, ee, ef] at e0; simpa using e0
  obtain ⟨kf, hkf⟩ := L32.law_builds x0.1 x0.2.1 x0.2.2.1 x0.2.2.2
  clear hA0 hval0
  refine (L32.codesearchlaw32_SymindexBuilds.calls kf A0 c0 x0.1 A1 c1 x0.2.1 A2 c2 x0.2.2.1 A3 c3 x0.2.2.2 true W hC0 hl0 hC1 hl1 hC2 hl2 hC3 hl3 hkf).mono fun e W' ⟨he, bel⟩ => ?_
  subst he
  exact ⟨_, rfl, _, _, _, [], _, [], hW', trodAll_mk1 (shut_bool Try.underlying4 _), (trodAll_cons_mk (stays laidOut (by kernel_rfl) (of_decide_eq_true (by kernel_rfl)) bel H0) trodAll_mk0), rfl, bel.frame _, fun h => by cases h⟩
theorem over : Rows.symindexBuildsRow.holds Try.pinned (OpenSpec.ofChange Rows.symindexBuildsSpec) :=
  OpenClaim.holds_of_wide 3 Try.f3 rfl rfl rfl rfl rfl rfl rfl ⟨rfl, rfl, rfl, rfl, rfl⟩ rfl rfl rfl rfl rfl (by kernel_rfl) Try.func3 (by kernel_rfl)
    (of_decide_eq_true (by kernel_rfl)) (by unfold Func.isWrapper; first | (rw [if_pos (by decide +kernel)]; kernel_rfl) | (rw [if_neg (by decide +kernel)]; exact ⟨rfl, rfl⟩))
    (fun os started H enc _ => lifted os started H enc)
theorem proved : Rows.SymindexBuildsSaid := over
end Go.Proofs.Ytlogobmimacpgaa.symindexBuilds
namespace Go.Proofs.Ytlogobmimacpgaa
/-- The row, under a short name, for the claim. -/
theorem symindexBuilds_holds : Rows.SymindexBuildsSaid := symindexBuilds.proved
end Go.Proofs.Ytlogobmimacpgaa
