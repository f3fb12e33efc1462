/- SymindexMerges: for every input the law returns true, and what came in reads as before. No condition. -/
import Derived.Test.YtlogobmimacpgaaRows
import Derived.Test.YtlogobmimacpgaaOpen
import Derived.Test.YtlogobmimacpgaaSyLawM
import Derived.Test.YtlogobmimacpgaaOpens32
import Derived.WalkKit
import Derived.ProofKit
import Derived.OpenShut
import Derived.ShutString
import Derived.ChangeOld
import Derived.Below
import Derived.SizedLaws
set_option linter.unusedVariables false
namespace Go.Proofs.Ytlogobmimacpgaa.symindexMerges
open Go.ChangeShapes Go.WideShapes Go.ChangeAt Go.RowKit
open Go.ChangeMaps (open_string shut_string)
theorem own : ownKnob Try.prog.godebug = none := by kernel_rfl
theorem laidOut : laidOutB Try.prog = true := by kernel_rfl
set_option maxRecDepth 100000 in
theorem lifted (os : Os) (started : os.Started) (H : Type) (enc : TypeId × Value → H) :
    ReturnsInHanded {} Try.checked os 5 .any (Rows.symindexMergesSpec.pre6 enc Try.prog Try.f5 Rows.symindexMergesRow.domain false) (Rows.symindexMergesSpec.post enc Try.prog Try.f5 false true false false) := by
  refine returnsInHanded_of_change (C := Try.checked) own started (by kernel_rfl) Try.func5
    (ChangeSpec.witness6 (enc := enc) (C := Try.checked) false ⟨#[], #[.slice none 0 0, .slice none 0 0, .slice none 0 0], []⟩ 8 (by kernel_rfl) (by kernel_rfl) (by kernel_rfl) (by kernel_rfl)) ?_
  intro W base args ds gs before hval0 hW hcnd _
  have hval : ∀ (j : Nat) t v, Try.f5.params[j]? = some t → args[j]? = some v → Value.okWide Try.prog W .any base t v := hval0
  have hW' := hW
  obtain ⟨p, q, hA0, hV, rfl, hfz, hnd⟩ := hW
  have hA : DataW.TrodAll enc Try.prog W 0 (fun _ => true) true Try.f5.params.toList args.toList ds p := hA0
  rw [Try.params5] at hA hval
  obtain ⟨v0, vs0, d0, ds0, p0, q0, hargs, rfl, rfl, h0, r0⟩ := trodAll_cons hA
  obtain ⟨v1, vs1, d1, ds1, p1, q1, rfl, rfl, rfl, h1, r1⟩ := trodAll_cons r0
  obtain ⟨v2, vs2, d2, ds2, p2, q2, rfl, rfl, rfl, h2, r2⟩ := trodAll_cons r1
  obtain ⟨rfl, rfl, rfl⟩ := trodAll_nil r2
  obtain rfl : args = #[v0, v1, v2] := by cases args; simp_all
  obtain ⟨rfl, rfl⟩ := trodVars_none hV
  have H0 := h0
  obtain ⟨A0, c0, l0, rfl, hl0, hm0, hC0, hV0⟩ := open_rows (d := L32.k56) (V := L32.V56) Try.underlying35 (by kernel_rfl) (fun m => L32.opens56 m) (hval 0 35 v0 rfl rfl) h0
  have H1 := h1
  obtain ⟨A1, c1, l1, rfl, hl1, hm1, hC1, hV1⟩ := open_rows (d := L32.k56) (V := L32.V56) Try.underlying35 (by kernel_rfl) (fun m => L32.opens56 m) (hval 1 35 v1 rfl rfl) h1
  have H2 := h2
  obtain ⟨A2, c2, l2, rfl, hl2, hm2, hC2, hV2⟩ := open_rows (d := (Go.Proofs.YtlogobmimacpgaaW.PrintWords.Kd.int .i64)) (V := (fun z => (Lit.int .i64 z).wf = true)) Try.underlying41 (by kernel_rfl) (fun m => opens_int Try.underlying3) (hval 2 41 v2 rfl rfl) h2
  clear hA0 hval0
  refine (Exists.elim (L32.law_merges l0 l1 l2) fun kf hkf => L32.codesearchlaw32_SymindexMerges.calls kf A0 c0 l0 A1 c1 l1 A2 c2 l2 true W hC0 hl0 hC1 hl1 hC2 hl2 hkf).mono fun e W' ⟨he, bel⟩ => ?_
  subst he
  exact ⟨_, rfl, _, _, _, [], _, [], hW', trodAll_mk1 (shut_bool Try.underlying4 _), (trodAll_cons_mk (stays laidOut (by kernel_rfl) (of_decide_eq_true (by kernel_rfl)) bel H0) (trodAll_cons_mk (stays laidOut (by kernel_rfl) (of_decide_eq_true (by kernel_rfl)) bel H1) (trodAll_cons_mk (stays laidOut (by kernel_rfl) (of_decide_eq_true (by kernel_rfl)) bel H2) trodAll_mk0))), rfl, bel.frame _, fun h => by cases h⟩
theorem over : Rows.symindexMergesRow.holds Try.pinned (OpenSpec.ofChange Rows.symindexMergesSpec) :=
  OpenClaim.holds_of_wide 5 Try.f5 rfl rfl rfl rfl rfl rfl rfl ⟨rfl, rfl, rfl, rfl, rfl⟩ rfl rfl rfl rfl rfl (by kernel_rfl) Try.func5 (by kernel_rfl)
    (of_decide_eq_true (by kernel_rfl)) (by unfold Func.isWrapper; first | (rw [if_pos (by decide +kernel)]; kernel_rfl) | (rw [if_neg (by decide +kernel)]; exact ⟨rfl, rfl⟩))
    (fun os started H enc _ => lifted os started H enc)
theorem proved : Rows.SymindexMergesSaid := over
end Go.Proofs.Ytlogobmimacpgaa.symindexMerges
namespace Go.Proofs.Ytlogobmimacpgaa
/-- The row, under a short name, for the claim. -/
theorem symindexMerges_holds : Rows.SymindexMergesSaid := symindexMerges.proved
end Go.Proofs.Ytlogobmimacpgaa
