/- SyntaxShapes: for any two trees the law returns true, and they read as before. Condition: four listed tables of Go's library (unicode, unicode/utf8, strings) hold what the program's text lays (tied). -/
import Derived.Test.YtmofhelddcnecaaGreatDoorCards
import Derived.Test.YtmofhelddcnecaaGreatDoorTie
import Derived.Test.YtmofhelddcnecaaGreatDoorH6
import Derived.Test.YtmofhelddcnecaaGreatDoorHL2
import Derived.WideKeyArgs
import Derived.WideShapes
set_option linter.unusedVariables false
namespace Go.Proofs.YtmofhelddcnecaaGreatDoor.syntaxShapes
open Go.ChangeShapes Go.WideShapes Go.ChangeAt Go.RowKit Go.Ev
open Go.ChangeMaps (open_string shut_string)
set_option maxRecDepth 100000 in
theorem lifted (os : Os) (started : os.Started) (H : Type) (enc : TypeId × Value → H) :
    ReturnsInHanded {} Tryz.checked os 7 .any (fun w args => (Rows.syntaxShapesSpec.pre enc Tryz.prog Tryz.f7 [] false w args ∧ laidMetH Tryz.prog laidL w) ∧ sizedMet enc Tryz.prog Tryz.f7 (OpenSpec.ofChange Rows.syntaxShapesSpec) false w args)
      (Rows.syntaxShapesSpec.post enc Tryz.prog Tryz.f7 false true false false) := by
  refine returnsInHanded_of_change_and (C := Tryz.checked) (X := fun w _ => laidMetH Tryz.prog laidL w) (fun _ _ _ hh h => h.of_heap hh) own started (by kernel_rfl) Tryz.func7
    (ChangeSpec.witness_shaped (enc := enc) (C := Tryz.checked) (os := os) (X := fun w _ => laidMetH Tryz.prog laidL w) false (World.laidAll Tryz.prog os laidL) #[.agg #[.int .i64 0, .string ByteArray.empty, .int .i64 0, .int .i64 0, .slice none 0 0], .agg #[.int .i64 0, .string ByteArray.empty, .int .i64 0, .int .i64 0, .slice none 0 0]] 8 (World.laidAll_os _ _ _)
      (World.shaped_of_ZipB (by kernel_rfl) (by kernel_rfl)) (by kernel_rfl) (by kernel_rfl) (by kernel_rfl) (met os _)) ?_
  intro W base args ds gs before hval0 hW _ hreach hL _
  have hval : ∀ (j : Nat) t v, Tryz.f7.params[j]? = some t → args[j]? = some v → Value.okWide Tryz.prog W .any base t v := hval0
  have hW' := hW
  obtain ⟨p, q, hA0, hV, rfl, _, _⟩ := hW
  have hA : DataW.TrodAll enc Tryz.prog W 0 (fun _ => true) true Tryz.f7.params.toList args.toList ds p := hA0
  rw [Tryz.params7] at hA hval
  obtain ⟨v0, vs0, d0, ds0, p0, q0, hargs, rfl, rfl, h0, r0⟩ := trodAll_cons hA
  obtain ⟨v1, vs1, d1, ds1, p1, q1, rfl, rfl, rfl, h1, r1⟩ := trodAll_cons r0
  obtain ⟨rfl, rfl, rfl⟩ := trodAll_nil r1
  obtain rfl : args = #[v0, v1] := by cases args; simp_all
  obtain ⟨rfl, rfl⟩ := trodVars_none hV
  have hre := List.all_eq_true.1 hreach
  have f0 : Fits Tryz.prog 25 d0 := fun n hn => of_decide_eq_true (hre n (by rw [Tryz.params7]; exact DataW.weights_mem_each (j := 0) (t := 25) rfl rfl n hn))
  have f1 : Fits Tryz.prog 25 d1 := fun n hn => of_decide_eq_true (hre n (by rw [Tryz.params7]; exact DataW.weights_mem_each (j := 1) (t := 25) rfl rfl n hn))
  obtain ⟨ca, rfl, _⟩ := okWide_struct Tryz.underlying25 (hval 0 25 v0 rfl rfl)
  obtain ⟨cb, rfl, _⟩ := okWide_struct Tryz.underlying25 (hval 1 25 v1 rfl rfl)
  obtain ⟨a, na, sa⟩ : ∃ t, NodeAt W t ca.toList ∧ Sized t := by
    obtain ⟨n, hn⟩ := h0
    exact opens_tree n _ _ hn f0
  obtain ⟨b, nb, sb⟩ : ∃ t, NodeAt W t cb.toList ∧ Sized t := by
    obtain ⟨n, hn⟩ := h1
    exact opens_tree n _ _ hn f1
  clear hA0 hval0
  refine (shapes_calls (space_of_laid hL) na sa nb).mono fun e W' ⟨he, bel⟩ => ?_
  subst he
  exact ⟨_, rfl, _, _, _, [], _, [], hW', trodAll_mk1 (shut_bool Tryz.underlying4 _), (trodAll_cons_mk (stays laidOut (by kernel_rfl) (of_decide_eq_true (by kernel_rfl)) bel h0) (trodAll_cons_mk (stays laidOut (by kernel_rfl) (of_decide_eq_true (by kernel_rfl)) bel h1) trodAll_mk0)), rfl, bel.frame _, fun h => by cases h⟩
theorem over : Rows.SyntaxShapesSaid :=
  OpenClaim.holds_of_wide 7 Tryz.f7 rfl rfl rfl rfl rfl rfl rfl ⟨rfl, rfl, rfl, rfl, rfl⟩ rfl rfl rfl rfl rfl (by kernel_rfl) Tryz.func7 (by kernel_rfl)
    (of_decide_eq_true (by kernel_rfl)) (by unfold Func.isWrapper; first | (rw [if_pos (by decide +kernel)]; kernel_rfl) | (rw [if_neg (by decide +kernel)]; exact ⟨rfl, rfl⟩))
    (fun os started H enc _ => lifted os started H enc)
end Go.Proofs.YtmofhelddcnecaaGreatDoor.syntaxShapes
namespace Go.Proofs.YtmofhelddcnecaaGreatDoor
theorem syntaxShapes_holds : Rows.SyntaxShapesCardSaid :=
  Claim7.holds_tied_plain_at .later [] [.data, .listed, .data, .pinned] true (true, "a65200350d3a53a8f8d7946790ac10d677dd7a4a5f3c44198743329856e32ef1") true syntaxShapes.over (fun _ h => by cases h) (by kernel_rfl) (fun _ h => by cases h) syntaxShapes_row_tie rfl ⟨rfl, rfl⟩ (by kernel_rfl) rfl
    (fun f fn hf hfn => by
      obtain rfl : f = 7 := Option.some.inj ((show Tryz.prog.funcNamed "codesearch/codesearchlaw12.SyntaxShapes" = some 7 by kernel_rfl).symm.trans hf) |>.symm
      obtain rfl : fn = Tryz.f7 := (Option.some.inj (Tryz.func7.symm.trans hfn)).symm
      exact ⟨by kernel_rfl, fun j t ht => by
        rw [Tryz.params7] at ht
        have hm : t ∈ [25, 25] := by simpa using Array.mem_of_getElem? ht
        have hall : ([25, 25].all fun u => !Tryz.prog.wantsStandIn u) = true := by kernel_rfl
        exact (show Tryz.prog.wantsStandIn t = false by simpa using List.all_eq_true.1 hall t hm)⟩)
    (by kernel_rfl)
#print axioms syntaxShapes_holds
end Go.Proofs.YtmofhelddcnecaaGreatDoor
