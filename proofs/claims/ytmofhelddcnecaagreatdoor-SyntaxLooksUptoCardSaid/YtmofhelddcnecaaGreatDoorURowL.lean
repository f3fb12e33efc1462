/- SyntaxLooks, where what comes in is of bulk at most 1048576: for any tree and any offset the law returns true, and they read as before. Condition: four listed tables of Go's library (unicode, unicode/utf8, strings) hold what the program's text lays (tied). -/
import Derived.Test.YtmofhelddcnecaaGreatDoorCards
import Derived.Test.YtmofhelddcnecaaGreatDoorTie
import Derived.Test.YtmofhelddcnecaaGreatDoorU6
import Derived.Test.YtmofhelddcnecaaGreatDoorUNO
import Derived.Deep.DeepHandedRow
import Derived.WideKeyArgs
import Derived.WideShapes
set_option linter.unusedVariables false
namespace Go.Proofs.YtmofhelddcnecaaGreatDoor.syntaxLooks
open Go.ChangeShapes Go.WideShapes Go.ChangeAt Go.RowKit Go.Ev
open Go.ChangeMaps (open_string shut_string)
set_option maxRecDepth 100000 in
theorem contract (H : Type) (enc : TypeId × Value → H) (W : World) (base : Nat) (args : Array Value) (ds gs : List (DataW H)) (before : List MemPlace)
    (hval0 : ∀ (j : Nat) t v, Tryz.f6.params[j]? = some t → args[j]? = some v → Value.okWide Tryz.prog W .any base t v)
    (hW : DataW.Whole enc Tryz.prog Tryz.f6.params.toList Rows.syntaxLooksSpec.vars false W args.toList ds gs before) (hk : Rows.uptoSmall H (ds ++ gs) = true)
    (hreach : (DataW.weightsEach Tryz.prog (Tryz.f6.params.toList ++ Rows.syntaxLooksSpec.plain.varTypes Tryz.prog) (ds ++ gs)).all (· ≤ reachBytes) = true) (hL : laidMetH Tryz.prog laidL W) :
    Calls Tryz.prog 6 args W fun e W' => ∃ v, e = .returned v ∧ Rows.syntaxLooksSpec.post enc Tryz.prog Tryz.f6 false true false false W args v W' := by
  have hval : ∀ (j : Nat) t v, Tryz.f6.params[j]? = some t → args[j]? = some v → Value.okWide Tryz.prog W .any base t v := hval0
  have hW' := hW
  obtain ⟨p, q, hA0, hV, rfl, _, _⟩ := hW
  have hA : DataW.TrodAll enc Tryz.prog W 0 (fun _ => true) true Tryz.f6.params.toList args.toList ds p := hA0
  rw [Tryz.params6] at hA hval
  obtain ⟨v0, vs0, d0, ds0, p0, q0, hargs, rfl, rfl, h0, r0⟩ := trodAll_cons hA
  obtain ⟨v1, vs1, d1, ds1, p1, q1, rfl, rfl, rfl, h1, r1⟩ := trodAll_cons r0
  obtain ⟨rfl, rfl, rfl⟩ := trodAll_nil r1
  obtain rfl : args = #[v0, v1] := by cases args; simp_all
  obtain ⟨rfl, rfl⟩ := trodVars_none hV
  have hre := List.all_eq_true.1 hreach
  have f0 : Fits Tryz.prog 25 d0 := fun n hn => of_decide_eq_true (hre n (by rw [Tryz.params6]; exact DataW.weights_mem_each (j := 0) (t := 25) rfl rfl n hn))
  have hbulk : Rows.uptoBulkAll [d0, d1] ≤ 1048576 := of_decide_eq_true hk
  simp only [Rows.uptoBulkAll] at hbulk
  obtain ⟨ca, rfl, _⟩ := okWide_struct Tryz.underlying25 (hval 0 25 v0 rfl rfl)
  have H1 := h1
  obtain ⟨off, rfl, rfl, rfl, woff⟩ := open_int Tryz.underlying3 (hval 1 3 v1 rfl rfl) h1
  obtain ⟨t, na, sa, hc⟩ : ∃ t, NodeAt W t ca.toList ∧ Sized t ∧ 2 * cntT t ≤ Rows.uptoBulk d0 := by
    obtain ⟨n, hn⟩ := h0
    exact opens_bulk n _ _ hn f0
  clear hA0 hval0
  refine (looks_calls (space_of_laid hL) na sa (by omega) off).mono fun e W' ⟨he, bel⟩ => ?_
  subst he
  exact ⟨_, rfl, _, _, _, [], _, [], hW', trodAll_mk1 (shut_bool Tryz.underlying4 _), (trodAll_cons_mk (stays laidOut (by kernel_rfl) (of_decide_eq_true (by kernel_rfl)) bel h0) (trodAll_cons_mk (stays laidOut (by kernel_rfl) (of_decide_eq_true (by kernel_rfl)) bel H1) trodAll_mk0)), rfl, bel.frame _, fun h => by cases h⟩
abbrev wargs : Array Value := #[.agg #[.int .i64 0, .string ByteArray.empty, .int .i64 0, .int .i64 0, .slice none 0 0], .int .i64 0]
set_option maxRecDepth 100000 in
theorem lifted (os : Os) (started : os.Started) (H : Type) (enc : TypeId × Value → H) (F : Stop.Interp) :
    ReturnsInHanded {} Tryz.checked os 6 .any ((Rows.OpenSpec.upto Rows.syntaxLooksSpec).preRow enc Tryz.prog Tryz.f6 Rows.syntaxLooksUptoRow.domain false Rows.syntaxLooksUptoRow.laid) (((Rows.OpenSpec.upto Rows.syntaxLooksSpec).at F).post enc Tryz.prog Tryz.f6 false true false false) := by
  refine returnsInHanded_of_row (C := Tryz.checked) (s := Rows.OpenSpec.upto Rows.syntaxLooksSpec) own started (by kernel_rfl) Tryz.func6 ?_ ?_
  · have hx : (DataW.whole enc Tryz.prog ((World.laidAll Tryz.prog os laidL).forCall (fun _ _ => 0) ⟨#[], wargs, []⟩).memory Tryz.f6.params.toList (Rows.OpenSpec.upto Rows.syntaxLooksSpec).vars false wargs.toList 8).map (fun x => Rows.uptoSmall H (x.1 ++ x.2.1)) = some true := by kernel_rfl
    obtain ⟨x, hx1, hx2⟩ := Option.map_eq_some_iff.1 hx
    have hok : Input.okWideB Tryz.prog ((World.laidAll Tryz.prog os laidL).forCall (fun _ _ => 0) ⟨#[], wargs, []⟩) 6 ⟨#[], wargs, []⟩ = true := by kernel_rfl
    refine ⟨World.laidAll Tryz.prog os laidL, fun _ _ => 0, ⟨#[], wargs, []⟩, World.laidAll_os _ _ _, World.shaped_of_ZipB (by kernel_rfl) (by kernel_rfl), (Input.okWide_of_okWideB (base := 0) hok).1, (Input.okWide_of_okWideB hok).2,
      OpenSpec.preRow_of_cond 8 hx1 rfl (fun k hk => by cases hk; exact hx2) (by kernel_rfl) (met os _), ?_⟩
    simp only [Assume.holds]
    exact ⟨by simp, by simp, fun _ => Modest.zero, by simp, by simp⟩
  · intro W base args ds gs before hval hW _ hcond hreach hL _ _
    exact contract H enc W base args ds gs before hval hW (hcond _ rfl) hreach hL
theorem over : Rows.SyntaxLooksUptoSaid :=
  OpenClaim.holds_of_cond 6 Tryz.f6 rfl rfl rfl rfl rfl rfl rfl ⟨rfl, rfl, rfl, rfl, rfl⟩ rfl rfl rfl rfl rfl (by kernel_rfl) Tryz.func6 (by kernel_rfl)
    (of_decide_eq_true (by kernel_rfl)) (by unfold Func.isWrapper; first | (rw [if_pos (by decide +kernel)]; kernel_rfl) | (rw [if_neg (by decide +kernel)]; exact ⟨rfl, rfl⟩))
    (fun os started H enc _ F => by rw [OpenClaim.pre_eq_preRow]; exact lifted os started H enc F)
end Go.Proofs.YtmofhelddcnecaaGreatDoor.syntaxLooks
namespace Go.Proofs.YtmofhelddcnecaaGreatDoor
theorem syntaxLooks_holds : Rows.SyntaxLooksUptoCardSaid :=
  Claim7.holds_tied_plain_at .later [] [.data, .listed, .data, .pinned] true (true, "a65200350d3a53a8f8d7946790ac10d677dd7a4a5f3c44198743329856e32ef1") true syntaxLooks.over (fun _ h => by cases h) (by kernel_rfl) (fun _ h => by cases h) syntaxLooksUpto_row_tie rfl ⟨rfl, rfl⟩ (by kernel_rfl) rfl
    (fun f fn hf hfn => by
      obtain rfl : f = 6 := Option.some.inj ((show Tryz.prog.funcNamed "codesearch/codesearchlaw12.SyntaxLooks" = some 6 by kernel_rfl).symm.trans hf) |>.symm
      obtain rfl : fn = Tryz.f6 := (Option.some.inj (Tryz.func6.symm.trans hfn)).symm
      exact ⟨by kernel_rfl, fun j t ht => by
        rw [Tryz.params6] at ht
        have hm : t ∈ [25, 3] := by simpa using Array.mem_of_getElem? ht
        have hall : ([25, 3].all fun u => !Tryz.prog.wantsStandIn u) = true := by kernel_rfl
        exact (show Tryz.prog.wantsStandIn t = false by simpa using List.all_eq_true.1 hall t hm)⟩)
    (by kernel_rfl)
#print axioms syntaxLooks_holds
end Go.Proofs.YtmofhelddcnecaaGreatDoor
