/- syntax.all and the functions that are not evaluated keep what they promise; from the evaluator to a law's row. -/
import Derived.Test.YtmofhelddcnecaaGreatDoorB2
import Derived.Test.YtmofhelddcnecaaGreatDoorB4
import Derived.Test.YtmofhelddcnecaaGreatDoorB5
import Derived.Below
import Derived.Test.YtmofhelddcnecaaGreatDoorRows
import Derived.WalkKit
import Derived.ProofKit
import Derived.OpenShut
import Derived.ShutString
import Derived.ChangeOld
import Derived.SizedLaws
import Derived.Lay
import Derived.LaidOnce
import Derived.SevenTiedAt
import Derived.Lib.LaidTab
import Derived.Lib.LaidU8
import Derived.MakeChecks
import Derived.Stop.Joined
set_option linter.unusedVariables false
set_option linter.unusedSimpArgs false
set_option maxRecDepth 20000
namespace Go.Ev
open PV
theorem rel_init {γ : Gh} {sg : List (List PV)} {w : World} {args : List PV} {cargs : Array Value} {m : Nat} (hO : Objs γ sg w) (ha : RepArgs γ args cargs) :
    Rel (noD γ []) ⟨args ++ List.replicate (m - args.length) .skip, sg⟩ ⟨cargs ++ Array.replicate (m - cargs.size) Go.undef, []⟩ w := by
  obtain ⟨hl, hr⟩ := ha
  refine ⟨hO.noD, by simp [hl], rfl, fun s hs => ?_⟩
  simp only [List.length_append, List.length_replicate] at hs
  simp only [List.getD_eq_getElem?_getD, Array.getD_eq_getD_getElem?]
  by_cases c1 : s < args.length
  · have := hr s c1
    simp only [List.getD_eq_getElem?_getD, Array.getD_eq_getD_getElem?] at this
    rw [List.getElem?_append_left c1, Array.getElem?_append_left (by omega)]
    exact this.slot
  · rw [List.getElem?_append_right (by omega), Array.getElem?_append_right (by omega)]
    have e1 : (List.replicate (m - args.length) PV.skip)[s - args.length]? = some .skip := by
      rw [List.getElem?_replicate, if_pos (by omega)]
    have e2 : (Array.replicate (m - cargs.size) Go.undef)[s - cargs.size]? = some Go.undef := by
      rw [Array.getElem?_replicate, if_pos (by omega)]
    rw [e1, e2]
    exact Rep.slot .skip
theorem Rel.putQ {γ : Gh} {st : St} {a : Act} {w : World} (h : Rel γ st a w) (d : Nat) (p : PV) (v : Value) (hp : Rep γ.I γ.ob p v) : Rel γ ⟨st.sl.set d p, st.sg⟩ (a.put (some d) v) w :=
  h.setQ (some d) p v hp.isQuiet (fun _ => hp.slot)
theorem Rel.putJ {γ : Gh} {st : St} {a : Act} {w : World} (h : Rel γ st a w) (d : Nat) (v : Value) : Rel γ ⟨st.sl.set d .undef, st.sg⟩ (a.put (some d) v) w := h.putQ d _ v (.undef v)
namespace Al
open Go.Proofs
noncomputable abbrev P := Tryz.prog
noncomputable def ord5 : OT := .step 0 3 (.step 1 3 (.fork 2 (.step 3 0 (.step 4 0 (.step 5 0 .done))) 3 (.step 2 0 (.step 4 0 (.step 5 0 .done)))))
noncomputable def hint55 : Hint := { ords := [(5, ord5, [(3, []), (4, []), (5, [])])] }
noncomputable def c55 : Code := match Tryz.f55.body with
  | some c => c
  | none => .skip
def pvS (a : Int) : PV := .iface 61 (.agg [.int .i64 a])
def sl2 (i : Nat) (a : Int) : List PV := [.ptr i 0, .ptr (i + 1) 0, .ptr (i + 2) 0, pvS a, .skip, .skip, pvS a, pvS a, .bool true, .skip, pvS a, .tup [.agg [.int .i64 a], .bool true], .skip, .skip, .skip, .skip, .skip, .skip, .skip, .skip]
def sl5 (i : Nat) (a : Int) : List PV := [.ptr i 0, .ptr (i + 1) 0, .ptr (i + 2) 0, pvS a, .box [.int .i64 a], .bool true, pvS a, pvS a, .bool true, .tup [.agg [.int .i64 a], .bool true], pvS a, .tup [.agg [.int .i64 a], .bool true], .agg [.int .i64 a], .bool true, .skip, .skip, .skip, .skip, .skip, .skip]
noncomputable def ops2 : Array Oper := match Code.at c55 [1, 1, 0, 0] with
  | .region _ ops _ => ops
  | _ => #[]
theorem r2 (q : Caller) (i : Nat) (a : Int) (s : List (List PV)) (X : PV → St → Prop) : opsW P q hint55 ops2.toList (ops2.toList.drop 2) ⟨sl2 i a, s⟩ (fun st => st = ⟨sl5 i a, s⟩) X := by
  have e : opsW P q hint55 ops2.toList (ops2.toList.drop 2) ⟨sl2 i a, s⟩ (fun st => st = ⟨sl5 i a, s⟩) X = ((⟨sl5 i a, s⟩ : St) = ⟨sl5 i a, s⟩) := by kernel_rfl
  rw [e]
theorem r5 (q : Caller) (n i : Nat) (a : Int) (s : List (List PV)) (K : List (List PV) → Prop) (hk : recovAt i a K s) :
    codeW P q n hint55 (Code.at c55 [1, 1, 0, 1]) ⟨sl5 i a, s⟩ (fun e st => e = .normal ∧ K st.sg) := by
  have e : codeW P q n hint55 (Code.at c55 [1, 1, 0, 1]) ⟨sl5 i a, s⟩ (fun e st => e = .normal ∧ K st.sg) = (recovAt i a (fun s => Ex.normal = Ex.normal ∧ K s) s ∧ recovAt i a (fun s => Ex.normal = Ex.normal ∧ K s) s) := by kernel_rfl
  rw [e]
  have e2 : (fun s => Ex.normal = Ex.normal ∧ K s) = K := funext fun s => propext ⟨fun h => h.2, fun h => ⟨rfl, h⟩⟩
  rw [e2]
  exact ⟨hk, hk⟩
theorem F55 : P.funcs[55]? = some Tryz.f55 := by kernel_rfl
theorem F33 : P.funcs[33]? = some Tryz.f33 := by kernel_rfl
theorem n55 : Tryz.f55.ntmps = 20 := by kernel_rfl
/-- The deferred function of a frame that returns: nothing. -/
theorem catch_idle (x y z : Value) (w : World) : CallsD P 55 #[x, y, z] .returning w fun e u' w' => e = .returned (.tuple #[]) ∧ u' = .returning ∧ w' = w := by
  have hnn : ∀ w, (binOp .neq 20 .nilIface .nilIface).run P w = .ok (.bool false) w := fun w => by kernel_rfl
  refine callsD_of_wpS F55 rfl fun c₀ cs hu => ?_
  apply wpS_seq
  apply wpS_region
  simp [wpOpsS, go_sem, recoverD, hu, n55, Exit.thenS]
  apply wpS_seq
  apply wpS_region
  simp [wpOpsS, go_sem, hnn, Exit.thenS]
  refine wpS_cond (t := false) (by simp [Act.eval, Array.replicate]) ?_
  simp only [Bool.false_eq_true, if_false]
  refine wpS_of_wp (wp_skip ?_)
  cases c₀
  simp_all [bodyPostS, results, (show Tryz.f55.results = #[] from rfl)]
def stopV (a : Int) : Value := .iface 61 (.agg #[.int .i64 a])
theorem stop_rep {I : Nat → Nat → Option Value} {ob : List Nat} (a : Int) : Rep I ob (pvS a) (stopV a) := by
  refine .iface _ _ _ (.agg _ _ rfl fun j hj => ?_)
  simp only [List.length_singleton] at hj
  obtain rfl : j = 0 := by omega
  exact .int _ _
theorem two_rep {I : Nat → Nat → Option Value} {ob : List Nat} (a : Int) : Rep I ob (.tup [.agg [.int .i64 a], .bool true]) (.tuple #[.agg #[.int .i64 a], .bool true]) := by
  refine .tup _ _ rfl fun j hj => ?_
  simp only [List.length_cons, List.length_nil] at hj
  have : j = 0 ∨ j = 1 := by omega
  rcases this with rfl | rfl
  · refine .agg _ _ rfl fun j hj => ?_
    simp only [List.length_singleton] at hj
    obtain rfl : j = 0 := by omega
    exact .int _ _
  · exact .bool _
theorem wpOps_val {ops : Array Oper} {Q : Exit → Act → World → Prop} {i : Nat} {r : List Nat} {a : Act} {w : World} {o : Oper} {v : Value} (ho : ops[i]? = some o) (hg : o.guard = none) (h : (execOp a.eval o).run P w = .ok (.value v) w) (hn : wpOps P ops Q r (a.put o.dst v) w) : wpOps P ops Q (i :: r) a w := by
  unfold wpOps
  rw [ho]
  dsimp only
  rw [if_pos (by simp [Region.wanted, hg])]
  left
  simp only [Oper.wp, h, Oper.upon_value]
  exact hn
theorem noNG : NoNG P := ⟨fun f F h => by
  have ha : (P.funcs.toList.all fun F => !(F.name == "runtime.NumGoroutine")) = true := by kernel_rfl
  obtain ⟨hi, e⟩ := Array.getElem?_eq_some_iff.1 h
  have := List.all_eq_true.1 ha F (by rw [← e]; simp)
  simpa using this, by kernel_rfl⟩
theorem catch_stop {γ : Gh} {sg : List (List PV)} {w : World} {i : Nat} {a : Int} {K : List (List PV) → Prop} {x y z : Value} (hO : Objs γ sg w) (ha : RepArgs γ [.ptr i 0, .ptr (i + 1) 0, .ptr (i + 2) 0] #[x, y, z]) (hk : recovAt i a K sg) :
    CallsD P 55 #[x, y, z] (.panicking [{ v := stopV a, recovered := false }]) w fun e u' w' => e = .returned (.tuple #[]) ∧ u' = .panicking [{ v := stopV a, recovered := true }] ∧ ∃ γ' sg', K sg' ∧ Objs γ' sg' w' ∧ Ext γ w γ' w' := by
  have hnn : ∀ w, (binOp .neq 20 (stopV a) .nilIface).run P w = .ok (.bool true) w := fun w => by kernel_rfl
  have heq : ∀ w, (eqGuard .neq 20 (.tmp 7) (.const .nilIface) (stopV a) .nilIface).run P w = .ok () w := fun w => by kernel_rfl
  have hta : ∀ w, (Instr.typeAssert (stopV a) 20 61 true).run P w = .ok (.tuple #[.agg #[.int .i64 a], .bool true]) w := fun w => by kernel_rfl
  refine callsD_of_wpS F55 rfl fun c₀ cs hu => ?_
  apply wpS_seq
  apply wpS_region
  simp [wpOpsS, go_sem, recoverD, hu, n55, Exit.thenS]
  apply wpS_seq
  apply wpS_region
  simp [wpOpsS, go_sem, hnn, heq, Exit.thenS]
  have h0 := rel_init (m := 20) hO ha
  have h1 := (((h0.putQ 6 _ _ (stop_rep a)).putQ 3 _ _ (stop_rep a)).putQ 7 _ _ (stop_rep a)).putQ 8 _ _ (.bool true)
  generalize hact : Act.mk (#[x, y, z] ++ ((((Array.replicate 17 Go.undef).setIfInBounds 3 (stopV a)).setIfInBounds 0 (stopV a)).setIfInBounds 4 (stopV a)).setIfInBounds 5 (.bool true)) [] = act
  have hact' : ((((({ tmps := #[x, y, z] ++ Array.replicate (20 - 3) Go.undef, defers := [] } : Act).put (some 6) (stopV a)).put (some 3) (stopV a)).put (some 7) (stopV a)).put (some 8) (.bool true)) = act := by
    rw [← hact]; kernel_rfl
  have h1 : Rel (noD γ []) ⟨[.ptr i 0, .ptr (i + 1) 0, .ptr (i + 2) 0, pvS a, .skip, .skip, pvS a, pvS a, .bool true, .skip, .skip, .skip, .skip, .skip, .skip, .skip, .skip, .skip, .skip, .skip], sg⟩ act w := by rw [← hact']; exact h1
  have e8 : act.eval (.tmp 8) = .bool true := (congrArg (fun (b : Act) => b.eval (.tmp 8)) hact').symm.trans (by kernel_rfl)
  have e3 : act.eval (.tmp 3) = stopV a := (congrArg (fun (b : Act) => b.eval (.tmp 3)) hact').symm.trans (by kernel_rfl)
  refine wpS_cond (t := true) e8 ?_
  simp only [if_true]
  refine wpS_of_wp (wp_seq (wp_region ?_))
  refine wpOps_val (i := 0) (r := [1, 2, 3, 4, 5, 6, 7]) (v := stopV a) rfl rfl ((show _ = Result.ok (Next.value (act.eval (.tmp 3))) w from rfl).trans (by rw [e3])) ?_
  refine wpOps_val (i := 1) (r := [2, 3, 4, 5, 6, 7]) (v := .tuple #[.agg #[.int .i64 a], .bool true]) rfl rfl ?_ ?_
  · have : (act.put (some 10) (stopV a)).eval (.tmp 10) = stopV a := (congrArg (fun (b : Act) => (b.put (some 10) (stopV a)).eval (.tmp 10)) hact').symm.trans (by kernel_rfl)
    show (do let v ← Instr.typeAssert ((act.put (some 10) (stopV a)).eval (.tmp 10)) 20 61 true; pure (Next.value v) : Sem Next).run P w = _
    rw [this, Sem.run_bind, hta]
    rfl
  have h2 := (h1.putQ 10 _ _ (stop_rep a)).putQ 11 _ _ (two_rep a)
  refine ops_sound (call := fun _ _ _ _ => False) (I0 := fun _ _ => none) (γ0 := noD γ []) (w0 := w) (hint := hint55) (K := fun st => st = ⟨sl5 i a, sg⟩) (X := fun _ _ => False) noNG (fun _ _ _ _ hk => hk.elim) (fun _ _ _ h => by cases h) (fun _ _ _ _ _ _ hk => hk.elim) ?_ (ops2.toList.drop 2) 2 ⟨sl2 i a, sg⟩ _ w (noD γ []) rfl (r2 _ _ _ _ _) h2 (.refl _ _)
  rintro st a' w' γ' rfl h' hE'
  have hk5 := r5 (fun _ _ _ _ => False) 0 i a sg K hk
  refine code_sound (call := fun _ _ _ _ => False) (I0 := fun _ _ => none) (γ0 := noD γ []) (w0 := w) (hint := hint55) (n := 0) noNG (fun _ _ _ _ hk => hk.elim) (fun _ _ _ h => by cases h) _ _ _ _ a' w' γ' hk5 h' hE' ?_ ?_
  · rintro e st a2 w2 γ2 ⟨rfl, hK⟩ h2 hE2
    refine ⟨h2.defers.trans hE2.D, _, rfl, .tuple #[], ?_, rfl, rfl, noD γ2 γ.D, _, hK, h2.toObjs.noD, hE2.outD⟩
    kernel_rfl
  · intro c a d v w hq
    exact ⟨by cases d <;> exact hq.1, hq.2⟩
noncomputable def c33 : Code := match Tryz.f33.body with
  | some c => c
  | none => .skip
theorem n33 : Tryz.f33.ntmps = 38 := by kernel_rfl
def slA (T : List (List PV)) (size : Int) (f : FuncId) (first caps : List PV) (x y z : Nat) : List PV := [.list false T, .int .i64 size, .fn f first caps, .skip, .skip, .skip, .ptr x 0, .ptr y 0, .ptr z 0] ++ [.skip, .skip, .skip] ++ List.replicate 14 .undef ++ [.skip] ++ List.replicate 7 .undef ++ [.skip] ++ List.replicate 3 .undef
theorem r0 (q : Caller) (n : Nat) (T : List (List PV)) (size : Int) (f : FuncId) (first caps : List PV) (sg : List (List PV)) :
    SW P q n hintA (Code.at c33 [0]) ⟨[.list false T, .int .i64 size, .fn f first caps] ++ List.replicate (38 - 3) .skip, sg⟩ (fun e st => e = .normal ∧ st = ⟨slA T size f first caps sg.length (sg.length + 1) (sg.length + 2), sg ++ [zeroC, [.int .i64 0], [.int .i64 0]]⟩) := by
  have e : codeW P q n hintA (Code.at c33 [0]) ⟨[.list false T, .int .i64 size, .fn f first caps] ++ List.replicate (38 - 3) .skip, sg⟩ (fun e st => e = .normal ∧ st = ⟨slA T size f first caps sg.length (sg.length + 1) (sg.length + 2), sg ++ [zeroC, [.int .i64 0], [.int .i64 0]]⟩) =
      (Ex.normal = Ex.normal ∧ (⟨slA T size f first caps sg.length (sg ++ [zeroC]).length ((sg ++ [zeroC]) ++ [[PV.int .i64 0]]).length, ((sg ++ [zeroC]) ++ [[PV.int .i64 0]]) ++ [[.int .i64 0]]⟩ : St) = ⟨slA T size f first caps sg.length (sg.length + 1) (sg.length + 2), sg ++ [zeroC, [.int .i64 0], [.int .i64 0]]⟩) := by kernel_rfl
  rw [SW_eq, e]
  simp
theorem keep0 : keeps [] (Code.at c33 [0]) = true := by kernel_rfl
theorem keep11 : keeps [6, 7, 8] (Code.at c33 [1, 1]) = true := by kernel_rfl
theorem inv55 (x y z : Value) (w : World) : (invoke (.fn (.func 55) #[x, y, z]) #[]).run P w = .ok (.enter 55 #[x, y, z]) w := by kernel_rfl
noncomputable def ops1 : Array Oper := match Code.at c33 [1, 0] with
  | .region _ ops _ => ops
  | _ => #[]
theorem slot_noD {γ : Gh} {D : List Deferred} {w : World} {sl : List PV} {tm : Array Value} {s : Nat} {p : PV} {v : Value} (h : SlotAt γ w sl tm s p v) : SlotAt (noD γ D) w sl tm s p v := by
  unfold SlotAt at h ⊢
  split at h <;> exact h
theorem Rel.toD {γ : Gh} {st : St} {a : Act} {w : World} {D : List Deferred} (h : Rel γ st a w) : Rel (noD γ D) st { a with defers := D } w :=
  ⟨h.toObjs.noD, h.size, rfl, fun s hs => slot_noD (h.slots s hs)⟩
def exQ (γ0 : Gh) (w0 : World) (i : Nat) (K : Res → List (List PV) → Prop) : Exit → Act → World → Prop := fun e a w => match e with
  | .panic ch => ∃ v p st' γ', ch = [{ v := v, recovered := false }] ∧ Rep γ'.I γ'.ob p v ∧ recov i K ⟨true, p⟩ st'.sg ∧ Rel γ' st' a w ∧ Ext γ0 w0 γ' w
  | .normal => ∃ st' γ', resultsW P Tryz.f33 st' (fun v => K ⟨false, v⟩ st'.sg) ∧ Rel γ' st' a w ∧ Ext γ0 w0 γ' w
  | .ret => ∃ st' γ', resultsW P Tryz.f33 st' (fun v => K ⟨false, v⟩ st'.sg) ∧ Rel γ' st' a w ∧ Ext γ0 w0 γ' w
  | _ => False
theorem reg_sound {c : Code} {call : Caller} {n : Nat} {I0 : Nat → Nat → Option Value} (hcall : CallSound P I0 call) {γ : Gh} {st st' : St} {a : Act} {w : World} (hI : LeI I0 γ.I) (hs : keeps [] c = true) (hk : SW P call n hintA c st (fun e s => e = .normal ∧ s = st')) (h : Rel γ st a w) :
    c.wp P (fun e a1 w1 => e = .normal ∧ ∃ γ1, Rel γ1 st' a1 w1 ∧ Ext γ w γ1 w1) a w := by
  rw [SW_eq] at hk
  refine wp_mono (code_pin (ss := []) (tm := fun _ => Go.undef) (γ0 := γ) (w0 := w) noNG hcall hI c st _ (fun e a1 w1 => e = .normal ∧ ∃ γ1, Rel γ1 st' a1 w1 ∧ Ext γ w γ1 w1) a w γ hs hk h (.refl _ _) ?_ (fun _ h => by simp at h)) (fun e a w h => h.1)
  rintro e st a1 w1 γ1 ⟨rfl, rfl⟩ h1 hE1
  exact ⟨rfl, γ1, h1, hE1⟩
theorem rest_sound {c : Code} {call : Caller} {n i : Nat} {I0 : Nat → Nat → Option Value} (hcall : CallSound P I0 call) {γ : Gh} {st : St} {a : Act} {w : World} {K : Res → List (List PV) → Prop} (hI : LeI I0 γ.I) (hs : keeps [6, 7, 8] c = true) (hk : SW P call n hintA c st (finW P Tryz.f33 (recov i K))) (h : Rel γ st a w) :
    c.wp P (pin [6, 7, 8] (fun s => a.tmps.getD s Go.undef) (exQ γ w i K)) a w := by
  rw [SW_eq] at hk
  refine code_pin (γ0 := γ) (w0 := w) noNG hcall hI c st _ _ a w γ hs hk h (.refl _ _) ?_ (fun _ _ => rfl)
  intro e st' a1 w1 γ1 hk h1 hE1
  cases e with
  | normal => exact ⟨st', γ1, hk, h1, hE1⟩
  | ret => exact ⟨st', γ1, hk, h1, hE1⟩
  | exit _ => exact hk.elim
  | pan p => exact fun v hv => ⟨v, p, st', γ1, rfl, hv, hk, h1, hE1⟩
theorem wpOps_defer {ops : Array Oper} {Q : Exit → Act → World → Prop} {i : Nat} {r : List Nat} {a : Act} {w : World} {o : Oper} {d : Deferred} (ho : ops[i]? = some o) (hg : o.guard = none) (h : (execOp a.eval o).run P w = .ok (.defer d) w) (hn : wpOps P ops Q r ({ a with defers := d :: a.defers }.put o.dst Go.undef) w) : wpOps P ops Q (i :: r) a w := by
  unfold wpOps
  rw [ho]
  dsimp only
  rw [if_pos (by simp [Region.wanted, hg])]
  left
  simp only [Oper.wp, h, Oper.upon_defer]
  exact hn
theorem put12 (a : Act) (v : Value) (h : 12 < a.tmps.size) : (a.put (some 12) v).eval (.tmp 12) = v := by
  simp [Act.put, Act.eval, h]
theorem reg1 {Q : Exit → Act → World → Prop} {a : Act} {w : World} (hs : 12 < a.tmps.size) (h : Q .normal { (a.put (some 12) (.func (.func 55) #[] #[a.eval (.tmp 6), a.eval (.tmp 7), a.eval (.tmp 8)])) with defers := ⟨.fn (.func 55) #[a.eval (.tmp 6), a.eval (.tmp 7), a.eval (.tmp 8)], #[]⟩ :: a.defers } w) : (Code.region 1 ops1 false).wp P Q a w := by
  refine wp_region ?_
  show wpOps P ops1 Q [0, 1] a w
  refine wpOps_val (v := .func (.func 55) #[] #[a.eval (.tmp 6), a.eval (.tmp 7), a.eval (.tmp 8)]) rfl rfl (by kernel_rfl) ?_
  refine wpOps_defer (d := ⟨.fn (.func 55) #[a.eval (.tmp 6), a.eval (.tmp 7), a.eval (.tmp 8)], #[]⟩) rfl rfl ?_ h
  refine Eq.trans (b := (do pure (Next.defer (← (Deferred.ofValue ((a.put (some 12) (.func (.func 55) #[] #[a.eval (.tmp 6), a.eval (.tmp 7), a.eval (.tmp 8)])).eval (.tmp 12)) #[]))) : Sem Next).run P w) (by kernel_rfl) ?_
  rw [put12 _ _ hs]
  rfl
theorem recovAt_get {i : Nat} {a : Int} {K : List (List PV) → Prop} {s : List (List PV)} (h : recovAt i a K s) : ∃ s3 c0 c1 c2, recovAt i a (fun x => x = s3) s ∧ K s3 ∧ s3[i]? = some (zeroC ++ c0) ∧ s3[i + 1]? = some (.int .i64 a :: c1) ∧ s3[i + 2]? = some (.int .i64 11 :: c2) := by
  unfold recovAt objSet at h ⊢
  split at h
  · rename_i b0 g0
    obtain ⟨l0, h⟩ := chk_iff.mp h
    split at h
    · rename_i b1 g1
      obtain ⟨l1, h⟩ := chk_iff.mp h
      split at h
      · rename_i b2 g2
        obtain ⟨l2, h⟩ := chk_iff.mp h
        refine ⟨_, b0.drop 5, b1.drop 1, b2.drop 1, chk_iff.mpr ⟨l0, ?_⟩, h, ?_, ?_, ?_⟩
        · dsimp only
          rw [g1]
          refine chk_iff.mpr ⟨l1, ?_⟩
          rw [g2]
          exact chk_iff.mpr ⟨l2, rfl⟩
        · rw [List.getElem?_set_ne (by omega), List.getElem?_set_ne (by omega)]
          rw [List.getElem?_set_self (List.getElem?_eq_some_iff.1 g0).1]
          simp [splice, zeroC]
        · rw [List.getElem?_set_ne (by omega)]
          rw [List.getElem?_set_self (List.getElem?_eq_some_iff.1 g1).1]
          simp [splice]
        · rw [List.getElem?_set_self (List.getElem?_eq_some_iff.1 g2).1]
          simp [splice]
      · exact h.elim
    · exact h.elim
  · exact h.elim
theorem res33 {st : St} {i : Nat} {a : Int} {c0 c1 c2 : List PV} {K : PV → Prop} (h6 : st.sl.getD 6 .undef = .ptr i 0) (h7 : st.sl.getD 7 .undef = .ptr (i + 1) 0) (h8 : st.sl.getD 8 .undef = .ptr (i + 2) 0)
    (g0 : st.sg[i]? = some (zeroC ++ c0)) (g1 : st.sg[i + 1]? = some (.int .i64 a :: c1)) (g2 : st.sg[i + 2]? = some (.int .i64 11 :: c2)) (hk : K (.tup [.agg (zeroC.map PV.cstrip), .int .i64 a, .int .i64 11])) : resultsW P Tryz.f33 st K := by
  show resAll P st (fun vs => K (.tup vs)) [.cell 6 25, .cell 7 3, .cell 8 26]
  simp only [resAll, resV, h6, h7, h8, loadV, objGet, g0, g1, g2]
  have e : (loadAt P 25 (zeroC ++ c0) 0 fun v => loadAt P 3 (.int .i64 a :: c1) 0 fun v_1 => loadAt P 26 (.int .i64 11 :: c2) 0 fun v_2 => K (.tup [v.strip.strip, v_1.strip.strip, v_2.strip.strip])) = K (.tup [.agg (zeroC.map PV.cstrip), .int .i64 a, .int .i64 11]) := by kernel_rfl
  rw [e]
  exact hk
theorem stop_inv {I : Nat → Nat → Option Value} {ob : List Nat} {a : Int} {v : Value} (h : Rep I ob (pvS a) v) : v = stopV a := by
  unfold pvS at h
  cases h with
  | iface _ _ x h =>
    cases h with
    | agg _ vs hl h =>
      have := h 0 (by simp)
      have hs : vs.size = 1 := hl.symm
      have e : vs = #[vs.getD 0 Go.undef] := by
        apply Array.ext
        · simp [hs]
        · intro j h1 h2
          have : j = 0 := by omega
          subst this
          simp [Array.getD_eq_getD_getElem?, h1]
      cases hx : vs.getD 0 Go.undef <;> rw [hx] at this <;> cases this
      rw [e, hx]
      rfl
theorem all_sound {n : Nat} {I0 : Nat → Nat → Option Value} {call : Caller} (hcall : CallSound P I0 call) {args : List PV} {sg : List (List PV)} {K : Res → List (List PV) → Prop} (hk : allF n call args sg K) {γ : Gh} {w : World} {cargs : Array Value}
    (hI : LeI I0 γ.I) (hO : Objs γ sg w) (ha : RepArgs γ args cargs) : Calls P 33 cargs w (CallPost γ w K) := by
  obtain ⟨T, size, f, first, caps, rfl, hk⟩ := hk
  refine calls_of_wp_defers F33 (c := Code.seq (Code.at c33 [0]) (Code.seq (Code.region 1 ops1 false) (Code.at c33 [1, 1]))) (by kernel_rfl) ?_
  rw [n33]
  have h0 : Rel (noD γ []) ⟨[.list false T, .int .i64 size, .fn f first caps] ++ List.replicate (38 - 3) .skip, sg⟩ ⟨cargs ++ Array.replicate (38 - cargs.size) Go.undef, []⟩ w := rel_init (m := 38) hO ha
  refine wp_seq (wp_mono (reg_sound hcall (γ := noD γ []) hI keep0 (r0 call n T size f first caps sg) h0) ?_)
  rintro e a1 w1 ⟨rfl, γ1, h1, hE1⟩
  have hsz : a1.tmps.size = 38 := h1.size.trans (by simp [slA])
  have hr6 : Rep γ1.I γ1.ob (.ptr sg.length 0) (a1.eval (.tmp 6)) := h1.slots 6 (by simp [slA])
  have hr7 : Rep γ1.I γ1.ob (.ptr (sg.length + 1) 0) (a1.eval (.tmp 7)) := h1.slots 7 (by simp [slA])
  have hr8 : Rep γ1.I γ1.ob (.ptr (sg.length + 2) 0) (a1.eval (.tmp 8)) := h1.slots 8 (by simp [slA])
  refine wp_seq (reg1 (by omega) ?_)
  generalize hd : (⟨.fn (.func 55) #[a1.eval (.tmp 6), a1.eval (.tmp 7), a1.eval (.tmp 8)], #[]⟩ : Deferred) = d
  have hd0 : a1.defers = [] := h1.defers.trans hE1.D
  rw [hd0]
  have h2 := Rel.toD (D := [d]) (h1.putJ 12 (.func (.func 55) #[] #[a1.eval (.tmp 6), a1.eval (.tmp 7), a1.eval (.tmp 8)]))
  generalize hv : (Value.func (.func 55) #[] #[a1.eval (.tmp 6), a1.eval (.tmp 7), a1.eval (.tmp 8)]) = v12 at h2 ⊢
  have hkk : SW P call n hintA (Code.at c33 [1, 1]) ⟨(slA T size f first caps sg.length (sg.length + 1) (sg.length + 2)).set 12 .undef, sg ++ [zeroC, [.int .i64 0], [.int .i64 0]]⟩ (finW P Tryz.f33 (recov sg.length K)) := hk
  refine wp_mono (rest_sound hcall (γ := noD γ1 [d]) (fun b o v h => hE1.leI _ _ _ (hI _ _ _ h)) keep11 hkk h2) ?_
  rintro e a' w' ⟨hq, hpin⟩
  have hd' : ∀ (γ' : Gh) (st' : St), Rel γ' st' a' w' → Ext (noD γ1 [d]) w1 γ' w' → a'.defers = [d] := fun γ' st' h' hE' => h'.defers.trans hE'.D
  have hext : ∀ (γ' : Gh) (w' : World), Ext (noD γ1 [d]) w1 γ' w' → Ext γ w (noD γ' γ.D) w' := fun γ' w' h => (hE1.trans h.outD).outD
  have hret : ∀ (st' : St) (γ' : Gh), resultsW P Tryz.f33 st' (fun v => K ⟨false, v⟩ st'.sg) → Rel γ' st' a' w' → Ext (noD γ1 [d]) w1 γ' w' → Leaves P Tryz.f33 a'.tmps (CallPost γ w K) a'.defers .returning w' := by
    intro st' γ' hr h' hE'
    rw [hd' _ _ h' hE', ← hd]
    refine leaves_cons (by simp) (inv55 _ _ _ _) ((catch_idle _ _ _ _).mono ?_)
    rintro e u' w'' ⟨rfl, rfl, rfl⟩
    obtain ⟨p, v, γ2, k1, k2, k3, k4, k5⟩ := results_sound h' Tryz.f33 hr
    exact ⟨v, k2, noD γ2 γ.D, ⟨false, p⟩, _, k1, k4.noD, hext _ _ (hE'.trans k5), rfl, k3⟩
  cases e with
  | normal => obtain ⟨st', γ', hr, h', hE'⟩ := hq; exact hret st' γ' hr h' hE'
  | ret => obtain ⟨st', γ', hr, h', hE'⟩ := hq; exact hret st' γ' hr h' hE'
  | exit _ => exact hq.elim
  | goto _ => exact hq.elim
  | outgrown => exact hq.elim
  | panic ch =>
    obtain ⟨v, p, st', γ', rfl, hv, hrec, h', hE'⟩ := hq
    have hp : ∃ a, p = pvS a ∧ recovAt sg.length a (K ⟨false, .tup [.agg (zeroC.map PV.cstrip), .int .i64 a, .int .i64 11]⟩) st'.sg := by
      unfold recov at hrec
      simp only [bcond] at hrec
      split at hrec
      · exact ⟨_, rfl, hrec⟩
      · exact hrec.elim
    obtain ⟨a, rfl, hrec⟩ := hp
    obtain rfl := stop_inv hv
    obtain ⟨s3, c0, c1, c2, hat, hK, g0, g1, g2⟩ := recovAt_get hrec
    have hm : ∀ {p : PV} {v : Value}, Rep γ1.I γ1.ob p v → Rep γ'.I γ'.ob p v := fun h => h.mono hE'.leI hE'.leO
    show Leaves P Tryz.f33 a'.tmps (CallPost γ w K) a'.defers (.panicking [{ v := stopV a, recovered := false }]) w'
    rw [hd' _ _ h' hE', ← hd]
    have ha3 : RepArgs (hide γ') [.ptr sg.length 0, .ptr (sg.length + 1) 0, .ptr (sg.length + 2) 0] #[a1.eval (.tmp 6), a1.eval (.tmp 7), a1.eval (.tmp 8)] := by
      refine ⟨rfl, fun j hj => ?_⟩
      simp only [List.length_cons, List.length_nil] at hj
      have : j = 0 ∨ j = 1 ∨ j = 2 := by omega
      rcases this with rfl | rfl | rfl
      · exact hm hr6
      · exact hm hr7
      · exact hm hr8
    refine leaves_cons (by simp) (inv55 _ _ _ _) ((catch_stop h'.toObjs.hide ha3 hat).mono ?_)
    rintro e u' w'' ⟨rfl, rfl, γ2, sg2, hs2, hO2, hE2⟩
    rw [hs2] at hO2
    show Leaves P Tryz.f33 a'.tmps (CallPost γ w K) [] .returning w''
    have h3 := rel_back h' hO2 hE2
    have hE3 := ext_back hE2 h'.inH
    have hm3 : ∀ {p : PV} {v : Value}, Rep γ1.I γ1.ob p v → Rep (back γ' γ2).I (back γ' γ2).ob p v := fun h => (hm h).mono hE3.leI hE3.leO
    have hp := hpin (by simp)
    have e2 : ∀ s, s ≠ 12 → (a1.put (some 12) v12).tmps.getD s Go.undef = a1.tmps.getD s Go.undef := fun s hs => by
      simp [Act.put, Array.getD_eq_getD_getElem?, Array.getElem?_setIfInBounds_ne (Ne.symm hs)]
    have p6 : Rep (back γ' γ2).I (back γ' γ2).ob (.ptr sg.length 0) (a'.tmps.getD 6 Go.undef) := by
      rw [(hp 6 (by simp)).trans (e2 6 (by decide))]; exact hm3 hr6
    have p7 : Rep (back γ' γ2).I (back γ' γ2).ob (.ptr (sg.length + 1) 0) (a'.tmps.getD 7 Go.undef) := by
      rw [(hp 7 (by simp)).trans (e2 7 (by decide))]; exact hm3 hr7
    have p8 : Rep (back γ' γ2).I (back γ' γ2).ob (.ptr (sg.length + 2) 0) (a'.tmps.getD 8 Go.undef) := by
      rw [(hp 8 (by simp)).trans (e2 8 (by decide))]; exact hm3 hr8
    have hlen : 8 < st'.sl.length := by
      have hs : a'.tmps.size = st'.sl.length := h'.size
      apply Classical.byContradiction
      intro hn
      have : a'.tmps.getD 8 Go.undef = Go.undef := by
        simp [Array.getD_eq_getD_getElem?, Array.getElem?_eq_none (show a'.tmps.size ≤ 8 by omega)]
      rw [this] at p8
      cases p8
    have h4 := ((h3.reslot 6 _ p6).reslot 7 _ p7).reslot 8 _ p8
    have hlen7 : 7 < st'.sl.length := by omega
    have hlen6 : 6 < st'.sl.length := by omega
    obtain ⟨p, v, γ4, k1, k2, k3, k4, k5⟩ := results_sound h4 Tryz.f33 (K := fun v => K ⟨false, v⟩ s3) (res33 (by simp [List.getD_eq_getElem?_getD, List.getElem?_set, hlen, hlen7, hlen6]) (by simp [List.getD_eq_getElem?_getD, List.getElem?_set, hlen, hlen7, hlen6]) (by simp [List.getD_eq_getElem?_getD, List.getElem?_set, hlen, hlen7, hlen6]) g0 g1 g2 hK)
    exact ⟨v, k2, noD γ4 γ.D, ⟨false, p⟩, _, k1, k4.noD, hext _ _ ((hE'.trans hE3).trans k5), rfl, k3⟩
end Al
end Go.Ev
set_option maxRecDepth 20000
namespace Go.Ev
open PV
namespace Fo
open Go.Proofs Go.RowKit
noncomputable abbrev P := Tryz.prog
theorem below_objs {γ : Gh} {sg : List (List PV)} {w w' : World} (hO : Objs γ sg w) (hb : Below w.heap.size w w') : Objs γ sg w' ∧ Ext γ w γ w' := by
  have hS : ∀ t, Same γ w γ w' t := fun t b hg => ⟨hb.block b (hO.inH b t hg), hg, fun _ => rfl⟩
  refine ⟨hO.keep (γ := γ) (γ' := γ) (.refl _) rfl ⟨fun _ => hS _, fun _ _ => hS _⟩ (fun b o v hv => ?_) (fun b t h => Nat.lt_of_lt_of_le (hO.inH b t h) hb.size), hb.size, .refl _, .refl _, rfl, ⟨hb.os, hb.output, hb.tape⟩, fun b h _ => ⟨hb.block b h, rfl, fun _ => rfl⟩⟩
  have hc := hO.imm _ _ _ hv
  rw [hb.cell (p := ⟨b, o, none⟩) (cell_lt hc)]
  exact hc
/-- A value that lies in no memory of its own. -/
theorem post_val {γ : Gh} {sg : List (List PV)} {w w' : World} {K : Res → List (List PV) → Prop} {p : PV} {v : Value} (hO : Objs γ sg w) (hb : Below w.heap.size w w') (hr : Rep γ.I γ.ob p v) (hk : K ⟨false, p⟩ sg) : CallPost γ w K (.returned v) w' :=
  ⟨γ, ⟨false, p⟩, sg, hk, (below_objs hO hb).1, (below_objs hO hb).2, rfl, .inr hr⟩
theorem strRows_get (l : List ByteArray) (i : Nat) : (strRows l)[i]? = (l[i]?).map fun s => [PV.str s] := by simp [strRows]
/-- Strings in a new block. -/
theorem post_strs {γ : Gh} {sg : List (List PV)} {w : World} {K : Res → List (List PV) → Prop} (l : List ByteArray) (el : TypeId) (hO : Objs γ sg w) (hk : K ⟨false, .list false (strRows l)⟩ sg) :
    CallPost γ w K (.returned (.slice (some ⟨w.heap.size, 0, none⟩) l.length l.length)) (w.alloc (.cells (l.map Value.string).toArray el)) := by
  generalize hw : w.alloc (.cells (l.map Value.string).toArray el) = w'
  have hnew : w'.heap[w.heap.size]? = some (.cells (l.map Value.string).toArray el (0, 0)) := by rw [← hw]; exact Go.heap_alloc_new _ _
  have hold : ∀ b, b < w.heap.size → w'.heap[b]? = w.heap[b]? := fun b hb => by rw [← hw]; exact Lib.alloc_old w _ b hb
  have hsz : w'.heap.size = w.heap.size + 1 := by rw [← hw]; simp
  let γ' : Gh := { γ with I := fun b o => if b = w.heap.size then (l[o]?).map Value.string else γ.I b o }
  have hfr := hO.fresh
  have hI : LeI γ.I γ'.I := fun b o v h => by
    show (if b = w.heap.size then (l[o]?).map Value.string else γ.I b o) = some v
    rw [if_neg (by rintro rfl; rw [hfr.2] at h; cases h)]
    exact h
  have hS : ∀ t, Same γ w γ' w' t := fun t b hg => by
    have hlt := hO.inH b t hg
    exact ⟨hold b hlt, hg, fun o => by show (if b = w.heap.size then (l[o]?).map Value.string else γ.I b o) = γ.I b o; rw [if_neg (by omega)]⟩
  have hO' : Objs γ' sg w' := hO.keep (γ := γ) (γ' := γ') hI rfl ⟨fun _ => hS _, fun _ _ => hS _⟩ (fun b o v hv => by
    have hv : (if b = w.heap.size then (l[o]?).map Value.string else γ.I b o) = some v := hv
    by_cases e : b = w.heap.size
    · subst e
      rw [if_pos rfl] at hv
      rw [Lib.cell_of_heap hnew]
      simpa using hv
    · rw [if_neg e] at hv
      have hc := hO.imm _ _ _ hv
      have hlt := cell_lt hc
      simp only [World.cell?, hold b hlt]
      simpa only [World.cell?] using hc) (fun b t h => by have := hO.inH b t h; omega)
  have hE : Ext γ w γ' w' := ⟨by omega, hI, .refl _, rfl, by subst hw; exact ⟨rfl, rfl, rfl⟩, fun b hb _ => ⟨hold b hb, rfl, fun o => by show (if b = w.heap.size then (l[o]?).map Value.string else γ.I b o) = γ.I b o; rw [if_neg (by omega)]⟩⟩
  refine ⟨γ', ⟨false, .list false (strRows l)⟩, sg, hk, hO', hE, rfl, .inr ?_⟩
  have hlen : (strRows l).length = l.length := by simp [strRows]
  have hr : Rep γ'.I γ'.ob (.list false (strRows l)) (.slice (some ⟨w.heap.size, 0, none⟩) (strRows l).length l.length) := by
    refine .list (strRows l) ⟨w.heap.size, 0, none⟩ l.length 1 (fun i j => .string (l.getD i ⟨#[]⟩)) (fun _ => rfl) (by omega) (fun r hr => ?_) (fun i j hi hj => ?_) (fun i j hi hj => rfl) (fun i j hi hj => ?_)
    · obtain ⟨s, _, rfl⟩ := List.mem_map.1 hr; rfl
    · have : j = 0 := by omega
      subst this
      rw [hlen] at hi
      show (if w.heap.size = w.heap.size then (l[0 + (i * 1 + 0)]?).map Value.string else _) = _
      rw [if_pos rfl, Nat.zero_add, Nat.mul_one, Nat.add_zero, List.getElem?_eq_getElem hi]
      simp [List.getD_eq_getElem?_getD, hi]
    · have : j = 0 := by omega
      subst this
      rw [hlen] at hi
      have e : (strRows l).getD i [] = [PV.str (l.getD i ⟨#[]⟩)] := by
        rw [List.getD_eq_getElem?_getD, strRows_get, List.getElem?_eq_getElem hi]
        simp [List.getD_eq_getElem?_getD, hi]
      rw [e]
      exact .str _
  rw [hlen] at hr
  exact hr
theorem arg1 {γ : Gh} {p : PV} {cargs : Array Value} (h : RepArgs γ [p] cargs) : ∃ v, cargs = #[v] ∧ Rep γ.I γ.ob p v := by
  obtain ⟨h1, h2⟩ := h
  have hs : cargs.size = 1 := h1.symm
  have := h2 0 (by simp)
  refine ⟨cargs.getD 0 Go.undef, ?_, this⟩
  apply Array.ext
  · simp [hs]
  · intro j hj1 hj2
    have : j = 0 := by omega
    subst this
    simp [Array.getD_eq_getD_getElem?, hj1]
theorem arg2 {γ : Gh} {p q : PV} {cargs : Array Value} (h : RepArgs γ [p, q] cargs) : ∃ v u, cargs = #[v, u] ∧ Rep γ.I γ.ob p v ∧ Rep γ.I γ.ob q u := by
  obtain ⟨h1, h2⟩ := h
  have hs : cargs.size = 2 := h1.symm
  refine ⟨cargs.getD 0 Go.undef, cargs.getD 1 Go.undef, ?_, h2 0 (by simp), h2 1 (by simp)⟩
  apply Array.ext
  · simp [hs]
  · intro j hj1 hj2
    have : j = 0 ∨ j = 1 := by omega
    rcases this with rfl | rfl <;> simp [Array.getD_eq_getD_getElem?, hj1]
theorem inv_str {I : Nat → Nat → Option Value} {ob : List Nat} {s : ByteArray} {v : Value} (h : Rep I ob (.str s) v) : v = .string s := by cases h; rfl
theorem inv_int {I : Nat → Nat → Option Value} {ob : List Nat} {k : IntKind} {i : Int} {v : Value} (h : Rep I ob (.int k i) v) : v = .int k i := by cases h; rfl
theorem litGo_form : ∀ (k : Nat) (l : List UInt8) (n : Nat) (acc : List UInt8), l.length ≤ k → (litGo l n acc).err = 0 ∨ ∃ e, litGo l n acc = .bad e
  | 0, [], n, acc, _ => .inr ⟨11, by rw [litGo]⟩
  | 0, c :: t, n, acc, hk => by simp at hk
  | k + 1, [], n, acc, _ => .inr ⟨11, by rw [litGo]⟩
  | k + 1, c :: t, n, acc, hk => by
    simp only [List.length_cons] at hk
    by_cases h1 : c.toNat = 34
    · rw [litGo_q h1]
      split
      · exact .inr ⟨_, rfl⟩
      · exact .inl rfl
    · by_cases h2 : c.toNat < 32 ∨ 126 < c.toNat
      · rw [litGo_bad h1 h2]; exact .inr ⟨_, rfl⟩
      · by_cases h3 : c.toNat = 92
        · cases t with
          | nil => rw [litGo_end h3]; exact .inr ⟨_, rfl⟩
          | cons d u =>
            simp only [List.length_cons] at hk
            by_cases h4 : d.toNat = 34 ∨ d.toNat = 92
            · rw [litGo_esc h3 h4]; exact litGo_form k u (n + 2) _ (by omega)
            · by_cases h5 : d.toNat = 110
              · rw [litGo_escn h3 h5]; exact litGo_form k u (n + 2) _ (by omega)
              · rw [litGo_escx h3 (by omega) (by omega) h5]; exact .inr ⟨_, rfl⟩
        · rw [litGo_ch h1 (by omega) (by omega) h3]; exact litGo_form k t (n + 1) _ (by omega)
theorem rt_rep {I : Nat → Nat → Option Value} {ob : List Nat} (k : Int) (t : ByteArray) (a b e : Int) : Rep I ob (tokV k t a b e) (.tuple #[.agg #[.int .i64 k, .string t, .int .i64 a, .int .i64 b], .int .i64 e]) := by
  refine .tup _ _ rfl fun j hj => ?_
  simp only [List.length_cons, List.length_nil] at hj
  have : j = 0 ∨ j = 1 := by omega
  rcases this with rfl | rfl
  · refine .agg _ _ rfl fun j hj => ?_
    simp only [List.length_cons, List.length_nil] at hj
    have : j = 0 ∨ j = 1 ∨ j = 2 ∨ j = 3 := by omega
    rcases this with rfl | rfl | rfl | rfl
    · exact .int _ _
    · exact .str _
    · exact .int _ _
    · exact .int _ _
  · exact .int _ _
theorem lit_rep {I : Nat → Nat → Option Value} {ob : List Nat} (l : List UInt8) : Rep I ob (rtV (litR l) 0) (.tuple #[.agg #[.int .i64 (litR l).kind, .string (tx (litR l).text), .int .i64 0, .int .i64 (litR l).len], .int .i64 (litR l).err]) := by
  have hf := litGo_form (l.drop 1).length (l.drop 1) 1 [] (Nat.le_refl _)
  unfold litR rtV
  generalize litGo (l.drop 1) 1 [] = r at hf ⊢
  rcases hf with h | ⟨e, rfl⟩
  · rw [if_pos h, h]
    have e0 : (0 : Int) + (r.len : Int) = (r.len : Int) := by omega
    rw [e0]
    exact rt_rep _ _ _ _ _
  · by_cases h : (RK.bad e).err = 0
    · rw [if_pos h, h]
      exact rt_rep _ _ _ _ _
    · rw [if_neg h]
      exact rt_rep _ _ _ _ _
theorem hi9 : (P.info? 9).map (fun i => (i.zero, i.size, i.bytes)) = some (some (.string ByteArray.empty), 1, 16) := by kernel_rfl
theorem idx_one (c : UInt8) : ∀ s : List UInt8, Lib.index s [c] = Lib.indexByte s c
  | [] => rfl
  | b :: l => by
    have e : [c].isPrefixOf (b :: l) = (b == c) := by
      show ((c == b) && true) = (b == c)
      rw [Bool.and_true, Bool.eq_iff_iff, beq_iff_eq, beq_iff_eq]
      exact eq_comm
    rw [Lib.index, Lib.indexByte, idx_one c l, e]
theorem cnt : Lib.countB levelText ⟨#[126]⟩ = 5 := by kernel_rfl
theorem pieces : Lib.splitB ⟨#[126]⟩ 0 5 levelText = rawLevels := by kernel_rfl
theorem gen_split (w : World) : Calls P 114 #[.string levelText, .string ⟨#[126]⟩, .int .i64 0, .int .i64 (-1)] w fun e w' => e = .returned (.slice (some ⟨w.heap.size, 0, none⟩) 6 6) ∧ w' = w.alloc (.cells (rawLevels.map Value.string).toArray 9) := by
  have c := Any.strings_genSplit_core Tryz.lays221 hi9 levelText ⟨#[126]⟩ 0 (-1) 6 w (by decide) (by decide) (by decide)
    (fun x c hx => (Tryz.strings_Index_one x 126 (w.alloc (.cells c 9))).mono fun e w' h => ⟨h.1.trans (by rw [← idx_one]), h.2⟩) ((Tryz.strings_Count_one levelText 126 w).mono fun e w' h => ⟨h.1.trans (by kernel_rfl), h.2⟩) (by decide) (by decide) (by rw [cnt]; decide)
  refine c.mono ?_
  rintro e w' ⟨rfl, rfl⟩
  have e1 : (6 - 1 : Nat) = 5 := rfl
  rw [e1, pieces]
  exact ⟨rfl, rfl⟩
theorem split_calls (w : World) : Calls P 71 #[.string levelText, .string ⟨#[126]⟩] w fun e w' => e = .returned (.slice (some ⟨w.heap.size, 0, none⟩) 6 6) ∧ w' = w.alloc (.cells (rawLevels.map Value.string).toArray 9) := by
  have c := gen_split w
  go_enter Tryz.func71, Tryz.ntmps71
  go_wp2_with (go_at_call 114; refine c.mono ?_; rintro e w' ⟨rfl, hw⟩; rw [hw])
  go_ret
  exact ⟨rfl, rfl⟩
theorem fields_calls (s : ByteArray) (l : List ByteArray) (hsl : (s, l) ∈ fieldsT) (w : World) (hT : ∀ c : Nat, c < 256 → w.cell? ⟨0, c, none⟩ = some (.int .u8 (if Lib.isSp (UInt8.ofNat c) then 1 else 0))) :
    Calls P 113 #[.string s] w fun e w' => e = .returned (.slice (some ⟨w.heap.size, 0, none⟩) l.length l.length) ∧ w' = w.alloc (.cells (l.map Value.string).toArray 9) := by
  have hf : (Lib.fields s.data.toList).map tx = l ∧ s.size < 4294967281 ∧ (s.data.toList.all fun b => decide (b.toNat < 128)) = true := by
    simp only [fieldsT, List.mem_cons, Prod.mk.injEq, List.not_mem_nil, or_false] at hsl
    rcases hsl with ⟨rfl, rfl⟩ | ⟨rfl, rfl⟩ | ⟨rfl, rfl⟩ | ⟨rfl, rfl⟩ | ⟨rfl, rfl⟩ | ⟨rfl, rfl⟩ <;> exact ⟨by kernel_rfl, by decide, by decide⟩
  obtain ⟨rfl, h2, h3⟩ := hf
  refine (Any.strings_Fields_core Tryz.lays157 hi9 s w h2 (fun j b hb => by simpa using List.all_eq_true.1 h3 b (List.mem_of_getElem? hb)) hT).mono ?_
  rintro e w' ⟨rfl, rfl⟩
  refine ⟨by rw [List.length_map], ?_⟩
  rw [List.map_map]
  rfl
/-- EVERY FUNCTION THAT IS NOT EVALUATED KEEPS WHAT IT PROMISES. -/
theorem for_sound {n : Nat} {I0 : Nat → Nat → Option Value} (hT : ∀ c : Nat, c < 256 → I0 0 c = some (.int .u8 (if Lib.isSp (UInt8.ofNat c) then 1 else 0))) :
    ∀ f g, (En n).foreign f = some g → ∀ call, CallSound (En n).P I0 call → ∀ args sg K, g call args sg K → ∀ γ w cargs, LeI I0 γ.I → Objs γ sg w → RepArgs γ args cargs → Calls (En n).P f cargs w (CallPost γ w K) := by
  intro f g hf call hcall args sg K hk γ w cargs hI hO ha
  have hf : foreignOf n f = some g := hf
  unfold foreignOf at hf
  split at hf
  · injection hf with hf; subst hf
    exact Al.all_sound hcall hk hI hO ha
  · injection hf with hf; subst hf
    obtain ⟨rfl, hk⟩ := hk
    obtain ⟨v, u, rfl, hv, hu⟩ := arg2 ha
    obtain rfl := inv_str hv
    obtain rfl := inv_str hu
    refine (split_calls w).mono ?_
    rintro e w' ⟨rfl, rfl⟩
    exact post_strs rawLevels 9 hO hk
  · injection hf with hf; subst hf
    obtain ⟨s, l, hsl, rfl, hk⟩ := hk
    obtain ⟨v, rfl, hv⟩ := arg1 ha
    obtain rfl := inv_str hv
    refine (fields_calls s l hsl w (fun c hc => hO.imm _ _ _ (hI _ _ _ (hT c hc)))).mono ?_
    rintro e w' ⟨rfl, rfl⟩
    exact post_strs l 9 hO hk
  · injection hf with hf; subst hf
    obtain ⟨s, rfl, hk⟩ := hk
    obtain ⟨v, rfl, hv⟩ := arg1 ha
    obtain rfl := inv_str hv
    refine (tok_keyword s w).mono ?_
    rintro e w' ⟨rfl, hb⟩
    exact post_val hO hb (.bool _) hk
  · injection hf with hf; subst hf
    obtain ⟨s, rfl, h0, hs, hk⟩ := hk
    obtain ⟨v, rfl, hv⟩ := arg1 ha
    obtain rfl := inv_str hv
    refine (tok_literal s w hs h0).mono ?_
    rintro e w' ⟨rfl, hb⟩
    exact post_val hO hb (lit_rep _) hk
  · injection hf with hf; subst hf
    obtain ⟨s, c, rfl, hk⟩ := hk
    obtain ⟨v, u, rfl, hv, hu⟩ := arg2 ha
    obtain rfl := inv_str hv
    obtain rfl := inv_int hu
    refine (Tryz.strings_IndexByte s c w).mono ?_
    rintro e w' ⟨rfl, rfl⟩
    exact post_val hO (.refl _ _) (.int _ _) hk
  · injection hf with hf; subst hf
    obtain ⟨s, c, rfl, hk⟩ := hk
    obtain ⟨v, u, rfl, hv, hu⟩ := arg2 ha
    obtain rfl := inv_str hv
    obtain rfl := inv_int hu
    refine (Tryz.stringslite_IndexByte s c w).mono ?_
    rintro e w' ⟨rfl, rfl⟩
    exact post_val hO (.refl _ _) (.int _ _) hk
  · cases hf
end Fo
end Go.Ev
namespace Go.Ev
open PV Go.RowKit
/-- What is there when a law is called stays as it is. -/
def γ0 (W : World) : Gh := { I := fun b o => W.cell? ⟨b, o, none⟩, ob := [], G := fun _ => none }
theorem γ0_objs (W : World) : Objs (γ0 W) [] W := ⟨fun _ _ _ h => h, (fun _ _ h => by cases h), rfl, (fun i h => by cases h)⟩
theorem law_calls {n k f : Nat} {args : List PV} {cargs : Array Value} {W : World} (hT : ∀ c : Nat, c < 256 → W.cell? ⟨0, c, none⟩ = some (.int .u8 (if Lib.isSp (UInt8.ofNat c) then 1 else 0)))
    (h : ∀ K : Res → Out, (∀ e, K ⟨false, .bool true⟩ e) → callW (En n) k f args [] K) (ha : RepArgs (γ0 W) args cargs) :
    Calls Go.Proofs.Tryz.prog f cargs W fun e W' => e = .returned (.bool true) ∧ Below W.heap.size W W' := by
  refine (callW_sound (En n) Al.noNG (γ0 W).I (Fo.for_sound hT) k f args [] (fun r _ => r = ⟨false, .bool true⟩) (h _ fun _ => rfl) (γ0 W) W cargs (.refl _) (γ0_objs W) ha).mono ?_
  rintro e W' ⟨γ', r, sg', rfl, hO, hE, he⟩
  have hb : Below W.heap.size W W' := ⟨hE.io.1, hE.io.2.2, hE.io.2.1, hE.size, fun b hb => (hE.keep b hb (.inl rfl)).1⟩
  cases e with
  | returned v =>
    obtain ⟨_, hr⟩ := he
    rcases hr with ⟨rows, h, _⟩ | hr
    · cases h
    · cases hr; exact ⟨rfl, hb⟩
  | panicked ch => obtain ⟨h, _⟩ := he; cases h
  | outgrown => exact he.elim
theorem args1 {W : World} {p : PV} {v : Value} (h : Rep (γ0 W).I [] p v) : RepArgs (γ0 W) [p] #[v] := ⟨rfl, fun j hj => by
  simp only [List.length_singleton] at hj
  obtain rfl : j = 0 := by omega
  exact h⟩
end Go.Ev
namespace Go.Proofs.YtmofhelddcnecaaGreatDoor
open Go.ChangeShapes Go.WideShapes Go.ChangeAt Go.RowKit
open Go.ChangeMaps (open_string shut_string)
theorem own : ownKnob Tryz.prog.godebug = none := by kernel_rfl
/-- What is listed. -/
abbrev laidL : List (String × DataW Unit) := [("unicode/utf8.acceptRanges", Rows.laid_unicode_utf8_acceptRanges), ("unicode.White_Space", Rows.laid_unicode_White_Space), ("strings.asciiSpace", Rows.laid_strings_asciiSpace), ("unicode/utf8.first", Rows.laid_unicode_utf8_first)]
theorem gSpace : Tryz.prog.globalNamed "strings.asciiSpace" = some 0 := by kernel_rfl
theorem tSpace : (Tryz.prog.globals[0]?).map (·.type) = some 103 := by kernel_rfl
theorem dSpace : (Rows.laid_strings_asciiSpace : DataW Unit) = Lib.tabData .u8 Lib.asciiSpaceTab := by kernel_rfl
/-- What the condition gives: the table of blanks. -/
theorem space_of_laid {W : World} (hL : laidMetH Tryz.prog laidL W) : ∀ c : Nat, c < 256 → W.cell? ⟨0, c, none⟩ = some (.int .u8 (if Lib.isSp (UInt8.ofNat c) then 1 else 0)) := by
  rw [MakeChecks.laidMetH_plain _ _ _ (by kernel_rfl)] at hL
  have hr := Lib.laidMet.reads hL (n := "strings.asciiSpace") (d := Rows.laid_strings_asciiSpace) (.tail _ (.tail _ (.head _)))
  obtain ⟨g, t, cs, fuel, p, hg, ht, hv, hd⟩ := hr
  obtain rfl := Option.some.inj (gSpace.symm.trans hg)
  obtain rfl := Option.some.inj (tSpace.symm.trans ht)
  rw [dSpace] at hd
  have hc := Lib.cells_of_tab Tryz.underlying103 Tryz.underlying5 (by kernel_rfl) (by kernel_rfl) hd
  have htab : Lib.TabIs Tryz.prog W "strings.asciiSpace" .u8 Lib.asciiSpaceTab := by
    unfold Lib.TabIs
    rw [hv, ← hc]
  intro c hc
  rw [htab.cell gSpace c (by rw [Lib.asciiSpaceTab_length]; exact hc), Lib.asciiSpaceTab_at c hc]
theorem met (os : Os) (args : Array Value) : laidMetH Tryz.prog laidL ((World.laidAll Tryz.prog os laidL).forCall (fun _ _ => 0) ⟨#[], args, []⟩).memory := by
  rw [MakeChecks.laidMetH_plain _ _ _ (by kernel_rfl)]
  exact laidMet_laidAll _ (by kernel_rfl) (by kernel_rfl)
end Go.Proofs.YtmofhelddcnecaaGreatDoor
