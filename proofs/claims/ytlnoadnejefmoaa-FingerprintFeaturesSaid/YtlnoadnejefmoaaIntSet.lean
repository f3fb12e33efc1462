/- A map from whole numbers to bools that the call makes and in which every entry is true: what a store, a look-up and a range over it do. No condition. -/
import Derived.Test.YtlnoadnejefmoaaTkProg
import Derived.Maps.RangeWalk
import Derived.Maps.Views
import Derived.Maps.OwnOps
set_option linter.unusedVariables false
set_option linter.unusedSimpArgs false
namespace Go.Proofs.Ytlnoadnejefmoaa
open Go.RowKit Go.Maps
def T1 : DataW Unit := .lit (.bool true)
def litI (x : Int) : Lit := .int .i64 x
def wfI (x : Int) : Prop := (Lit.int .i64 x).wf = true
theorem wfI_iff (x : Int) : wfI x ↔ -9223372036854775808 ≤ x ∧ x ≤ 9223372036854775807 := by
  unfold wfI
  rw [show ((Lit.int .i64 x).wf = true) = ((decide (IntKind.i64.min ≤ x) && decide (x ≤ IntKind.i64.max)) = true) from rfl]
  simp [IntKind.min, IntKind.max, IntKind.bits, IntKind.signed]
theorem keyI (x : Int) : WideAt.IsKeyLit (litI x) := by unfold litI; trivial
theorem sameI (x y : Int) : (litI x).sameKey (litI y) = decide (x = y) := by
  by_cases h : x = y
  · subst h; rw [WideAt.sameKey_self (keyI x), decide_eq_true rfl]
  · rw [decide_eq_false h, sameKey_ne (fun e => h (by injection e))]
def setD (l : List Int) : DataW Unit := setOf T1 (l.map litI)
theorem has_setD (l : List Int) (x : Int) : has (setD l) (litI x) = decide (x ∈ l) := by
  unfold setD
  rw [has_setOf _ _ _ (fun y hy => by obtain ⟨z, _, rfl⟩ := List.mem_map.1 hy; exact keyI z)]
  rw [Bool.eq_iff_iff, decide_eq_true_eq, List.any_map, List.any_eq_true]
  constructor
  · rintro ⟨y, hy, h⟩
    simp only [Function.comp, sameI, decide_eq_true_eq] at h
    exact h ▸ hy
  · intro h
    exact ⟨x, h, by simp [sameI]⟩
theorem at_fold (k : Lit) (z : DataW Unit) (hk : WideAt.IsKeyLit k) : ∀ (acc : List Lit) (m : DataW Unit), IsMap m → (∀ x ∈ acc, WideAt.IsKeyLit x) → (acc.foldl (fun m x => m.put x T1) m).atKey k z = if acc.any (fun x => x.sameKey k) then T1 else m.atKey k z
  | [], m, _, _ => rfl
  | x :: r, m, hm, h => by
    rw [List.foldl_cons, at_fold k z hk r (m.put x T1) (hm.put x T1) (fun y hy => h y (by simp [hy])), List.any_cons]
    by_cases e : k = x
    · subst e
      rw [WideAt.sameKey_self hk, Bool.true_or, if_pos rfl, atKey_put_same hm hk]
      split <;> rfl
    · rw [sameKey_ne (fun e' => e e'.symm), Bool.false_or, atKey_put_other e]
theorem at_setD (l : List Int) (x : Int) : (setD l).atKey (litI x) (.lit (.bool false)) = .lit (.bool (decide (x ∈ l))) := by
  have h := at_fold (litI x) (.lit (.bool false)) (keyI x) (l.map litI) (.map []) isMap_empty (fun y hy => by obtain ⟨z, _, rfl⟩ := List.mem_map.1 hy; exact keyI z)
  refine (show (setD l).atKey _ _ = _ from h).trans ?_
  have h2 := has_setD l x
  unfold setD at h2
  rw [has_setOf _ _ _ (fun y hy => by obtain ⟨z, _, rfl⟩ := List.mem_map.1 hy; exact keyI z)] at h2
  rw [h2]
  by_cases hx : x ∈ l
  · rw [decide_eq_true hx]; rfl
  · rw [decide_eq_false hx]; rfl
theorem setD_snoc (l : List Int) (x : Int) : setD (l ++ [x]) = (setD l).put (litI x) T1 := by
  unfold setD
  rw [List.map_append]
  exact setOf_snoc _ _ _
/-- Block b is the set of the numbers of l. -/
def IntSet (w : World) (b : Nat) (l : List Int) : Prop := w.ownsMap Try.prog 3 (plainElem Try.prog 4) b l.length (setD l)
theorem IntSet.made (w : World) : IntSet (w.alloc (.map #[] 0)) w.heap.size [] := World.ownsMap_made _ _ _ _
theorem IntSet.lt {w : World} {b : Nat} {l : List Int} (h : IntSet w b l) : b < w.heap.size := World.ownsMap.lt h
theorem IntSet.below {w w' : World} {b B : Nat} {l : List Int} (h : IntSet w b l) (hb : Below B w w') (hB : b < B) : IntSet w' b l := by
  obtain ⟨es, clock, h1, F, hs, hD⟩ := h
  exact ⟨es, clock, (hb.block b hB).trans h1, F, hs, hD⟩
theorem IntSet.grown {w w' : World} {b : Nat} {l : List Int} (h : IntSet w b l) {row : Option Nat} (hg : w.grownBy w' row) (hne : some b ≠ row) : IntSet w' b l := World.ownsMap.kept h hg hne
theorem IntSet.alloc {w : World} {b : Nat} {l : List Int} (h : IntSet w b l) (o : Obj) : IntSet (w.alloc o) b l := World.ownsMap.alloc h o
theorem IntSet.drewN {w : World} {b : Nat} {l : List Int} (h : IntSet w b l) (n : Nat) : IntSet (w.drewN n) b l := h
theorem lawI : Keyed Try.prog 3 := int_keyed Try.underlying3
theorem plainElem_bool_inv {P : Program} {e : TypeId} (he : P.underlying e = some .bool) {v : Value} {z : DataW Unit × List MemPlace} (h : plainElem P e v = some z) : ∃ b, v = .bool b ∧ z = (.lit (.bool b), []) := by
  unfold plainElem at h
  rw [he] at h
  cases v <;> simp at h
  exact ⟨_, rfl, h.symm⟩
theorem IntSet.update {w : World} {b : Nat} {l : List Int} (h : IntSet w b l) (hn : l.length < maxLen) (y : Int) (hw : wfI y) :
    ∃ w', (Instr.mapUpdate 68 (.map (some b)) (.int .i64 y) (.bool true)).run Try.prog w = .ok () w' ∧ IntSet w' b (l ++ [y]) ∧ w.grownBy w' (some b) := by
  obtain ⟨w', h1, h2, h3⟩ := World.ownsMap.update h lawI Try.underlying68 hn (keyOf_int_mk Try.underlying3 hw) (plainElem_bool (H := Unit) Try.underlying4 true)
  exact ⟨w', h1, by unfold IntSet; rw [List.length_append, setD_snoc]; exact h2, h3⟩
section
variable {ops : Array Oper} {rest : List Oper} {o : Oper} {a : Act} {Q : Exit → Act → World → Prop}
theorem wpList_insert_int (w : World) (hg : o.guard = none) (m x v : Operand) (t : TypeId) (hop : o.op = Op.mapUpdate t m x v) (ht : Try.prog.underlying t = some (.map 3 4)) (b : Nat) (l : List Int)
    (hm : a.eval m = .map (some b)) (hown : IntSet w b l) (hn : l.length < maxLen) (y : Int) (hx : a.eval x = .int .i64 y) (hw : wfI y) (hv : a.eval v = .bool true)
    (hK : ∀ w', IntSet w' b (l ++ [y]) → w.grownBy w' (some b) → wpList Try.prog ops Q rest (a.put o.dst undef) w') :
    wpList Try.prog ops Q (o :: rest) a w :=
  wpList_mapUpdate_own w hg m x v t hop 3 4 lawI ht (plainElem Try.prog 4) b l.length (setD l) hm hown hn _ _ (litI y) hx hv (keyOf_int_mk Try.underlying3 hw) T1 [] (plainElem_bool Try.underlying4 true)
    (fun w' h1 h2 => hK w' (by unfold IntSet; rw [List.length_append, setD_snoc]; exact h1) h2)
theorem wpList_lookup_int (w : World) (hg : o.guard = none) (m x : Operand) (t : TypeId) (hop : o.op = Op.lookup t m x false) (ht : Try.prog.underlying t = some (.map 3 4)) (b : Nat) (l : List Int)
    (hm : a.eval m = .map (some b)) (hown : IntSet w b l) (y : Int) (hx : a.eval x = .int .i64 y) (hw : wfI y)
    (hK : wpList Try.prog ops Q rest (a.put o.dst (.bool (decide (y ∈ l)))) w) :
    wpList Try.prog ops Q (o :: rest) a w := by
  refine wpList_plain hg fun K' hK' => ?_
  have hz : (zeroValue 4).run Try.prog w = .ok (.bool false) w := by kernel_rfl
  obtain ⟨v, ps, hrun, hv⟩ := World.ownsMap.lookup hown lawI ht hz (plainElem_bool Try.underlying4 false) (keyOf_int_mk Try.underlying3 hw)
  obtain ⟨c, rfl, hc⟩ := plainElem_bool_inv Try.underlying4 hv
  have := (Prod.mk.inj hc).1
  rw [show (Lit.int .i64 y) = litI y from rfl, at_setD] at this
  injection this with this
  injection this with this
  subst this
  unfold Oper.wp
  simp [execOp, hop, hm, hx, hrun, Result.andThen]
  exact hK' _ _ hK
end
end Go.Proofs.Ytlnoadnejefmoaa
