/- Trees that came in read as plain trees; SyntaxShapes comes to true. -/
import Derived.Test.YtmofhelddcnecaaGreatDoorU6
import Derived.Test.YtmofhelddcnecaaGreatDoorUN
import Derived.ProofKit
import Derived.SizedLaws
import Derived.ChangeArms
import Derived.WideKeyArgs
import Derived.ChangeOld
import Derived.ChangeMaps5
import Derived.Test.YtmofhelddcnecaaGreatDoorUW
import Derived.Test.YtmofhelddcnecaaGreatDoorUND
import Derived.Test.YtmofhelddcnecaaGreatDoorULd
set_option linter.unusedVariables false
set_option linter.unusedSimpArgs false
namespace Go.Ev
open PV Go.RowKit Go.Proofs
/-- A node's cells stand for a tree. -/
def NodeAt (W : World) (t : Tree) (cs : List Value) : Prop := cs.length = 5 ∧ ∀ j, j < 5 → Rep (γ0 W).I [] ((nodeRow t).getD j .undef) (cs.getD j Go.undef)
theorem pickT {α : Type} {p : Nat → α → Prop} : ∀ {n : Nat}, (∀ i, i < n → ∃ x, p i x) → ∃ xs : List α, xs.length = n ∧ ∀ i x, xs[i]? = some x → p i x
  | 0, _ => ⟨[], rfl, fun i x h => by simp at h⟩
  | n + 1, h => by
    obtain ⟨xs, h1, h2⟩ := pickT (n := n) (fun i hi => h i (by omega))
    obtain ⟨y, hy⟩ := h n (by omega)
    refine ⟨xs ++ [y], by simp [h1], fun i x hx => ?_⟩
    rcases Nat.lt_or_ge i n with hi | hi
    · rw [List.getElem?_append_left (by omega)] at hx
      exact h2 i x hx
    · rw [List.getElem?_append_right (by omega)] at hx
      obtain ⟨rfl⟩ : i = n := by
        have := (List.getElem?_eq_some_iff.1 hx).1
        simp at this
        omega
      rw [h1, Nat.sub_self] at hx
      obtain rfl : y = x := by simpa using hx
      exact hy
theorem node_cell (t : Tree) {j : Nat} (hj : j < 5) : ((nodeRow t).getD j .undef).isCell = true := by
  cases t
  have : j = 0 ∨ j = 1 ∨ j = 2 ∨ j = 3 ∨ j = 4 := by omega
  rcases this with rfl | rfl | rfl | rfl | rfl <;> rfl
/-- Of a size that memory allows. -/
def Sized (t : Tree) : Prop := Wid (reachBytes + 1) t ∧ Txt (reachBytes + 1) t
theorem weights_all {H : Type} {P : Program} {e : TypeId} : ∀ {l : List (DataW H)} {d : DataW H}, d ∈ l → ∀ n ∈ d.weights P e, n ∈ DataW.weightsAll P e l
  | x :: r, d, h, n, hn => by
    rw [DataW.weightsAll]
    rcases List.mem_cons.1 h with rfl | h
    · exact List.mem_append_left _ hn
    · exact List.mem_append_right _ (weights_all h n hn)
/-- Nothing in a datum is larger than memory. -/
def Fits {H : Type} (P : Program) (t : TypeId) (d : DataW H) : Prop := ∀ n ∈ d.weights P t, n ≤ reachBytes
/-- What came in reads as before, where old memory has not changed. -/
theorem trod_lt {P : Program} {w : World} {H : Type} {enc : TypeId × Value → H} {base : Nat} {spare : Nat → Bool} {held : Bool} : ∀ (n : Nat) (t : TypeId) (cs : List Value) (x : DataW H × List MemPlace), DataW.trod enc P w base spare held n t cs = some x → ∀ p ∈ x.2, p.block < w.heap.size
  | 0, t, cs, x, h => by simp [DataW.trod] at h
  | n + 1, t, cs, x, h => by
    rw [DataW.trod_step] at h
    exact DataW.trodStep_lt (trod_lt n) h
theorem stays {P : Program} {w : World} {t : TypeId} {H : Type} {enc : TypeId × Value → H} {v : Value} {d : DataW H} {ps : List MemPlace} {w' : World} (hl : laidOutB P = true) (hr : P.readableRec t = true) (hrow : t < P.types.size) (hb : Below w.heap.size w w')
    (h : DataW.Trod enc P w 0 (fun _ => true) true t v d ps) : DataW.Trod enc P w' 0 (fun b => decide (b < w.heap.size)) true t v d ps := by
  have hlt : ∀ p ∈ ps, p.block < w.heap.size := by
    obtain ⟨n, hn⟩ := h
    exact trod_lt n t _ _ hn
  refine Go.WideElems.Trod_stays hl hr hrow h (fun p hp => ?_) (fun p hp => decide_eq_true (hlt p hp))
  have hp' := hlt p hp
  cases p with
  | cell b off => exact hb.cell (p := ⟨b, off, none⟩) hp'
  | map b => exact hb.block b hp'
theorem laidOut : laidOutB Tryz.prog = true := by kernel_rfl
end Go.Ev
set_option linter.unusedSectionVars false
set_option maxRecDepth 4000
namespace Go.Ev
open PV
section
variable {n : Nat} {sg : List (List PV)} {K : Res → Out}
end
end Go.Ev
namespace Go.Ev
open PV Go.RowKit
theorem rep_node {W : World} {t : Tree} {cs : Array Value} (h : NodeAt W t cs.toList) : Rep (γ0 W).I [] (nodeV t) (.agg cs) := by
  have e : (nodeRow t).length = 5 := by cases t; rfl
  have hv : nodeV t = .agg (nodeRow t) := by cases t; rfl
  rw [hv]
  refine .agg _ _ (by rw [e, ← Array.length_toList, h.1]) fun j hj => ?_
  have := h.2 j (by omega)
  rw [show cs.getD j Go.undef = cs.toList.getD j Go.undef by simp [Array.getD_eq_getD_getElem?, List.getD_eq_getElem?_getD]]
  exact this
end Go.Ev
