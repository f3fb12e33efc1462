/- Data that came in, read as lists and structures: slices of whatever elements; and that they read as before where old memory has not changed. No condition. -/
import Derived.Test.YtlogobmimacpgaaWWords
import Derived.Test.YtlogobmimacpgaaProg
import Derived.ChangeArms
import Derived.WideKeyArgs
import Derived.ChangeOld
import Derived.Deep.Slices
import Derived.ChangeMaps5
import Derived.Below
import Derived.KernelRfl
set_option linter.unusedVariables false
set_option linter.unusedSimpArgs false
namespace Go.Proofs.Ytlogobmimacpgaa
open Go.RowKit Go.Proofs.YtlogobmimacpgaaW.PrintWords

/-- At a depth n a datum of type t reads as one of the kind d, of which V holds. -/
def OpensAt {α : Type} (P : Program) (w : World) (n : Nat) (t : TypeId) (d : Kd α) (V : α → Prop) : Prop :=
  ∀ {H : Type} {enc : TypeId × Value → H} {base : Nat} {spare : Nat → Bool} {held : Bool} {cs : List Value} {x : DataW H × List MemPlace}, DataW.trod enc P w base spare held n t cs = some x → ∃ a, d.K w a cs ∧ V a
section
variable {P : Program} {w : World} {t e : TypeId}
theorem pick {α : Type} {p : Nat → α → Prop} : ∀ {n : Nat}, (∀ i, i < n → ∃ x, p i x) → ∃ xs : List α, xs.length = n ∧ ∀ i x, xs[i]? = some x → p i x
  | 0, _ => ⟨[], rfl, fun i x h => by simp at h⟩
  | n + 1, h => by
    obtain ⟨xs, h1, h2⟩ := pick (n := n) (fun i hi => h i (by omega))
    obtain ⟨y, hy⟩ := h n (by omega)
    refine ⟨xs ++ [y], by simp [h1], fun i x hx => ?_⟩
    rcases Nat.lt_or_ge i n with hi | hi
    · rw [List.getElem?_append_left (by omega)] at hx
      exact h2 i x hx
    · rw [List.getElem?_append_right (by omega)] at hx
      obtain ⟨rfl⟩ : i = n := by
        have := (List.getElem?_eq_some_iff.1 hx).1
        simp at this
        omega
      rw [h1, Nat.sub_self] at hx
      obtain rfl : y = x := by simpa using hx
      exact hy
theorem opens_int {n : Nat} {k : IntKind} (ht : P.underlying t = some (.int k)) : OpensAt P w n t (Kd.int k) (fun z => (Lit.int k z).wf = true) := fun h => by
  obtain ⟨z, rfl, _, hw⟩ := DataW.trod_int ht h
  exact ⟨z, rfl, hw⟩
/-- A slice, as a row that is read. -/
theorem opens_row {α : Type} {d : Kd α} {V : α → Prop} {n : Nat} (ht : P.underlying t = some (.slice e)) (hsz : P.cellsOf e = d.sz) (hd : ∀ m, m < n → OpensAt P w m e d V) {H : Type} {enc : TypeId × Value → H} {base : Nat} {spare : Nat → Bool} {held : Bool} {cs : List Value} {x : DataW H × List MemPlace}
    (h : DataW.trod enc P w base spare held n t cs = some x) : ∃ (A : Option Addr) (c : Nat) (xs : List α), cs = [.slice A xs.length c] ∧ xs.length ≤ c ∧ xs.length ≤ maxLen ∧ d.C w A xs.length xs ∧ ∀ a ∈ xs, V a := by
  rcases DataW.trod_slice ht h with ⟨rfl, _⟩ | ⟨a, len, cap, elems, rest, m, rfl, rfl, _, hb, hl, hm, hlen, hel, _, _⟩
  · exact ⟨none, 0, [], rfl, Nat.le_refl _, Nat.zero_le _, ⟨rfl, Nat.zero_le _, fun h => absurd h (Nat.lt_irrefl 0)⟩, by simp⟩
  · obtain ⟨xs, h1, h2⟩ := pick (n := len) (p := fun i v => ∃ c : List Value, w.cells? base (a.add (i * P.cellsOf e)) (P.cellsOf e) = some c ∧ d.K w v c ∧ V v) (fun i hi => by
      have h1 := hel i hi
      rw [List.getElem?_eq_getElem (by omega)] at h1
      obtain ⟨c, h2, h3⟩ := Option.bind_eq_some_iff.1 h1
      obtain ⟨v, hv⟩ := hd m (by omega) h3
      exact ⟨v, c, h2, hv⟩)
    subst h1
    refine ⟨some a, cap, xs, rfl, hl, by omega, ⟨rfl, by unfold maxLen at hm; omega, fun hn => ⟨a, rfl, fun j p hj => ?_⟩⟩, fun v hv => ?_⟩
    · obtain ⟨c, hc, hK, _⟩ := h2 j p hj
      obtain ⟨_, hcl, hcc⟩ := World.cells?_some hc
      refine ⟨c, by rw [hcl, hsz], hK, fun i u hu => ?_⟩
      have hi : i < P.cellsOf e := by have := (List.getElem?_eq_some_iff.1 hu).1; omega
      have := hcc i hi
      rw [hu] at this
      rw [← this, hsz]
      rw [Go.Deep.add_add]
    · obtain ⟨i, hi⟩ := List.getElem?_of_mem hv
      obtain ⟨_, _, _, hV⟩ := h2 i v hi
      exact hV
/-- What came in reads as before, where old memory has not changed. -/
theorem trod_lt {H : Type} {enc : TypeId × Value → H} {base : Nat} {spare : Nat → Bool} {held : Bool} : ∀ (n : Nat) (t : TypeId) (cs : List Value) (x : DataW H × List MemPlace), DataW.trod enc P w base spare held n t cs = some x → ∀ p ∈ x.2, p.block < w.heap.size
  | 0, t, cs, x, h => by simp [DataW.trod] at h
  | n + 1, t, cs, x, h => by
    rw [DataW.trod_step] at h
    exact DataW.trodStep_lt (trod_lt n) h
theorem stays {H : Type} {enc : TypeId × Value → H} {v : Value} {d : DataW H} {ps : List MemPlace} {w' : World} (hl : laidOutB P = true) (hr : P.readableRec t = true) (hrow : t < P.types.size) (hb : Below w.heap.size w w')
    (h : DataW.Trod enc P w 0 (fun _ => true) true t v d ps) : DataW.Trod enc P w' 0 (fun b => decide (b < w.heap.size)) true t v d ps := by
  have hlt : ∀ p ∈ ps, p.block < w.heap.size := by
    obtain ⟨n, hn⟩ := h
    exact trod_lt n t _ _ hn
  refine Go.WideElems.Trod_stays hl hr hrow h (fun p hp => ?_) (fun p hp => decide_eq_true (hlt p hp))
  have hp' := hlt p hp
  cases p with
  | cell b off => exact hb.cell (p := ⟨b, off, none⟩) hp'
  | map b => exact hb.block b hp'
/-- A parameter of a slice type. -/
theorem open_rows {α : Type} {d : Kd α} {V : α → Prop} {H : Type} {enc : TypeId × Value → H} {base : Nat} {spare : Nat → Bool} {held : Bool} {v : Value} {D : DataW H} {ps : List MemPlace} {r : Reach} {b0 : Nat} (ht : P.underlying t = some (.slice e)) (hsz : P.cellsOf e = d.sz) (hd : ∀ m, OpensAt P w m e d V)
    (hval : Value.okWide P w r b0 t v) (h : DataW.Trod enc P w base spare held t v D ps) : ∃ (A : Option Addr) (c : Nat) (xs : List α), v = .slice A xs.length c ∧ xs.length ≤ c ∧ xs.length ≤ maxLen ∧ d.C w A xs.length xs ∧ ∀ a ∈ xs, V a := by
  obtain ⟨n, hn⟩ := h
  obtain ⟨A, c, xs, e1, h1, h2, h3, h4⟩ := opens_row ht hsz (fun m _ => hd m) hn
  obtain ⟨A', l', c', rfl⟩ := Go.WideShapes.okWide_slice ht hval
  refine ⟨A, c, xs, ?_, h1, h2, h3, h4⟩
  simpa [Value.cells] using e1
end
end Go.Proofs.Ytlogobmimacpgaa
