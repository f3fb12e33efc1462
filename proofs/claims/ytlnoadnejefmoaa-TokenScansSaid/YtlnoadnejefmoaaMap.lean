import Derived.Maps.Own
import Derived.Maps.OwnOps
import Derived.MapKept
import Derived.Below
import Derived.WalkKit
set_option linter.unusedVariables false
set_option linter.unusedSimpArgs false
namespace Go.Proofs.Ytlnoadnejefmoaa
open Go.RowKit Go.MapKept

/-- Block b is a map whose entries are es, in the order in which they came. -/
def HasMap (w : World) (b : Nat) (es : List (Value × Value)) : Prop :=
  ∃ arr clock, w.heap[b]? = some (.map arr clock) ∧ arr.toList.map (fun e => (e.key, e.val)) = es

/-- The value at a string key. -/
def mfind (s : ByteArray) : List (Value × Value) → Option Value
  | [] => none
  | (.string k, v) :: t => if s == k then some v else mfind s t
  | _ :: t => mfind s t
def StrKeys (es : List (Value × Value)) : Prop := ∀ p ∈ es, ∃ k, p.1 = .string k

theorem findNow_str (s : ByteArray) : ∀ (l : List MapEntry) (es : List (Value × Value)) (i : Nat), l.map (fun e => (e.key, e.val)) = es → StrKeys es →
    ∃ r, Instr.findNow .string (.string s) l i = some r ∧ r.map (·.2) = mfind s es
  | [], es, i, h, _ => by
    subst h
    exact ⟨none, rfl, rfl⟩
  | e :: l, es, i, h, hk => by
    subst h
    obtain ⟨k, hk0⟩ := hk (e.key, e.val) (by simp)
    simp at hk0
    obtain ⟨r, h1, h2⟩ := findNow_str s l _ (i + 1) rfl (fun p hp => hk p (by simp only [List.map_cons]; exact List.mem_cons_of_mem _ hp))
    simp only [Instr.findNow, hk0, Instr.sameNow, List.map_cons, mfind]
    by_cases hs : (s == k) = true
    · rw [hs]; exact ⟨some (i, e.val), rfl, by simp⟩
    · have hs : (s == k) = false := by simpa using hs
      rw [hs]; exact ⟨r, h1, by simpa using h2⟩

theorem HasMap.lt {w : World} {b : Nat} {es : List (Value × Value)} (h : HasMap w b es) : b < w.heap.size := by
  obtain ⟨a, c, h, _⟩ := h
  exact (Array.getElem?_eq_some_iff.1 h).1
theorem HasMap.below {w w' : World} {b B : Nat} {es : List (Value × Value)} (h : HasMap w b es) (hb : Below B w w') (hB : b < B) : HasMap w' b es := by
  obtain ⟨a, c, h1, h2⟩ := h
  exact ⟨a, c, by rw [hb.block b hB]; exact h1, h2⟩
theorem HasMap.made (w : World) : HasMap (w.alloc (.map #[] 0)) w.heap.size [] := ⟨#[], 0, Go.heap_alloc_new w _, rfl⟩
theorem HasMap.alloc {w : World} {b : Nat} {es : List (Value × Value)} (h : HasMap w b es) (o : Obj) : HasMap (w.alloc o) b es := by
  have hl := h.lt
  obtain ⟨a, c, h1, h2⟩ := h
  exact ⟨a, c, by rw [Below.heap_alloc w o b hl]; exact h1, h2⟩
theorem HasMap.drew {w : World} {b : Nat} {es : List (Value × Value)} (h : HasMap w b es) : HasMap w.drew b es := h
theorem HasMap.setCell {w : World} {b : Nat} {es : List (Value × Value)} (h : HasMap w b es) {a : Addr} (ha : b ≠ a.block) (u : Value) : HasMap (w.setCell a u) b es := by
  obtain ⟨a', c, h1, h2⟩ := h
  exact ⟨a', c, by rw [Below.heap_setCell w a u b ha]; exact h1, h2⟩
theorem HasMap.grown {w w' : World} {b : Nat} {es : List (Value × Value)} (h : HasMap w b es) {row : Option Nat} (hg : w.grownBy w' row) (hne : some b ≠ row) : HasMap w' b es := by
  have hl := h.lt
  obtain ⟨a', c, h1, h2⟩ := h
  exact ⟨a', c, by rw [hg.block b hl hne]; exact h1, h2⟩

section
variable {P : Program} {t k e : TypeId} {w : World} {b : Nat} {es : List (Value × Value)}
theorem HasMap.run_lookup (h : HasMap w b es) (ht : P.underlying t = some (.map k e)) (hk : P.underlying k = some .string) {z : Value} (hz : (zeroValue e).run P w = .ok z w) (hs : StrKeys es) (s : ByteArray) (c : Bool) :
    (Instr.lookup t (.map (some b)) (.string s) c).run P w = .ok (if c then .tuple #[(mfind s es).getD z, .bool (mfind s es).isSome] else (mfind s es).getD z) w := by
  obtain ⟨a, cl, h1, h2⟩ := h
  obtain ⟨r, f1, f2⟩ := findNow_str s a.toList es 0 h2 hs
  have hkey : IsKey .string (.string s) := trivial
  rw [← f2]
  cases r with
  | none => simp [Instr.lookup, run_underlying ht, MapKept.run_getObj_map h1, run_checkKey hk hkey, run_findKey hk f1, Result.andThen, hz]
  | some p => simp [Instr.lookup, run_underlying ht, MapKept.run_getObj_map h1, run_checkKey hk hkey, run_findKey hk f1, Result.andThen]
/-- A new key's entry. -/
theorem HasMap.run_put_new (h : HasMap w b es) (ht : P.underlying t = some (.map k e)) (hk : P.underlying k = some .string) (hs : StrKeys es) (s : ByteArray) (v : Value) (hn : mfind s es = none) :
    ∃ w', (Instr.mapUpdate t (.map (some b)) (.string s) v).run P w = .ok () w' ∧ HasMap w' b (es ++ [(.string s, v)]) ∧ w.grownBy w' (some b) := by
  have hl := h.lt
  obtain ⟨a, cl, h1, h2⟩ := h
  obtain ⟨r, f1, f2⟩ := findNow_str s a.toList es 0 h2 hs
  rw [hn] at f2
  have hr : r = none := by cases r <;> simp_all
  subst hr
  refine ⟨{ w with heap := w.heap.setIfInBounds b (.map (a.push { key := .string s, val := v, born := cl }) (cl + 1)) }, ?_, ?_, ?_⟩
  · have hkey : IsKey .string (.string s) := trivial
    simp [Instr.mapUpdate, run_underlying ht, MapKept.run_getObj_map h1, run_checkKey hk hkey, run_findKey hk f1, MapKept.run_setObj_map _ h1, Result.andThen]
  · exact ⟨a.push { key := .string s, val := v, born := cl }, cl + 1, by simp [hl], by simp [← h2]⟩
  · refine ⟨rfl, rfl, rfl, by simp, fun i hi hne => ?_⟩
    simp only
    rw [Array.getElem?_setIfInBounds_ne]
    rintro rfl
    exact hne rfl
end
section
variable {P : Program} {ops : Array Oper} {rest : List Oper} {o : Oper} {a : Act} {Q : Exit → Act → World → Prop}
theorem wpList_insert_str (w : World) (hg : o.guard = none) (m x v : Operand) (t : TypeId) (hop : o.op = Op.insert t m x v)
    (k e : TypeId) (ht : P.underlying t = some (.map k e)) (hk : P.underlying k = some .string) (b : Nat) (es : List (Value × Value))
    (hm : a.eval m = .map (some b)) (hown : HasMap w b es) (hs : StrKeys es) (s : ByteArray) (val : Value) (hx : a.eval x = .string s) (hv : a.eval v = val) (hn : mfind s es = none)
    (hK : ∀ w', HasMap w' b (es ++ [(.string s, val)]) → w.grownBy w' (some b) → wpList P ops Q rest (a.put o.dst undef) w') :
    wpList P ops Q (o :: rest) a w := by
  refine wpList_plain hg fun K' hK' => ?_
  obtain ⟨w', hrun, r1, r2⟩ := hown.run_put_new (v := val) ht hk hs s hn
  unfold Oper.wp
  simp [execOp, hop, hm, hx, hv, hrun, Result.andThen]
  exact hK' _ _ (hK w' r1 r2)
theorem wpList_lookup_str (w : World) (hg : o.guard = none) (m x : Operand) (t : TypeId) (c : Bool) (hop : o.op = Op.lookup t m x c)
    (k e : TypeId) (ht : P.underlying t = some (.map k e)) (hk : P.underlying k = some .string) (z : Value) (hz : (zeroValue e).run P w = .ok z w) (b : Nat) (es : List (Value × Value))
    (hm : a.eval m = .map (some b)) (hown : HasMap w b es) (hs : StrKeys es) (s : ByteArray) (hx : a.eval x = .string s)
    (hK : wpList P ops Q rest (a.put o.dst (if c then .tuple #[(mfind s es).getD z, .bool (mfind s es).isSome] else (mfind s es).getD z)) w) :
    wpList P ops Q (o :: rest) a w := by
  refine wpList_plain hg fun K' hK' => ?_
  have hrun := hown.run_lookup ht hk hz hs s c
  unfold Oper.wp
  simp [execOp, hop, hm, hx, hrun, Result.andThen]
  exact hK' _ _ hK
/-- A set of strings: each with the value v. -/
def StrSet (w : World) (b : Nat) (v : Value) (l : List ByteArray) : Prop := HasMap w b (l.map fun s => (Value.string s, v))
theorem StrSet.keys (v : Value) (l : List ByteArray) : StrKeys (l.map fun s => (Value.string s, v)) := by
  intro p hp
  obtain ⟨s, _, rfl⟩ := List.mem_map.1 hp
  exact ⟨s, rfl⟩
theorem mfind_set (s : ByteArray) (v : Value) : ∀ l : List ByteArray, mfind s (l.map fun s => (Value.string s, v)) = if l.any (s == ·) then some v else none
  | [] => rfl
  | k :: l => by
    have ih := mfind_set s v l
    by_cases h : (s == k) = true
    · simp [mfind, h]
    · have h : (s == k) = false := by simpa using h
      simp [mfind, h, ih]
theorem wpList_insert_set (w : World) (hg : o.guard = none) (m x v : Operand) (t : TypeId) (hop : o.op = Op.insert t m x v)
    (k e : TypeId) (ht : P.underlying t = some (.map k e)) (hk : P.underlying k = some .string) (b : Nat) (val : Value) (l : List ByteArray)
    (hm : a.eval m = .map (some b)) (hown : StrSet w b val l) (s : ByteArray) (hx : a.eval x = .string s) (hv : a.eval v = val) (hn : l.any (s == ·) = false)
    {w0 : World} {B : Nat} (HB : Below B w0 w) (hB : B ≤ b)
    (hK : ∀ w', StrSet w' b val (l ++ [s]) → Below B w0 w' → wpList P ops Q rest (a.put o.dst undef) w') :
    wpList P ops Q (o :: rest) a w := by
  refine wpList_insert_str w hg m x v t hop k e ht hk b _ hm hown (StrSet.keys _ _) s val hx hv (by rw [mfind_set, hn]; rfl) (fun w' h1 h2 => hK w' ?_ (HB.grown h2 (Nat.le_of_lt (Nat.lt_of_le_of_lt hB hown.lt)) (fun j hj => by cases hj; exact hB)))
  unfold StrSet
  rw [List.map_append]
  exact h1
theorem wpList_lookup_set (w : World) (hg : o.guard = none) (m x : Operand) (t : TypeId) (hop : o.op = Op.lookup t m x false)
    (k e : TypeId) (ht : P.underlying t = some (.map k e)) (hk : P.underlying k = some .string) (hz : (zeroValue e).run P w = .ok (.bool false) w) (b : Nat) (l : List ByteArray)
    (hm : a.eval m = .map (some b)) (hown : StrSet w b (.bool true) l) (s : ByteArray) (hx : a.eval x = .string s)
    (hK : ∀ r : Bool, Hid (l.any (s == ·) = r) → wpList P ops Q rest (a.put o.dst (.bool r)) w) :
    wpList P ops Q (o :: rest) a w := by
  refine wpList_lookup_str w hg m x t false hop k e ht hk _ hz b _ hm hown (StrSet.keys _ _) s hx ?_
  have : (mfind s (l.map fun s => (Value.string s, Value.bool true))).getD (.bool false) = .bool (l.any (s == ·)) := by
    rw [mfind_set]
    cases l.any (s == ·) <;> rfl
  simp only [this]
  exact hK _ (show Hid _ from rfl)
end
end Go.Proofs.Ytlnoadnejefmoaa
