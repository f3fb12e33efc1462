/- token.Keyword and token.literal: their walks. -/
import Derived.Maps.Own
import Derived.Maps.OwnOps
import Derived.MapKept
import Derived.Below
import Derived.WalkKit
import Derived.Test.YtmofhelddcnecaaGreatDoorProg
import Derived.Test.YtmofhelddcnecaaGreatDoorB3
import Derived.KernelRfl
import Derived.Deep.QuietTactic
import Derived.BigQuiet
import Derived.Test.YtmofhelddcnecaaGreatDoorShelf
import Derived.Shelf.RegionOpenPlain
import Derived.Lib.Strings
import Derived.Lib.Slices
import Derived.Lib.Walk
import Derived.Lib.Builder
import Derived.Lib.AppendStr
import Derived.Lib.UnsafeStr
import Derived.Lib.MakeNoZero
import Derived.Laws.Externs
import Derived.Laws.IdiomCopy
import Derived.Laws.BitsLemmas
import Derived.IntWalk
import Derived.Deep.RegionWith
set_option linter.unusedVariables false
set_option linter.unusedSimpArgs false
namespace Go.Ev.Fo
open Go.Proofs Go.RowKit Go.MapKept
theorem ret_boolE {a b : Bool} (h : a = b) : Ending.returned (.bool a) = .returned (.bool b) := by rw [h]
theorem post_res {P : Program} {fn : Func} {R : Ending → World → Prop} {a : Act} {w : World} (hd : a.defers = []) (h : ∃ v, (results fn a.tmps).run P w = .ok v w ∧ R (.returned v) w) : bodyPost P fn R .ret a w := ⟨hd, h⟩
/-- Block b is a map whose entries are es, in the order in which they came. -/
def HasMap (w : World) (b : Nat) (es : List (Value × Value)) : Prop :=
  ∃ arr clock, w.heap[b]? = some (.map arr clock) ∧ arr.toList.map (fun e => (e.key, e.val)) = es

/-- The value at a string key. -/
def mfind (s : ByteArray) : List (Value × Value) → Option Value
  | [] => none
  | (.string k, v) :: t => if s == k then some v else mfind s t
  | _ :: t => mfind s t
def StrKeys (es : List (Value × Value)) : Prop := ∀ p ∈ es, ∃ k, p.1 = .string k

theorem findNow_str (s : ByteArray) : ∀ (l : List MapEntry) (es : List (Value × Value)) (i : Nat), l.map (fun e => (e.key, e.val)) = es → StrKeys es →
    ∃ r, Instr.findNow .string (.string s) l i = some r ∧ r.map (·.2) = mfind s es
  | [], es, i, h, _ => by
    subst h
    exact ⟨none, rfl, rfl⟩
  | e :: l, es, i, h, hk => by
    subst h
    obtain ⟨k, hk0⟩ := hk (e.key, e.val) (by simp)
    simp at hk0
    obtain ⟨r, h1, h2⟩ := findNow_str s l _ (i + 1) rfl (fun p hp => hk p (by simp only [List.map_cons]; exact List.mem_cons_of_mem _ hp))
    simp only [Instr.findNow, hk0, Instr.sameNow, List.map_cons, mfind]
    by_cases hs : (s == k) = true
    · rw [hs]; exact ⟨some (i, e.val), rfl, by simp⟩
    · have hs : (s == k) = false := by simpa using hs
      rw [hs]; exact ⟨r, h1, by simpa using h2⟩

theorem HasMap.lt {w : World} {b : Nat} {es : List (Value × Value)} (h : HasMap w b es) : b < w.heap.size := by
  obtain ⟨a, c, h, _⟩ := h
  exact (Array.getElem?_eq_some_iff.1 h).1
theorem HasMap.below {w w' : World} {b B : Nat} {es : List (Value × Value)} (h : HasMap w b es) (hb : Below B w w') (hB : b < B) : HasMap w' b es := by
  obtain ⟨a, c, h1, h2⟩ := h
  exact ⟨a, c, by rw [hb.block b hB]; exact h1, h2⟩
theorem HasMap.made (w : World) : HasMap (w.alloc (.map #[] 0)) w.heap.size [] := ⟨#[], 0, Go.heap_alloc_new w _, rfl⟩
theorem HasMap.alloc {w : World} {b : Nat} {es : List (Value × Value)} (h : HasMap w b es) (o : Obj) : HasMap (w.alloc o) b es := by
  have hl := h.lt
  obtain ⟨a, c, h1, h2⟩ := h
  exact ⟨a, c, by rw [Below.heap_alloc w o b hl]; exact h1, h2⟩
theorem HasMap.setCell {w : World} {b : Nat} {es : List (Value × Value)} (h : HasMap w b es) {a : Addr} (ha : b ≠ a.block) (u : Value) : HasMap (w.setCell a u) b es := by
  obtain ⟨a', c, h1, h2⟩ := h
  exact ⟨a', c, by rw [Below.heap_setCell w a u b ha]; exact h1, h2⟩
theorem HasMap.grown {w w' : World} {b : Nat} {es : List (Value × Value)} (h : HasMap w b es) {row : Option Nat} (hg : w.grownBy w' row) (hne : some b ≠ row) : HasMap w' b es := by
  have hl := h.lt
  obtain ⟨a', c, h1, h2⟩ := h
  exact ⟨a', c, by rw [hg.block b hl hne]; exact h1, h2⟩

section
variable {P : Program} {t k e : TypeId} {w : World} {b : Nat} {es : List (Value × Value)}
theorem HasMap.run_lookup (h : HasMap w b es) (ht : P.underlying t = some (.map k e)) (hk : P.underlying k = some .string) {z : Value} (hz : (zeroValue e).run P w = .ok z w) (hs : StrKeys es) (s : ByteArray) (c : Bool) :
    (Instr.lookup t (.map (some b)) (.string s) c).run P w = .ok (if c then .tuple #[(mfind s es).getD z, .bool (mfind s es).isSome] else (mfind s es).getD z) w := by
  obtain ⟨a, cl, h1, h2⟩ := h
  obtain ⟨r, f1, f2⟩ := findNow_str s a.toList es 0 h2 hs
  have hkey : IsKey .string (.string s) := trivial
  rw [← f2]
  cases r with
  | none => simp [Instr.lookup, run_underlying ht, MapKept.run_getObj_map h1, run_checkKey hk hkey, run_findKey hk f1, Result.andThen, hz]
  | some p => simp [Instr.lookup, run_underlying ht, MapKept.run_getObj_map h1, run_checkKey hk hkey, run_findKey hk f1, Result.andThen]
/-- A new key's entry. -/
theorem HasMap.run_put_new (h : HasMap w b es) (ht : P.underlying t = some (.map k e)) (hk : P.underlying k = some .string) (hs : StrKeys es) (s : ByteArray) (v : Value) (hn : mfind s es = none) :
    ∃ w', (Instr.mapUpdate t (.map (some b)) (.string s) v).run P w = .ok () w' ∧ HasMap w' b (es ++ [(.string s, v)]) ∧ w.grownBy w' (some b) := by
  have hl := h.lt
  obtain ⟨a, cl, h1, h2⟩ := h
  obtain ⟨r, f1, f2⟩ := findNow_str s a.toList es 0 h2 hs
  rw [hn] at f2
  have hr : r = none := by cases r <;> simp_all
  subst hr
  refine ⟨{ w with heap := w.heap.setIfInBounds b (.map (a.push { key := .string s, val := v, born := cl }) (cl + 1)) }, ?_, ?_, ?_⟩
  · have hkey : IsKey .string (.string s) := trivial
    simp [Instr.mapUpdate, run_underlying ht, MapKept.run_getObj_map h1, run_checkKey hk hkey, run_findKey hk f1, MapKept.run_setObj_map _ h1, Result.andThen]
  · exact ⟨a.push { key := .string s, val := v, born := cl }, cl + 1, by simp [hl], by simp [← h2]⟩
  · refine ⟨rfl, rfl, rfl, by simp, fun i hi hne => ?_⟩
    simp only
    rw [Array.getElem?_setIfInBounds_ne]
    rintro rfl
    exact hne rfl
end
section
variable {P : Program} {ops : Array Oper} {rest : List Oper} {o : Oper} {a : Act} {Q : Exit → Act → World → Prop}
theorem wpList_insert_str (w : World) (hg : o.guard = none) (m x v : Operand) (t : TypeId) (hop : o.op = Op.insert t m x v)
    (k e : TypeId) (ht : P.underlying t = some (.map k e)) (hk : P.underlying k = some .string) (b : Nat) (es : List (Value × Value))
    (hm : a.eval m = .map (some b)) (hown : HasMap w b es) (hs : StrKeys es) (s : ByteArray) (val : Value) (hx : a.eval x = .string s) (hv : a.eval v = val) (hn : mfind s es = none)
    (hK : ∀ w', HasMap w' b (es ++ [(.string s, val)]) → w.grownBy w' (some b) → wpList P ops Q rest (a.put o.dst undef) w') :
    wpList P ops Q (o :: rest) a w := by
  refine wpList_plain hg fun K' hK' => ?_
  obtain ⟨w', hrun, r1, r2⟩ := hown.run_put_new (v := val) ht hk hs s hn
  unfold Oper.wp
  simp [execOp, hop, hm, hx, hv, hrun, Result.andThen]
  exact hK' _ _ (hK w' r1 r2)
theorem wpList_lookup_str (w : World) (hg : o.guard = none) (m x : Operand) (t : TypeId) (c : Bool) (hop : o.op = Op.lookup t m x c)
    (k e : TypeId) (ht : P.underlying t = some (.map k e)) (hk : P.underlying k = some .string) (z : Value) (hz : (zeroValue e).run P w = .ok z w) (b : Nat) (es : List (Value × Value))
    (hm : a.eval m = .map (some b)) (hown : HasMap w b es) (hs : StrKeys es) (s : ByteArray) (hx : a.eval x = .string s)
    (hK : wpList P ops Q rest (a.put o.dst (if c then .tuple #[(mfind s es).getD z, .bool (mfind s es).isSome] else (mfind s es).getD z)) w) :
    wpList P ops Q (o :: rest) a w := by
  refine wpList_plain hg fun K' hK' => ?_
  have hrun := hown.run_lookup ht hk hz hs s c
  unfold Oper.wp
  simp [execOp, hop, hm, hx, hrun, Result.andThen]
  exact hK' _ _ hK
/-- A set of strings: each with the value v. -/
def StrSet (w : World) (b : Nat) (v : Value) (l : List ByteArray) : Prop := HasMap w b (l.map fun s => (Value.string s, v))
theorem StrSet.keys (v : Value) (l : List ByteArray) : StrKeys (l.map fun s => (Value.string s, v)) := by
  intro p hp
  obtain ⟨s, _, rfl⟩ := List.mem_map.1 hp
  exact ⟨s, rfl⟩
theorem mfind_set (s : ByteArray) (v : Value) : ∀ l : List ByteArray, mfind s (l.map fun s => (Value.string s, v)) = if l.any (s == ·) then some v else none
  | [] => rfl
  | k :: l => by
    have ih := mfind_set s v l
    by_cases h : (s == k) = true
    · simp [mfind, h]
    · have h : (s == k) = false := by simpa using h
      simp [mfind, h, ih]
theorem wpList_insert_set (w : World) (hg : o.guard = none) (m x v : Operand) (t : TypeId) (hop : o.op = Op.insert t m x v)
    (k e : TypeId) (ht : P.underlying t = some (.map k e)) (hk : P.underlying k = some .string) (b : Nat) (val : Value) (l : List ByteArray)
    (hm : a.eval m = .map (some b)) (hown : StrSet w b val l) (s : ByteArray) (hx : a.eval x = .string s) (hv : a.eval v = val) (hn : l.any (s == ·) = false)
    {w0 : World} {B : Nat} (HB : Below B w0 w) (hB : B ≤ b)
    (hK : ∀ w', StrSet w' b val (l ++ [s]) → Below B w0 w' → wpList P ops Q rest (a.put o.dst undef) w') :
    wpList P ops Q (o :: rest) a w := by
  refine wpList_insert_str w hg m x v t hop k e ht hk b _ hm hown (StrSet.keys _ _) s val hx hv (by rw [mfind_set, hn]; rfl) (fun w' h1 h2 => hK w' ?_ (HB.grown h2 (Nat.le_of_lt (Nat.lt_of_le_of_lt hB hown.lt)) (fun j hj => by cases hj; exact hB)))
  unfold StrSet
  rw [List.map_append]
  exact h1
theorem wpList_lookup_set (w : World) (hg : o.guard = none) (m x : Operand) (t : TypeId) (hop : o.op = Op.lookup t m x false)
    (k e : TypeId) (ht : P.underlying t = some (.map k e)) (hk : P.underlying k = some .string) (hz : (zeroValue e).run P w = .ok (.bool false) w) (b : Nat) (l : List ByteArray)
    (hm : a.eval m = .map (some b)) (hown : StrSet w b (.bool true) l) (s : ByteArray) (hx : a.eval x = .string s)
    (hK : ∀ r : Bool, Hid (l.any (s == ·) = r) → wpList P ops Q rest (a.put o.dst (.bool r)) w) :
    wpList P ops Q (o :: rest) a w := by
  refine wpList_lookup_str w hg m x t false hop k e ht hk _ hz b _ hm hown (StrSet.keys _ _) s hx ?_
  have : (mfind s (l.map fun s => (Value.string s, Value.bool true))).getD (.bool false) = .bool (l.any (s == ·)) := by
    rw [mfind_set]
    cases l.any (s == ·) <;> rfl
  simp only [this]
  exact hK _ (show Hid _ from rfl)
end

theorem zero_bool (w : World) : (zeroValue 4).run Tryz.prog w = .ok (.bool false) w := by kernel_rfl
set_option maxHeartbeats 8000000 in
set_option maxRecDepth 100000 in
theorem tok_keyword (a0 : ByteArray) (w : World) :
    Calls Tryz.prog 94 #[.string a0] w fun e w' => e = .returned (.bool (isKwL a0.data.toList)) ∧ Below w.heap.size w w' := by
  have hmm := @run_makeMap Tryz.prog
  have h0 : StrSet (w.alloc (.map #[] 0)) w.heap.size (.bool true) [] := HasMap.made w
  have b0 : Below w.heap.size w (w.alloc (.map #[] 0)) := (Below.refl _ _).alloc (Nat.le_refl _) _
  go_enter Tryz.func94, Tryz.ntmps94
  go_wp2_with (first
    | (refine wpList_insert_set _ rfl _ _ _ 96 rfl 9 4 Tryz.underlying96 Tryz.underlying9 w.heap.size (.bool true) _ rfl (by assumption) _ rfl rfl (by decide) (by assumption) (Nat.le_refl _) ?_; intro w1 h1 g1)
    | (at_lookup; refine wpList_lookup_set _ rfl _ _ 96 rfl 9 4 Tryz.underlying96 Tryz.underlying9 (zero_bool _) w.heap.size _ rfl (by assumption) _ rfl ?_; intro r hr))
  go_ret
  have e := hr.out
  simp only [List.nil_append, List.cons_append] at e
  exact ⟨ret_boolE (e.symm.trans (isKw_list kwL a0)), by assumption⟩

def tokRet (r : RK) : Ending := .returned (.tuple #[.agg #[.int .i64 r.kind, .string (tx r.text), .int .i64 0, .int .i64 r.len], .int .i64 r.err])
theorem bld_size : (Tryz.prog.info? 115).map (·.size) = some 2 := by kernel_rfl
theorem bld_lies : liesAt Tryz.prog Tryz.prog.depth 115 (2 / Tryz.prog.cellsOf 115) 0 115 1 = true := by kernel_rfl
theorem info_byte : (Tryz.prog.info? 5).map (fun i => (i.zero, i.size, i.bytes)) = some (some (.int .u8 0), 1, 1) := by kernel_rfl

set_option maxHeartbeats 1000000 in
set_option maxRecDepth 100000 in
theorem bld_check_used (b : Nat) (w : World) (h0 : w.cell? ⟨b, 0, none⟩ = some (.pointer (some ⟨b, 0, none⟩))) :
    Calls Tryz.prog 184 #[.pointer (some ⟨b, 0, none⟩)] w fun e w' => e = .returned (.tuple #[]) ∧ w' = w := by
  obtain ⟨j, hj, _⟩ := Option.map_eq_some_iff.1 bld_size
  go_enter Tryz.func184, Tryz.ntmps184
  go_wp2
  rw [Lib.run_neq_ptr_same w _ Tryz.underlying113 hj]
  go_wp2
  go_end0
  exact ⟨rfl, rfl⟩

set_option maxHeartbeats 1000000 in
set_option maxRecDepth 100000 in
theorem bld_check_fresh (b : Nat) (w : World) (h0 : w.cell? ⟨b, 0, none⟩ = some (.pointer none)) (hsh : w.shape? b = some (115, 2)) (hfz : w.frozen? ⟨b, 0, none⟩ = false) :
    Calls Tryz.prog 184 #[.pointer (some ⟨b, 0, none⟩)] w fun e w' => e = .returned (.tuple #[]) ∧ w' = w.setCell ⟨b, 0, none⟩ (.pointer (some ⟨b, 0, none⟩)) := by
  obtain ⟨j, hj, hjs⟩ := Option.map_eq_some_iff.1 bld_size
  go_enter Tryz.func184, Tryz.ntmps184
  go_wp2
  rw [Lib.run_to_unsafe w ⟨b, 0, none⟩ Tryz.underlying113 Tryz.underlying141 hj (by rw [hjs]; decide) hsh (Nat.zero_lt_succ 1)]
  simp only [Result.andThen]
  rw [Oper.upon_value]
  go_wp2
  rw [run_callFunc_extern Tryz.func191 (by kernel_rfl) (by kernel_rfl) (by kernel_rfl) (e := Extern.AbiNoEscape.same) (by kernel_rfl)]
  rw [Lib.run_noEscape]
  simp only [Result.andThen]
  rw [Oper.upon_value]
  go_wp2
  rw [Lib.run_from_unsafe w ⟨b, 0, none⟩ Tryz.underlying141 Tryz.underlying113 hj hsh bld_lies]
  simp only [Result.andThen]
  rw [Oper.upon_value]
  go_wp2
  go_end0
  exact ⟨rfl, rfl⟩

theorem bld_check (B b : Nat) (bs : List Value) (w : World) (h : Lib.IsBuilder 115 5 B b bs w) :
    Calls Tryz.prog 184 #[.pointer (some ⟨b, 0, none⟩)] w fun e w' => e = .returned (.tuple #[]) ∧ (Lib.BuilderAt 115 5 B b (.pointer (some ⟨b, 0, none⟩)) bs w' ∧ Below B w w') := by
  rcases h with h | h
  · refine (bld_check_fresh b w h.cell0 h.shape h.frozen0).mono ?_
    rintro e w' ⟨rfl, rfl⟩
    exact ⟨rfl, h.used _, (Below.refl B w).setCell (p := ⟨b, 0, none⟩) h.1 _⟩
  · refine (bld_check_used b w h.cell0).mono ?_
    rintro e w' ⟨rfl, rfl⟩
    exact ⟨rfl, h, Below.refl B _⟩

set_option maxHeartbeats 2000000 in
set_option maxRecDepth 100000 in
theorem bld_byte (B b : Nat) (bs : List Value) (c : Int) (w : World) (h : Lib.IsBuilder 115 5 B b bs w) (hlen : bs.length + 1 ≤ 140737488355328) (hBw : B ≤ w.heap.size) :
    Calls Tryz.prog 175 #[.pointer (some ⟨b, 0, none⟩), .int .u8 c] w fun e w' => e = .returned .nilIface ∧ (Lib.BuilderAt 115 5 B b (.pointer (some ⟨b, 0, none⟩)) (bs ++ [.int .u8 c]) w' ∧ Below B w w') := by
  obtain ⟨i0, hi, hz0, hz1, hz2⟩ := info_parts info_byte
  go_enter Tryz.func175, Tryz.ntmps175
  go_wp2_with (go_at_call 184; refine (bld_check B b bs _ h).mono ?_)
  rintro e w1 ⟨rfl, h1, hb1⟩
  obtain ⟨hB, v, hbk, hown, hne⟩ := h1
  have c0 : w1.cell? ⟨b, 0, none⟩ = some (.pointer (some ⟨b, 0, none⟩)) := by rw [Lib.cell_of_heap hbk]; rfl
  have c1 : w1.cell? ⟨b, 1, none⟩ = some v := by rw [Lib.cell_of_heap hbk]; rfl
  go_wp2_with (at_builtin; refine wpList_append_own _ rfl _ _ 88 rfl B 5 i0 (.int .u8 0) 1 1 Tryz.underlying88 hi hz0 hz1 hz2 rfl (by decide) _ _ _ rfl (hown.alloc _) ⟨w1.heap.size, 0, none⟩ 1 1 [.int .u8 c] rfl rfl ?c1 ?c2 ?c3 ?c4 ?c5 ?_)
  case c1 =>
    intro j u hj
    match j, hj with
    | 0, hj => simp at hj; subst hj; simp [Addr.add]
  case c2 => intro u hu; simp at hu; subst hu; rfl
  case c3 => unfold maxLen; omega
  case c4 => omega
  case c5 => have := hb1.size; simp; omega
  intro v' w2 hown' hgrow _
  have hlt : b < w1.heap.size := by
    rcases Nat.lt_or_ge b w1.heap.size with h' | h'
    · exact h'
    · simp [Array.getElem?_eq_none h'] at hbk
  have hb2 : w2.heap[b]? = some (.cells #[.pointer (some ⟨b, 0, none⟩), v] 115 (0, 0)) := by
    rw [hgrow.block b (by simp; omega) (fun e => hne e.symm), Lib.alloc_old w1 _ b hlt]
    exact hbk
  have d0 : w2.cell? ⟨b, 0, none⟩ = some (.pointer (some ⟨b, 0, none⟩)) := by rw [Lib.cell_of_heap hb2]; rfl
  have d1 : w2.cell? ⟨b, 1, none⟩ = some v := by rw [Lib.cell_of_heap hb2]; rfl
  have f1 : w2.frozen? ⟨b, 1, none⟩ = false := Lib.frozen_of_heap hb2 1
  obtain ⟨g, cap, rfl⟩ : ∃ g cap, v' = .slice (some ⟨g, 0, none⟩) (bs.length + 1) cap := by
    rcases hown'.2 with ⟨_, h0⟩ | ⟨g, cap, cur, hv, _⟩
    · omega
    · exact ⟨g, cap, hv⟩
  go_wp2
  go_ret
  refine ⟨rfl, ?_, ?_⟩
  · exact Lib.BuilderAt.put (T := 115) (e := 5) hB hb2 (bs' := bs ++ [.int .u8 c]) (by simpa using hown') (by decide)
  · exact ((hb1.alloc (by have := hb1.size; omega) _).grown hgrow (by have := hb1.size; simp; omega) (fun k hk => (hown.lt k hk).1)).setCell (p := ⟨b, 1, none⟩) hB _


theorem below_cells {B : Nat} {w w1 : World} (h : Below B w w1) {b : Nat} (hb : b < B) {o : Obj} (hc : w.heap[b]? = some o) : w1.heap[b]? = some o := by rw [h.block b hb]; exact hc
theorem cell_of {w : World} {b : Nat} {c : Array Value} {t : TypeId} {f : Nat × Nat} (h : w.heap[b]? = some (.cells c t f)) (i : Nat) : w.cell? ⟨b, i, none⟩ = c[i]? := by simp [World.cell?, h]
theorem frozen_of {w : World} {b : Nat} {c : Array Value} {t : TypeId} (h : w.heap[b]? = some (.cells c t (0, 0))) (i : Nat) : w.frozen? ⟨b, i, none⟩ = false := by simp [World.frozen?, h]

theorem bld_len (B b : Nat) (l : List UInt8) (w : World) (h : Lib.IsBuilder 115 5 B b (Lib.byteCells l) w) :
    Calls Tryz.prog 173 #[.pointer (some ⟨b, 0, none⟩)] w fun e w' => e = .returned (.int .i64 l.length) ∧ w = w' :=
  (Tryz.Builder_Len B b _ w h).mono fun e w' ⟨he, hw⟩ => ⟨by rw [he, Lib.byteCells_length], hw.symm⟩
theorem bld_str (B b : Nat) (l : List UInt8) (w : World) (h : Lib.IsBuilder 115 5 B b (Lib.byteCells l) w) (hB : B ≤ w.heap.size) :
    Calls Tryz.prog 174 #[.pointer (some ⟨b, 0, none⟩)] w fun e w' => e = .returned (.string (tx l)) ∧ Below B w w' :=
  Tryz.Builder_String_any B b l w h hB
theorem byte_rng (b : UInt8) : 0 ≤ (b.toNat : Int) ∧ (b.toNat : Int) ≤ 255 := by have := b.toNat_lt; omega
def ofI (c : Int) : UInt8 := c.toNat.toUInt8
theorem ofI_nat (b : UInt8) : ofI (b.toNat : Int) = b := by simp [ofI]
theorem ofI_of (b : UInt8) (c : Int) (h : (b.toNat : Int) = c) : ofI c = b := by subst h; exact ofI_nat b
theorem bld_put (B b : Nat) (l : List UInt8) (c : Int) (w : World) (h : Lib.IsBuilder 115 5 B b (Lib.byteCells l) w) (hc : 0 ≤ c ∧ c ≤ 255) (hl : l.length ≤ 1000000000) (hB : B ≤ w.heap.size) :
    Calls Tryz.prog 175 #[.pointer (some ⟨b, 0, none⟩), .int .u8 c] w fun e w' => e = .returned .nilIface ∧ Lib.IsBuilder 115 5 B b (Lib.byteCells (l ++ [ofI c])) w' ∧ Below B w w' :=
  (bld_byte B b _ c w h (by rw [Lib.byteCells_length]; omega) hB).mono fun e w' ⟨he, h1, h2⟩ => ⟨he, by
    have e1 : ((ofI c).toNat : Int) = c := by
      unfold ofI
      rw [UInt8.toNat_ofNat_of_lt' (by show c.toNat < 256; omega)]
      omega
    rw [show Lib.byteCells (l ++ [ofI c]) = Lib.byteCells l ++ [.int .u8 c] from by rw [← e1]; simp [Lib.byteCells, e1]]
    exact .inr h1, h2⟩

set_option maxRecDepth 100000 in
set_option maxHeartbeats 4000000 in
theorem tok_literal (s : ByteArray) (w : World) (hs : s.size ≤ 1000000000) (h0 : 0 < s.size) :
    Calls Tryz.prog 148 #[.string s] w fun e w' => e = tokRet (litR s.data.toList) ∧ Below w.heap.size w w' := by
  go_enter Tryz.func148, Tryz.ntmps148
  go_wp2
  go_loopw [5] (fun i wr => ∃ (k : Nat) (acc : List UInt8), i = .int .i64 k ∧ k ≤ s.size ∧ acc.length < k ∧ Lib.IsBuilder 115 5 (w.heap.size + 1) (w.heap.size + 1) (Lib.byteCells acc) wr ∧
      wr.heap[w.heap.size]? = some (.cells #[.int .i64 0, .string ⟨#[]⟩, .int .i64 0, .int .i64 0] 58 (0, 0)) ∧ Below w.heap.size w wr ∧ w.heap.size + 2 ≤ wr.heap.size ∧ Hid (litGo (s.data.toList.drop k) k acc = litR s.data.toList)) (fun i _ => s.size - (intOf i).toNat)
  case atStart =>
    refine ⟨1, [], rfl, by omega, by simp, ?_, ?_, ?_, ?_, show _ = _ from rfl⟩
    · refine .inl ⟨Nat.le_refl _, .slice none 0 0, ?_, ⟨by simp, .inl ⟨rfl, rfl⟩⟩, by simp [Value.ownBlock]⟩
      have h := Go.heap_alloc_new (w.alloc (.cells #[.int .i64 0, .string ⟨#[]⟩, .int .i64 0, .int .i64 0] 58)) (.cells #[.pointer none, .slice none 0 0] 115)
      simpa using h
    · exact (Below.heap_alloc _ _ _ (by simp)).trans (Go.heap_alloc_new _ _)
    · exact ((Below.refl _ _).alloc (Nat.le_refl _) _).alloc (by simp) _
    · simp
  case round =>
    obtain ⟨k, acc, rfl, hk, hal, hB, hc, hbl, hsz, hinv⟩ := hrel
    by_cases hlt : k < s.size
    · have hd : Hid (s.data.toList.drop k = s[k] :: s.data.toList.drop (k + 1)) := byte_at s k hlt
      have z0 := cell_of hc 0
      have z1 := cell_of hc 1
      have z2 := cell_of hc 2
      have z3 := cell_of hc 3
      have f0 := frozen_of hc 0
      have f1 := frozen_of hc 1
      have f2 := frozen_of hc 2
      have f3 := frozen_of hc 3
      simp at z0 z1 z2 z3
      go_wp2_with (first
        | (go_at_call 173; refine (bld_len _ _ _ _ hB).mono ?_; rintro e w' ⟨rfl, rfl⟩)
        | (go_at_call 174; refine (bld_str _ _ _ _ hB (by omega)).mono ?_; rintro e w1 ⟨rfl, hb1⟩; have hc1 := below_cells hb1 (Nat.lt_succ_self _) hc; have y0 := cell_of hc1 0; have y1 := cell_of hc1 1; have y2 := cell_of hc1 2; have y3 := cell_of hc1 3; have g0 := frozen_of hc1 0; have g1 := frozen_of hc1 1; have g2 := frozen_of hc1 2; have g3 := frozen_of hc1 3; simp at y0 y1 y2 y3)
        | (go_at_call 175; refine (bld_put _ _ _ _ _ hB (by first | exact byte_rng _ | (constructor <;> omega)) (by omega) (by omega)).mono ?_; rintro e w1 ⟨rfl, hB1, hb1⟩))
      all_goals (try simp only [beq_iff_eq, beq_eq_false_iff_ne, ne_eq] at *)
      · refine post_res rfl ⟨_, by (simp [results, Tryz.results148, go_sem, z0, z1, z2, z3]; rfl), ?_, (((hbl.setCell (Nat.le_refl _) _).setCell (Nat.le_refl _) _).setCell (Nat.le_refl _) _).setCell (Nat.le_refl _) _⟩
        rw [← hinv.out, hd.out, litGo_q (by omega), if_pos (by omega)]
        rfl
      · refine post_res rfl ⟨_, by (simp [results, Tryz.results148, go_sem, y0, y1, y2, y3]; rfl), ?_, ((((hbl.trans (hb1.mono (Nat.le_succ _))).setCell (Nat.le_refl _) _).setCell (Nat.le_refl _) _).setCell (Nat.le_refl _) _).setCell (Nat.le_refl _) _⟩
        rw [← hinv.out, hd.out, litGo_q (by omega), if_neg (by omega)]
        rfl
      · refine post_res rfl ⟨_, by (simp [results, Tryz.results148, go_sem, z0, z1, z2, z3]; rfl), ?_, (((hbl.setCell (Nat.le_refl _) _).setCell (Nat.le_refl _) _).setCell (Nat.le_refl _) _).setCell (Nat.le_refl _) _⟩
        rw [← hinv.out, hd.out, litGo_bad (by omega) (by omega)]
        rfl
      · have hd1 := byte_at s (k + 1) (by omega)
        go_roundw
        case rel => exact ⟨k + 2, _, by go_num, by omega, by simp; omega, hB1, below_cells hb1 (Nat.lt_succ_self _) hc, hbl.trans (hb1.mono (Nat.le_succ _)), by have := hb1.size; omega, show _ = _ by rw [← hinv.out, hd.out, hd1, litGo_esc (by omega) (by omega)]; rw [ofI_of s[k + 1] 34 (by omega)]⟩
        case measure => simp [intOf]; omega
      · have hd1 := byte_at s (k + 1) (by omega)
        go_roundw
        case rel => exact ⟨k + 2, _, by go_num, by omega, by simp; omega, hB1, below_cells hb1 (Nat.lt_succ_self _) hc, hbl.trans (hb1.mono (Nat.le_succ _)), by have := hb1.size; omega, show _ = _ by rw [← hinv.out, hd.out, hd1, litGo_esc (by omega) (by omega)]; simp only [ofI_nat]⟩
        case measure => simp [intOf]; omega
      · have hd1 := byte_at s (k + 1) (by omega)
        go_roundw
        case rel => exact ⟨k + 2, _, by go_num, by omega, by simp; omega, hB1, below_cells hb1 (Nat.lt_succ_self _) hc, hbl.trans (hb1.mono (Nat.le_succ _)), by have := hb1.size; omega, show _ = _ by rw [← hinv.out, hd.out, hd1, litGo_escn (by omega) (by omega)]; rfl⟩
        case measure => simp [intOf]; omega
      · refine post_res rfl ⟨_, by (simp [results, Tryz.results148, go_sem, z0, z1, z2, z3]; rfl), ?_, (((hbl.setCell (Nat.le_refl _) _).setCell (Nat.le_refl _) _).setCell (Nat.le_refl _) _).setCell (Nat.le_refl _) _⟩
        rw [← hinv.out, hd.out, byte_at s (k + 1) (by omega), litGo_escx (by omega) (by omega) (by omega) (by omega)]
        rfl
      · refine post_res rfl ⟨_, by (simp [results, Tryz.results148, go_sem, z0, z1, z2, z3]; rfl), ?_, (((hbl.setCell (Nat.le_refl _) _).setCell (Nat.le_refl _) _).setCell (Nat.le_refl _) _).setCell (Nat.le_refl _) _⟩
        rw [← hinv.out, hd.out, List.drop_eq_nil_of_le (show s.data.toList.length ≤ k + 1 by rw [len_data]; omega), litGo_end (by omega)]
        rfl
      · go_roundw
        case rel => exact ⟨k + 1, _, by go_num, by omega, by simp; omega, hB1, below_cells hb1 (Nat.lt_succ_self _) hc, hbl.trans (hb1.mono (Nat.le_succ _)), by have := hb1.size; omega, show _ = _ by rw [← hinv.out, hd.out, litGo_ch (by omega) (by omega) (by omega) (by omega)]; simp only [ofI_nat]⟩
        case measure => simp [intOf]; omega
      · refine post_res rfl ⟨_, by (simp [results, Tryz.results148, go_sem, z0, z1, z2, z3]; rfl), ?_, (((hbl.setCell (Nat.le_refl _) _).setCell (Nat.le_refl _) _).setCell (Nat.le_refl _) _).setCell (Nat.le_refl _) _⟩
        rw [← hinv.out, hd.out, litGo_bad (by omega) (by omega)]
        rfl
    · have hd : Hid (s.data.toList.drop k = []) := List.drop_eq_nil_of_le (by rw [len_data]; omega)
      have z0 := cell_of hc 0
      have z1 := cell_of hc 1
      have z2 := cell_of hc 2
      have z3 := cell_of hc 3
      have f0 := frozen_of hc 0
      have f1 := frozen_of hc 1
      have f2 := frozen_of hc 2
      have f3 := frozen_of hc 3
      simp at z0 z1 z2 z3
      go_wp2
      refine post_res rfl ⟨_, by (simp [results, Tryz.results148, go_sem, z0, z1, z2, z3]; rfl), ?_, (((hbl.setCell (Nat.le_refl _) _).setCell (Nat.le_refl _) _).setCell (Nat.le_refl _) _).setCell (Nat.le_refl _) _⟩
      rw [← hinv.out, hd.out]
      rfl

end Go.Ev.Fo
