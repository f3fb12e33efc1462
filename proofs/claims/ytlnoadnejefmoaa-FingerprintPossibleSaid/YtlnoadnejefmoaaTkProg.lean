/- The tokenizer's functions of the program return what the plain functions say. Strings of at most 1000000000 bytes, lists of at most 1000000 tokens. -/
import Derived.Maps.Own
import Derived.Maps.OwnOps
import Derived.MapKept
import Derived.Below
import Derived.WalkKit
import Derived.Test.YtlnoadnejefmoaaProg
import Derived.Test.YtlnoadnejefmoaaTkPlain
import Derived.KernelRfl
import Derived.Deep.QuietTactic
import Derived.BigQuiet
import Derived.Test.YtlnoadnejefmoaaShelf
import Derived.Shelf.RegionOpenPlain
import Derived.Lib.Strings
import Derived.Lib.Slices
import Derived.Lib.Walk
import Derived.Lib.Builder
import Derived.Lib.AppendStr
import Derived.Lib.UnsafeStr
import Derived.Lib.MakeNoZero
import Derived.Laws.Externs
import Derived.Laws.IdiomCopy
import Derived.Laws.BitsLemmas
import Derived.Test.YtlnoadnejefmoaaWWords
import Derived.IntWalk
import Derived.Deep.RegionWith
import Derived.Lib.Join
set_option linter.unusedVariables false
set_option linter.unusedSimpArgs false
namespace Go.Proofs.Ytlnoadnejefmoaa
open Go.RowKit Go.MapKept

/-- Block b is a map whose entries are es, in the order in which they came. -/
def HasMap (w : World) (b : Nat) (es : List (Value × Value)) : Prop :=
  ∃ arr clock, w.heap[b]? = some (.map arr clock) ∧ arr.toList.map (fun e => (e.key, e.val)) = es

/-- The value at a string key. -/
def mfind (s : ByteArray) : List (Value × Value) → Option Value
  | [] => none
  | (.string k, v) :: t => if s == k then some v else mfind s t
  | _ :: t => mfind s t
def StrKeys (es : List (Value × Value)) : Prop := ∀ p ∈ es, ∃ k, p.1 = .string k

theorem findNow_str (s : ByteArray) : ∀ (l : List MapEntry) (es : List (Value × Value)) (i : Nat), l.map (fun e => (e.key, e.val)) = es → StrKeys es →
    ∃ r, Instr.findNow .string (.string s) l i = some r ∧ r.map (·.2) = mfind s es
  | [], es, i, h, _ => by
    subst h
    exact ⟨none, rfl, rfl⟩
  | e :: l, es, i, h, hk => by
    subst h
    obtain ⟨k, hk0⟩ := hk (e.key, e.val) (by simp)
    simp at hk0
    obtain ⟨r, h1, h2⟩ := findNow_str s l _ (i + 1) rfl (fun p hp => hk p (by simp only [List.map_cons]; exact List.mem_cons_of_mem _ hp))
    simp only [Instr.findNow, hk0, Instr.sameNow, List.map_cons, mfind]
    by_cases hs : (s == k) = true
    · rw [hs]; exact ⟨some (i, e.val), rfl, by simp⟩
    · have hs : (s == k) = false := by simpa using hs
      rw [hs]; exact ⟨r, h1, by simpa using h2⟩

theorem HasMap.lt {w : World} {b : Nat} {es : List (Value × Value)} (h : HasMap w b es) : b < w.heap.size := by
  obtain ⟨a, c, h, _⟩ := h
  exact (Array.getElem?_eq_some_iff.1 h).1
theorem HasMap.below {w w' : World} {b B : Nat} {es : List (Value × Value)} (h : HasMap w b es) (hb : Below B w w') (hB : b < B) : HasMap w' b es := by
  obtain ⟨a, c, h1, h2⟩ := h
  exact ⟨a, c, by rw [hb.block b hB]; exact h1, h2⟩
theorem HasMap.made (w : World) : HasMap (w.alloc (.map #[] 0)) w.heap.size [] := ⟨#[], 0, Go.heap_alloc_new w _, rfl⟩
theorem HasMap.alloc {w : World} {b : Nat} {es : List (Value × Value)} (h : HasMap w b es) (o : Obj) : HasMap (w.alloc o) b es := by
  have hl := h.lt
  obtain ⟨a, c, h1, h2⟩ := h
  exact ⟨a, c, by rw [Below.heap_alloc w o b hl]; exact h1, h2⟩
theorem HasMap.drew {w : World} {b : Nat} {es : List (Value × Value)} (h : HasMap w b es) : HasMap w.drew b es := h
theorem HasMap.setCell {w : World} {b : Nat} {es : List (Value × Value)} (h : HasMap w b es) {a : Addr} (ha : b ≠ a.block) (u : Value) : HasMap (w.setCell a u) b es := by
  obtain ⟨a', c, h1, h2⟩ := h
  exact ⟨a', c, by rw [Below.heap_setCell w a u b ha]; exact h1, h2⟩
theorem HasMap.grown {w w' : World} {b : Nat} {es : List (Value × Value)} (h : HasMap w b es) {row : Option Nat} (hg : w.grownBy w' row) (hne : some b ≠ row) : HasMap w' b es := by
  have hl := h.lt
  obtain ⟨a', c, h1, h2⟩ := h
  exact ⟨a', c, by rw [hg.block b hl hne]; exact h1, h2⟩

section
variable {P : Program} {t k e : TypeId} {w : World} {b : Nat} {es : List (Value × Value)}
theorem HasMap.run_lookup (h : HasMap w b es) (ht : P.underlying t = some (.map k e)) (hk : P.underlying k = some .string) {z : Value} (hz : (zeroValue e).run P w = .ok z w) (hs : StrKeys es) (s : ByteArray) (c : Bool) :
    (Instr.lookup t (.map (some b)) (.string s) c).run P w = .ok (if c then .tuple #[(mfind s es).getD z, .bool (mfind s es).isSome] else (mfind s es).getD z) w := by
  obtain ⟨a, cl, h1, h2⟩ := h
  obtain ⟨r, f1, f2⟩ := findNow_str s a.toList es 0 h2 hs
  have hkey : IsKey .string (.string s) := trivial
  rw [← f2]
  cases r with
  | none => simp [Instr.lookup, run_underlying ht, MapKept.run_getObj_map h1, run_checkKey hk hkey, run_findKey hk f1, Result.andThen, hz]
  | some p => simp [Instr.lookup, run_underlying ht, MapKept.run_getObj_map h1, run_checkKey hk hkey, run_findKey hk f1, Result.andThen]
/-- A new key's entry. -/
theorem HasMap.run_put_new (h : HasMap w b es) (ht : P.underlying t = some (.map k e)) (hk : P.underlying k = some .string) (hs : StrKeys es) (s : ByteArray) (v : Value) (hn : mfind s es = none) :
    ∃ w', (Instr.mapUpdate t (.map (some b)) (.string s) v).run P w = .ok () w' ∧ HasMap w' b (es ++ [(.string s, v)]) ∧ w.grownBy w' (some b) := by
  have hl := h.lt
  obtain ⟨a, cl, h1, h2⟩ := h
  obtain ⟨r, f1, f2⟩ := findNow_str s a.toList es 0 h2 hs
  rw [hn] at f2
  have hr : r = none := by cases r <;> simp_all
  subst hr
  refine ⟨{ w with heap := w.heap.setIfInBounds b (.map (a.push { key := .string s, val := v, born := cl }) (cl + 1)) }, ?_, ?_, ?_⟩
  · have hkey : IsKey .string (.string s) := trivial
    simp [Instr.mapUpdate, run_underlying ht, MapKept.run_getObj_map h1, run_checkKey hk hkey, run_findKey hk f1, MapKept.run_setObj_map _ h1, Result.andThen]
  · exact ⟨a.push { key := .string s, val := v, born := cl }, cl + 1, by simp [hl], by simp [← h2]⟩
  · refine ⟨rfl, rfl, rfl, by simp, fun i hi hne => ?_⟩
    simp only
    rw [Array.getElem?_setIfInBounds_ne]
    rintro rfl
    exact hne rfl
end
section
variable {P : Program} {ops : Array Oper} {rest : List Oper} {o : Oper} {a : Act} {Q : Exit → Act → World → Prop}
theorem wpList_insert_str (w : World) (hg : o.guard = none) (m x v : Operand) (t : TypeId) (hop : o.op = Op.insert t m x v)
    (k e : TypeId) (ht : P.underlying t = some (.map k e)) (hk : P.underlying k = some .string) (b : Nat) (es : List (Value × Value))
    (hm : a.eval m = .map (some b)) (hown : HasMap w b es) (hs : StrKeys es) (s : ByteArray) (val : Value) (hx : a.eval x = .string s) (hv : a.eval v = val) (hn : mfind s es = none)
    (hK : ∀ w', HasMap w' b (es ++ [(.string s, val)]) → w.grownBy w' (some b) → wpList P ops Q rest (a.put o.dst undef) w') :
    wpList P ops Q (o :: rest) a w := by
  refine wpList_plain hg fun K' hK' => ?_
  obtain ⟨w', hrun, r1, r2⟩ := hown.run_put_new (v := val) ht hk hs s hn
  unfold Oper.wp
  simp [execOp, hop, hm, hx, hv, hrun, Result.andThen]
  exact hK' _ _ (hK w' r1 r2)
theorem wpList_lookup_str (w : World) (hg : o.guard = none) (m x : Operand) (t : TypeId) (c : Bool) (hop : o.op = Op.lookup t m x c)
    (k e : TypeId) (ht : P.underlying t = some (.map k e)) (hk : P.underlying k = some .string) (z : Value) (hz : (zeroValue e).run P w = .ok z w) (b : Nat) (es : List (Value × Value))
    (hm : a.eval m = .map (some b)) (hown : HasMap w b es) (hs : StrKeys es) (s : ByteArray) (hx : a.eval x = .string s)
    (hK : wpList P ops Q rest (a.put o.dst (if c then .tuple #[(mfind s es).getD z, .bool (mfind s es).isSome] else (mfind s es).getD z)) w) :
    wpList P ops Q (o :: rest) a w := by
  refine wpList_plain hg fun K' hK' => ?_
  have hrun := hown.run_lookup ht hk hz hs s c
  unfold Oper.wp
  simp [execOp, hop, hm, hx, hrun, Result.andThen]
  exact hK' _ _ hK
/-- A set of strings: each with the value v. -/
def StrSet (w : World) (b : Nat) (v : Value) (l : List ByteArray) : Prop := HasMap w b (l.map fun s => (Value.string s, v))
theorem StrSet.keys (v : Value) (l : List ByteArray) : StrKeys (l.map fun s => (Value.string s, v)) := by
  intro p hp
  obtain ⟨s, _, rfl⟩ := List.mem_map.1 hp
  exact ⟨s, rfl⟩
theorem mfind_set (s : ByteArray) (v : Value) : ∀ l : List ByteArray, mfind s (l.map fun s => (Value.string s, v)) = if l.any (s == ·) then some v else none
  | [] => rfl
  | k :: l => by
    have ih := mfind_set s v l
    by_cases h : (s == k) = true
    · simp [mfind, h]
    · have h : (s == k) = false := by simpa using h
      simp [mfind, h, ih]
theorem wpList_insert_set (w : World) (hg : o.guard = none) (m x v : Operand) (t : TypeId) (hop : o.op = Op.insert t m x v)
    (k e : TypeId) (ht : P.underlying t = some (.map k e)) (hk : P.underlying k = some .string) (b : Nat) (val : Value) (l : List ByteArray)
    (hm : a.eval m = .map (some b)) (hown : StrSet w b val l) (s : ByteArray) (hx : a.eval x = .string s) (hv : a.eval v = val) (hn : l.any (s == ·) = false)
    {w0 : World} {B : Nat} (HB : Below B w0 w) (hB : B ≤ b)
    (hK : ∀ w', StrSet w' b val (l ++ [s]) → Below B w0 w' → wpList P ops Q rest (a.put o.dst undef) w') :
    wpList P ops Q (o :: rest) a w := by
  refine wpList_insert_str w hg m x v t hop k e ht hk b _ hm hown (StrSet.keys _ _) s val hx hv (by rw [mfind_set, hn]; rfl) (fun w' h1 h2 => hK w' ?_ (HB.grown h2 (Nat.le_of_lt (Nat.lt_of_le_of_lt hB hown.lt)) (fun j hj => by cases hj; exact hB)))
  unfold StrSet
  rw [List.map_append]
  exact h1
theorem wpList_lookup_set (w : World) (hg : o.guard = none) (m x : Operand) (t : TypeId) (hop : o.op = Op.lookup t m x false)
    (k e : TypeId) (ht : P.underlying t = some (.map k e)) (hk : P.underlying k = some .string) (hz : (zeroValue e).run P w = .ok (.bool false) w) (b : Nat) (l : List ByteArray)
    (hm : a.eval m = .map (some b)) (hown : StrSet w b (.bool true) l) (s : ByteArray) (hx : a.eval x = .string s)
    (hK : ∀ r : Bool, Hid (l.any (s == ·) = r) → wpList P ops Q rest (a.put o.dst (.bool r)) w) :
    wpList P ops Q (o :: rest) a w := by
  refine wpList_lookup_str w hg m x t false hop k e ht hk _ hz b _ hm hown (StrSet.keys _ _) s hx ?_
  have : (mfind s (l.map fun s => (Value.string s, Value.bool true))).getD (.bool false) = .bool (l.any (s == ·)) := by
    rw [mfind_set]
    cases l.any (s == ·) <;> rfl
  simp only [this]
  exact hK _ (show Hid _ from rfl)
end
end Go.Proofs.Ytlnoadnejefmoaa
set_option linter.unusedVariables false
set_option linter.unusedSimpArgs false
namespace Go.Proofs.Ytlnoadnejefmoaa
open Go.RowKit

def kwl : List ByteArray := kwL.map tx
theorem zero_bool (w : World) : (zeroValue 4).run Try.prog w = .ok (.bool false) w := by kernel_rfl
set_option maxHeartbeats 8000000 in
set_option maxRecDepth 100000 in
theorem tok_keyword (a0 : ByteArray) (w : World) :
    Calls Try.prog 25 #[.string a0] w fun e w' => e = .returned (.bool (kwB a0)) ∧ Below w.heap.size w w' := by
  have hmm := @run_makeMap Try.prog
  have h0 : StrSet (w.alloc (.map #[] 0)) w.heap.size (.bool true) [] := HasMap.made w
  have b0 : Below w.heap.size w (w.alloc (.map #[] 0)) := (Below.refl _ _).alloc (Nat.le_refl _) _
  go_enter Try.func25, Try.ntmps25
  go_wp2_with (first
    | (refine wpList_insert_set _ rfl _ _ _ 59 rfl 9 4 Try.underlying59 Try.underlying9 w.heap.size (.bool true) _ rfl (by assumption) _ rfl rfl (by decide) (by assumption) (Nat.le_refl _) ?_; intro w1 h1 g1)
    | (at_lookup; refine wpList_lookup_set _ rfl _ _ 59 rfl 9 4 Try.underlying59 Try.underlying9 (zero_bool _) w.heap.size _ rfl (by assumption) _ rfl ?_; intro r hr))
  go_ret
  have e := hr.out
  simp only [List.nil_append, List.cons_append] at e
  exact ⟨ret_boolE (e.symm.trans (isKw_list kwL a0)), by assumption⟩
end Go.Proofs.Ytlnoadnejefmoaa
set_option linter.unusedVariables false
set_option linter.unusedSimpArgs false
namespace Go.Proofs.Ytlnoadnejefmoaa
open Go.RowKit

theorem tok_digit (c : Int) (w : World) : Calls Try.prog 64 #[.int .u8 c] w fun e w' => e = .returned (.bool (isDigitI c)) ∧ w = w' := by
  go_enter Try.func64, Try.ntmps64
  go_wp2
  all_goals
    go_ret
    refine ⟨ret_boolE ?_, rfl⟩
    rw [Bool.eq_iff_iff]; simp [isDigitI] <;> omega
theorem tok_letter (c : Int) (w : World) : Calls Try.prog 84 #[.int .u8 c] w fun e w' => e = .returned (.bool (isLetterI c)) ∧ w = w' := by
  go_enter Try.func84, Try.ntmps84
  go_wp2
  all_goals
    go_ret
    refine ⟨ret_boolE ?_, rfl⟩
    rw [Bool.eq_iff_iff]; simp [isLetterI] <;> omega

set_option maxHeartbeats 1000000 in
theorem tok_word (s : ByteArray) (w : World) (hs : s.size ≤ 9223372036854775807) :
    Calls Try.prog 85 #[.string s] w fun e w' => e = .returned (.string (wordS s)) ∧ w = w' := by
  have hwl := wordLen_le s.data.toList
  rw [len_data] at hwl
  go_enter Try.func85, Try.ntmps85
  go_wp2
  go_loop [3] (fun i => ∃ k : Nat, i = .int .i64 k ∧ k ≤ s.size ∧ Hid (k + wordLen (s.data.toList.drop k) = wordLen s.data.toList)) (fun i => s.size - (intOf i).toNat)
  case atStart => exact ⟨0, rfl, Nat.zero_le _, show _ = _ by simp⟩
  case round =>
    obtain ⟨k, rfl, hk, hinv⟩ := hrel
    by_cases hlt : k < s.size
    · have hc : Hid (wordLen (s.data.toList.drop k) = if isWordB s[k] then wordLen (s.data.toList.drop (k + 1)) + 1 else 0) := show _ = _ by rw [byte_at s k hlt, wordLen_cons]
      go_wp2_with (first
        | (go_at_call 84; refine (tok_letter _ _).mono ?_; rintro e w' ⟨rfl, rfl⟩)
        | (go_at_call 64; refine (tok_digit _ _).mono ?_; rintro e w' ⟨rfl, rfl⟩))
      · go_round
        have h : isWordB s[k] = true := by unfold isWordB; simp [*]
        have e := hc.out; rw [if_pos h] at e; have := hinv.out
        case rel => exact ⟨k + 1, by go_num, by omega, show _ = _ by omega⟩
        case measure => simp [intOf]; omega
      · go_round
        have h : isWordB s[k] = true := by unfold isWordB; simp [*]
        have e := hc.out; rw [if_pos h] at e; have := hinv.out
        case rel => exact ⟨k + 1, by go_num, by omega, show _ = _ by omega⟩
        case measure => simp [intOf]; omega
      · go_ret
        have h : isWordB s[k] = false := by unfold isWordB; simp [*]
        have e := hc.out; rw [h] at e; have := hinv.out
        simp at e
        rw [e] at this
        exact ⟨ret_strE (by unfold wordS; rw [← this]; rfl), rfl⟩
    · have hks : k = s.size := by omega
      have hinv' := hinv.out
      clear hinv
      have h0 : wordLen (s.data.toList.drop k) = 0 := by rw [List.drop_eq_nil_of_le (by rw [len_data]; omega)]; rfl
      rw [h0] at hinv'
      have H : Hid (k + 0 = wordLen s.data.toList) := hinv'
      clear hinv' h0
      go_wp2
      go_ret
      have h := H.out
      exact ⟨ret_strE (by unfold wordS; rw [← h]; simp [hks]), rfl⟩
end Go.Proofs.Ytlnoadnejefmoaa
set_option linter.unusedVariables false
set_option linter.unusedSimpArgs false
namespace Go.Proofs.Ytlnoadnejefmoaa
open Go.RowKit

set_option maxHeartbeats 1000000 in
theorem tok_name (s : ByteArray) (w : World) (hs : s.size ≤ 9223372036854775807) :
    Calls Try.prog 63 #[.string s] w fun e w' => e = .returned (.bool (nameB s)) ∧ Below w.heap.size w w' := by
  rcases Nat.eq_zero_or_pos s.size with h0 | h0
  · have hn := toList_nil s h0
    have hl : nameB s = false := by unfold nameB; rw [← Lib.toList_data, hn]; rfl
    clear h0
    go_enter Try.func63, Try.ntmps63
    go_wp2
    go_ret
    exact ⟨ret_boolE hl.symm, Below.refl _ _⟩
  · have hn := toList_cons s h0
    obtain ⟨t, ht⟩ := head_at s h0
    have hl : Hid (nameB s = (isLetterI s[0].toNat && wordLen s.data.toList == s.data.toList.length && !kwB s)) := show _ = _ by unfold nameB kwB nameL; rw [ht]
    have HT : Hid (s.data.toList = s[0] :: t) := ht
    clear ht
    go_enter Try.func63, Try.ntmps63
    go_wp2_with (first
        | (go_at_call 84; refine (tok_letter _ _).mono ?_; rintro e w' ⟨rfl, rfl⟩)
        | (go_at_call 85; refine (tok_word _ _ hs).mono ?_; rintro e w' ⟨rfl, rfl⟩)
        | (go_at_call 25; refine (tok_keyword _ _).mono ?_; rintro e w' ⟨rfl, hb⟩))
    all_goals
      go_ret
      refine ⟨ret_boolE (Eq.trans ?_ hl.out.symm), by first | exact Below.refl _ _ | assumption⟩
      have hw := wordT_data s
      unfold wordS at *
      simp_all

set_option maxHeartbeats 4000000 in
set_option maxRecDepth 10000 in
theorem tok_mark (s : ByteArray) (w : World) : Calls Try.prog 67 #[.string s] w fun e w' => e = .returned (.bool (markB s)) ∧ w = w' := by
  go_enter Try.func67, Try.ntmps67
  go_wp2
  all_goals
    go_ret
    refine ⟨ret_boolE ?_, rfl⟩
    unfold markB
    rw [← Lib.toList_data]
    simp_all [isMarkL, markL]

theorem has_prefix0 (s p : ByteArray) (w : World) (hs : s.size ≤ 9223372036854775807) : Calls Try.prog 101 #[.string s, .string p] w fun e w' => e = .returned (.bool (pfxB p s)) ∧ w = w' := by
  by_cases h : p.size ≤ s.size
  · go_enter Try.func101, Try.ntmps101
    go_wp2
    go_ret
    refine ⟨ret_boolE ?_, rfl⟩
    rw [Bool.eq_iff_iff, str_eqb, ext0_tx, tx_list, beq_iff_eq, pfxB, pfxL, List.isPrefixOf_iff_prefix, List.prefix_iff_eq_take, len_data]
    exact ⟨fun h => h.symm, fun h => h.symm⟩
  · go_enter Try.func101, Try.ntmps101
    go_wp2
    go_ret
    refine ⟨ret_boolE ?_, rfl⟩
    symm
    rw [Bool.eq_false_iff]
    intro e
    unfold pfxB pfxL at e
    have := (List.isPrefixOf_iff_prefix.1 e).length_le
    rw [len_data, len_data] at this
    omega
theorem has_prefix (s p : ByteArray) (w : World) (hs : s.size ≤ 9223372036854775807) : Calls Try.prog 82 #[.string s, .string p] w fun e w' => e = .returned (.bool (pfxB p s)) ∧ w = w' := by
  go_enter Try.func82, Try.ntmps82
  go_wp2_with (go_at_call 101; refine (has_prefix0 _ _ _ hs).mono ?_; rintro e w' ⟨rfl, rfl⟩)
  go_ret
  exact ⟨rfl, rfl⟩
end Go.Proofs.Ytlnoadnejefmoaa
set_option linter.unusedVariables false
set_option linter.unusedSimpArgs false
namespace Go.Proofs.Ytlnoadnejefmoaa
open Go.RowKit

/-- What read and its helpers hand back: the token and the error. -/
def tokRet (r : RT) : Ending := .returned (.tuple #[.agg #[.int .i64 r.kind, .string (tx r.text), .int .i64 0, .int .i64 r.len], .int .i64 r.err])
theorem str_index (s : ByteArray) (c : UInt8) (w : World) : Calls Try.prog 83 #[.string s, .int .u8 c.toNat] w fun e w' => e = .returned (.int .i64 (idxB s c)) ∧ w = w' :=
  (Try.strings_IndexByte s c.toNat w).mono fun e w' ⟨he, hw⟩ => ⟨by rw [he]; simp [idxB], hw.symm⟩
set_option maxHeartbeats 2000000 in
theorem tok_skip (s : ByteArray) (w : World) (hs : s.size ≤ 9223372036854775807) :
    Calls Try.prog 59 #[.string s] w fun e w' => e = .returned (.int .i64 (skipB s : Nat)) ∧ w = w' := by
  go_enter Try.func59, Try.ntmps59
  go_wp2
  go_loop [3] (fun i => ∃ k : Nat, i = .int .i64 k ∧ k ≤ s.size ∧ Hid (k + skipGo false (s.data.toList.drop k) = skipGo false s.data.toList)) (fun i => s.size - (intOf i).toNat)
  case atStart => exact ⟨0, rfl, Nat.zero_le _, show _ = _ by simp⟩
  case round =>
    obtain ⟨k, rfl, hk, hinv⟩ := hrel
    by_cases hlt : k < s.size
    · have hc : Hid (s.data.toList.drop k = s[k] :: s.data.toList.drop (k + 1)) := byte_at s k hlt
      have hge := idxB_ge (s.extract k s.size) 10
      have hle : (k : Int) + idxB (s.extract k s.size) 10 < s.size := by have := idxB_lt (s.extract k s.size) 10 (by simp; omega); simp at this; omega
      go_wp2_with (first
        | (go_at_call 82; refine (has_prefix _ _ _ (by simp; omega)).mono ?_; rintro e w' ⟨rfl, rfl⟩)
        | (go_at_call 83; refine (str_index _ 10 _).mono ?_; rintro e w' ⟨rfl, rfl⟩))
      · go_round
        have e : skipGo false (s.data.toList.drop k) = skipGo false (s.data.toList.drop (k + 1)) + 1 := by rw [hc.out, skipGo_cons, if_neg (by simp), if_pos (by simp [blankI, *])]
        case rel => exact ⟨k + 1, by go_num, by omega, show _ = _ by have := hinv.out; omega⟩
        case measure => simp [intOf]; omega
      · go_round
        have e : skipGo false (s.data.toList.drop k) = skipGo false (s.data.toList.drop (k + 1)) + 1 := by rw [hc.out, skipGo_cons, if_neg (by simp), if_pos (by simp [blankI, *])]
        case rel => exact ⟨k + 1, by go_num, by omega, show _ = _ by have := hinv.out; omega⟩
        case measure => simp [intOf]; omega
      · go_round
        have e : skipGo false (s.data.toList.drop k) = skipGo false (s.data.toList.drop (k + 1)) + 1 := by rw [hc.out, skipGo_cons, if_neg (by simp), if_pos (by simp_all [blankI])]
        case rel => exact ⟨k + 1, by go_num, by omega, show _ = _ by have := hinv.out; omega⟩
        case measure => simp [intOf]; omega
      · go_ret
        have e := comment_none s k hk (by assumption) (by assumption)
        exact ⟨ret_intE (by have := hinv.out; unfold skipB; omega), rfl⟩
      · obtain ⟨o, h1, h2, h3, h4⟩ := comment_some s k hk (by assumption) (by assumption)
        rw [h1]
        go_round
        case rel => exact ⟨k + o, by go_num, by omega, show _ = _ by have := hinv.out; omega⟩
        case measure => simp [intOf]; omega
      · go_ret
        have e := skipGo_stop _ _ _ hc.out (by simp_all [blankI]) (by have h : pfxB ⟨#[47, 47]⟩ (s.extract k s.size) = false := by assumption
                                                                      unfold pfxB at h; rw [extE_list] at h; exact h)
        exact ⟨ret_intE (by have := hinv.out; unfold skipB; omega), rfl⟩
    · have hks : k = s.size := by omega
      have h0 : skipGo false (s.data.toList.drop k) = 0 := by rw [List.drop_eq_nil_of_le (by rw [len_data]; omega)]; rfl
      have H : Hid (k = skipGo false s.data.toList) := show _ = _ by have := hinv.out; omega
      clear h0 hinv hks
      go_wp2
      go_ret
      exact ⟨ret_intE (by unfold skipB; rw [← H.out]), rfl⟩

theorem Hid.mk' {p : Prop} (h : p) : Hid p := h
theorem int_head (s : ByteArray) (h0 : 0 < s.size) : (s.data.toList.head? == some 48) = ((s[0].toNat : Int) == 48) := by
  obtain ⟨t, ht⟩ := head_at s h0
  rw [ht]
  rw [Bool.eq_iff_iff, List.head?_cons, beq_iff_eq, beq_iff_eq, Option.some.injEq]
  constructor
  · intro e; rw [e]; rfl
  · intro e; exact UInt8.toNat_inj.1 (by show s[0].toNat = 48; omega)
theorem int_ret (s : ByteArray) (h0 : 0 < s.size) (k : Nat) (h : digLen s.data.toList = k) :
    tokRet (intR s.data.toList) = .returned (if (s[0].toNat : Int) = 48 ∧ 1 < (k : Int) then .tuple #[.agg #[.int .i64 0, .string ⟨#[]⟩, .int .i64 0, .int .i64 0], .int .i64 11]
      else if 9 < (k : Int) then .tuple #[.agg #[.int .i64 0, .string ⟨#[]⟩, .int .i64 0, .int .i64 0], .int .i64 4] else .tuple #[.agg #[.int .i64 3, .string (s.extract 0 k), .int .i64 0, .int .i64 k], .int .i64 0]) := by
  unfold intR
  rw [int_head s h0, h]
  have e1 : (1 < (k : Int)) ↔ (1 < k) := by omega
  have e9 : (9 < (k : Int)) ↔ (9 < k) := by omega
  rw [ext0_tx]
  by_cases h1 : (s[0].toNat : Int) = 48 <;> by_cases h2 : 1 < k <;> by_cases h3 : 9 < k <;> simp [h1, h2, h3, e1, e9, tokRet, RT.bad, tx]
set_option maxHeartbeats 2000000 in
theorem tok_integer (s : ByteArray) (w : World) (hs : s.size ≤ 9223372036854775807) (h0 : 0 < s.size) :
    Calls Try.prog 65 #[.string s] w fun e w' => e = tokRet (intR s.data.toList) ∧ Below w.heap.size w w' := by
  have hd0 := digLen_le s.data.toList
  rw [len_data] at hd0
  go_enter Try.func65, Try.ntmps65
  go_wp2
  go_loop [4] (fun i => ∃ k : Nat, i = .int .i64 k ∧ k ≤ s.size ∧ Hid (k + digLen (s.data.toList.drop k) = digLen s.data.toList)) (fun i => s.size - (intOf i).toNat)
  case atStart => exact ⟨0, rfl, Nat.zero_le _, show _ = _ by simp⟩
  case round =>
    obtain ⟨k, rfl, hk, hinv⟩ := hrel
    by_cases hgo : ∃ h : k < s.size, isDigitI (s[k]'h).toNat = true
    · obtain ⟨hlt, hd⟩ := hgo
      have hc : Hid (digLen (s.data.toList.drop k) = if isDigitB s[k] then digLen (s.data.toList.drop (k + 1)) + 1 else 0) := show _ = _ by rw [byte_at s k hlt, digLen_cons]
      go_wp2_with (first
          | (go_at_call 64; refine (tok_digit _ _).mono ?_; rintro e w' ⟨rfl, rfl⟩))
      go_round
      case rel => exact ⟨k + 1, by go_num, by omega, show _ = _ by have e := hc.out; unfold isDigitB at e; rw [hd] at e; have := hinv.out; simp at e; omega⟩
      case measure => simp [intOf]; omega
    · have HD : Hid (digLen s.data.toList = k) := by
        have := hinv.out
        rcases Nat.lt_or_ge k s.size with h | h
        · have e : digLen (s.data.toList.drop k) = 0 := by
            rw [byte_at s k h, digLen_cons, if_neg]
            exact fun h1 => hgo ⟨h, h1⟩
          exact show _ = _ by omega
        · have e : digLen (s.data.toList.drop k) = 0 := by rw [List.drop_eq_nil_of_le (by rw [len_data]; omega)]; rfl
          exact show _ = _ by omega
      clear hinv
      rcases Nat.lt_or_ge k s.size with hlt | hlt
      · have hd : isDigitI s[k].toNat = false := by rw [Bool.eq_false_iff]; exact fun h1 => hgo ⟨hlt, h1⟩
        clear hgo
        go_wp2_with (first
          | (go_at_call 64; refine (tok_digit _ _).mono ?_; rintro e w' ⟨rfl, rfl⟩))
        all_goals
          refine post_res rfl ⟨_, by (simp [results, Try.results65, go_sem]; rfl), ?_, (Below.refl _ _).alloc (Nat.le_refl _) _⟩
          rw [int_ret s h0 k HD.out]
          split <;> first | rfl | (exfalso; omega) | (split <;> first | rfl | (exfalso; omega))
      · clear hgo
        go_wp2
        all_goals
          refine post_res rfl ⟨_, by (simp [results, Try.results65, go_sem]; rfl), ?_, (Below.refl _ _).alloc (Nat.le_refl _) _⟩
          rw [int_ret s h0 k HD.out]
          split <;> first | rfl | (exfalso; omega) | (split <;> first | rfl | (exfalso; omega))
theorem tok_skip_is (s : ByteArray) (k : Nat) (w : World) (hs : s.size ≤ 9223372036854775807) (h : skipB s = k) :
    Calls Try.prog 59 #[.string s] w fun e w' => e = .returned (.int .i64 k) ∧ w = w' := by rw [← h]; exact tok_skip s w hs
end Go.Proofs.Ytlnoadnejefmoaa
set_option linter.unusedVariables false
set_option linter.unusedSimpArgs false
namespace Go.Proofs.Ytlnoadnejefmoaa
open Go.RowKit

theorem bld_size : (Try.prog.info? 79).map (·.size) = some 2 := by kernel_rfl
theorem bld_lies : liesAt Try.prog Try.prog.depth 79 (2 / Try.prog.cellsOf 79) 0 79 1 = true := by kernel_rfl
theorem info_byte : (Try.prog.info? 5).map (fun i => (i.zero, i.size, i.bytes)) = some (some (.int .u8 0), 1, 1) := by kernel_rfl

set_option maxHeartbeats 1000000 in
set_option maxRecDepth 100000 in
theorem bld_check_used (b : Nat) (w : World) (h0 : w.cell? ⟨b, 0, none⟩ = some (.pointer (some ⟨b, 0, none⟩))) :
    Calls Try.prog 95 #[.pointer (some ⟨b, 0, none⟩)] w fun e w' => e = .returned (.tuple #[]) ∧ w' = w := by
  obtain ⟨j, hj, _⟩ := Option.map_eq_some_iff.1 bld_size
  go_enter Try.func95, Try.ntmps95
  go_wp2
  rw [Lib.run_neq_ptr_same w _ Try.underlying77 hj]
  go_wp2
  go_end0
  exact ⟨rfl, rfl⟩

set_option maxHeartbeats 1000000 in
set_option maxRecDepth 100000 in
theorem bld_check_fresh (b : Nat) (w : World) (h0 : w.cell? ⟨b, 0, none⟩ = some (.pointer none)) (hsh : w.shape? b = some (79, 2)) (hfz : w.frozen? ⟨b, 0, none⟩ = false) :
    Calls Try.prog 95 #[.pointer (some ⟨b, 0, none⟩)] w fun e w' => e = .returned (.tuple #[]) ∧ w' = w.setCell ⟨b, 0, none⟩ (.pointer (some ⟨b, 0, none⟩)) := by
  obtain ⟨j, hj, hjs⟩ := Option.map_eq_some_iff.1 bld_size
  go_enter Try.func95, Try.ntmps95
  go_wp2
  rw [Lib.run_to_unsafe w ⟨b, 0, none⟩ Try.underlying77 Try.underlying101 hj (by rw [hjs]; decide) hsh (Nat.zero_lt_succ 1)]
  simp only [Result.andThen]
  rw [Oper.upon_value]
  go_wp2
  rw [run_callFunc_extern Try.func104 (by kernel_rfl) (by kernel_rfl) (by kernel_rfl) (e := Extern.AbiNoEscape.same) (by kernel_rfl)]
  rw [Lib.run_noEscape]
  simp only [Result.andThen]
  rw [Oper.upon_value]
  go_wp2
  rw [Lib.run_from_unsafe w ⟨b, 0, none⟩ Try.underlying101 Try.underlying77 hj hsh bld_lies]
  simp only [Result.andThen]
  rw [Oper.upon_value]
  go_wp2
  go_end0
  exact ⟨rfl, rfl⟩

theorem bld_check (B b : Nat) (bs : List Value) (w : World) (h : Lib.IsBuilder 79 5 B b bs w) :
    Calls Try.prog 95 #[.pointer (some ⟨b, 0, none⟩)] w fun e w' => e = .returned (.tuple #[]) ∧ (Lib.BuilderAt 79 5 B b (.pointer (some ⟨b, 0, none⟩)) bs w' ∧ Below B w w') := by
  rcases h with h | h
  · refine (bld_check_fresh b w h.cell0 h.shape h.frozen0).mono ?_
    rintro e w' ⟨rfl, rfl⟩
    exact ⟨rfl, h.used _, (Below.refl B w).setCell (p := ⟨b, 0, none⟩) h.1 _⟩
  · refine (bld_check_used b w h.cell0).mono ?_
    rintro e w' ⟨rfl, rfl⟩
    exact ⟨rfl, h, Below.refl B _⟩

set_option maxHeartbeats 2000000 in
set_option maxRecDepth 100000 in
theorem bld_byte (B b : Nat) (bs : List Value) (c : Int) (w : World) (h : Lib.IsBuilder 79 5 B b bs w) (hlen : bs.length + 1 ≤ 140737488355328) (hBw : B ≤ w.heap.size) :
    Calls Try.prog 94 #[.pointer (some ⟨b, 0, none⟩), .int .u8 c] w fun e w' => e = .returned .nilIface ∧ (Lib.BuilderAt 79 5 B b (.pointer (some ⟨b, 0, none⟩)) (bs ++ [.int .u8 c]) w' ∧ Below B w w') := by
  obtain ⟨i0, hi, hz0, hz1, hz2⟩ := info_parts info_byte
  go_enter Try.func94, Try.ntmps94
  go_wp2_with (go_at_call 95; refine (bld_check B b bs _ h).mono ?_)
  rintro e w1 ⟨rfl, h1, hb1⟩
  obtain ⟨hB, v, hbk, hown, hne⟩ := h1
  have c0 : w1.cell? ⟨b, 0, none⟩ = some (.pointer (some ⟨b, 0, none⟩)) := by rw [Lib.cell_of_heap hbk]; rfl
  have c1 : w1.cell? ⟨b, 1, none⟩ = some v := by rw [Lib.cell_of_heap hbk]; rfl
  go_wp2_with (at_builtin; refine wpList_append_own _ rfl _ _ 63 rfl B 5 i0 (.int .u8 0) 1 1 Try.underlying63 hi hz0 hz1 hz2 rfl (by decide) _ _ _ rfl (hown.alloc _) ⟨w1.heap.size, 0, none⟩ 1 1 [.int .u8 c] rfl rfl ?c1 ?c2 ?c3 ?c4 ?c5 ?_)
  case c1 =>
    intro j u hj
    match j, hj with
    | 0, hj => simp at hj; subst hj; simp [Addr.add]
  case c2 => intro u hu; simp at hu; subst hu; rfl
  case c3 => unfold maxLen; omega
  case c4 => omega
  case c5 => have := hb1.size; simp; omega
  intro v' w2 hown' hgrow _
  have hlt : b < w1.heap.size := by
    rcases Nat.lt_or_ge b w1.heap.size with h' | h'
    · exact h'
    · simp [Array.getElem?_eq_none h'] at hbk
  have hb2 : w2.heap[b]? = some (.cells #[.pointer (some ⟨b, 0, none⟩), v] 79 (0, 0)) := by
    rw [hgrow.block b (by simp; omega) (fun e => hne e.symm), Lib.alloc_old w1 _ b hlt]
    exact hbk
  have d0 : w2.cell? ⟨b, 0, none⟩ = some (.pointer (some ⟨b, 0, none⟩)) := by rw [Lib.cell_of_heap hb2]; rfl
  have d1 : w2.cell? ⟨b, 1, none⟩ = some v := by rw [Lib.cell_of_heap hb2]; rfl
  have f1 : w2.frozen? ⟨b, 1, none⟩ = false := Lib.frozen_of_heap hb2 1
  obtain ⟨g, cap, rfl⟩ : ∃ g cap, v' = .slice (some ⟨g, 0, none⟩) (bs.length + 1) cap := by
    rcases hown'.2 with ⟨_, h0⟩ | ⟨g, cap, cur, hv, _⟩
    · omega
    · exact ⟨g, cap, hv⟩
  go_wp2
  go_ret
  refine ⟨rfl, ?_, ?_⟩
  · exact Lib.BuilderAt.put (T := 79) (e := 5) hB hb2 (bs' := bs ++ [.int .u8 c]) (by simpa using hown') (by decide)
  · exact ((hb1.alloc (by have := hb1.size; omega) _).grown hgrow (by have := hb1.size; simp; omega) (fun k hk => (hown.lt k hk).1)).setCell (p := ⟨b, 1, none⟩) hB _

set_option maxHeartbeats 2000000 in
set_option maxRecDepth 100000 in
theorem bld_string (B b : Nat) (bs : List Value) (s : ByteArray) (w : World) (h : Lib.IsBuilder 79 5 B b bs w) (hlen : bs.length + s.size ≤ 140737488355328) (hBw : B ≤ w.heap.size) :
    Calls Try.prog 69 #[.pointer (some ⟨b, 0, none⟩), .string s] w fun e w' => e = .returned (.tuple #[.int .i64 s.size, .nilIface]) ∧ (Lib.BuilderAt 79 5 B b (.pointer (some ⟨b, 0, none⟩)) (bs ++ Lib.strCells s) w' ∧ Below B w w') := by
  obtain ⟨i0, hi, hz0, hz1, hz2⟩ := info_parts info_byte
  go_enter Try.func69, Try.ntmps69
  go_wp2_with (go_at_call 95; refine (bld_check B b bs _ h).mono ?_)
  rintro e w1 ⟨rfl, h1, hb1⟩
  obtain ⟨hB, v, hbk, hown, hne⟩ := h1
  have c0 : w1.cell? ⟨b, 0, none⟩ = some (.pointer (some ⟨b, 0, none⟩)) := by rw [Lib.cell_of_heap hbk]; rfl
  have c1 : w1.cell? ⟨b, 1, none⟩ = some v := by rw [Lib.cell_of_heap hbk]; rfl
  go_wp2_with (at_builtin; refine Lib.wpList_append_own_string _ rfl _ _ 63 9 rfl B 5 i0 Try.underlying63 Try.underlying9 hi hz0 hz1 hz2 _ _ _ rfl hown s rfl ?c3 ?c4 ?c5 ?_)
  case c3 => unfold maxLen; omega
  case c4 => omega
  case c5 => have := hb1.size; omega
  intro v' w2 hown' hgrow _
  have hlt : b < w1.heap.size := by
    rcases Nat.lt_or_ge b w1.heap.size with h' | h'
    · exact h'
    · simp [Array.getElem?_eq_none h'] at hbk
  have hb2 : w2.heap[b]? = some (.cells #[.pointer (some ⟨b, 0, none⟩), v] 79 (0, 0)) := by
    rw [hgrow.block b hlt (fun e => hne e.symm)]
    exact hbk
  have d0 : w2.cell? ⟨b, 0, none⟩ = some (.pointer (some ⟨b, 0, none⟩)) := by rw [Lib.cell_of_heap hb2]; rfl
  have d1 : w2.cell? ⟨b, 1, none⟩ = some v := by rw [Lib.cell_of_heap hb2]; rfl
  have f1 : w2.frozen? ⟨b, 1, none⟩ = false := Lib.frozen_of_heap hb2 1
  obtain ⟨ao, n', cap, rfl⟩ : ∃ ao n' cap, v' = .slice ao n' cap := by
    rcases hown'.2 with ⟨hv, _⟩ | ⟨g, cap, cur, hv, _⟩
    · exact ⟨_, _, _, hv⟩
    · exact ⟨_, _, _, hv⟩
  go_wp2
  go_ret2
  refine ⟨rfl, ?_, ?_⟩
  · exact Lib.BuilderAt.put (T := 79) (e := 5) hB hb2 (bs' := bs ++ Lib.strCells s) (by simpa [Lib.strCells_length] using hown') (by decide)
  · exact (hb1.grown hgrow (by have := hb1.size; omega) (fun k hk => (hown.lt k hk).1)).setCell (p := ⟨b, 1, none⟩) hB _
end Go.Proofs.Ytlnoadnejefmoaa
set_option linter.unusedVariables false
set_option linter.unusedSimpArgs false
namespace Go.Proofs.Ytlnoadnejefmoaa
open Go.RowKit

theorem below_cells {B : Nat} {w w1 : World} (h : Below B w w1) {b : Nat} (hb : b < B) {o : Obj} (hc : w.heap[b]? = some o) : w1.heap[b]? = some o := by rw [h.block b hb]; exact hc
theorem cell_of {w : World} {b : Nat} {c : Array Value} {t : TypeId} {f : Nat × Nat} (h : w.heap[b]? = some (.cells c t f)) (i : Nat) : w.cell? ⟨b, i, none⟩ = c[i]? := by simp [World.cell?, h]
theorem frozen_of {w : World} {b : Nat} {c : Array Value} {t : TypeId} (h : w.heap[b]? = some (.cells c t (0, 0))) (i : Nat) : w.frozen? ⟨b, i, none⟩ = false := by simp [World.frozen?, h]

theorem tok4 {w : World} {b : Nat} {c0 c1 c2 c3 : Value} {t : TypeId} (h : w.heap[b]? = some (.cells #[c0, c1, c2, c3] t (0, 0))) :
    w.cell? ⟨b, 0, none⟩ = some c0 ∧ w.cell? ⟨b, 1, none⟩ = some c1 ∧ w.cell? ⟨b, 2, none⟩ = some c2 ∧ w.cell? ⟨b, 3, none⟩ = some c3 ∧
      w.frozen? ⟨b, 0, none⟩ = false ∧ w.frozen? ⟨b, 1, none⟩ = false ∧ w.frozen? ⟨b, 2, none⟩ = false ∧ w.frozen? ⟨b, 3, none⟩ = false :=
  ⟨cell_of h 0, cell_of h 1, cell_of h 2, cell_of h 3, frozen_of h 0, frozen_of h 1, frozen_of h 2, frozen_of h 3⟩
theorem two_blocks (w : World) (A B : Obj) : ((w.alloc A).alloc B).heap[w.heap.size]? = some A ∧ ((w.alloc A).alloc B).heap[w.heap.size + 1]? = some B :=
  ⟨(Below.heap_alloc _ _ _ (by simp)).trans (Go.heap_alloc_new _ _), by have h := Go.heap_alloc_new (w.alloc A) B; simpa using h⟩
theorem keep2 {w w1 : World} {A B : Obj} (hb : Below ((w.alloc A).alloc B).heap.size ((w.alloc A).alloc B) w1) : w1.heap[w.heap.size]? = some A ∧ w1.heap[w.heap.size + 1]? = some B ∧ Below w.heap.size w w1 :=
  ⟨below_cells hb (by simp; omega) (two_blocks _ _ _).1, below_cells hb (by simp) (two_blocks _ _ _).2, (((Below.refl _ _).alloc (Nat.le_refl _) _).alloc (by simp) _).trans (hb.mono (by simp; omega))⟩
theorem keep1 {w w1 : World} {A : Obj} (hb : Below (w.alloc A).heap.size (w.alloc A) w1) : w1.heap[w.heap.size]? = some A ∧ Below w.heap.size w w1 :=
  ⟨below_cells hb (by simp) (Go.heap_alloc_new _ _), ((Below.refl _ _).alloc (Nat.le_refl _) _).trans (hb.mono (by simp))⟩
theorem bld_len (B b : Nat) (l : List UInt8) (w : World) (h : Lib.IsBuilder 79 5 B b (Lib.byteCells l) w) :
    Calls Try.prog 103 #[.pointer (some ⟨b, 0, none⟩)] w fun e w' => e = .returned (.int .i64 l.length) ∧ w = w' :=
  (Try.Builder_Len B b _ w h).mono fun e w' ⟨he, hw⟩ => ⟨by rw [he, Lib.byteCells_length], hw.symm⟩
theorem bld_str (B b : Nat) (l : List UInt8) (w : World) (h : Lib.IsBuilder 79 5 B b (Lib.byteCells l) w) (hB : B ≤ w.heap.size) :
    Calls Try.prog 70 #[.pointer (some ⟨b, 0, none⟩)] w fun e w' => e = .returned (.string (tx l)) ∧ Below B w w' :=
  Try.Builder_String_any B b l w h hB
theorem byte_rng (b : UInt8) : 0 ≤ (b.toNat : Int) ∧ (b.toNat : Int) ≤ 255 := by have := b.toNat_lt; omega
def ofI (c : Int) : UInt8 := c.toNat.toUInt8
theorem ofI_nat (b : UInt8) : ofI (b.toNat : Int) = b := by simp [ofI]
theorem ofI_of (b : UInt8) (c : Int) (h : (b.toNat : Int) = c) : ofI c = b := by subst h; exact ofI_nat b
theorem bld_put (B b : Nat) (l : List UInt8) (c : Int) (w : World) (h : Lib.IsBuilder 79 5 B b (Lib.byteCells l) w) (hc : 0 ≤ c ∧ c ≤ 255) (hl : l.length ≤ 1000000000) (hB : B ≤ w.heap.size) :
    Calls Try.prog 94 #[.pointer (some ⟨b, 0, none⟩), .int .u8 c] w fun e w' => e = .returned .nilIface ∧ Lib.IsBuilder 79 5 B b (Lib.byteCells (l ++ [ofI c])) w' ∧ Below B w w' :=
  (bld_byte B b _ c w h (by rw [Lib.byteCells_length]; omega) hB).mono fun e w' ⟨he, h1, h2⟩ => ⟨he, by
    have e1 : ((ofI c).toNat : Int) = c := by
      unfold ofI
      rw [UInt8.toNat_ofNat_of_lt' (by show c.toNat < 256; omega)]
      omega
    rw [show Lib.byteCells (l ++ [ofI c]) = Lib.byteCells l ++ [.int .u8 c] from by rw [← e1]; simp [Lib.byteCells, e1]]
    exact .inr h1, h2⟩

set_option maxRecDepth 100000 in
set_option maxHeartbeats 4000000 in
theorem tok_literal (s : ByteArray) (w : World) (hs : s.size ≤ 1000000000) (h0 : 0 < s.size) :
    Calls Try.prog 86 #[.string s] w fun e w' => e = tokRet (litR s.data.toList) ∧ Below w.heap.size w w' := by
  go_enter Try.func86, Try.ntmps86
  go_wp2
  go_loopw [5] (fun i wr => ∃ (k : Nat) (acc : List UInt8), i = .int .i64 k ∧ k ≤ s.size ∧ acc.length < k ∧ Lib.IsBuilder 79 5 (w.heap.size + 1) (w.heap.size + 1) (Lib.byteCells acc) wr ∧
      wr.heap[w.heap.size]? = some (.cells #[.int .i64 0, .string ⟨#[]⟩, .int .i64 0, .int .i64 0] 33 (0, 0)) ∧ Below w.heap.size w wr ∧ w.heap.size + 2 ≤ wr.heap.size ∧ Hid (litGo (s.data.toList.drop k) k acc = litR s.data.toList)) (fun i _ => s.size - (intOf i).toNat)
  case atStart =>
    refine ⟨1, [], rfl, by omega, by simp, ?_, ?_, ?_, ?_, show _ = _ from rfl⟩
    · refine .inl ⟨Nat.le_refl _, .slice none 0 0, ?_, ⟨by simp, .inl ⟨rfl, rfl⟩⟩, by simp [Value.ownBlock]⟩
      have h := Go.heap_alloc_new (w.alloc (.cells #[.int .i64 0, .string ⟨#[]⟩, .int .i64 0, .int .i64 0] 33)) (.cells #[.pointer none, .slice none 0 0] 79)
      simpa using h
    · exact (Below.heap_alloc _ _ _ (by simp)).trans (Go.heap_alloc_new _ _)
    · exact ((Below.refl _ _).alloc (Nat.le_refl _) _).alloc (by simp) _
    · simp
  case round =>
    obtain ⟨k, acc, rfl, hk, hal, hB, hc, hbl, hsz, hinv⟩ := hrel
    by_cases hlt : k < s.size
    · have hd : Hid (s.data.toList.drop k = s[k] :: s.data.toList.drop (k + 1)) := byte_at s k hlt
      have z0 := cell_of hc 0
      have z1 := cell_of hc 1
      have z2 := cell_of hc 2
      have z3 := cell_of hc 3
      have f0 := frozen_of hc 0
      have f1 := frozen_of hc 1
      have f2 := frozen_of hc 2
      have f3 := frozen_of hc 3
      simp at z0 z1 z2 z3
      go_wp2_with (first
        | (go_at_call 103; refine (bld_len _ _ _ _ hB).mono ?_; rintro e w' ⟨rfl, rfl⟩)
        | (go_at_call 70; refine (bld_str _ _ _ _ hB (by omega)).mono ?_; rintro e w1 ⟨rfl, hb1⟩; have hc1 := below_cells hb1 (Nat.lt_succ_self _) hc; have y0 := cell_of hc1 0; have y1 := cell_of hc1 1; have y2 := cell_of hc1 2; have y3 := cell_of hc1 3; have g0 := frozen_of hc1 0; have g1 := frozen_of hc1 1; have g2 := frozen_of hc1 2; have g3 := frozen_of hc1 3; simp at y0 y1 y2 y3)
        | (go_at_call 94; refine (bld_put _ _ _ _ _ hB (by first | exact byte_rng _ | (constructor <;> omega)) (by omega) (by omega)).mono ?_; rintro e w1 ⟨rfl, hB1, hb1⟩))
      all_goals (try simp only [beq_iff_eq, beq_eq_false_iff_ne, ne_eq] at *)
      · refine post_res rfl ⟨_, by (simp [results, Try.results86, go_sem, z0, z1, z2, z3]; rfl), ?_, (((hbl.setCell (Nat.le_refl _) _).setCell (Nat.le_refl _) _).setCell (Nat.le_refl _) _).setCell (Nat.le_refl _) _⟩
        rw [← hinv.out, hd.out, litGo_q (by omega), if_pos (by omega)]
        rfl
      · refine post_res rfl ⟨_, by (simp [results, Try.results86, go_sem, y0, y1, y2, y3]; rfl), ?_, ((((hbl.trans (hb1.mono (Nat.le_succ _))).setCell (Nat.le_refl _) _).setCell (Nat.le_refl _) _).setCell (Nat.le_refl _) _).setCell (Nat.le_refl _) _⟩
        rw [← hinv.out, hd.out, litGo_q (by omega), if_neg (by omega)]
        rfl
      · refine post_res rfl ⟨_, by (simp [results, Try.results86, go_sem, z0, z1, z2, z3]; rfl), ?_, (((hbl.setCell (Nat.le_refl _) _).setCell (Nat.le_refl _) _).setCell (Nat.le_refl _) _).setCell (Nat.le_refl _) _⟩
        rw [← hinv.out, hd.out, litGo_bad (by omega) (by omega)]
        rfl
      · have hd1 := byte_at s (k + 1) (by omega)
        go_roundw
        case rel => exact ⟨k + 2, _, by go_num, by omega, by simp; omega, hB1, below_cells hb1 (Nat.lt_succ_self _) hc, hbl.trans (hb1.mono (Nat.le_succ _)), by have := hb1.size; omega, show _ = _ by rw [← hinv.out, hd.out, hd1, litGo_esc (by omega) (by omega)]; rw [ofI_of s[k + 1] 34 (by omega)]⟩
        case measure => simp [intOf]; omega
      · have hd1 := byte_at s (k + 1) (by omega)
        go_roundw
        case rel => exact ⟨k + 2, _, by go_num, by omega, by simp; omega, hB1, below_cells hb1 (Nat.lt_succ_self _) hc, hbl.trans (hb1.mono (Nat.le_succ _)), by have := hb1.size; omega, show _ = _ by rw [← hinv.out, hd.out, hd1, litGo_esc (by omega) (by omega)]; simp only [ofI_nat]⟩
        case measure => simp [intOf]; omega
      · have hd1 := byte_at s (k + 1) (by omega)
        go_roundw
        case rel => exact ⟨k + 2, _, by go_num, by omega, by simp; omega, hB1, below_cells hb1 (Nat.lt_succ_self _) hc, hbl.trans (hb1.mono (Nat.le_succ _)), by have := hb1.size; omega, show _ = _ by rw [← hinv.out, hd.out, hd1, litGo_escn (by omega) (by omega)]; rfl⟩
        case measure => simp [intOf]; omega
      · refine post_res rfl ⟨_, by (simp [results, Try.results86, go_sem, z0, z1, z2, z3]; rfl), ?_, (((hbl.setCell (Nat.le_refl _) _).setCell (Nat.le_refl _) _).setCell (Nat.le_refl _) _).setCell (Nat.le_refl _) _⟩
        rw [← hinv.out, hd.out, byte_at s (k + 1) (by omega), litGo_escx (by omega) (by omega) (by omega) (by omega)]
        rfl
      · refine post_res rfl ⟨_, by (simp [results, Try.results86, go_sem, z0, z1, z2, z3]; rfl), ?_, (((hbl.setCell (Nat.le_refl _) _).setCell (Nat.le_refl _) _).setCell (Nat.le_refl _) _).setCell (Nat.le_refl _) _⟩
        rw [← hinv.out, hd.out, List.drop_eq_nil_of_le (show s.data.toList.length ≤ k + 1 by rw [len_data]; omega), litGo_end (by omega)]
        rfl
      · go_roundw
        case rel => exact ⟨k + 1, _, by go_num, by omega, by simp; omega, hB1, below_cells hb1 (Nat.lt_succ_self _) hc, hbl.trans (hb1.mono (Nat.le_succ _)), by have := hb1.size; omega, show _ = _ by rw [← hinv.out, hd.out, litGo_ch (by omega) (by omega) (by omega) (by omega)]; simp only [ofI_nat]⟩
        case measure => simp [intOf]; omega
      · refine post_res rfl ⟨_, by (simp [results, Try.results86, go_sem, z0, z1, z2, z3]; rfl), ?_, (((hbl.setCell (Nat.le_refl _) _).setCell (Nat.le_refl _) _).setCell (Nat.le_refl _) _).setCell (Nat.le_refl _) _⟩
        rw [← hinv.out, hd.out, litGo_bad (by omega) (by omega)]
        rfl
    · have hd : Hid (s.data.toList.drop k = []) := List.drop_eq_nil_of_le (by rw [len_data]; omega)
      have z0 := cell_of hc 0
      have z1 := cell_of hc 1
      have z2 := cell_of hc 2
      have z3 := cell_of hc 3
      have f0 := frozen_of hc 0
      have f1 := frozen_of hc 1
      have f2 := frozen_of hc 2
      have f3 := frozen_of hc 3
      simp at z0 z1 z2 z3
      go_wp2
      refine post_res rfl ⟨_, by (simp [results, Try.results86, go_sem, z0, z1, z2, z3]; rfl), ?_, (((hbl.setCell (Nat.le_refl _) _).setCell (Nat.le_refl _) _).setCell (Nat.le_refl _) _).setCell (Nat.le_refl _) _⟩
      rw [← hinv.out, hd.out]
      rfl
end Go.Proofs.Ytlnoadnejefmoaa
set_option linter.unusedVariables false
set_option linter.unusedSimpArgs false
namespace Go.Proofs.Ytlnoadnejefmoaa
open Go.RowKit

theorem metaN_of (s : ByteArray) (h0 : 0 < s.size) (h36 : s[0].toNat = 36) : metaN s.data.toList = if pfxB ⟨#[36, 36]⟩ s then 2 else 1 := by
  obtain ⟨t, ht⟩ := head_at s h0
  have e : s[0] = 36 := UInt8.toNat_inj.1 h36
  rw [e] at ht
  unfold metaN pfxB pfxL
  rw [ht]
  cases t with
  | nil => rfl
  | cons d u =>
    by_cases hd : d = 36
    · subst hd; rfl
    · have : (36 == d) = false := by simpa using fun h => hd h.symm
      simp [List.isPrefixOf, hd, this]
theorem metaT_of (s : ByteArray) (n : Nat) (hn : metaN s.data.toList = n) : tx (metaT s.data.toList) = wordS (s.extract n s.size) := by
  apply ba_ext
  rw [wordS_data, extE_list, tx_list]
  unfold metaT wordT
  rw [hn]

theorem meta_bad (s m : ByteArray) (hT : tx (metaT s.data.toList) = m) (h : nameB m = false) : tokRet (metaR s.data.toList) = tokRet (.bad 11) := by
  unfold metaR
  subst hT
  have h' : nameL (metaT s.data.toList) = false := h
  rw [h', if_pos (by rfl)]
theorem meta_long (s m : ByteArray) (hT : tx (metaT s.data.toList) = m) (h : nameB m = true) (h2 : 24 < m.size) : tokRet (metaR s.data.toList) = tokRet (.bad 4) := by
  unfold metaR
  subst hT
  have h' : nameL (metaT s.data.toList) = true := h
  rw [tx_size] at h2
  rw [h', if_neg (by simp), if_pos h2]
theorem meta_good (s m : ByteArray) (n : Nat) (hn : metaN s.data.toList = n) (hT : tx (metaT s.data.toList) = m) (h : nameB m = true) (h2 : m.size ≤ 24) :
    tokRet (metaR s.data.toList) = .returned (.tuple #[.agg #[.int .i64 (if n = 2 then 7 else 6), .string m, .int .i64 0, .int .i64 (n + m.size)], .int .i64 0]) := by
  unfold metaR
  subst hT
  have h' : nameL (metaT s.data.toList) = true := h
  rw [tx_size] at h2
  rw [h', if_neg (by simp), if_neg (by omega), hn, tx_size]
  unfold tokRet
  rw [Int.natCast_add]
theorem tok_word_is (s m : ByteArray) (w : World) (hs : s.size ≤ 9223372036854775807) (h : wordS s = m) :
    Calls Try.prog 85 #[.string s] w fun e w' => e = .returned (.string m) ∧ w = w' := by rw [← h]; exact tok_word s w hs
set_option maxHeartbeats 4000000 in
set_option maxRecDepth 100000 in
theorem tok_meta (s : ByteArray) (w : World) (hs : s.size ≤ 1000000000) (h0 : 0 < s.size) (h36 : s[0].toNat = 36) :
    Calls Try.prog 87 #[.string s] w fun e w' => e = tokRet (metaR s.data.toList) ∧ Below w.heap.size w w' := by
  have hN := metaN_of s h0 h36
  clear h36
  by_cases hp : pfxB ⟨#[36, 36]⟩ s = true
  · rw [if_pos hp] at hN
    have hT := Hid.mk' (metaT_of s 2 hN)
    have HN := Hid.mk' hN
    clear hN
    have h2 : 2 ≤ s.size := by
      obtain ⟨t, ht⟩ := pfx2 _ _ _ hp
      have := len_data s
      rw [ht] at this
      simp at this
      omega
    obtain ⟨m, hm⟩ : ∃ m, wordS (s.extract 2 s.size) = m := ⟨_, rfl⟩
    have hms : m.size ≤ 1000000000 := by
      rw [← hm, wordS_size, extE_list]
      have := (List.take_sublist (wordLen (s.data.toList.drop 2)) (s.data.toList.drop 2)).length_le
      rw [List.length_drop, len_data] at this
      unfold wordT
      omega
    rw [hm] at hT
    have HM := Hid.mk' hm
    clear hm
    go_enter Try.func87, Try.ntmps87
    go_wp2_with (first
      | (go_at_call 82; refine (has_prefix _ _ _ (by omega)).mono ?_; rintro e w' ⟨rfl, rfl⟩)
      | (go_at_call 85; refine (tok_word_is _ m _ (by simp; omega) HM.out).mono ?_; rintro e w' ⟨rfl, rfl⟩))
    refine (tok_name _ _ (by omega)).mono ?_
    rintro e w1 ⟨rfl, hb⟩
    obtain ⟨h1, h2, hb⟩ := keep2 hb
    obtain ⟨y0, y1, y2, y3, g0, g1, g2, g3⟩ := tok4 h1
    obtain ⟨x0, x1, x2, x3, _, _, _, _⟩ := tok4 h2
    clear h1 h2
    go_wp2
    · refine post_res rfl ⟨_, by (simp [results, Try.results87, go_sem, y0, y1, y2, y3]; rfl), ?_, (((hb.setCell (Nat.le_refl _) _).setCell (Nat.le_refl _) _).setCell (Nat.le_refl _) _).setCell (Nat.le_refl _) _⟩
      rw [meta_bad s m hT.out (by simp_all)]
      rfl
    · refine post_res rfl ⟨_, by (simp [results, Try.results87, go_sem, y0, y1, y2, y3]; rfl), ?_, (((hb.setCell (Nat.le_refl _) _).setCell (Nat.le_refl _) _).setCell (Nat.le_refl _) _).setCell (Nat.le_refl _) _⟩
      rw [meta_long s m hT.out (by simp_all) (by omega)]
      rfl
    · refine post_res rfl ⟨_, by (simp [results, Try.results87, go_sem, y0, y1, y2, y3]; rfl), ?_, (((hb.setCell (Nat.le_refl _) _).setCell (Nat.le_refl _) _).setCell (Nat.le_refl _) _).setCell (Nat.le_refl _) _⟩
      rw [meta_good s m 2 HN.out hT.out (by simp_all) (by omega)]
      rfl
  · rw [if_neg hp] at hN
    have hT := Hid.mk' (metaT_of s 1 hN)
    have HN := Hid.mk' hN
    clear hN
    replace hp : pfxB ⟨#[36, 36]⟩ s = false := by simpa using hp
    obtain ⟨m, hm⟩ : ∃ m, wordS (s.extract 1 s.size) = m := ⟨_, rfl⟩
    have hms : m.size ≤ 1000000000 := by
      rw [← hm, wordS_size, extE_list]
      have := (List.take_sublist (wordLen (s.data.toList.drop 1)) (s.data.toList.drop 1)).length_le
      rw [List.length_drop, len_data] at this
      unfold wordT
      omega
    rw [hm] at hT
    have HM := Hid.mk' hm
    clear hm
    go_enter Try.func87, Try.ntmps87
    go_wp2_with (first
      | (go_at_call 82; refine (has_prefix _ _ _ (by omega)).mono ?_; rintro e w' ⟨rfl, rfl⟩)
      | (go_at_call 85; refine (tok_word_is _ m _ (by simp; omega) HM.out).mono ?_; rintro e w' ⟨rfl, rfl⟩))
    refine (tok_name _ _ (by omega)).mono ?_
    rintro e w1 ⟨rfl, hb⟩
    obtain ⟨h1, h2, hb⟩ := keep2 hb
    obtain ⟨y0, y1, y2, y3, g0, g1, g2, g3⟩ := tok4 h1
    obtain ⟨x0, x1, x2, x3, _, _, _, _⟩ := tok4 h2
    clear h1 h2
    go_wp2
    · refine post_res rfl ⟨_, by (simp [results, Try.results87, go_sem, y0, y1, y2, y3]; rfl), ?_, (((hb.setCell (Nat.le_refl _) _).setCell (Nat.le_refl _) _).setCell (Nat.le_refl _) _).setCell (Nat.le_refl _) _⟩
      rw [meta_bad s m hT.out (by simp_all)]
      rfl
    · refine post_res rfl ⟨_, by (simp [results, Try.results87, go_sem, y0, y1, y2, y3]; rfl), ?_, (((hb.setCell (Nat.le_refl _) _).setCell (Nat.le_refl _) _).setCell (Nat.le_refl _) _).setCell (Nat.le_refl _) _⟩
      rw [meta_long s m hT.out (by simp_all) (by omega)]
      rfl
    · refine post_res rfl ⟨_, by (simp [results, Try.results87, go_sem, y0, y1, y2, y3]; rfl), ?_, (((hb.setCell (Nat.le_refl _) _).setCell (Nat.le_refl _) _).setCell (Nat.le_refl _) _).setCell (Nat.le_refl _) _⟩
      rw [meta_good s m 1 HN.out hT.out (by simp_all) (by omega)]
      rfl
end Go.Proofs.Ytlnoadnejefmoaa
set_option linter.unusedVariables false
set_option linter.unusedSimpArgs false
namespace Go.Proofs.Ytlnoadnejefmoaa
open Go.RowKit

def tokV (r : RT) : Value := .tuple #[.agg #[.int .i64 r.kind, .string (tx r.text), .int .i64 0, .int .i64 r.len], .int .i64 r.err]
theorem tok_is {f : FuncId} {args : Array Value} {w : World} {r r' : RT} (h : r = r') (hc : Calls Try.prog f args w fun e w' => e = tokRet r ∧ Below w.heap.size w w') :
    Calls Try.prog f args w fun e w' => e = .returned (.tuple #[.agg #[.int .i64 r'.kind, .string (tx r'.text), .int .i64 0, .int .i64 r'.len], .int .i64 r'.err]) ∧ Below w.heap.size w w' := by subst h; exact hc

theorem word_kw (s m : ByteArray) (hT : m.data.toList = wordT s.data.toList) (h : kwB m = true) : tokRet (wordR s.data.toList) = .returned (.tuple #[.agg #[.int .i64 2, .string m, .int .i64 0, .int .i64 m.size], .int .i64 0]) := by
  unfold kwB at h
  unfold wordR
  rw [← hT, if_pos h, len_data]
  unfold tokRet
  rw [tx_data]
theorem word_long (s m : ByteArray) (hT : m.data.toList = wordT s.data.toList) (h : kwB m = false) (h2 : 24 < m.size) : tokRet (wordR s.data.toList) = tokRet (.bad 4) := by
  unfold kwB at h
  unfold wordR
  rw [← hT, h, if_neg (by simp), len_data, if_pos h2]
theorem word_name (s m : ByteArray) (hT : m.data.toList = wordT s.data.toList) (h : kwB m = false) (h2 : m.size ≤ 24) : tokRet (wordR s.data.toList) = .returned (.tuple #[.agg #[.int .i64 1, .string m, .int .i64 0, .int .i64 m.size], .int .i64 0]) := by
  unfold kwB at h
  unfold wordR
  rw [← hT, h, if_neg (by simp), len_data, if_neg (by omega)]
  unfold tokRet
  rw [tx_data]
set_option maxHeartbeats 4000000 in
set_option maxRecDepth 100000 in
theorem read_word (s : ByteArray) (pat : Bool) (w : World) (hs : s.size ≤ 1000000000) (h0 : 0 < s.size) (hl : isLetterI s[0].toNat = true) :
    Calls Try.prog 60 #[.string s, .bool pat] w fun e w' => e = tokRet (wordR s.data.toList) ∧ Below w.heap.size w w' := by
  obtain ⟨m, hm⟩ : ∃ m, wordS s = m := ⟨_, rfl⟩
  have hT : m.data.toList = wordT s.data.toList := by rw [← hm, wordS_data]
  have hms : m.size ≤ 1000000000 := by
    rw [← hm, wordS_size]
    have := (List.take_sublist (wordLen s.data.toList) s.data.toList).length_le
    rw [len_data] at this
    unfold wordT
    omega
  have HM := Hid.mk' hm
  have HT := Hid.mk' hT
  clear hm hT
  go_enter Try.func60, Try.ntmps60
  go_wp2_with (first
      | (go_at_call 84; refine (tok_letter _ _).mono ?_; rintro e w' ⟨rfl, rfl⟩)
      | (go_at_call 85; refine (tok_word_is _ m _ (by omega) HM.out).mono ?_; rintro e w' ⟨rfl, rfl⟩))
  refine (tok_keyword _ _).mono ?_
  rintro e w1 ⟨rfl, hb⟩
  obtain ⟨h1, h2, hb⟩ := keep2 hb
  obtain ⟨y0, y1, y2, y3, g0, g1, g2, g3⟩ := tok4 h1
  obtain ⟨x0, x1, x2, x3, k0, k1, k2, k3⟩ := tok4 h2
  clear h1 h2
  go_wp2
  · refine post_res rfl ⟨_, by (simp [results, Try.results60, go_sem, y0, y1, y2, y3]; rfl), ?_, ((((hb.setCell (p := ⟨w.heap.size + 1, 0, none⟩) (Nat.le_succ _) _).setCell (Nat.le_refl _) _).setCell (Nat.le_refl _) _).setCell (Nat.le_refl _) _).setCell (Nat.le_refl _) _⟩
    rw [word_kw s m HT.out (by assumption)]
  · refine post_res rfl ⟨_, by (simp [results, Try.results60, go_sem, y0, y1, y2, y3]; rfl), ?_, (((hb.setCell (Nat.le_refl _) _).setCell (Nat.le_refl _) _).setCell (Nat.le_refl _) _).setCell (Nat.le_refl _) _⟩
    rw [word_long s m HT.out (by simp_all) (by omega)]
    rfl
  · refine post_res rfl ⟨_, by (simp [results, Try.results60, go_sem, y0, y1, y2, y3]; rfl), ?_, (((hb.setCell (Nat.le_refl _) _).setCell (Nat.le_refl _) _).setCell (Nat.le_refl _) _).setCell (Nat.le_refl _) _⟩
    rw [word_name s m HT.out (by simp_all) (by omega)]

set_option maxHeartbeats 4000000 in
set_option maxRecDepth 100000 in
theorem read_int (s : ByteArray) (pat : Bool) (w : World) (hs : s.size ≤ 1000000000) (h0 : 0 < s.size) (hl : isLetterI s[0].toNat = false) (hd : isDigitI s[0].toNat = true) :
    Calls Try.prog 60 #[.string s, .bool pat] w fun e w' => e = tokRet (intR s.data.toList) ∧ Below w.heap.size w w' := by
  obtain ⟨r, hr⟩ : ∃ r, intR s.data.toList = r := ⟨_, rfl⟩
  have HR := Hid.mk' hr
  rw [hr]
  clear hr
  go_enter Try.func60, Try.ntmps60
  go_wp2_with (first
      | (go_at_call 84; refine (tok_letter _ _).mono ?_; rintro e w' ⟨rfl, rfl⟩)
      | (go_at_call 64; refine (tok_digit _ _).mono ?_; rintro e w' ⟨rfl, rfl⟩))
  refine (tok_is HR.out (tok_integer _ _ (by omega) h0)).mono ?_
  rintro e w1 ⟨rfl, hb⟩
  obtain ⟨h1, hb⟩ := keep1 hb
  obtain ⟨y0, y1, y2, y3, g0, g1, g2, g3⟩ := tok4 h1
  clear h1
  go_wp2
  refine post_res rfl ⟨_, by (simp [results, Try.results60, go_sem, y0, y1, y2, y3] <;> rfl), rfl, (((hb.setCell (Nat.le_refl _) _).setCell (Nat.le_refl _) _).setCell (Nat.le_refl _) _).setCell (Nat.le_refl _) _⟩
set_option maxHeartbeats 4000000 in
set_option maxRecDepth 100000 in
theorem read_lit (s : ByteArray) (pat : Bool) (w : World) (hs : s.size ≤ 1000000000) (h0 : 0 < s.size) (hl : isLetterI s[0].toNat = false) (hd : isDigitI s[0].toNat = false) (hq : ((s[0].toNat : Int) == 34) = true) :
    Calls Try.prog 60 #[.string s, .bool pat] w fun e w' => e = tokRet (litR s.data.toList) ∧ Below w.heap.size w w' := by
  obtain ⟨r, hr⟩ : ∃ r, litR s.data.toList = r := ⟨_, rfl⟩
  have HR := Hid.mk' hr
  rw [hr]
  clear hr
  go_enter Try.func60, Try.ntmps60
  go_wp2_with (first
      | (go_at_call 84; refine (tok_letter _ _).mono ?_; rintro e w' ⟨rfl, rfl⟩)
      | (go_at_call 64; refine (tok_digit _ _).mono ?_; rintro e w' ⟨rfl, rfl⟩))
  refine (tok_is HR.out (tok_literal _ _ hs h0)).mono ?_
  rintro e w1 ⟨rfl, hb⟩
  obtain ⟨h1, hb⟩ := keep1 hb
  obtain ⟨y0, y1, y2, y3, g0, g1, g2, g3⟩ := tok4 h1
  clear h1
  go_wp2
  refine post_res rfl ⟨_, by (simp [results, Try.results60, go_sem, y0, y1, y2, y3] <;> rfl), rfl, (((hb.setCell (Nat.le_refl _) _).setCell (Nat.le_refl _) _).setCell (Nat.le_refl _) _).setCell (Nat.le_refl _) _⟩
set_option maxHeartbeats 4000000 in
set_option maxRecDepth 100000 in
theorem read_meta (s : ByteArray) (w : World) (hs : s.size ≤ 1000000000) (h0 : 0 < s.size) (hl : isLetterI s[0].toNat = false) (hd : isDigitI s[0].toNat = false) (hq : ((s[0].toNat : Int) == 34) = false) (hq2 : ((s[0].toNat : Int) == 36) = true) :
    Calls Try.prog 60 #[.string s, .bool true] w fun e w' => e = tokRet (metaR s.data.toList) ∧ Below w.heap.size w w' := by
  obtain ⟨r, hr⟩ : ∃ r, metaR s.data.toList = r := ⟨_, rfl⟩
  have HR := Hid.mk' hr
  rw [hr]
  clear hr
  go_enter Try.func60, Try.ntmps60
  go_wp2_with (first
      | (go_at_call 84; refine (tok_letter _ _).mono ?_; rintro e w' ⟨rfl, rfl⟩)
      | (go_at_call 64; refine (tok_digit _ _).mono ?_; rintro e w' ⟨rfl, rfl⟩))
  refine (tok_is HR.out (tok_meta _ _ hs h0 (by have h := hq2; rw [beq_iff_eq] at h; omega))).mono ?_
  rintro e w1 ⟨rfl, hb⟩
  obtain ⟨h1, hb⟩ := keep1 hb
  obtain ⟨y0, y1, y2, y3, g0, g1, g2, g3⟩ := tok4 h1
  clear h1
  go_wp2
  refine post_res rfl ⟨_, by (simp [results, Try.results60, go_sem, y0, y1, y2, y3] <;> rfl), rfl, (((hb.setCell (Nat.le_refl _) _).setCell (Nat.le_refl _) _).setCell (Nat.le_refl _) _).setCell (Nat.le_refl _) _⟩

theorem mark_none (s : ByteArray) (N : Nat) (h1 : 1 ≤ N) (h2 : N ≤ 2) (h3 : N ≤ s.size) (h4 : N = 2 ∨ s.size = N) (e1 : markB (s.extract 0 N) = false) (e2 : markB (s.extract 0 1) = false) : markR s.data.toList = .bad 11 := by
  unfold markB at e1 e2
  rw [ext0_tx, tx_list] at e1 e2
  have hl := len_data s
  have e3 : s.data.toList.take 2 = s.data.toList.take N := by
    rcases h4 with h4 | h4
    · rw [h4]
    · rw [List.take_of_length_le (by omega), List.take_of_length_le (by omega)]
  unfold markR
  rw [e3, e1, e2]
  rfl
theorem mark_step (s : ByteArray) (N n : Nat) (h2 : N ≤ 2) (h : 0 < n) (hn : n ≤ N) (hm : n < N → markB (s.extract 0 N) = false) (hx : markB (s.extract 0 n) = false) : markB (s.extract 0 N) = false := by
  rcases Nat.lt_or_ge n N with h3 | h3
  · exact hm h3
  · have : n = N := by omega
    subst this
    exact hx
theorem mark_some (s : ByteArray) (N n : Nat) (h1 : 1 ≤ N) (h2 : N ≤ 2) (h3 : N ≤ s.size) (h4 : N = 2 ∨ s.size = N) (h : 0 < n) (hn : n ≤ N) (hm : n < N → markB (s.extract 0 N) = false) (hx : markB (s.extract 0 n) = true) :
    tokRet (markR s.data.toList) = .returned (.tuple #[.agg #[.int .i64 5, .string (s.extract 0 n), .int .i64 0, .int .i64 n], .int .i64 0]) := by
  have hl := len_data s
  have e3 : s.data.toList.take 2 = s.data.toList.take N := by
    rcases h4 with h4 | h4
    · rw [h4]
    · rw [List.take_of_length_le (by omega), List.take_of_length_le (by omega)]
  unfold markB at hx hm
  rw [ext0_tx, tx_list] at hx hm
  unfold markR
  rw [e3]
  rcases Nat.lt_or_ge n N with h5 | h5
  · have : n = 1 := by omega
    subst this
    rw [hm h5, if_neg (by simp), if_pos hx]
    unfold tokRet
    rw [ext0_tx]
  · have : n = N := by omega
    subst this
    rw [if_pos hx]
    unfold tokRet
    rw [ext0_tx]
    simp only [List.length_take, Nat.min_eq_left (show n ≤ s.data.toList.length by omega)]
set_option maxHeartbeats 4000000 in
set_option maxRecDepth 100000 in
theorem read_markN (s : ByteArray) (pat : Bool) (w : World) (N : Nat) (h1 : 1 ≤ N) (h2 : N ≤ 2) (h3 : N ≤ s.size) (h4 : N = 2 ∨ s.size = N) (hmn : min 2 (s.size : Int) = (N : Int)) (hs : s.size ≤ 1000000000) (h0 : 0 < s.size) (hl : isLetterI s[0].toNat = false) (hd : isDigitI s[0].toNat = false) (hq : ((s[0].toNat : Int) == 34) = false) (hq2 : (((s[0].toNat : Int) == 36) && pat) = false) :
    Calls Try.prog 60 #[.string s, .bool pat] w fun e w' => e = tokRet (markR s.data.toList) ∧ Below w.heap.size w w' := by
  by_cases hx : ((s[0].toNat : Int) == 36) = true
  · obtain rfl : pat = false := by simpa [hx] using hq2
    clear hq2
    go_enter Try.func60, Try.ntmps60
    go_wp2_with (first
      | (go_at_call 84; refine (tok_letter _ _).mono ?_; rintro e w' ⟨rfl, rfl⟩)
      | (go_at_call 64; refine (tok_digit _ _).mono ?_; rintro e w' ⟨rfl, rfl⟩))
    go_loop [9] (fun i => ∃ n : Nat, i = .int .i64 n ∧ n ≤ N ∧ (n < N → markB (s.extract 0 N) = false) ∧ (n = 0 → markB (s.extract 0 1) = false)) (fun i => (intOf i).toNat)
    case atStart => exact ⟨N, rfl, Nat.le_refl _, fun h => absurd h (Nat.lt_irrefl _), fun h => by omega⟩
    case round =>
      obtain ⟨n, rfl, hn, hm1, hm2⟩ := hrel
      rcases Nat.eq_zero_or_pos n with h | h
      · subst h
        have e1 := hm1 (by omega)
        have e2 := hm2 rfl
        have HE := Hid.mk' (And.intro e1 e2)
        clear e1 e2 hm1 hm2 hmn
        go_wp2
        refine post_res rfl ⟨_, by (simp [results, Try.results60, go_sem] <;> rfl), ?_, (Below.refl _ _).alloc (Nat.le_refl _) _⟩
        rw [mark_none s N h1 h2 h3 h4 HE.out.1 HE.out.2]
        rfl
      · have HM1 := Hid.mk' hm1
        clear hm1 hm2 hmn
        go_wp2_with (first
          | (go_at_call 67; refine (tok_mark _ _).mono ?_; rintro e w' ⟨rfl, rfl⟩))
        · refine post_res rfl ⟨_, by (simp [results, Try.results60, go_sem] <;> rfl), ?_, (Below.refl _ _).alloc (Nat.le_refl _) _⟩
          rw [mark_some s N n h1 h2 h3 h4 h hn HM1.out (by assumption)]
        · go_round
          have hx1 : markB (s.extract 0 n) = false := by assumption
          case rel => exact ⟨n - 1, by go_num, by omega, fun hlt => mark_step s N n h2 h hn HM1.out hx1, fun h0 => by rw [← show n = 1 by omega]; exact hx1⟩
          case measure => simp [intOf]; omega
  · replace hx : ((s[0].toNat : Int) == 36) = false := by simpa using hx
    clear hq2
    go_enter Try.func60, Try.ntmps60
    go_wp2_with (first
      | (go_at_call 84; refine (tok_letter _ _).mono ?_; rintro e w' ⟨rfl, rfl⟩)
      | (go_at_call 64; refine (tok_digit _ _).mono ?_; rintro e w' ⟨rfl, rfl⟩))
    go_loop [9] (fun i => ∃ n : Nat, i = .int .i64 n ∧ n ≤ N ∧ (n < N → markB (s.extract 0 N) = false) ∧ (n = 0 → markB (s.extract 0 1) = false)) (fun i => (intOf i).toNat)
    case atStart => exact ⟨N, rfl, Nat.le_refl _, fun h => absurd h (Nat.lt_irrefl _), fun h => by omega⟩
    case round =>
      obtain ⟨n, rfl, hn, hm1, hm2⟩ := hrel
      rcases Nat.eq_zero_or_pos n with h | h
      · subst h
        have e1 := hm1 (by omega)
        have e2 := hm2 rfl
        have HE := Hid.mk' (And.intro e1 e2)
        clear e1 e2 hm1 hm2 hmn
        go_wp2
        refine post_res rfl ⟨_, by (simp [results, Try.results60, go_sem] <;> rfl), ?_, (Below.refl _ _).alloc (Nat.le_refl _) _⟩
        rw [mark_none s N h1 h2 h3 h4 HE.out.1 HE.out.2]
        rfl
      · have HM1 := Hid.mk' hm1
        clear hm1 hm2 hmn
        go_wp2_with (first
          | (go_at_call 67; refine (tok_mark _ _).mono ?_; rintro e w' ⟨rfl, rfl⟩))
        · refine post_res rfl ⟨_, by (simp [results, Try.results60, go_sem] <;> rfl), ?_, (Below.refl _ _).alloc (Nat.le_refl _) _⟩
          rw [mark_some s N n h1 h2 h3 h4 h hn HM1.out (by assumption)]
        · go_round
          have hx1 : markB (s.extract 0 n) = false := by assumption
          case rel => exact ⟨n - 1, by go_num, by omega, fun hlt => mark_step s N n h2 h hn HM1.out hx1, fun h0 => by rw [← show n = 1 by omega]; exact hx1⟩
          case measure => simp [intOf]; omega
theorem read_mark (s : ByteArray) (pat : Bool) (w : World) (hs : s.size ≤ 1000000000) (h0 : 0 < s.size) (hl : isLetterI s[0].toNat = false) (hd : isDigitI s[0].toNat = false) (hq : ((s[0].toNat : Int) == 34) = false) (hq2 : (((s[0].toNat : Int) == 36) && pat) = false) :
    Calls Try.prog 60 #[.string s, .bool pat] w fun e w' => e = tokRet (markR s.data.toList) ∧ Below w.heap.size w w' := by
  rcases Nat.lt_or_ge s.size 2 with h | h
  · exact read_markN s pat w 1 (by omega) (by omega) (by omega) (.inr (by omega)) (by omega) hs h0 hl hd hq hq2
  · exact read_markN s pat w 2 (by omega) (by omega) (by omega) (.inl rfl) (by omega) hs h0 hl hd hq hq2
theorem tok_read (s : ByteArray) (pat : Bool) (w : World) (hs : s.size ≤ 1000000000) (h0 : 0 < s.size) :
    Calls Try.prog 60 #[.string s, .bool pat] w fun e w' => e = tokRet (rdTok pat s.data.toList) ∧ Below w.heap.size w w' := by
  obtain ⟨t, ht⟩ := head_at s h0
  have hR : rdTok pat s.data.toList = if isLetterI s[0].toNat then wordR s.data.toList else if isDigitI s[0].toNat then intR s.data.toList else if s[0].toNat = 34 then litR s.data.toList else if s[0].toNat = 36 ∧ pat = true then metaR s.data.toList else markR s.data.toList := by
    unfold rdTok; rw [ht]
  rw [hR]
  by_cases h1 : isLetterI s[0].toNat = true
  · rw [if_pos h1]; exact read_word s pat w hs h0 h1
  · rw [if_neg h1]
    replace h1 : isLetterI s[0].toNat = false := by simpa using h1
    by_cases h2 : isDigitI s[0].toNat = true
    · rw [if_pos h2]; exact read_int s pat w hs h0 h1 h2
    · rw [if_neg h2]
      replace h2 : isDigitI s[0].toNat = false := by simpa using h2
      by_cases h3 : s[0].toNat = 34
      · rw [if_pos h3]; exact read_lit s pat w hs h0 h1 h2 (by rw [beq_iff_eq]; omega)
      · rw [if_neg h3]
        have e3 : ((s[0].toNat : Int) == 34) = false := by rw [beq_eq_false_iff_ne]; omega
        by_cases h4 : s[0].toNat = 36 ∧ pat = true
        · rw [if_pos h4]
          obtain ⟨h4, rfl⟩ := h4
          exact read_meta s w hs h0 h1 h2 e3 (by rw [beq_iff_eq]; omega)
        · rw [if_neg h4]
          refine read_mark s pat w hs h0 h1 h2 e3 ?_
          cases pat
          · simp
          · simp at h4
            simp
            omega
end Go.Proofs.Ytlnoadnejefmoaa
set_option linter.unusedVariables false
set_option linter.unusedSimpArgs false
namespace Go.Proofs.Ytlnoadnejefmoaa
open Go.RowKit Go.Proofs.YtlnoadnejefmoaaW.PrintWords

/-! Tokens in memory. -/
def kTok : Kd Tok := Kd.iso (Kd.pair (Kd.int .i64) (Kd.pair Kd.string (Kd.pair (Kd.int .i64) (Kd.int .i64)))) (fun x : Tok => (x.kind, x.text, x.at_, x.end_))
def tokCells (x : Tok) : List Value := [.int .i64 x.kind, .string x.text, .int .i64 x.at_, .int .i64 x.end_]
theorem kTok_open {w : World} {x : Tok} {cs : List Value} (h : kTok.K w x cs) : cs = tokCells x := by
  obtain ⟨_, _, rfl, rfl, ⟨_, _, rfl, rfl, ⟨_, _, rfl, rfl, rfl⟩⟩⟩ := h
  exact rfl
theorem kTok_mk (w : World) (x : Tok) : kTok.K w x (tokCells x) := ⟨[.int .i64 x.kind], [.string x.text, .int .i64 x.at_, .int .i64 x.end_], rfl, rfl, ⟨[.string x.text], [.int .i64 x.at_, .int .i64 x.end_], rfl, rfl, ⟨[.int .i64 x.at_], [.int .i64 x.end_], rfl, rfl, rfl⟩⟩⟩
theorem kTok_mkM (w : World) (base : Nat) (ok : Nat → Prop) (x : Tok) : kTok.M w base ok x (tokCells x) := ⟨[.int .i64 x.kind], [.string x.text, .int .i64 x.at_, .int .i64 x.end_], rfl, rfl, ⟨[.string x.text], [.int .i64 x.at_, .int .i64 x.end_], rfl, rfl, ⟨[.int .i64 x.at_], [.int .i64 x.end_], rfl, rfl, rfl⟩⟩⟩
def tok0 : Tok := ⟨0, ⟨#[]⟩, 0, 0⟩
/-- Element i of a list of tokens, cell by cell. -/
theorem kTok_at {w : World} {A : Option Addr} {n : Nat} {xs : List Tok} (h : Kd.C kTok w A n xs) (i : Nat) (h1 : i < n) : ∃ ad, A = some ad ∧ w.cell? (ad.add (i * 4)) = some (.int .i64 (xs.getD i tok0).kind) ∧
    w.cell? ⟨(ad.add (i * 4)).block, (ad.add (i * 4)).off + 1, none⟩ = some (.string (xs.getD i tok0).text) ∧ w.cell? ⟨(ad.add (i * 4)).block, (ad.add (i * 4)).off + 2, none⟩ = some (.int .i64 (xs.getD i tok0).at_) ∧
    w.cell? ⟨(ad.add (i * 4)).block, (ad.add (i * 4)).off + 3, none⟩ = some (.int .i64 (xs.getD i tok0).end_) := by
  obtain ⟨ad, c, e, _, hK, hc0⟩ := Kd.C_get h tok0 (i : Int) (by omega) (by omega)
  simp only [Int.toNat_natCast] at hK hc0
  have hc : ∀ j u, c[j]? = some u → w.cell? (ad.add (i * 4 + j)) = some u := hc0
  obtain rfl := kTok_open hK
  exact ⟨ad, e, hc 0 _ rfl, by rw [← add_field _ _ 1 (by omega)]; exact hc 1 _ rfl, by rw [← add_field _ _ 2 (by omega)]; exact hc 2 _ rfl, by rw [← add_field _ _ 3 (by omega)]; exact hc 3 _ rfl⟩
theorem info_tok : (Try.prog.info? 33).map (fun i => (i.zero, i.size, i.bytes)) = some (some (.agg #[(.int .i64 0), (.string ⟨#[]⟩), (.int .i64 0), (.int .i64 0)]), 4, 40) := by kernel_rfl
end Go.Proofs.Ytlnoadnejefmoaa
set_option linter.unusedVariables false
set_option linter.unusedSimpArgs false
namespace Go.Proofs.Ytlnoadnejefmoaa
open Go.RowKit Go.Proofs.YtlnoadnejefmoaaW.PrintWords

theorem scan_step (pat : Bool) (f : Nat) (l : List UInt8) (k : Nat) (acc : List Tok) (hf : 0 < f) (hl : 0 < l.length) (he : (rdTok pat l).err = 0) (ha : acc.length < 600) :
    scanW pat f l k acc = scanW pat (f - 1) ((l.drop (rdTok pat l).len).drop (skipGo false (l.drop (rdTok pat l).len))) (k + (rdTok pat l).len + skipGo false (l.drop (rdTok pat l).len))
      (acc ++ [⟨(rdTok pat l).kind, tx (rdTok pat l).text, k, (k + (rdTok pat l).len : Nat)⟩]) := by
  obtain ⟨f, rfl⟩ : ∃ g, f = g + 1 := ⟨f - 1, by omega⟩
  cases l with
  | nil => simp at hl
  | cons c t =>
    rw [scanW]
    · rw [if_pos he, if_neg (by omega)]
      rfl
    · simp
theorem scan_full (pat : Bool) (f : Nat) (l : List UInt8) (k : Nat) (acc : List Tok) (hf : 0 < f) (hl : 0 < l.length) (he : (rdTok pat l).err = 0) (ha : acc.length = 600) : scanW pat f l k acc = ⟨[], k, 4⟩ := by
  obtain ⟨f, rfl⟩ : ∃ g, f = g + 1 := ⟨f - 1, by omega⟩
  cases l with
  | nil => simp at hl
  | cons c t =>
    rw [scanW]
    · rw [if_pos he, if_pos (by omega)]
    · simp
theorem scan_bad (pat : Bool) (f : Nat) (l : List UInt8) (k : Nat) (acc : List Tok) (hf : 0 < f) (hl : 0 < l.length) (he : (rdTok pat l).err ≠ 0) : scanW pat f l k acc = ⟨[], k, (rdTok pat l).err⟩ := by
  obtain ⟨f, rfl⟩ : ∃ g, f = g + 1 := ⟨f - 1, by omega⟩
  cases l with
  | nil => simp at hl
  | cons c t =>
    rw [scanW]
    · rw [if_neg he]
    · simp
theorem scan_end (pat : Bool) (f : Nat) (k : Nat) (acc : List Tok) : scanW pat f [] k acc = ⟨acc, 0, 0⟩ := by cases f <;> rfl

set_option maxHeartbeats 4000000 in
set_option maxRecDepth 100000 in
theorem tok_scan (s : ByteArray) (pat : Bool) (w : World) (hs : s.size ≤ 1000000000) (r : SR) (hr : Hid (scanR pat s.data.toList = r)) :
    Calls Try.prog 44 #[.string s, .bool pat] w fun e w' => ∃ v, e = .returned (.tuple #[v, .int .i64 r.off, .int .i64 r.err]) ∧ Kd.R kTok 33 w' w.heap.size (fun _ => True) v r.toks ∧ Below w.heap.size w w' := by
  have hsk := skipGo_le s.data.toList false
  rw [len_data] at hsk
  obtain ⟨k0, hk0⟩ : ∃ k0, skipB s = k0 := ⟨_, rfl⟩
  have hsk : k0 ≤ s.size := by rw [← hk0]; exact hsk
  have HK := Hid.mk' hk0
  clear hk0
  go_enter Try.func44, Try.ntmps44
  go_wp2_with (first
      | (go_at_call 59; refine (tok_skip_is _ k0 _ (by omega) HK.out).mono ?_; rintro e w' ⟨rfl, rfl⟩))
  go_loopw [7, 8] (fun v i wr => ∃ (k f : Nat) (acc : List Tok), i = .int .i64 k ∧ k ≤ s.size ∧ Kd.R kTok 33 wr w.heap.size (fun _ => True) v acc ∧ Below w.heap.size w wr ∧ w.heap.size ≤ wr.heap.size ∧ s.size - k < f ∧ acc.length ≤ 600 ∧ Hid (scanW pat f (s.data.toList.drop k) k acc = r)) (fun _ i _ => s.size - (intOf i).toNat)
  case atStart => exact ⟨k0, s.size + 1, [], rfl, hsk, Kd.R_nil _ _ _ _ _, Below.refl _ _, Nat.le_refl _, by omega, by simp, show _ = _ by rw [← hr.out, ← HK.out]; unfold scanR skipB; rw [len_data]⟩
  case round =>
    obtain ⟨k, f, acc, rfl, hk, hR, hbl, hsz, hf, hal, hinv⟩ := hrel
    obtain ⟨A, c, rfl⟩ := Kd.R_slice hR
    by_cases hlt : k < s.size
    · obtain ⟨r1, hr1⟩ : ∃ r1, rdTok pat (s.data.toList.drop k) = r1 := ⟨_, rfl⟩
      have hREAD : Hid (∀ w1, Calls Try.prog 60 #[.string (s.extract k s.size), .bool pat] w1 fun e w' => e = .returned (.tuple #[.agg #[.int .i64 r1.kind, .string (tx r1.text), .int .i64 0, .int .i64 r1.len], .int .i64 r1.err]) ∧ Below w1.heap.size w1 w') :=
        fun w1 => tok_is (by rw [extE_list]; exact hr1) (tok_read _ pat w1 (by simp; omega) (by simp; omega))
      have HR1 := Hid.mk' hr1
      clear hr1
      by_cases he : r1.err = 0
      · have he1 : (r1.err == 0) = true := by rw [he]; rfl
        have hl := HR1.out ▸ rdTok_len pat (s.data.toList.drop k) (by rw [HR1.out]; exact he)
        rw [List.length_drop, len_data] at hl
        obtain ⟨m, hm⟩ : ∃ m, r1.len = m := ⟨_, rfl⟩
        rw [hm] at hl hREAD
        have hm1 : 0 < m := hl.1
        have hm2 : k + m ≤ s.size := by omega
        have HM := Hid.mk' hm
        clear hl hm
        obtain ⟨j, hj⟩ : ∃ j, skipB (s.extract (k + m) s.size) = j := ⟨_, rfl⟩
        have hj1 : k + m + j ≤ s.size := by
          have h := skipGo_le (s.extract (k + m) s.size).data.toList false
          rw [extE_list, List.length_drop, len_data] at h
          rw [← hj]
          unfold skipB
          rw [extE_list]
          omega
        have hSKIP : Hid (∀ w1, Calls Try.prog 59 #[.string (s.extract (k + m) s.size)] w1 fun e w' => e = .returned (.int .i64 j) ∧ w1 = w') := fun w1 => tok_skip_is _ j w1 (by simp; omega) hj
        have HJ := Hid.mk' hj
        clear hj
        by_cases h6 : acc.length = 600
        · have HE := Hid.mk' he
          have H6 := Hid.mk' h6
          have h6b : ((acc.length : Int) == 600) = true := by rw [h6]; rfl
          clear he h6
          go_wp2_with (go_at_call 60; refine (hREAD.out _).mono ?_; rintro e w1 ⟨rfl, hb⟩)
          go_ret3
          have hrr : r = ⟨[], k, 4⟩ := by
            rw [← hinv.out]
            exact scan_full pat f _ k acc (by omega) (by rw [List.length_drop, len_data]; omega) (by rw [HR1.out]; exact HE.out) H6.out
          subst hrr
          exact ⟨_, rfl, Kd.R_nil _ _ _ _ _, (hbl.trans (hb.mono hsz)).alloc (by have := hb.size; omega) _⟩
        · have HE := Hid.mk' he
          have h6b : ((acc.length : Int) == 600) = false := by rw [beq_eq_false_iff_ne]; omega
          have h6n : acc.length < 600 := by omega
          clear he h6
          go_wp2_with (first
            | (go_at_call 60; refine (hREAD.out _).mono ?_; rintro e w1 ⟨rfl, hb⟩)
            | (at_builtin; refine Kd.R_append kTok (w0 := w) w.heap.size rfl _ _ 23 33 (.agg #[(.int .i64 0), (.string ⟨#[]⟩), (.int .i64 0), (.int .i64 0)]) 40 rfl Try.underlying23 info_tok rfl (by decide) (by omega) (.slice A acc.length c) acc ⟨r1.kind, tx r1.text, k, (k : Int) + m⟩ _ (fun _ => True) (fun _ => False) rfl ?aX ?aP (fun _ hk => hk.elim) ?aF ?aO ?aB ?aS ?aL ?_))
          case aX => simp [Act.eval]
          case aP => exact kTok_mkM _ _ _ _
          case aF => exact fun _ _ => trivial
          case aO => exact Kd.R_below (Kd.R_below hR hb) ((Below.refl _ _).alloc (Nat.le_refl _) _)
          case aB => exact ((hbl.trans (hb.mono hsz)).alloc (by have := hb.size; omega) _)
          case aS => have := hb.size; simp; omega
          case aL => omega
          intro v2 w2 hR2 hb2 hg hat
          have hT : w2.heap[w1.heap.size]? = some (.cells #[.int .i64 r1.kind, .string (tx r1.text), .int .i64 k, .int .i64 ((k : Int) + m)] 33 (0, 0)) := by
            rw [hg.block _ (by simp) ?_]
            · exact Go.heap_alloc_new _ _
            · intro e
              obtain ⟨inner, ho⟩ := Kd.R_own hR
              have := own_lt ho _ e.symm
              have := hb.size
              omega
          obtain ⟨y0, y1, y2, y3, g0, g1, g2, g3⟩ := tok4 hT
          have hs2 := hg.size
          have hs1 := hb.size
          simp at hs2
          clear hT hg hat
          have hmi : 0 ≤ (k : Int) + m := by omega
          have hmj : ((k : Int) + m).toNat = k + m := by omega
          have hsum : IntKind.i64.wrap ((k : Int) + m + j) = (k : Int) + m + j := IntWalk.i64_in _ (by omega)
          go_wp2
          go_quiet ((go_at_call 59; exact Calls.quiet_of_same ((hSKIP.out _).mono fun e w' h => ⟨h.1, h.2.symm⟩)))
          clear hsum hmj
          go_wp2
          go_roundw
          case rel => exact ⟨k + m + j, f - 1, _, by go_num, by omega, by first | exact Kd.R_drewN hR2 _ | exact hR2, by first | exact pw_below_drewN hb2 _ | exact hb2, by simp; omega, by omega, by simp; omega, show _ = _ by
            rw [← hinv.out, scan_step pat f _ k acc (by omega) (by rw [List.length_drop, len_data]; omega) (by rw [HR1.out]; exact HE.out) (by omega)]
            have hj := HJ.out
            unfold skipB at hj
            rw [extE_list, ← List.drop_drop] at hj
            rw [HR1.out, HM.out, hj, List.drop_drop, List.drop_drop, Int.natCast_add, ← Nat.add_assoc]⟩
          case measure => simp [intOf]; omega
      · have he1 : (r1.err == 0) = false := by rw [beq_eq_false_iff_ne]; exact he
        have HE := Hid.mk' he
        clear he
        go_wp2_with (go_at_call 60; refine (hREAD.out _).mono ?_; rintro e w1 ⟨rfl, hb⟩)
        go_ret3
        have hrr : r = ⟨[], k, r1.err⟩ := by
          rw [← hinv.out, ← HR1.out]
          exact scan_bad pat f _ k acc (by omega) (by rw [List.length_drop, len_data]; omega) (by rw [HR1.out]; exact HE.out)
        subst hrr
        exact ⟨_, rfl, Kd.R_nil _ _ _ _ _, (hbl.trans (hb.mono hsz)).alloc (by have := hb.size; omega) _⟩
    · go_wp2
      go_ret3
      have hrr : r = ⟨acc, 0, 0⟩ := by
        rw [← hinv.out, List.drop_eq_nil_of_le (by rw [len_data]; omega)]
        exact scan_end pat f k acc
      subst hrr
      exact ⟨_, rfl, hR, hbl⟩

theorem tok_Scan (s : ByteArray) (w : World) (hs : s.size ≤ 1000000000) (r : SR) (hr : scanR false s.data.toList = r) :
    Calls Try.prog 14 #[.string s] w fun e w' => ∃ v, e = .returned (.tuple #[v, .int .i64 r.off, .int .i64 r.err]) ∧ Kd.R kTok 33 w' w.heap.size (fun _ => True) v r.toks ∧ Below w.heap.size w w' := by
  have HR := Hid.mk' hr
  clear hr
  go_enter Try.func14, Try.ntmps14
  go_wp2_with (go_at_call 44; refine (tok_scan s false _ hs r HR).mono ?_; rintro e w1 ⟨v, rfl, h1, h2⟩)
  go_ret3
  exact ⟨_, rfl, h1, h2⟩
theorem tok_ScanPattern (s : ByteArray) (w : World) (hs : s.size ≤ 1000000000) (r : SR) (hr : scanR true s.data.toList = r) :
    Calls Try.prog 17 #[.string s] w fun e w' => ∃ v, e = .returned (.tuple #[v, .int .i64 r.off, .int .i64 r.err]) ∧ Kd.R kTok 33 w' w.heap.size (fun _ => True) v r.toks ∧ Below w.heap.size w w' := by
  have HR := Hid.mk' hr
  clear hr
  go_enter Try.func17, Try.ntmps17
  go_wp2_with (go_at_call 44; refine (tok_scan s true _ hs r HR).mono ?_; rintro e w1 ⟨v, rfl, h1, h2⟩)
  go_ret3
  exact ⟨_, rfl, h1, h2⟩
end Go.Proofs.Ytlnoadnejefmoaa
set_option linter.unusedVariables false
set_option linter.unusedSimpArgs false
namespace Go.Proofs.Ytlnoadnejefmoaa
open Go.RowKit Go.Proofs.YtlnoadnejefmoaaW.PrintWords

/-- A text and whether there is one. -/
def OptRes (r : Option (List UInt8)) (e : Ending) : Prop := ∃ (s : ByteArray) (b : Bool), e = .returned (.tuple #[.string s, .bool b]) ∧ (∀ l, r = some l → s = tx l ∧ b = true) ∧ (r = none → b = false)
theorem OptRes_none (s : ByteArray) : OptRes none (.returned (.tuple #[.string s, .bool false])) := ⟨s, false, rfl, fun l h => by simp at h, fun _ => rfl⟩
theorem OptRes_some (l : List UInt8) : OptRes (some l) (.returned (.tuple #[.string (tx l), .bool true])) := ⟨_, true, rfl, fun l' h => by simp at h; subst h; exact ⟨rfl, rfl⟩, fun h => by simp at h⟩

theorem bld_add (B b : Nat) (l : List UInt8) (s : ByteArray) (w : World) (h : Lib.IsBuilder 79 5 B b (Lib.byteCells l) w) (hl : l.length + s.size ≤ 1000000000) (hB : B ≤ w.heap.size) :
    Calls Try.prog 69 #[.pointer (some ⟨b, 0, none⟩), .string s] w fun e w' => e = .returned (.tuple #[.int .i64 s.size, .nilIface]) ∧ Lib.IsBuilder 79 5 B b (Lib.byteCells (l ++ s.data.toList)) w' ∧ Below B w w' := by
  refine (bld_string B b _ s w h (by rw [Lib.byteCells_length]; omega) hB).mono ?_
  rintro e w' ⟨h1, h2, h3⟩
  refine ⟨h1, .inr ?_, h3⟩
  rw [show Lib.byteCells (l ++ s.data.toList) = Lib.byteCells l ++ Lib.strCells s from by simp [Lib.byteCells, Lib.strCells]]
  exact h2
/-- A new builder. -/
theorem bld_new (w : World) : Lib.IsBuilder 79 5 w.heap.size w.heap.size (Lib.byteCells []) (w.alloc (.cells #[.pointer none, .slice none 0 0] 79)) := by
  refine .inl ⟨Nat.le_refl _, .slice none 0 0, ?_, ⟨by simp, .inl ⟨rfl, rfl⟩⟩, by simp [Value.ownBlock]⟩
  have h := Go.heap_alloc_new w (.cells #[.pointer none, .slice none 0 0] 79)
  simpa using h

set_option maxRecDepth 100000 in
set_option maxHeartbeats 4000000 in
theorem tok_quote (s : ByteArray) (w : World) (r : Option (List UInt8)) (hs : s.size ≤ 1000000000) (hr : Hid (quoteO s.data.toList = r)) :
    Calls Try.prog 66 #[.string s] w fun e w' => OptRes r e ∧ Below w.heap.size w w' := by
  go_enter Try.func66, Try.ntmps66
  by_cases hlong : 60 < s.size
  · have hl1 : (60 : Int) < s.size := by omega
    go_wp2
    go_ret2
    have : r = none := by rw [← hr.out]; unfold quoteO; rw [len_data, if_pos hlong]
    subst this
    exact ⟨OptRes_none _, Below.refl _ _⟩
  · have hl1 : ¬ ((60 : Int) < s.size) := by omega
    go_wp2_with (first
      | (go_at_call 94; refine (bld_put w.heap.size w.heap.size [] _ _ (bld_new w) (by first | exact byte_rng _ | (constructor <;> omega)) (by simp) (by simp)).mono ?_; rintro e w1 ⟨rfl, hB1, hb1⟩))
    have hb1' : Below w.heap.size w w1 := ((Below.refl _ _).alloc (Nat.le_refl _) _).trans hb1
    go_loopw [13] (fun i wr => ∃ (k : Nat) (acc : List UInt8), i = .int .i64 k ∧ k ≤ s.size ∧ acc.length ≤ 1 + 2 * k ∧ Lib.IsBuilder 79 5 w.heap.size w.heap.size (Lib.byteCells acc) wr ∧ Below w.heap.size w wr ∧ Hid ((escO (s.data.toList.drop k)).map (fun e => acc ++ (e ++ [34])) = r)) (fun i _ => s.size - (intOf i).toNat)
    case atStart => exact ⟨0, _, rfl, by omega, by simp, hB1, hb1', show _ = _ by rw [← hr.out]; unfold quoteO; rw [len_data, if_neg hlong, List.drop_zero]; rfl⟩
    case round =>
      obtain ⟨k, acc, rfl, hk, hal, hB, hbl, hinv⟩ := hrel
      by_cases hlt : k < s.size
      · have hd : Hid (s.data.toList.drop k = s[k] :: s.data.toList.drop (k + 1)) := byte_at s k hlt
        have hsz := hbl.size
        by_cases c1 : (s[k].toNat : Int) = 34
        · have q1 : ((s[k].toNat : Int) == 34) = true := by rw [c1]; rfl
          have HC := Hid.mk' c1
          clear c1
          go_wp2_with (first
            | (go_at_call 94; refine (bld_put _ _ _ _ _ hB2 (by first | exact byte_rng _ | (constructor <;> omega)) (by simp; omega) (Nat.le_trans hsz hb2.size)).mono ?_; rintro e w3 ⟨rfl, hB3, hb3⟩)
            | (go_at_call 94; refine (bld_put _ _ _ _ _ hB (by first | exact byte_rng _ | (constructor <;> omega)) (by omega) hsz).mono ?_; rintro e w2 ⟨rfl, hB2, hb2⟩)
            | (go_at_call 69; refine (bld_add _ _ _ ⟨#[92, 110]⟩ _ hB (by show acc.length + 2 ≤ 1000000000; omega) hsz).mono ?_; rintro e w2 ⟨rfl, hB2, hb2⟩))
          go_roundw
          case rel => exact ⟨k + 1, _, by go_num, by omega, by simp; omega, hB3, (hbl.trans hb2).trans hb3, show _ = _ by rw [← hinv.out, hd.out, escO_esc _ _ (by have := HC.out; omega), Option.map_map]; congr 1; funext e; simp [ofI_nat, ofI]⟩
          case measure => simp [intOf]; omega
        · have q1 : ((s[k].toNat : Int) == 34) = false := by rw [beq_eq_false_iff_ne]; exact c1
          by_cases c2 : (s[k].toNat : Int) = 92
          · have q2 : ((s[k].toNat : Int) == 92) = true := by rw [c2]; rfl
            have HC := Hid.mk' c2
            clear c1 c2
            go_wp2_with (first
            | (go_at_call 94; refine (bld_put _ _ _ _ _ hB2 (by first | exact byte_rng _ | (constructor <;> omega)) (by simp; omega) (Nat.le_trans hsz hb2.size)).mono ?_; rintro e w3 ⟨rfl, hB3, hb3⟩)
            | (go_at_call 94; refine (bld_put _ _ _ _ _ hB (by first | exact byte_rng _ | (constructor <;> omega)) (by omega) hsz).mono ?_; rintro e w2 ⟨rfl, hB2, hb2⟩)
            | (go_at_call 69; refine (bld_add _ _ _ ⟨#[92, 110]⟩ _ hB (by show acc.length + 2 ≤ 1000000000; omega) hsz).mono ?_; rintro e w2 ⟨rfl, hB2, hb2⟩))
            go_roundw
            case rel => exact ⟨k + 1, _, by go_num, by omega, by simp; omega, hB3, (hbl.trans hb2).trans hb3, show _ = _ by rw [← hinv.out, hd.out, escO_esc _ _ (by have := HC.out; omega), Option.map_map]; congr 1; funext e; simp [ofI_nat, ofI]⟩
            case measure => simp [intOf]; omega
          · have q2 : ((s[k].toNat : Int) == 92) = false := by rw [beq_eq_false_iff_ne]; exact c2
            by_cases c3 : (s[k].toNat : Int) = 10
            · have q3 : ((s[k].toNat : Int) == 10) = true := by rw [c3]; rfl
              have HC := Hid.mk' c3
              clear c1 c2 c3
              go_wp2_with (first
            | (go_at_call 94; refine (bld_put _ _ _ _ _ hB2 (by first | exact byte_rng _ | (constructor <;> omega)) (by simp; omega) (Nat.le_trans hsz hb2.size)).mono ?_; rintro e w3 ⟨rfl, hB3, hb3⟩)
            | (go_at_call 94; refine (bld_put _ _ _ _ _ hB (by first | exact byte_rng _ | (constructor <;> omega)) (by omega) hsz).mono ?_; rintro e w2 ⟨rfl, hB2, hb2⟩)
            | (go_at_call 69; refine (bld_add _ _ _ ⟨#[92, 110]⟩ _ hB (by show acc.length + 2 ≤ 1000000000; omega) hsz).mono ?_; rintro e w2 ⟨rfl, hB2, hb2⟩))
              go_roundw
              case rel => exact ⟨k + 1, _, by go_num, by omega, by simp; omega, hB2, hbl.trans hb2, show _ = _ by rw [← hinv.out, hd.out, escO_n _ _ (by have := HC.out; omega), Option.map_map]; congr 1; funext e; simp⟩
              case measure => simp [intOf]; omega
            · have q3 : ((s[k].toNat : Int) == 10) = false := by rw [beq_eq_false_iff_ne]; exact c3
              by_cases c4 : (s[k].toNat : Int) < 32
              · have HC : Hid (escO (s[k] :: s.data.toList.drop (k + 1)) = none) := escO_no _ _ (by omega) (by omega)
                clear c1 c2 c3
                go_wp2_with (first
            | (go_at_call 94; refine (bld_put _ _ _ _ _ hB2 (by first | exact byte_rng _ | (constructor <;> omega)) (by simp; omega) (Nat.le_trans hsz hb2.size)).mono ?_; rintro e w3 ⟨rfl, hB3, hb3⟩)
            | (go_at_call 94; refine (bld_put _ _ _ _ _ hB (by first | exact byte_rng _ | (constructor <;> omega)) (by omega) hsz).mono ?_; rintro e w2 ⟨rfl, hB2, hb2⟩)
            | (go_at_call 69; refine (bld_add _ _ _ ⟨#[92, 110]⟩ _ hB (by show acc.length + 2 ≤ 1000000000; omega) hsz).mono ?_; rintro e w2 ⟨rfl, hB2, hb2⟩))
                go_ret2
                have : r = none := by rw [← hinv.out, hd.out, HC.out]; rfl
                subst this
                exact ⟨OptRes_none _, hbl⟩
              · by_cases c5 : 126 < (s[k].toNat : Int)
                · have HC : Hid (escO (s[k] :: s.data.toList.drop (k + 1)) = none) := escO_no _ _ (by omega) (by omega)
                  clear c1 c2 c3
                  go_wp2_with (first
            | (go_at_call 94; refine (bld_put _ _ _ _ _ hB2 (by first | exact byte_rng _ | (constructor <;> omega)) (by simp; omega) (Nat.le_trans hsz hb2.size)).mono ?_; rintro e w3 ⟨rfl, hB3, hb3⟩)
            | (go_at_call 94; refine (bld_put _ _ _ _ _ hB (by first | exact byte_rng _ | (constructor <;> omega)) (by omega) hsz).mono ?_; rintro e w2 ⟨rfl, hB2, hb2⟩)
            | (go_at_call 69; refine (bld_add _ _ _ ⟨#[92, 110]⟩ _ hB (by show acc.length + 2 ≤ 1000000000; omega) hsz).mono ?_; rintro e w2 ⟨rfl, hB2, hb2⟩))
                  go_ret2
                  have : r = none := by rw [← hinv.out, hd.out, HC.out]; rfl
                  subst this
                  exact ⟨OptRes_none _, hbl⟩
                · have HC : Hid (escO (s[k] :: s.data.toList.drop (k + 1)) = (escO (s.data.toList.drop (k + 1))).map fun e => s[k] :: e) := escO_ch _ _ (by omega) (by omega) (by omega) (by omega)
                  clear c1 c2 c3
                  go_wp2_with (first
            | (go_at_call 94; refine (bld_put _ _ _ _ _ hB2 (by first | exact byte_rng _ | (constructor <;> omega)) (by simp; omega) (Nat.le_trans hsz hb2.size)).mono ?_; rintro e w3 ⟨rfl, hB3, hb3⟩)
            | (go_at_call 94; refine (bld_put _ _ _ _ _ hB (by first | exact byte_rng _ | (constructor <;> omega)) (by omega) hsz).mono ?_; rintro e w2 ⟨rfl, hB2, hb2⟩)
            | (go_at_call 69; refine (bld_add _ _ _ ⟨#[92, 110]⟩ _ hB (by show acc.length + 2 ≤ 1000000000; omega) hsz).mono ?_; rintro e w2 ⟨rfl, hB2, hb2⟩))
                  go_roundw
                  case rel => exact ⟨k + 1, _, by go_num, by omega, by simp; omega, hB2, hbl.trans hb2, show _ = _ by rw [← hinv.out, hd.out, HC.out, Option.map_map]; congr 1; funext e; simp [ofI_nat]⟩
                  case measure => simp [intOf]; omega
      · have hsz := hbl.size
        have hd : Hid (s.data.toList.drop k = []) := List.drop_eq_nil_of_le (by rw [len_data]; omega)
        go_wp2_with (first
          | (go_at_call 94; refine (bld_put _ _ _ _ _ hB (by first | exact byte_rng _ | (constructor <;> omega)) (by omega) hsz).mono ?_; rintro e w2 ⟨rfl, hB2, hb2⟩)
          | (go_at_call 70; refine (bld_str _ _ _ _ hB2 (Nat.le_trans hsz hb2.size)).mono ?_; rintro e w3 ⟨rfl, hb3⟩))
        go_ret2
        have : r = some (acc ++ [34]) := by rw [← hinv.out, hd.out]; rfl
        subst this
        exact ⟨OptRes_some _, (hbl.trans hb2).trans hb3⟩
end Go.Proofs.Ytlnoadnejefmoaa
set_option linter.unusedVariables false
set_option linter.unusedSimpArgs false
namespace Go.Proofs.Ytlnoadnejefmoaa
open Go.RowKit Go.Proofs.YtlnoadnejefmoaaW.PrintWords

theorem opt_if (c : Bool) (s : ByteArray) (b : Bool) (h : b = c) : OptRes (if c = true then some s.data.toList else none) (.returned (.tuple #[.string s, .bool b])) := by
  subst h
  cases b
  · exact OptRes_none _
  · have := OptRes_some s.data.toList
    rw [tx_data] at this
    exact this
theorem opt_pre (c : Bool) (P : List UInt8) (s t : ByteArray) (b : Bool) (h : b = c) (ht : t.data.toList = P ++ s.data.toList) : OptRes (if c = true then some (P ++ s.data.toList) else none) (.returned (.tuple #[.string t, .bool b])) := by
  rw [← ht]
  exact opt_if c t b h
theorem short_f {s : ByteArray} (h : nameB s = false) : (false : Bool) = shortL s.data.toList := by unfold shortL; unfold nameB at h; rw [h]; rfl
theorem short_t {s : ByteArray} (h : nameB s = true) : decide ((s.size : Int) ≤ 24) = shortL s.data.toList := by
  unfold shortL
  unfold nameB at h
  rw [h, len_data, Bool.true_and]
  apply decide_eq_decide.2
  omega
theorem intOk_nil (s : ByteArray) (h : s.size = 0) : intOk s.data.toList = false := by
  rw [List.eq_nil_of_length_eq_zero (show s.data.toList.length = 0 by rw [len_data]; exact h)]; rfl
theorem intOk_cons (s : ByteArray) (h0 : 0 < s.size) : intOk s.data.toList = (isDigitI s[0].toNat && decide ((intR s.data.toList).err = 0) && decide ((intR s.data.toList).text = s.data.toList)) := by
  have e := byte_at s 0 h0
  rw [List.drop_zero] at e
  unfold intOk
  rw [e]
theorem heap_ltQ {w : World} {b : Nat} {o : Obj} (h : w.heap[b]? = some o) : b < w.heap.size := (Array.getElem?_eq_some_iff.1 h).1
theorem int_beq (l : List UInt8) (s : ByteArray) : ((tx l).toList == s.toList) = decide (l = s.data.toList) := by
  rw [Lib.toList_data, Lib.toList_data, tx_list, Bool.eq_iff_iff, beq_iff_eq, decide_eq_true_eq]
theorem tx_eq_iff (l : List UInt8) (s : ByteArray) : tx l = s ↔ l = s.data.toList := ⟨fun h => by rw [← h]; rfl, fun h => by rw [h, tx_data]⟩

set_option maxRecDepth 100000 in
set_option maxHeartbeats 4000000 in
theorem tok_text_1 (s : ByteArray) (a b : Int) (w : World) (hs : s.size ≤ 1000000000) :
    Calls Try.prog 46 #[.agg #[.int .i64 1, .string s, .int .i64 a, .int .i64 b]] w fun e w' => OptRes (textO 1 s.data.toList) e ∧ Below w.heap.size w w' := by
  obtain ⟨r, hr⟩ : ∃ r, textO 1 s.data.toList = r := ⟨_, rfl⟩
  rw [hr]
  have HR : Hid (r = if shortL s.data.toList = true then some s.data.toList else none) := hr.symm.trans rfl
  clear hr
  cases hn : nameB s
  · go_enter Try.func46, Try.ntmps46
    go_wp2_with (first
      | (go_at_call 63; refine (tok_name _ _ (by omega)).mono ?_; rintro e w1 ⟨rfl, hb⟩; obtain ⟨h1, hb⟩ := keep1 hb; obtain ⟨y0, y1, y2, y3, g0, g1, g2, g3⟩ := tok4 h1))
    go_ret2
    exact ⟨HR.out ▸ opt_if _ s _ (short_f hn), hb⟩
  · go_enter Try.func46, Try.ntmps46
    go_wp2_with (first
      | (go_at_call 63; refine (tok_name _ _ (by omega)).mono ?_; rintro e w1 ⟨rfl, hb⟩; obtain ⟨h1, hb⟩ := keep1 hb; obtain ⟨y0, y1, y2, y3, g0, g1, g2, g3⟩ := tok4 h1))
    go_ret2
    exact ⟨HR.out ▸ opt_if _ s _ (short_t hn), hb⟩
set_option maxRecDepth 100000 in
set_option maxHeartbeats 4000000 in
theorem tok_text_6 (s : ByteArray) (a b : Int) (w : World) (hs : s.size ≤ 1000000000) :
    Calls Try.prog 46 #[.agg #[.int .i64 6, .string s, .int .i64 a, .int .i64 b]] w fun e w' => OptRes (textO 6 s.data.toList) e ∧ Below w.heap.size w w' := by
  obtain ⟨r, hr⟩ : ∃ r, textO 6 s.data.toList = r := ⟨_, rfl⟩
  rw [hr]
  have HR : Hid (r = if shortL s.data.toList = true then some (([36] : List UInt8) ++ s.data.toList) else none) := hr.symm.trans rfl
  clear hr
  cases hn : nameB s
  · go_enter Try.func46, Try.ntmps46
    go_wp2_with (first
      | (go_at_call 63; refine (tok_name _ _ (by omega)).mono ?_; rintro e w1 ⟨rfl, hb⟩; obtain ⟨h1, hb⟩ := keep1 hb; obtain ⟨y0, y1, y2, y3, g0, g1, g2, g3⟩ := tok4 h1))
    go_ret2
    exact ⟨HR.out ▸ opt_pre _ [36] s ((⟨#[36]⟩ : ByteArray) ++ s) _ (short_f hn) (by simp), hb⟩
  · go_enter Try.func46, Try.ntmps46
    go_wp2_with (first
      | (go_at_call 63; refine (tok_name _ _ (by omega)).mono ?_; rintro e w1 ⟨rfl, hb⟩; obtain ⟨h1, hb⟩ := keep1 hb; obtain ⟨y0, y1, y2, y3, g0, g1, g2, g3⟩ := tok4 h1))
    go_ret2
    exact ⟨HR.out ▸ opt_pre _ [36] s ((⟨#[36]⟩ : ByteArray) ++ s) _ (short_t hn) (by simp), hb⟩
set_option maxRecDepth 100000 in
set_option maxHeartbeats 4000000 in
theorem tok_text_7 (s : ByteArray) (a b : Int) (w : World) (hs : s.size ≤ 1000000000) :
    Calls Try.prog 46 #[.agg #[.int .i64 7, .string s, .int .i64 a, .int .i64 b]] w fun e w' => OptRes (textO 7 s.data.toList) e ∧ Below w.heap.size w w' := by
  obtain ⟨r, hr⟩ : ∃ r, textO 7 s.data.toList = r := ⟨_, rfl⟩
  rw [hr]
  have HR : Hid (r = if shortL s.data.toList = true then some (([36, 36] : List UInt8) ++ s.data.toList) else none) := hr.symm.trans rfl
  clear hr
  cases hn : nameB s
  · go_enter Try.func46, Try.ntmps46
    go_wp2_with (first
      | (go_at_call 63; refine (tok_name _ _ (by omega)).mono ?_; rintro e w1 ⟨rfl, hb⟩; obtain ⟨h1, hb⟩ := keep1 hb; obtain ⟨y0, y1, y2, y3, g0, g1, g2, g3⟩ := tok4 h1))
    go_ret2
    exact ⟨HR.out ▸ opt_pre _ [36, 36] s ((⟨#[36, 36]⟩ : ByteArray) ++ s) _ (short_f hn) (by simp), hb⟩
  · go_enter Try.func46, Try.ntmps46
    go_wp2_with (first
      | (go_at_call 63; refine (tok_name _ _ (by omega)).mono ?_; rintro e w1 ⟨rfl, hb⟩; obtain ⟨h1, hb⟩ := keep1 hb; obtain ⟨y0, y1, y2, y3, g0, g1, g2, g3⟩ := tok4 h1))
    go_ret2
    exact ⟨HR.out ▸ opt_pre _ [36, 36] s ((⟨#[36, 36]⟩ : ByteArray) ++ s) _ (short_t hn) (by simp), hb⟩
set_option maxRecDepth 100000 in
set_option maxHeartbeats 4000000 in
theorem tok_text_2 (s : ByteArray) (a b : Int) (w : World) (hs : s.size ≤ 1000000000) :
    Calls Try.prog 46 #[.agg #[.int .i64 2, .string s, .int .i64 a, .int .i64 b]] w fun e w' => OptRes (textO 2 s.data.toList) e ∧ Below w.heap.size w w' := by
  obtain ⟨r, hr⟩ : ∃ r, textO 2 s.data.toList = r := ⟨_, rfl⟩
  rw [hr]
  have HR : Hid (r = if kwB s = true then some s.data.toList else none) := hr.symm.trans rfl
  clear hr
  cases hn : nameB s
  · go_enter Try.func46, Try.ntmps46
    go_wp2_with (first
      | (go_at_call 63; refine (tok_name _ _ (by omega)).mono ?_; rintro e w1 ⟨rfl, hb⟩; obtain ⟨h1, hb⟩ := keep1 hb; obtain ⟨y0, y1, y2, y3, g0, g1, g2, g3⟩ := tok4 h1))
    go_region_with (go_at_call 25; refine (tok_keyword s _).mono ?_; rintro e w2 ⟨rfl, hb2⟩; have h2 := below_cells hb2 (heap_ltQ h1) h1; obtain ⟨x0, x1, x2, x3, f0, f1, f2, f3⟩ := tok4 h2)
    all_goals
      go_wp2
      go_ret2
      exact ⟨HR.out ▸ opt_if _ s _ rfl, hb.drew.trans (hb2.mono hb.size)⟩
  · go_enter Try.func46, Try.ntmps46
    go_wp2_with (first
      | (go_at_call 63; refine (tok_name _ _ (by omega)).mono ?_; rintro e w1 ⟨rfl, hb⟩; obtain ⟨h1, hb⟩ := keep1 hb; obtain ⟨y0, y1, y2, y3, g0, g1, g2, g3⟩ := tok4 h1))
    go_region_with (go_at_call 25; refine (tok_keyword s _).mono ?_; rintro e w2 ⟨rfl, hb2⟩; have h2 := below_cells hb2 (heap_ltQ h1) h1; obtain ⟨x0, x1, x2, x3, f0, f1, f2, f3⟩ := tok4 h2)
    all_goals
      go_wp2
      go_ret2
      exact ⟨HR.out ▸ opt_if _ s _ rfl, hb.drew.trans (hb2.mono hb.size)⟩
set_option maxRecDepth 100000 in
set_option maxHeartbeats 4000000 in
theorem tok_text_5 (s : ByteArray) (a b : Int) (w : World) (hs : s.size ≤ 1000000000) :
    Calls Try.prog 46 #[.agg #[.int .i64 5, .string s, .int .i64 a, .int .i64 b]] w fun e w' => OptRes (textO 5 s.data.toList) e ∧ Below w.heap.size w w' := by
  obtain ⟨r, hr⟩ : ∃ r, textO 5 s.data.toList = r := ⟨_, rfl⟩
  rw [hr]
  have HR : Hid (r = if markB s = true then some s.data.toList else none) := hr.symm.trans rfl
  clear hr
  cases hn : nameB s
  · go_enter Try.func46, Try.ntmps46
    go_wp2_with (first
      | (go_at_call 63; refine (tok_name _ _ (by omega)).mono ?_; rintro e w1 ⟨rfl, hb⟩; obtain ⟨h1, hb⟩ := keep1 hb; obtain ⟨y0, y1, y2, y3, g0, g1, g2, g3⟩ := tok4 h1))
    go_quiet ((go_at_call 67; exact Calls.quiet_of_same ((tok_mark s _).mono fun e w' h => ⟨h.1, h.2.symm⟩)))
    go_wp2
    go_ret2
    exact ⟨HR.out ▸ opt_if _ s _ rfl, pw_below_drewN hb _⟩
  · go_enter Try.func46, Try.ntmps46
    go_wp2_with (first
      | (go_at_call 63; refine (tok_name _ _ (by omega)).mono ?_; rintro e w1 ⟨rfl, hb⟩; obtain ⟨h1, hb⟩ := keep1 hb; obtain ⟨y0, y1, y2, y3, g0, g1, g2, g3⟩ := tok4 h1))
    go_quiet ((go_at_call 67; exact Calls.quiet_of_same ((tok_mark s _).mono fun e w' h => ⟨h.1, h.2.symm⟩)))
    go_wp2
    go_ret2
    exact ⟨HR.out ▸ opt_if _ s _ rfl, pw_below_drewN hb _⟩
set_option maxRecDepth 100000 in
set_option maxHeartbeats 4000000 in
theorem tok_text_4 (s : ByteArray) (a b : Int) (w : World) (hs : s.size ≤ 1000000000) :
    Calls Try.prog 46 #[.agg #[.int .i64 4, .string s, .int .i64 a, .int .i64 b]] w fun e w' => OptRes (textO 4 s.data.toList) e ∧ Below w.heap.size w w' := by
  obtain ⟨r, hr⟩ : ∃ r, textO 4 s.data.toList = r := ⟨_, rfl⟩
  rw [hr]
  have HR : Hid (r = quoteO s.data.toList) := hr.symm.trans rfl
  clear hr
  have HR2 : Hid (quoteO s.data.toList = r) := HR.out.symm
  cases hn : nameB s
  · go_enter Try.func46, Try.ntmps46
    go_wp2_with (first
      | (go_at_call 63; refine (tok_name _ _ (by omega)).mono ?_; rintro e w1 ⟨rfl, hb⟩; obtain ⟨h1, hb⟩ := keep1 hb; obtain ⟨y0, y1, y2, y3, g0, g1, g2, g3⟩ := tok4 h1)
      | (go_at_call 66; refine (tok_quote s _ _ hs HR2).mono ?_; rintro e w2 ⟨⟨s1, b1, rfl, hso⟩, hb2⟩))
    go_ret2
    exact ⟨⟨_, _, rfl, hso⟩, hb.trans (hb2.mono hb.size)⟩
  · go_enter Try.func46, Try.ntmps46
    go_wp2_with (first
      | (go_at_call 63; refine (tok_name _ _ (by omega)).mono ?_; rintro e w1 ⟨rfl, hb⟩; obtain ⟨h1, hb⟩ := keep1 hb; obtain ⟨y0, y1, y2, y3, g0, g1, g2, g3⟩ := tok4 h1)
      | (go_at_call 66; refine (tok_quote s _ _ hs HR2).mono ?_; rintro e w2 ⟨⟨s1, b1, rfl, hso⟩, hb2⟩))
    go_ret2
    exact ⟨⟨_, _, rfl, hso⟩, hb.trans (hb2.mono hb.size)⟩
set_option maxRecDepth 100000 in
set_option maxHeartbeats 4000000 in
theorem tok_text_3 (s : ByteArray) (a b : Int) (w : World) (hs : s.size ≤ 1000000000) :
    Calls Try.prog 46 #[.agg #[.int .i64 3, .string s, .int .i64 a, .int .i64 b]] w fun e w' => OptRes (textO 3 s.data.toList) e ∧ Below w.heap.size w w' := by
  obtain ⟨r, hr⟩ : ∃ r, textO 3 s.data.toList = r := ⟨_, rfl⟩
  rw [hr]
  have HR : Hid (r = if intOk s.data.toList = true then some s.data.toList else none) := hr.symm.trans rfl
  clear hr
  rcases Nat.eq_zero_or_pos s.size with h0 | h0
  · have hz := toList_nil s h0
    have H0 := Hid.mk' h0
    clear h0
    cases hn : nameB s
    · go_enter Try.func46, Try.ntmps46
      go_wp2_with (first
        | (go_at_call 63; refine (tok_name _ _ (by omega)).mono ?_; rintro e w1 ⟨rfl, hb⟩; obtain ⟨h1, hb⟩ := keep1 hb; obtain ⟨y0, y1, y2, y3, g0, g1, g2, g3⟩ := tok4 h1)
        | (go_at_call 64; refine (tok_digit _ _).mono ?_; rintro e w' ⟨rfl, rfl⟩))
      go_ret2
      have : r = none := by rw [HR.out, intOk_nil s H0.out]; rfl
      subst this
      exact ⟨OptRes_none _, hb⟩
    · go_enter Try.func46, Try.ntmps46
      go_wp2_with (first
        | (go_at_call 63; refine (tok_name _ _ (by omega)).mono ?_; rintro e w1 ⟨rfl, hb⟩; obtain ⟨h1, hb⟩ := keep1 hb; obtain ⟨y0, y1, y2, y3, g0, g1, g2, g3⟩ := tok4 h1)
        | (go_at_call 64; refine (tok_digit _ _).mono ?_; rintro e w' ⟨rfl, rfl⟩))
      go_ret2
      have : r = none := by rw [HR.out, intOk_nil s H0.out]; rfl
      subst this
      exact ⟨OptRes_none _, hb⟩
  · have hz := toList_cons s h0
    have hz2 : s.toList.isEmpty = false := by rw [Bool.eq_false_iff]; intro h; exact hz (List.isEmpty_iff.1 h)
    have hlt : (0 : Int) < s.size := by omega
    cases hd : isDigitI s[0].toNat
    · cases hn : nameB s
      · go_enter Try.func46, Try.ntmps46
        go_wp2_with (first
          | (go_at_call 63; refine (tok_name _ _ (by omega)).mono ?_; rintro e w1 ⟨rfl, hb⟩; obtain ⟨h1, hb⟩ := keep1 hb; obtain ⟨y0, y1, y2, y3, g0, g1, g2, g3⟩ := tok4 h1)
          | (go_at_call 64; refine (tok_digit _ _).mono ?_; rintro e w' ⟨rfl, rfl⟩))
        go_ret2
        have : r = none := by rw [HR.out, intOk_cons s h0, hd]; rfl
        subst this
        exact ⟨OptRes_none _, hb⟩
      · go_enter Try.func46, Try.ntmps46
        go_wp2_with (first
          | (go_at_call 63; refine (tok_name _ _ (by omega)).mono ?_; rintro e w1 ⟨rfl, hb⟩; obtain ⟨h1, hb⟩ := keep1 hb; obtain ⟨y0, y1, y2, y3, g0, g1, g2, g3⟩ := tok4 h1)
          | (go_at_call 64; refine (tok_digit _ _).mono ?_; rintro e w' ⟨rfl, rfl⟩))
        go_ret2
        have : r = none := by rw [HR.out, intOk_cons s h0, hd]; rfl
        subst this
        exact ⟨OptRes_none _, hb⟩
    · obtain ⟨r1, hr1⟩ : ∃ r1, intR s.data.toList = r1 := ⟨_, rfl⟩
      have HI := Hid.mk' hr1
      clear hr1
      by_cases he : r1.err = 0
      · have he1 : (r1.err == 0) = true := by rw [he]; rfl
        have HE := Hid.mk' he
        clear he
        cases hn : nameB s
        · go_enter Try.func46, Try.ntmps46
          go_wp2_with (first
            | (go_at_call 63; refine (tok_name _ _ (by omega)).mono ?_; rintro e w1 ⟨rfl, hb⟩; obtain ⟨h1, hb⟩ := keep1 hb; obtain ⟨y0, y1, y2, y3, g0, g1, g2, g3⟩ := tok4 h1)
            | (go_at_call 64; refine (tok_digit _ _).mono ?_; rintro e w' ⟨rfl, rfl⟩)
            | (go_at_call 65; refine (tok_is HI.out (tok_integer s _ (by omega) h0)).mono ?_; rintro e w2 ⟨rfl, hb2⟩; have h2 := below_cells hb2 (heap_ltQ h1) h1; obtain ⟨x0, x1, x2, x3, f0, f1, f2, f3⟩ := tok4 h2))
          obtain ⟨W3, hW⟩ : ∃ W, w2.alloc (.cells #[.int .i64 r1.kind, .string (tx r1.text), .int .i64 0, .int .i64 r1.len] 33) = W := ⟨_, rfl⟩
          have k1 : W3.heap[w2.heap.size]? = some (.cells #[.int .i64 r1.kind, .string (tx r1.text), .int .i64 0, .int .i64 r1.len] 33 (0, 0)) := by rw [← hW]; exact Go.heap_alloc_new _ _
          have k2 := (Below.heap_alloc w2 (.cells #[.int .i64 r1.kind, .string (tx r1.text), .int .i64 0, .int .i64 r1.len] 33) _ (heap_ltQ h2)).trans h2
          have k3 : Below w.heap.size w W3 := by rw [← hW]; exact (hb.trans (hb2.mono hb.size)).alloc (Nat.le_trans hb.size hb2.size) _
          rw [hW] at k2
          rw [hW]
          clear hW x0 x1 x2 x3 f0 f1 f2 f3 y0 y1 y2 y3 g0 g1 g2 g3
          obtain ⟨y0, y1, y2, y3, g0, g1, g2, g3⟩ := tok4 k1
          obtain ⟨x0, x1, x2, x3, f0, f1, f2, f3⟩ := tok4 k2
          clear k1 k2 h1 h2
          go_quiet (fail)
          go_wp2
          go_ret2
          have : intOk s.data.toList = ((tx r1.text).toList == s.toList) := by rw [intOk_cons s h0, hd, HI.out]; rw [int_beq]; simp [HE.out]
          exact ⟨HR.out ▸ opt_if _ s _ this.symm, pw_below_drewN k3 _⟩
        · go_enter Try.func46, Try.ntmps46
          go_wp2_with (first
            | (go_at_call 63; refine (tok_name _ _ (by omega)).mono ?_; rintro e w1 ⟨rfl, hb⟩; obtain ⟨h1, hb⟩ := keep1 hb; obtain ⟨y0, y1, y2, y3, g0, g1, g2, g3⟩ := tok4 h1)
            | (go_at_call 64; refine (tok_digit _ _).mono ?_; rintro e w' ⟨rfl, rfl⟩)
            | (go_at_call 65; refine (tok_is HI.out (tok_integer s _ (by omega) h0)).mono ?_; rintro e w2 ⟨rfl, hb2⟩; have h2 := below_cells hb2 (heap_ltQ h1) h1; obtain ⟨x0, x1, x2, x3, f0, f1, f2, f3⟩ := tok4 h2))
          obtain ⟨W3, hW⟩ : ∃ W, w2.alloc (.cells #[.int .i64 r1.kind, .string (tx r1.text), .int .i64 0, .int .i64 r1.len] 33) = W := ⟨_, rfl⟩
          have k1 : W3.heap[w2.heap.size]? = some (.cells #[.int .i64 r1.kind, .string (tx r1.text), .int .i64 0, .int .i64 r1.len] 33 (0, 0)) := by rw [← hW]; exact Go.heap_alloc_new _ _
          have k2 := (Below.heap_alloc w2 (.cells #[.int .i64 r1.kind, .string (tx r1.text), .int .i64 0, .int .i64 r1.len] 33) _ (heap_ltQ h2)).trans h2
          have k3 : Below w.heap.size w W3 := by rw [← hW]; exact (hb.trans (hb2.mono hb.size)).alloc (Nat.le_trans hb.size hb2.size) _
          rw [hW] at k2
          rw [hW]
          clear hW x0 x1 x2 x3 f0 f1 f2 f3 y0 y1 y2 y3 g0 g1 g2 g3
          obtain ⟨y0, y1, y2, y3, g0, g1, g2, g3⟩ := tok4 k1
          obtain ⟨x0, x1, x2, x3, f0, f1, f2, f3⟩ := tok4 k2
          clear k1 k2 h1 h2
          go_quiet (fail)
          go_wp2
          go_ret2
          have : intOk s.data.toList = ((tx r1.text).toList == s.toList) := by rw [intOk_cons s h0, hd, HI.out]; rw [int_beq]; simp [HE.out]
          exact ⟨HR.out ▸ opt_if _ s _ this.symm, pw_below_drewN k3 _⟩
      · have he1 : (r1.err == 0) = false := by rw [beq_eq_false_iff_ne]; exact he
        have HE := Hid.mk' he
        clear he
        cases hn : nameB s
        · go_enter Try.func46, Try.ntmps46
          go_wp2_with (first
            | (go_at_call 63; refine (tok_name _ _ (by omega)).mono ?_; rintro e w1 ⟨rfl, hb⟩; obtain ⟨h1, hb⟩ := keep1 hb; obtain ⟨y0, y1, y2, y3, g0, g1, g2, g3⟩ := tok4 h1)
            | (go_at_call 64; refine (tok_digit _ _).mono ?_; rintro e w' ⟨rfl, rfl⟩)
            | (go_at_call 65; refine (tok_is HI.out (tok_integer s _ (by omega) h0)).mono ?_; rintro e w2 ⟨rfl, hb2⟩; have h2 := below_cells hb2 (heap_ltQ h1) h1; obtain ⟨x0, x1, x2, x3, f0, f1, f2, f3⟩ := tok4 h2))
          obtain ⟨W3, hW⟩ : ∃ W, w2.alloc (.cells #[.int .i64 r1.kind, .string (tx r1.text), .int .i64 0, .int .i64 r1.len] 33) = W := ⟨_, rfl⟩
          have k1 : W3.heap[w2.heap.size]? = some (.cells #[.int .i64 r1.kind, .string (tx r1.text), .int .i64 0, .int .i64 r1.len] 33 (0, 0)) := by rw [← hW]; exact Go.heap_alloc_new _ _
          have k2 := (Below.heap_alloc w2 (.cells #[.int .i64 r1.kind, .string (tx r1.text), .int .i64 0, .int .i64 r1.len] 33) _ (heap_ltQ h2)).trans h2
          have k3 : Below w.heap.size w W3 := by rw [← hW]; exact (hb.trans (hb2.mono hb.size)).alloc (Nat.le_trans hb.size hb2.size) _
          rw [hW] at k2
          rw [hW]
          clear hW x0 x1 x2 x3 f0 f1 f2 f3 y0 y1 y2 y3 g0 g1 g2 g3
          obtain ⟨y0, y1, y2, y3, g0, g1, g2, g3⟩ := tok4 k1
          obtain ⟨x0, x1, x2, x3, f0, f1, f2, f3⟩ := tok4 k2
          clear k1 k2 h1 h2
          go_quiet (fail)
          go_wp2
          go_ret2
          have : intOk s.data.toList = false := by rw [intOk_cons s h0, hd, HI.out]; simp [HE.out]
          exact ⟨HR.out ▸ opt_if _ s _ this.symm, pw_below_drewN k3 _⟩
        · go_enter Try.func46, Try.ntmps46
          go_wp2_with (first
            | (go_at_call 63; refine (tok_name _ _ (by omega)).mono ?_; rintro e w1 ⟨rfl, hb⟩; obtain ⟨h1, hb⟩ := keep1 hb; obtain ⟨y0, y1, y2, y3, g0, g1, g2, g3⟩ := tok4 h1)
            | (go_at_call 64; refine (tok_digit _ _).mono ?_; rintro e w' ⟨rfl, rfl⟩)
            | (go_at_call 65; refine (tok_is HI.out (tok_integer s _ (by omega) h0)).mono ?_; rintro e w2 ⟨rfl, hb2⟩; have h2 := below_cells hb2 (heap_ltQ h1) h1; obtain ⟨x0, x1, x2, x3, f0, f1, f2, f3⟩ := tok4 h2))
          obtain ⟨W3, hW⟩ : ∃ W, w2.alloc (.cells #[.int .i64 r1.kind, .string (tx r1.text), .int .i64 0, .int .i64 r1.len] 33) = W := ⟨_, rfl⟩
          have k1 : W3.heap[w2.heap.size]? = some (.cells #[.int .i64 r1.kind, .string (tx r1.text), .int .i64 0, .int .i64 r1.len] 33 (0, 0)) := by rw [← hW]; exact Go.heap_alloc_new _ _
          have k2 := (Below.heap_alloc w2 (.cells #[.int .i64 r1.kind, .string (tx r1.text), .int .i64 0, .int .i64 r1.len] 33) _ (heap_ltQ h2)).trans h2
          have k3 : Below w.heap.size w W3 := by rw [← hW]; exact (hb.trans (hb2.mono hb.size)).alloc (Nat.le_trans hb.size hb2.size) _
          rw [hW] at k2
          rw [hW]
          clear hW x0 x1 x2 x3 f0 f1 f2 f3 y0 y1 y2 y3 g0 g1 g2 g3
          obtain ⟨y0, y1, y2, y3, g0, g1, g2, g3⟩ := tok4 k1
          obtain ⟨x0, x1, x2, x3, f0, f1, f2, f3⟩ := tok4 k2
          clear k1 k2 h1 h2
          go_quiet (fail)
          go_wp2
          go_ret2
          have : intOk s.data.toList = false := by rw [intOk_cons s h0, hd, HI.out]; simp [HE.out]
          exact ⟨HR.out ▸ opt_if _ s _ this.symm, pw_below_drewN k3 _⟩
end Go.Proofs.Ytlnoadnejefmoaa
set_option linter.unusedVariables false
set_option linter.unusedSimpArgs false
namespace Go.Proofs.Ytlnoadnejefmoaa
open Go.RowKit Go.Proofs.YtlnoadnejefmoaaW.PrintWords

def ne7 (k : Int) : Prop := (k == 1) = false ∧ (k == 2) = false ∧ (k == 3) = false ∧ (k == 4) = false ∧ (k == 5) = false ∧ (k == 6) = false ∧ (k == 7) = false
set_option maxRecDepth 100000 in
set_option maxHeartbeats 4000000 in
theorem tok_text_no (s : ByteArray) (k a b : Int) (w : World) (hs : s.size ≤ 1000000000) (hk : ne7 k) :
    Calls Try.prog 46 #[.agg #[.int .i64 k, .string s, .int .i64 a, .int .i64 b]] w fun e w' => OptRes none e ∧ Below w.heap.size w w' := by
  obtain ⟨n1, n2, n3, n4, n5, n6, n7⟩ := hk
  cases hn : nameB s
  · go_enter Try.func46, Try.ntmps46
    go_wp2_with (first
      | (go_at_call 63; refine (tok_name _ _ (by omega)).mono ?_; rintro e w1 ⟨rfl, hb⟩; obtain ⟨h1, hb⟩ := keep1 hb; obtain ⟨y0, y1, y2, y3, g0, g1, g2, g3⟩ := tok4 h1))
    go_ret2
    exact ⟨OptRes_none _, hb⟩
  · go_enter Try.func46, Try.ntmps46
    go_wp2_with (first
      | (go_at_call 63; refine (tok_name _ _ (by omega)).mono ?_; rintro e w1 ⟨rfl, hb⟩; obtain ⟨h1, hb⟩ := keep1 hb; obtain ⟨y0, y1, y2, y3, g0, g1, g2, g3⟩ := tok4 h1))
    go_ret2
    exact ⟨OptRes_none _, hb⟩
theorem textO_no (k : Int) (l : List UInt8) (h : ¬ (k = 1 ∨ k = 2 ∨ k = 3 ∨ k = 4 ∨ k = 5 ∨ k = 6 ∨ k = 7)) : textO k l = none := by
  unfold textO
  rw [if_neg (by omega), if_neg (by omega), if_neg (by omega), if_neg (by omega), if_neg (by omega), if_neg (by omega), if_neg (by omega)]
theorem tok_text (k : Int) (s : ByteArray) (a b : Int) (w : World) (hs : s.size ≤ 1000000000) :
    Calls Try.prog 46 #[.agg #[.int .i64 k, .string s, .int .i64 a, .int .i64 b]] w fun e w' => OptRes (textO k s.data.toList) e ∧ Below w.heap.size w w' := by
  by_cases h : k = 1 ∨ k = 2 ∨ k = 3 ∨ k = 4 ∨ k = 5 ∨ k = 6 ∨ k = 7
  · rcases h with rfl | rfl | rfl | rfl | rfl | rfl | rfl
    · exact tok_text_1 s a b w hs
    · exact tok_text_2 s a b w hs
    · exact tok_text_3 s a b w hs
    · exact tok_text_4 s a b w hs
    · exact tok_text_5 s a b w hs
    · exact tok_text_6 s a b w hs
    · exact tok_text_7 s a b w hs
  · rw [textO_no k _ h]
    exact tok_text_no s k a b w hs ⟨by rw [beq_eq_false_iff_ne]; omega, by rw [beq_eq_false_iff_ne]; omega, by rw [beq_eq_false_iff_ne]; omega, by rw [beq_eq_false_iff_ne]; omega, by rw [beq_eq_false_iff_ne]; omega, by rw [beq_eq_false_iff_ne]; omega, by rw [beq_eq_false_iff_ne]; omega⟩

theorem tok_text_is (k : Int) (s : ByteArray) (a b : Int) (o : List UInt8) (w : World) (hs : s.size ≤ 1000000000) (h : textO k s.data.toList = some o) :
    Calls Try.prog 46 #[.agg #[.int .i64 k, .string s, .int .i64 a, .int .i64 b]] w fun e w' => e = .returned (.tuple #[.string (tx o), .bool true]) ∧ Below w.heap.size w w' := by
  refine (tok_text k s a b w hs).mono ?_
  rintro e w' ⟨⟨t, c, rfl, h1, _⟩, hb⟩
  obtain ⟨rfl, rfl⟩ := h1 o h
  exact ⟨rfl, hb⟩
theorem tok_text_not (k : Int) (s : ByteArray) (a b : Int) (w : World) (hs : s.size ≤ 1000000000) (h : textO k s.data.toList = none) :
    Calls Try.prog 46 #[.agg #[.int .i64 k, .string s, .int .i64 a, .int .i64 b]] w fun e w' => (∃ t, e = .returned (.tuple #[.string t, .bool false])) ∧ Below w.heap.size w w' := by
  refine (tok_text k s a b w hs).mono ?_
  rintro e w' ⟨⟨t, c, rfl, _, h1⟩, hb⟩
  obtain rfl := h1 h
  exact ⟨⟨_, rfl⟩, hb⟩

/-! ### How long what is printed is -/
theorem isKwL_len (l : List UInt8) (h : isKwL l = true) : l.length ≤ 10 := by
  unfold isKwL at h
  rw [List.any_eq_true] at h
  obtain ⟨x, hx, he⟩ := h
  have he := beq_iff_eq.1 he
  subst he
  have : ∀ y ∈ kwL, y.length ≤ 10 := by decide
  exact this _ hx
theorem isMarkL_len (l : List UInt8) (h : isMarkL l = true) : l.length ≤ 2 := by
  unfold isMarkL at h
  rw [List.any_eq_true] at h
  obtain ⟨x, hx, he⟩ := h
  have he := beq_iff_eq.1 he
  subst he
  have : ∀ y ∈ markL, y.length ≤ 2 := by decide
  exact this _ hx
theorem shortL_len (l : List UInt8) (h : shortL l = true) : l.length ≤ 24 := by
  unfold shortL at h
  rw [Bool.and_eq_true, decide_eq_true_eq] at h
  exact h.2
theorem intOk_len (l : List UInt8) (h : intOk l = true) : l.length ≤ 9 := by
  unfold intOk at h
  rw [Bool.and_eq_true, Bool.and_eq_true, decide_eq_true_eq, decide_eq_true_eq] at h
  obtain ⟨⟨_, h1⟩, h2⟩ := h
  unfold intR at h1 h2
  split at h1
  · simp [RT.bad] at h1
  · rename_i hx
    rw [if_neg hx] at h2
    split at h1
    · simp [RT.bad] at h1
    · rename_i hy
      rw [if_neg hy] at h2
      simp only at h2
      have := congrArg List.length h2
      rw [List.length_take] at this
      omega
theorem textO_len (k : Int) (l o : List UInt8) (h : textO k l = some o) : o.length ≤ 122 := by
  unfold textO at h
  split at h
  · split at h
    · rename_i hx
      cases h
      have := shortL_len _ hx
      omega
    · simp at h
  split at h
  · split at h
    · rename_i hx
      cases h
      have := isKwL_len _ hx
      omega
    · simp at h
  split at h
  · split at h
    · rename_i hx
      cases h
      have := intOk_len _ hx
      omega
    · simp at h
  split at h
  · unfold quoteO at h
    split at h
    · simp at h
    · obtain ⟨e, he, rfl⟩ := Option.map_eq_some_iff.1 h
      have := escO_len _ _ he
      simp
      omega
  split at h
  · split at h
    · rename_i hx
      cases h
      have := isMarkL_len _ hx
      omega
    · simp at h
  split at h
  · split at h
    · rename_i hx
      cases h
      have := shortL_len _ hx
      simp
      omega
    · simp at h
  split at h
  · split at h
    · rename_i hx
      cases h
      have := shortL_len _ hx
      simp
      omega
    · simp at h
  · simp at h

theorem joinL_len (N : Nat) : ∀ ls : List (List UInt8), (∀ l ∈ ls, l.length ≤ N) → (joinL ls).length ≤ ls.length * (N + 1)
  | [], _ => by simp [joinL]
  | [a], h => by
    have := h a (by simp)
    simp [joinL]
    omega
  | a :: b :: t, h => by
    have h1 := h a (by simp)
    have ih := joinL_len N (b :: t) (fun l hl => h l (by simp [hl]))
    simp only [joinL, List.length_append, List.length_cons] at ih ⊢
    rw [Nat.succ_mul]
    omega
theorem joinL_lib : ∀ ls : List (List UInt8), Lib.join ls [32] = joinL ls
  | [] => rfl
  | [a] => by simp [Lib.join, joinL, List.intercalate]
  | a :: b :: t => by
    have ih := joinL_lib (b :: t)
    unfold Lib.join at ih ⊢
    rw [show joinL (a :: b :: t) = a ++ 32 :: joinL (b :: t) from rfl, ← ih]
    simp [List.intercalate]
theorem outs_cons_some (x : Tok) (t : List Tok) (a : List UInt8) (h : x.out = some a) : outs (x :: t) = (outs t).map (a :: ·) := by
  rw [outs, h]
  cases outs t <;> rfl
theorem outs_cons_none (x : Tok) (t : List Tok) (h : x.out = none) : outs (x :: t) = none := by
  rw [outs, h]
theorem drop_getD (xs : List Tok) (k : Nat) (h : k < xs.length) : xs.drop k = xs.getD k tok0 :: xs.drop (k + 1) := by
  rw [List.drop_eq_getElem_cons h, List.getD_eq_getElem?_getD, List.getElem?_eq_getElem h]
  rfl
theorem info_string : (Try.prog.info? 9).map (fun i => (i.zero, i.size, i.bytes)) = some (some (.string ⟨#[]⟩), 1, 16) := by kernel_rfl

/-- Of Print: the text, or the error. -/
def PrintRes (r : Option (List UInt8)) (e : Ending) : Prop := e = .returned (.tuple #[.string (tx (r.getD [])), .int .i64 (if r.isSome then 0 else 1)])

theorem map_back (acc : List (List UInt8)) : (acc.map tx).map (·.data.toList) = acc := by
  rw [List.map_map, show ((fun s : ByteArray => s.data.toList) ∘ tx) = id from rfl, List.map_id]
set_option maxRecDepth 100000 in
theorem join_acc (wr : World) (base : Nat) (v : Value) (acc : List (List UInt8)) (hR : Kd.R Kd.string 9 wr base (fun _ => True) v (acc.map tx)) (h2 : ∀ l ∈ acc, l.length ≤ 122) (hn : acc.length ≤ 1000000) :
    Calls Try.prog 47 #[v, .string ⟨#[32]⟩] wr fun e w' => e = .returned (.string (tx (joinL acc))) ∧ Below wr.heap.size wr w' := by
  have hm := map_back acc
  have hj : Lib.join ((acc.map tx).map (·.data.toList)) (⟨#[32]⟩ : ByteArray).data.toList = joinL acc := by rw [hm]; exact joinL_lib acc
  have hl := joinL_len 122 acc h2
  rcases Nat.eq_zero_or_pos acc.length with h0 | h0
  · obtain rfl := List.eq_nil_of_length_eq_zero h0
    obtain ⟨B, d, rfl⟩ := Kd.R_slice hR
    exact (Try.strings_Join_none B d ⟨#[32]⟩ wr).mono fun e w' ⟨h1, h2⟩ => ⟨h1, by rw [h2]; exact Below.refl _ _⟩
  · obtain ⟨A, d, rfl, hcap, hC⟩ := Kd.R_reads hR
    obtain ⟨g, cap, hv, hg1, hg2, cells, hg3⟩ := Kd.R_form hR (by rw [List.length_map]; exact h0)
    injection hv with hv1 hv2 hv3
    subst hv1 hv3
    refine (Try.strings_Join g 0 d (acc.map tx) ⟨#[32]⟩ wr ?_ hg2 (by rw [List.length_map]; omega) hcap (by rw [hj]; omega)).mono ?_
    · intro j x hjx
      have hjl : j < (acc.map tx).length := by
        rcases Nat.lt_or_ge j (acc.map tx).length with h | h
        · exact h
        · rw [List.getElem?_eq_none h] at hjx; cases hjx
      obtain ⟨ad, e1, e2⟩ := Kd.at_string hC (j : Int) (by omega) (by omega)
      cases e1
      rw [show rdOf ByteArray.empty (acc.map tx) (j : Int) = x from by unfold rdOf; rw [List.getD_eq_getElem?_getD, Int.toNat_natCast, hjx]; rfl] at e2
      rw [← e2]
      congr 1
      simp only [Addr.add, Int.toNat_natCast]
      split
      · rename_i h; subst h; rfl
      · simp
    · rintro e w' ⟨rfl, hb⟩
      refine ⟨?_, hb⟩
      rw [hj]
      rfl

set_option maxRecDepth 100000 in
set_option maxHeartbeats 4000000 in
theorem tok_Print (w : World) (A : Option Addr) (c : Nat) (xs : List Tok) (hx : kTok.C w A xs.length xs) (hn : xs.length ≤ 1000000) (hsz : ∀ x ∈ xs, x.text.size ≤ 1000000000) (r : Option (List UInt8)) (hr : printO xs = r) :
    Calls Try.prog 20 #[.slice A xs.length c] w fun e w' => PrintRes r e ∧ Below w.heap.size w w' := by
  have HR := Hid.mk' hr
  clear hr
  go_enter Try.func20, Try.ntmps20
  go_wp2
  go_loopw [4, 11] (fun v i wr => ∃ (k : Nat) (acc : List (List UInt8)), i = .int .i64 k ∧ k ≤ xs.length ∧ acc.length = k ∧ Kd.R Kd.string 9 wr w.heap.size (fun _ => True) v (acc.map tx) ∧ Below w.heap.size w wr ∧ w.heap.size ≤ wr.heap.size ∧ Hid ((outs (xs.drop k)).map (fun l => joinL (acc ++ l)) = r ∧ ∀ l ∈ acc, l.length ≤ 122)) (fun _ i _ => xs.length - (intOf i).toNat)
  case atStart => exact ⟨0, [], rfl, by omega, rfl, Kd.R_nil _ _ _ _ _, Below.refl _ _, Nat.le_refl _, by rw [← HR.out, List.drop_zero]; unfold printO; congr 1, by simp⟩
  case round =>
    obtain ⟨k, acc, rfl, hk, hak, hR, hbl, hws, hinv⟩ := hrel
    obtain ⟨B, d, rfl⟩ := Kd.R_slice hR
    by_cases hlt : k < xs.length
    · obtain ⟨x, hxk⟩ : ∃ x, xs.getD k tok0 = x := ⟨_, rfl⟩
      have hdr := drop_getD xs k hlt
      rw [hxk] at hdr
      have hxs : x.text.size ≤ 1000000000 := hsz x (by rw [← hxk, List.getD_eq_getElem?_getD, List.getElem?_eq_getElem hlt]; exact List.getElem_mem hlt)
      obtain ⟨a, hA, x0, x1, x2, x3⟩ := kTok_at (Kd.C_below hx hbl) k hlt
      rw [hxk] at x0 x1 x2 x3
      subst hA
      have HX := Hid.mk' hdr
      clear hxk hdr
      have hlti : (k : Int) < xs.length := by omega
      have hln : (acc.map tx).length = k := by rw [List.length_map]; exact hak
      rw [hln] at hR ⊢
      have HA := Hid.mk' hak
      clear hak
      cases ho : x.out
      · have HO : Hid (textO x.kind x.text.data.toList = none) := ho
        clear ho
        go_wp2_with (go_at_call 46; refine (tok_text_not x.kind x.text x.at_ x.end_ _ hxs HO.out).mono ?_; rintro e w1 ⟨⟨s, rfl⟩, hb1⟩)
        go_ret2
        have : r = none := by rw [← hinv.out.1, HX.out, outs_cons_none _ _ HO.out]; rfl
        subst this
        exact ⟨rfl, (hbl.alloc hws _).trans (hb1.mono (by simp; omega))⟩
      · rename_i o
        have HO : Hid (textO x.kind x.text.data.toList = some o) := ho
        clear ho
        have hl6 : ((acc.map tx).length + 1) * 16 ≤ 140737488355328 := by rw [hln]; omega
        go_wp2_with (first
          | (go_at_call 46; refine (tok_text_is x.kind x.text x.at_ x.end_ o _ hxs HO.out).mono ?_; rintro e w1 ⟨rfl, hb1⟩)
          | (at_builtin; refine Kd.R_append Kd.string (w0 := w) w.heap.size rfl _ _ 51 9 (.string ⟨#[]⟩) 16 rfl Try.underlying51 info_string rfl (by decide) (by omega) (.slice B k d) (acc.map tx) (tx o) [.string (tx o)] (fun _ => True) (fun _ => False) rfl ?aX ?aP (fun _ hk => hk.elim) ?aF ?aO ?aB ?aS hl6 ?_))
        case aX => simp [Act.eval]
        case aP => exact rfl
        case aF => exact fun _ _ => trivial
        case aO => exact Kd.R_below hR (((Below.refl _ _).alloc (Nat.le_refl _) _).trans (hb1.mono (by simp)))
        case aB => exact (hbl.alloc hws _).trans (hb1.mono (by simp; omega))
        case aS => have := hb1.size; simp at this; omega
        intro v2 w2 hR2 hb2 hg hat
        go_wp2
        go_roundw
        case rel => exact ⟨k + 1, acc ++ [o], by go_num, by omega, by rw [List.length_append, HA.out]; rfl, by rw [List.map_append]; exact hR2, hb2, hb2.size, by
          rw [← hinv.out.1, HX.out, outs_cons_some _ _ _ HO.out, Option.map_map]
          congr 1
          funext l
          simp, fun l hl => by
            rcases List.mem_append.1 hl with h | h
            · exact hinv.out.2 l h
            · rw [List.mem_singleton.1 h]
              exact textO_len _ _ _ HO.out⟩
        case measure => simp [intOf]; omega
    · have HF : Hid (r = some (joinL acc)) := by show r = _; rw [← hinv.out.1, List.drop_eq_nil_of_le (by omega)]; simp [outs]
      have hln : (acc.map tx).length = k := by rw [List.length_map]; exact hak
      have hJ : Hid (Calls Try.prog 47 #[.slice B k d, .string ⟨#[32]⟩] wr fun e w' => e = .returned (.string (tx (joinL acc))) ∧ Below wr.heap.size wr w') := by
        rw [hln] at hR
        exact join_acc wr w.heap.size _ acc hR hinv.out.2 (by omega)
      clear hinv HR hR hak
      obtain ⟨o, ho⟩ : ∃ o, tx (joinL acc) = o := ⟨_, rfl⟩
      rw [ho] at hJ
      have HO := Hid.mk' ho
      clear ho
      rw [hln]
      go_wp2_with (go_at_call 47; refine hJ.out.mono ?_; rintro e w' ⟨rfl, hb1⟩)
      go_ret2
      refine ⟨?_, hbl.trans (hb1.mono hws)⟩
      rw [HF.out]
      unfold PrintRes
      rw [show (some (joinL acc)).getD [] = joinL acc from rfl, HO.out]
      rfl
end Go.Proofs.Ytlnoadnejefmoaa
