/- Sets of numbers as maps; Possible and features of the program's fingerprint. Strings of at most 1000000000 bytes, at most 1000000000 features. -/
import Derived.Test.YtlnoadnejefmoaaTkProg
import Derived.Maps.RangeWalk
import Derived.Maps.Views
import Derived.Maps.OwnOps
import Derived.Test.YtlnoadnejefmoaaL20x0
import Derived.Test.YtlnoadnejefmoaaFpA
import Derived.Test.YtlnoadnejefmoaaShelfSort
import Derived.Deep.RegionWith
import Derived.Deep.RegionHeld3
import Derived.Deep.QuietTactic
import Derived.BigQuiet
import Derived.Sort.OwnSortedInts
import Derived.Laws.EntriesVeiled
set_option linter.unusedVariables false
set_option linter.unusedSimpArgs false
namespace Go.Proofs.Ytlnoadnejefmoaa
open Go.RowKit Go.Maps
def T1 : DataW Unit := .lit (.bool true)
def litI (x : Int) : Lit := .int .i64 x
def wfI (x : Int) : Prop := (Lit.int .i64 x).wf = true
theorem wfI_iff (x : Int) : wfI x ↔ -9223372036854775808 ≤ x ∧ x ≤ 9223372036854775807 := by
  unfold wfI
  rw [show ((Lit.int .i64 x).wf = true) = ((decide (IntKind.i64.min ≤ x) && decide (x ≤ IntKind.i64.max)) = true) from rfl]
  simp [IntKind.min, IntKind.max, IntKind.bits, IntKind.signed]
theorem keyI (x : Int) : WideAt.IsKeyLit (litI x) := by unfold litI; trivial
theorem sameI (x y : Int) : (litI x).sameKey (litI y) = decide (x = y) := by
  by_cases h : x = y
  · subst h; rw [WideAt.sameKey_self (keyI x), decide_eq_true rfl]
  · rw [decide_eq_false h, sameKey_ne (fun e => h (by injection e))]
def setD (l : List Int) : DataW Unit := setOf T1 (l.map litI)
theorem has_setD (l : List Int) (x : Int) : has (setD l) (litI x) = decide (x ∈ l) := by
  unfold setD
  rw [has_setOf _ _ _ (fun y hy => by obtain ⟨z, _, rfl⟩ := List.mem_map.1 hy; exact keyI z)]
  rw [Bool.eq_iff_iff, decide_eq_true_eq, List.any_map, List.any_eq_true]
  constructor
  · rintro ⟨y, hy, h⟩
    simp only [Function.comp, sameI, decide_eq_true_eq] at h
    exact h ▸ hy
  · intro h
    exact ⟨x, h, by simp [sameI]⟩
theorem at_fold (k : Lit) (z : DataW Unit) (hk : WideAt.IsKeyLit k) : ∀ (acc : List Lit) (m : DataW Unit), IsMap m → (∀ x ∈ acc, WideAt.IsKeyLit x) → (acc.foldl (fun m x => m.put x T1) m).atKey k z = if acc.any (fun x => x.sameKey k) then T1 else m.atKey k z
  | [], m, _, _ => rfl
  | x :: r, m, hm, h => by
    rw [List.foldl_cons, at_fold k z hk r (m.put x T1) (hm.put x T1) (fun y hy => h y (by simp [hy])), List.any_cons]
    by_cases e : k = x
    · subst e
      rw [WideAt.sameKey_self hk, Bool.true_or, if_pos rfl, atKey_put_same hm hk]
      split <;> rfl
    · rw [sameKey_ne (fun e' => e e'.symm), Bool.false_or, atKey_put_other e]
theorem at_setD (l : List Int) (x : Int) : (setD l).atKey (litI x) (.lit (.bool false)) = .lit (.bool (decide (x ∈ l))) := by
  have h := at_fold (litI x) (.lit (.bool false)) (keyI x) (l.map litI) (.map []) isMap_empty (fun y hy => by obtain ⟨z, _, rfl⟩ := List.mem_map.1 hy; exact keyI z)
  refine (show (setD l).atKey _ _ = _ from h).trans ?_
  have h2 := has_setD l x
  unfold setD at h2
  rw [has_setOf _ _ _ (fun y hy => by obtain ⟨z, _, rfl⟩ := List.mem_map.1 hy; exact keyI z)] at h2
  rw [h2]
  by_cases hx : x ∈ l
  · rw [decide_eq_true hx]; rfl
  · rw [decide_eq_false hx]; rfl
theorem setD_snoc (l : List Int) (x : Int) : setD (l ++ [x]) = (setD l).put (litI x) T1 := by
  unfold setD
  rw [List.map_append]
  exact setOf_snoc _ _ _
/-- Block b is the set of the numbers of l. -/
def IntSet (w : World) (b : Nat) (l : List Int) : Prop := w.ownsMap Try.prog 3 (plainElem Try.prog 4) b l.length (setD l)
theorem IntSet.made (w : World) : IntSet (w.alloc (.map #[] 0)) w.heap.size [] := World.ownsMap_made _ _ _ _
theorem IntSet.lt {w : World} {b : Nat} {l : List Int} (h : IntSet w b l) : b < w.heap.size := World.ownsMap.lt h
theorem IntSet.below {w w' : World} {b B : Nat} {l : List Int} (h : IntSet w b l) (hb : Below B w w') (hB : b < B) : IntSet w' b l := by
  obtain ⟨es, clock, h1, F, hs, hD⟩ := h
  exact ⟨es, clock, (hb.block b hB).trans h1, F, hs, hD⟩
theorem IntSet.grown {w w' : World} {b : Nat} {l : List Int} (h : IntSet w b l) {row : Option Nat} (hg : w.grownBy w' row) (hne : some b ≠ row) : IntSet w' b l := World.ownsMap.kept h hg hne
theorem IntSet.alloc {w : World} {b : Nat} {l : List Int} (h : IntSet w b l) (o : Obj) : IntSet (w.alloc o) b l := World.ownsMap.alloc h o
theorem IntSet.drewN {w : World} {b : Nat} {l : List Int} (h : IntSet w b l) (n : Nat) : IntSet (w.drewN n) b l := h
theorem lawI : Keyed Try.prog 3 := int_keyed Try.underlying3
theorem plainElem_bool_inv {P : Program} {e : TypeId} (he : P.underlying e = some .bool) {v : Value} {z : DataW Unit × List MemPlace} (h : plainElem P e v = some z) : ∃ b, v = .bool b ∧ z = (.lit (.bool b), []) := by
  unfold plainElem at h
  rw [he] at h
  cases v <;> simp at h
  exact ⟨_, rfl, h.symm⟩
theorem IntSet.update {w : World} {b : Nat} {l : List Int} (h : IntSet w b l) (hn : l.length < maxLen) (y : Int) (hw : wfI y) :
    ∃ w', (Instr.mapUpdate 68 (.map (some b)) (.int .i64 y) (.bool true)).run Try.prog w = .ok () w' ∧ IntSet w' b (l ++ [y]) ∧ w.grownBy w' (some b) := by
  obtain ⟨w', h1, h2, h3⟩ := World.ownsMap.update h lawI Try.underlying68 hn (keyOf_int_mk Try.underlying3 hw) (plainElem_bool (H := Unit) Try.underlying4 true)
  exact ⟨w', h1, by unfold IntSet; rw [List.length_append, setD_snoc]; exact h2, h3⟩
section
variable {ops : Array Oper} {rest : List Oper} {o : Oper} {a : Act} {Q : Exit → Act → World → Prop}
theorem wpList_insert_int (w : World) (hg : o.guard = none) (m x v : Operand) (t : TypeId) (hop : o.op = Op.mapUpdate t m x v) (ht : Try.prog.underlying t = some (.map 3 4)) (b : Nat) (l : List Int)
    (hm : a.eval m = .map (some b)) (hown : IntSet w b l) (hn : l.length < maxLen) (y : Int) (hx : a.eval x = .int .i64 y) (hw : wfI y) (hv : a.eval v = .bool true)
    (hK : ∀ w', IntSet w' b (l ++ [y]) → w.grownBy w' (some b) → wpList Try.prog ops Q rest (a.put o.dst undef) w') :
    wpList Try.prog ops Q (o :: rest) a w :=
  wpList_mapUpdate_own w hg m x v t hop 3 4 lawI ht (plainElem Try.prog 4) b l.length (setD l) hm hown hn _ _ (litI y) hx hv (keyOf_int_mk Try.underlying3 hw) T1 [] (plainElem_bool Try.underlying4 true)
    (fun w' h1 h2 => hK w' (by unfold IntSet; rw [List.length_append, setD_snoc]; exact h1) h2)
theorem wpList_lookup_int (w : World) (hg : o.guard = none) (m x : Operand) (t : TypeId) (hop : o.op = Op.lookup t m x false) (ht : Try.prog.underlying t = some (.map 3 4)) (b : Nat) (l : List Int)
    (hm : a.eval m = .map (some b)) (hown : IntSet w b l) (y : Int) (hx : a.eval x = .int .i64 y) (hw : wfI y)
    (hK : wpList Try.prog ops Q rest (a.put o.dst (.bool (decide (y ∈ l)))) w) :
    wpList Try.prog ops Q (o :: rest) a w := by
  refine wpList_plain hg fun K' hK' => ?_
  have hz : (zeroValue 4).run Try.prog w = .ok (.bool false) w := by kernel_rfl
  obtain ⟨v, ps, hrun, hv⟩ := World.ownsMap.lookup hown lawI ht hz (plainElem_bool Try.underlying4 false) (keyOf_int_mk Try.underlying3 hw)
  obtain ⟨c, rfl, hc⟩ := plainElem_bool_inv Try.underlying4 hv
  have := (Prod.mk.inj hc).1
  rw [show (Lit.int .i64 y) = litI y from rfl, at_setD] at this
  injection this with this
  injection this with this
  subst this
  unfold Oper.wp
  simp [execOp, hop, hm, hx, hrun, Result.andThen]
  exact hK' _ _ hK
end
end Go.Proofs.Ytlnoadnejefmoaa
set_option linter.unusedVariables false
set_option linter.unusedSimpArgs false
namespace Go.Proofs.Ytlnoadnejefmoaa
open Go.RowKit Go.Maps Go.Proofs.YtlnoadnejefmoaaW.PrintWords
theorem ints_at {w : World} {A : Option Addr} {n : Nat} {l : List Int} (h : (Kd.int .i64).C w A n l) (k : Nat) (hk : k < l.length) : ∃ ad, A = some ad ∧ w.cell? (ad.add k) = some (.int .i64 (l.getD k 0)) := by
  have hn : l.length = n := h.1
  obtain ⟨ad, e1, e2⟩ := Kd.at_int h (k : Int) (by omega) (by omega)
  refine ⟨ad, e1, ?_⟩
  rw [Int.toNat_natCast] at e2
  rw [e2]
  congr 2
theorem take_getD (l : List Int) (k : Nat) (h : k < l.length) : l.take (k + 1) = l.take k ++ [l.getD k 0] := by
  rw [List.take_succ_eq_append_getElem h, List.getD_eq_getElem?_getD, List.getElem?_eq_getElem h]
  rfl
theorem getD_mem (l : List Int) (k : Nat) (h : k < l.length) : l.getD k 0 ∈ l := by
  rw [List.getD_eq_getElem?_getD, List.getElem?_eq_getElem h]
  exact List.getElem_mem h
def subB (need hav : List Int) : Bool := need.all fun x => decide (x ∈ hav)
theorem subB_no (need hav : List Int) (k : Nat) (hk : k < need.length) (h : decide (need.getD k 0 ∈ hav) = false) : subB need hav = false := by
  unfold subB
  rw [List.all_eq_false]
  exact ⟨_, getD_mem need k hk, by rw [h]; simp⟩
theorem subB_yes (need hav : List Int) (h : ∀ j, j < need.length → need.getD j 0 ∈ hav) : subB need hav = true := by
  unfold subB
  rw [List.all_eq_true]
  intro x hx
  obtain ⟨j, hj, rfl⟩ := List.getElem_of_mem hx
  have := h j hj
  rw [List.getD_eq_getElem?_getD, List.getElem?_eq_getElem hj] at this
  exact decide_eq_true this
set_option maxHeartbeats 2000000 in
set_option maxRecDepth 100000 in
theorem fp_possible (A B : Option Addr) (c d : Nat) (need hav : List Int) (w : World) (hN : (Kd.int .i64).C w A need.length need) (hH : (Kd.int .i64).C w B hav.length hav) (wN : ∀ x ∈ need, wfI x) (wH : ∀ x ∈ hav, wfI x) (hl : hav.length ≤ 1000000000) :
    Calls Try.prog 38 #[.slice A need.length c, .slice B hav.length d] w fun e w' => e = .returned (.bool (subB need hav)) ∧ Below w.heap.size w w' := by
  have hm1 := Kd.C_max hN
  have hmm := @run_makeMap Try.prog
  obtain ⟨r, hr⟩ : ∃ r, subB need hav = r := ⟨_, rfl⟩
  rw [hr]
  have HR := Hid.mk' hr
  clear hr
  go_enter Try.func38, Try.ntmps38
  go_wp2
  go_loopw [13] (fun i wr => ∃ k : Nat, i = .int .i64 k ∧ k ≤ hav.length ∧ Below w.heap.size w wr ∧ IntSet wr w.heap.size (hav.take k)) (fun i _ => hav.length - (intOf i).toNat)
  case atStart => exact ⟨0, rfl, by omega, (Below.refl _ _).alloc (Nat.le_refl _) _, by rw [List.take_zero]; exact IntSet.made w⟩
  case round =>
    obtain ⟨k, rfl, hk, hbl, hS⟩ := hrel
    by_cases hlt : k < hav.length
    · have hlti : (k : Int) < hav.length := by omega
      obtain ⟨ad, rfl, hc⟩ := ints_at (Kd.C_below hH hbl) k hlt
      have htk := take_getD hav k hlt
      obtain ⟨x, hx⟩ : ∃ x, hav.getD k 0 = x := ⟨_, rfl⟩
      have hw : wfI x := wH x (by rw [← hx]; exact getD_mem hav k hlt)
      rw [hx] at hc htk
      have HT := Hid.mk' htk
      have hlen : (hav.take k).length < maxLen := by rw [List.length_take]; unfold maxLen; omega
      clear hx htk
      go_wp2_with (refine wpList_insert_int _ rfl _ _ _ 68 rfl Try.underlying68 w.heap.size (hav.take k) rfl hS hlen x rfl hw rfl ?_; intro w1 hS1 hg1)
      go_roundw
      case rel => exact ⟨k + 1, by go_num, by omega, hbl.grown hg1 (by have := hS.lt; omega) (fun j hj => by cases hj; exact Nat.le_refl _), by rw [HT.out]; exact hS1⟩
      case measure => simp [intOf]; omega
    · rw [List.take_of_length_le (by omega)] at hS
      go_wp2
      go_loopw [22] (fun i wr2 => ∃ j : Nat, i = .int .i64 j ∧ j ≤ need.length ∧ wr = wr2 ∧ Hid (∀ q, q < j → need.getD q 0 ∈ hav)) (fun i _ => need.length - (intOf i).toNat)
      case atStart => exact ⟨0, rfl, by omega, rfl, fun q hq => absurd hq (by omega)⟩
      case round =>
        obtain ⟨j, rfl, hj, rfl, hinv⟩ := hrel
        by_cases hjt : j < need.length
        · have hjti : (j : Int) < need.length := by omega
          obtain ⟨ad, rfl, hc⟩ := ints_at (Kd.C_below hN hbl) j hjt
          obtain ⟨x, hx⟩ : ∃ x, need.getD j 0 = x := ⟨_, rfl⟩
          have hw : wfI x := wN x (by rw [← hx]; exact getD_mem need j hjt)
          rw [hx] at hc
          have HX := Hid.mk' hx
          clear hx
          cases hin : decide (x ∈ hav) with
          | true =>
            have HI : Hid (x ∈ hav) := (show x ∈ hav from of_decide_eq_true hin)
            go_wp2_with (at_lookup; refine wpList_lookup_int _ rfl _ _ 68 rfl Try.underlying68 w.heap.size hav rfl hS x rfl hw ?_)
            go_roundw
            case rel => exact ⟨j + 1, by go_num, by omega, by first | rfl | trivial, fun q hq => by
              rcases Nat.lt_or_ge q j with h | h
              · exact hinv.out q h
              · obtain rfl : q = j := by omega
                rw [HX.out]
                exact HI.out⟩
            case measure => simp [intOf]; omega
          | false =>
            have hno : subB need hav = false := subB_no need hav j hjt (by rw [HX.out]; exact hin)
            have HNO := Hid.mk' hno
            clear hno
            go_wp2_with (at_lookup; refine wpList_lookup_int _ rfl _ _ 68 rfl Try.underlying68 w.heap.size hav rfl hS x rfl hw ?_)
            go_ret
            exact ⟨ret_boolE (by rw [← HR.out, HNO.out]), hbl⟩
        · go_wp2
          go_ret
          exact ⟨ret_boolE (by rw [← HR.out, subB_yes need hav (fun q hq => hinv.out q (by omega))]), hbl⟩
end Go.Proofs.Ytlnoadnejefmoaa
set_option linter.unusedVariables false
set_option linter.unusedSimpArgs false
namespace Go.Proofs.Ytlnoadnejefmoaa.L20
open Go.RowKit Go.Maps Go.Proofs.YtlnoadnejefmoaaW.PrintWords
def isM (n : S42) : Bool := n.f0 == 25 || n.f0 == 26
def ownF (skip : Bool) (n : S42) : List Int := if skip && isM n then [] else [nodeF n.f0 n.f1]
def kidF (skip : Bool) (n c : S42) : List Int := if (skip && isM n) || (skip && isM c) then [] else [pairF n.f0 n.f1 c.f0 c.f1]
/-- The features of a tree, in the order in which they are met. -/
def featL : Nat → Bool → S42 → Option (List Int)
  | 0, _, _ => none
  | k + 1, skip, n => if n.f1.size ≤ 1000000000 ∧ n.f4.length ≤ maxLen then (n.f4.mapM fun c => (featL k skip c).map (kidF skip n c ++ ·)).map fun ls => ownF skip n ++ ls.flatten else none
theorem featL_size {k : Nat} {skip : Bool} {n : S42} {l : List Int} (h : featL k skip n = some l) : n.f1.size ≤ 1000000000 := by
  cases k with
  | zero => cases h
  | succ k =>
    unfold featL at h
    split at h
    · rename_i h1; exact h1.1
    · cases h
theorem flat_take (ls : List (List Int)) (j : Nat) (y : List Int) (h : ls[j]? = some y) : (ls.take (j + 1)).flatten = (ls.take j).flatten ++ y := by
  obtain ⟨hj, rfl⟩ := List.getElem?_eq_some_iff.1 h
  rw [List.take_succ_eq_append_getElem hj, List.flatten_append]
  simp
theorem flat_len (ls : List (List Int)) (j : Nat) (y : List Int) (h : ls[j]? = some y) : (ls.take j).flatten.length + y.length ≤ ls.flatten.length := by
  have h1 := congrArg List.length (flat_take ls j y h)
  have h2 : ls.flatten = (ls.take (j + 1)).flatten ++ (ls.drop (j + 1)).flatten := by rw [← List.flatten_append, List.take_append_drop]
  rw [h2, List.length_append, h1, List.length_append]
  omega
theorem set_of_cell {w : World} {g : Nat} {cs : Array Value} {t : TypeId} (h : w.heap[g]? = some (.cells cs t (0, 0))) (i : Nat) (v : Value) (hv : cs[i]? = some v) : w.cell? ⟨g, i, none⟩ = some v := (blk_cell h i).trans hv
set_option maxHeartbeats 1000000 in
theorem fp_meta (n : S42) (A : Option Addr) (c : Nat) (w : World) (r : Bool) (hr : isM n = r) :
    Calls Try.prog 78 #[.agg #[.int .i64 n.f0, .string n.f1, .int .i64 n.f2, .int .i64 n.f3, .slice A n.f4.length c]] w fun e w' => e = .returned (.bool r) ∧ Below w.heap.size w w' := by
  unfold isM at hr
  cases h1 : (n.f0 == 25) with
  | true =>
    rw [h1, Bool.true_or] at hr
    subst hr
    go_enter Try.func78, Try.ntmps78
    go_wp2
    go_ret
    exact ⟨rfl, (Below.refl _ _).alloc (Nat.le_refl _) _⟩
  | false =>
    rw [h1, Bool.false_or] at hr
    cases h2 : (n.f0 == 26) with
    | true =>
      rw [h2] at hr
      subst hr
      go_enter Try.func78, Try.ntmps78
      go_wp2
      go_ret
      exact ⟨rfl, (Below.refl _ _).alloc (Nat.le_refl _) _⟩
    | false =>
      rw [h2] at hr
      subst hr
      go_enter Try.func78, Try.ntmps78
      go_wp2
      go_ret
      exact ⟨rfl, (Below.refl _ _).alloc (Nat.le_refl _) _⟩
theorem nodeF_wf (a : Int) (s : ByteArray) : wfI (nodeF a s) := by
  have := crcI_range _ (nodeB_ok a s)
  rw [wfI_iff]
  unfold nodeF
  omega
theorem pairF_wf (a : Int) (s : ByteArray) (b : Int) (t : ByteArray) : wfI (pairF a s b t) := by
  have := crcI_range _ (pairB_ok a s b t)
  rw [wfI_iff]
  unfold pairF
  omega
def Cell1 (w : World) (b : Nat) (v : Value) (t : TypeId) : Prop := w.heap[b]? = some (.cells #[v] t (0, 0))
theorem Cell1.at {w : World} {b : Nat} {v : Value} {t : TypeId} (h : Cell1 w b v t) : w.cell? ⟨b, 0, none⟩ = some v := blk_cell h 0
theorem Cell1.keep {w w' : World} {b : Nat} {v : Value} {t : TypeId} {row : Option Nat} (h : Cell1 w b v t) (hg : w.grownBy w' row) (hn : some b ≠ row) : Cell1 w' b v t := blk_grown h hg hn
def VEnv (n : S42) (A : Option Addr) (c bs bf bm bv : Nat) (skip : Bool) (w wc : World) : Prop :=
  wc.heap[w.heap.size]? = some (.cells #[.int .i64 n.f0, .string n.f1, .int .i64 n.f2, .int .i64 n.f3, .slice A n.f4.length c] 42 (0, 0)) ∧ Cell1 wc bs (.bool skip) 4 ∧ Cell1 wc bf (.map (some bm)) 68 ∧
  Cell1 wc bv (.func (Fn.func 77) #[] #[.pointer (some ⟨bs, 0, none⟩), .pointer (some ⟨bf, 0, none⟩), .pointer (some ⟨bv, 0, none⟩)]) 87 ∧ w.grownBy wc (some bm)
theorem grown_trans {a b c : World} {row : Option Nat} (h : a.grownBy b row) (k : b.grownBy c row) : a.grownBy c row :=
  ⟨k.os.trans h.os, k.tape.trans h.tape, k.output.trans h.output, Nat.le_trans h.size k.size, fun i hi hn => (k.block i (Nat.lt_of_lt_of_le hi h.size) hn).trans (h.block i hi hn)⟩
theorem VEnv.step {n : S42} {A : Option Addr} {c bs bf bm bv : Nat} {skip : Bool} {w wc w' : World} (h : VEnv n A c bs bf bm bv skip w wc) (h1 : bs ≠ bm) (h2 : bf ≠ bm) (h3 : bv ≠ bm) (h4 : w.heap.size ≠ bm) (hg : wc.grownBy w' (some bm)) : VEnv n A c bs bf bm bv skip w w' :=
  ⟨blk_grown h.1 hg (by simpa using h4), h.2.1.keep hg (by simpa using h1), h.2.2.1.keep hg (by simpa using h2), h.2.2.2.1.keep hg (by simpa using h3), grown_trans h.2.2.2.2 hg⟩
theorem mapM_at {α β : Type} {f : α → Option β} {l : List α} {r : List β} (h : l.mapM f = some r) (i : Nat) (hi : i < l.length) : ∃ y, r[i]? = some y ∧ f l[i] = some y := by
  have h1 := mapM_some_length h
  have h2 := mapM_some_get h i _ (List.getElem?_eq_getElem hi)
  rw [List.getElem?_eq_getElem (by omega)] at h2
  exact ⟨_, List.getElem?_eq_getElem (by omega), h2⟩
theorem VEnv.drew {n : S42} {A : Option Addr} {c bs bf bm bv : Nat} {skip : Bool} {w wc : World} (h : VEnv n A c bs bf bm bv skip w wc) : VEnv n A c bs bf bm bv skip w wc.drew :=
  ⟨h.1, h.2.1, h.2.2.1, h.2.2.2.1, ⟨h.2.2.2.2.os, h.2.2.2.2.tape, h.2.2.2.2.output, h.2.2.2.2.size, h.2.2.2.2.block⟩⟩
/-- What a call of the closure does, k levels deep. -/
def VisitAt (w0 : World) (bs bf bm bv : Nat) (skip : Bool) (k : Nat) : Prop := ∀ (n : S42) (A : Option Addr) (c : Nat) (acc l : List Int) (w : World), featL k skip n = some l → k42.C w0 A n.f4.length n.f4 →
    Below w0.heap.size w0 w → Cell1 w bs (.bool skip) 4 → Cell1 w bf (.map (some bm)) 68 → Cell1 w bv (.func (Fn.func 77) #[] #[.pointer (some ⟨bs, 0, none⟩), .pointer (some ⟨bf, 0, none⟩), .pointer (some ⟨bv, 0, none⟩)]) 87 →
    IntSet w bm acc → acc.length + l.length ≤ 1000000000 →
    Calls Try.prog 77 #[.agg #[.int .i64 n.f0, .string n.f1, .int .i64 n.f2, .int .i64 n.f3, .slice A n.f4.length c], .pointer (some ⟨bs, 0, none⟩), .pointer (some ⟨bf, 0, none⟩), .pointer (some ⟨bv, 0, none⟩)] w fun e w' => e = .returned (.tuple #[]) ∧ IntSet w' bm (acc ++ l) ∧ w.grownBy w' (some bm)
set_option maxHeartbeats 4000000 in
set_option maxRecDepth 100000 in
theorem fp_visit_1 (w0 : World) (bs bf bm bv : Nat) (hbm : w0.heap.size ≤ bm) (h1 : bs ≠ bm) (h2 : bf ≠ bm) (h3 : bv ≠ bm) (k : Nat) (ih : VisitAt w0 bs bf bm bv false k)
    (n : S42) (A : Option Addr) (c : Nat) (acc : List Int) (ls : List (List Int)) (w : World) (hsz : n.f1.size ≤ 1000000000) (hkl : n.f4.length ≤ maxLen) (HLS : Hid (n.f4.mapM (fun c => (featL k false c).map (kidF false n c ++ ·)) = some ls)) (hC : k42.C w0 A n.f4.length n.f4)
    (hb0 : Below w0.heap.size w0 w) (c1 : Cell1 w bs (.bool false) 4) (c2 : Cell1 w bf (.map (some bm)) 68) (c3 : Cell1 w bv (.func (Fn.func 77) #[] #[.pointer (some ⟨bs, 0, none⟩), .pointer (some ⟨bf, 0, none⟩), .pointer (some ⟨bv, 0, none⟩)]) 87)
    (hS : IntSet w bm acc) (hn : acc.length + (ownF false n ++ ls.flatten).length ≤ 1000000000) :
    Calls Try.prog 77 #[.agg #[.int .i64 n.f0, .string n.f1, .int .i64 n.f2, .int .i64 n.f3, .slice A n.f4.length c], .pointer (some ⟨bs, 0, none⟩), .pointer (some ⟨bf, 0, none⟩), .pointer (some ⟨bv, 0, none⟩)] w fun e w' => e = .returned (.tuple #[]) ∧ IntSet w' bm (acc ++ (ownF false n ++ ls.flatten)) ∧ w.grownBy w' (some bm) := by
  have hlt := hS.lt
  have hacc : acc.length < maxLen := by unfold maxLen; omega
  unfold maxLen at hkl
  have hne : w.heap.size ≠ bm := by omega
  obtain ⟨W1, hW1⟩ : ∃ W, w.alloc (.cells #[.int .i64 n.f0, .string n.f1, .int .i64 n.f2, .int .i64 n.f3, .slice A n.f4.length c] 42) = W := ⟨_, rfl⟩
  have g1 : w.grownBy W1 (some bm) := by rw [← hW1]; exact World.grownBy_alloc w _ _
  have b4 : W1.heap[w.heap.size]? = some (.cells #[.int .i64 n.f0, .string n.f1, .int .i64 n.f2, .int .i64 n.f3, .slice A n.f4.length c] 42 (0, 0)) := by rw [← hW1]; exact Go.heap_alloc_new _ _
  have hS1 : IntSet W1 bm acc := by rw [← hW1]; exact hS.alloc _
  have E0 : VEnv n A c bs bf bm bv false w W1 := ⟨b4, c1.keep g1 (by simpa using h1), c2.keep g1 (by simpa using h2), c3.keep g1 (by simpa using h3), g1⟩
  have k1 := E0.2.1.at
  have r0 := blk_cell b4 0
  have r1 := blk_cell b4 1
  have r2 := blk_cell b4 2
  have r3 := blk_cell b4 3
  have r4 := blk_cell b4 4
  go_enter Try.func77, Try.ntmps77
  go_upto_if 14 with (fail)
  have E1 := E0
  have hS2x := hS1
  go_cut [15] (fun v15 wc => VEnv n A c bs bf bm bv false w wc ∧ IntSet wc bm (acc ++ ownF false n))
  case first =>
    have k2 := E1.2.2.1.at
    have q0 := blk_cell E1.1 0
    have q1 := blk_cell E1.1 1
    have hSd : IntSet W1.drew bm acc := hS2x
    have Ed : VEnv n A c bs bf bm bv false w W1.drew := E1.drew
    go_wp2_with (fail)
    go_region_held3 (fun w' => w'.cell? ⟨bf, 0, none⟩ = some (.map (some bm)) ∧ w'.cell? ⟨w.heap.size, 0, none⟩ = some (.int .i64 n.f0) ∧ w'.cell? ⟨w.heap.size, 1, none⟩ = some (.string n.f1))
      (first
        | exact ⟨k2, q0, q1⟩
        | exact ⟨E3e.2.2.1.at, blk_cell E3e.1 0, blk_cell E3e.1 1⟩
        | exact ⟨E4e.2.2.1.at, blk_cell E4e.1 0, blk_cell E4e.1 1⟩
        | go_keep)
      ((go_at_call 28; refine (fp_node n.f0 n.f1 _ hsz).mono ?_; rintro e w3 ⟨rfl, hb3⟩; have hS2 := hSd.below hb3 hSd.lt; obtain ⟨w4, hrun, hS4, hg4⟩ := hS2.update hacc (nodeF n.f0 n.f1) (nodeF_wf _ _); have E3e := Ed.step h1 h2 h3 hne (grown_of_below hb3 (some bm)); have E4e := E3e.step h1 h2 h3 hne hg4))
    go_wp2_with (fail)
    go_meet
    case rel => exact ⟨E4e, by rw [show ownF false n = [nodeF n.f0 n.f1] from by unfold ownF; simp]; exact hS4⟩
  case rest =>
    obtain ⟨E2, hSc⟩ := hcut
    have q4 := blk_cell E2.1 4
    go_wp2_with (fail)
    go_loopw [24] (fun i wr => ∃ j : Nat, i = .int .i64 j ∧ j ≤ n.f4.length ∧ VEnv n A c bs bf bm bv false w wr ∧ IntSet wr bm (acc ++ ownF false n ++ (ls.take j).flatten)) (fun i _ => n.f4.length - (intOf i).toNat)
    case atStart => exact ⟨0, rfl, by omega, E2, by rw [List.take_zero, List.flatten_nil, List.append_nil]; exact hSc⟩
    case round =>
      obtain ⟨j, rfl, hj, E3, hS3⟩ := hrel
      by_cases hlt : j < n.f4.length
      · have hlti : (j : Int) < n.f4.length := by omega
        obtain ⟨y, hy1, hy2⟩ := mapM_at HLS.out j hlt
        obtain ⟨l', hl', rfl⟩ := Option.map_eq_some_iff.1 hy2
        have hbw : Below w0.heap.size w0 wr := hb0.grown E3.2.2.2.2 hb0.size (fun q hq => by cases hq; exact hbm)
        obtain ⟨ad, A4, c4, rfl, z0, z1, z2, z3, z4, l4, C4⟩ := at_T42 hC (j : Int) (by omega) hlti
        have z0 := pw_cell_below hbw z0
        have z1 := pw_cell_below hbw z1
        have z2 := pw_cell_below hbw z2
        have z3 := pw_cell_below hbw z3
        have z4 := pw_cell_below hbw z4
        have hrd : rd_T42 n.f4 (j : Int) = n.f4[j] := by unfold rd_T42; rw [List.getD_eq_getElem?_getD, Int.toNat_natCast, List.getElem?_eq_getElem hlt]; rfl
        rw [hrd] at z0 z1 z2 z3 z4 l4 C4
        simp only [Int.toNat_natCast] at z0 z1 z2 z3 z4
        obtain ⟨x, hx⟩ : ∃ x, n.f4[j] = x := ⟨_, rfl⟩
        rw [hx] at z0 z1 z2 z3 z4 l4 C4 hl' hy1
        have hxs : x.f1.size ≤ 1000000000 := featL_size hl'
        have hlen : (acc ++ ownF false n ++ (ls.take j).flatten).length + (kidF false n x ++ l').length ≤ 1000000000 := by
          have := flat_len ls j _ hy1
          simp only [List.length_append] at hn this ⊢
          omega
        have htk : (ls.take (j + 1)).flatten = (ls.take j).flatten ++ (kidF false n x ++ l') := flat_take ls j _ hy1
        have HTK := Hid.mk' htk
        have HL' := Hid.mk' hl'
        have hacc3 : (acc ++ ownF false n ++ (ls.take j).flatten).length < maxLen := by unfold maxLen; omega
        have HX := Hid.mk' hx
        obtain ⟨acc3, ha3⟩ : ∃ a, acc ++ ownF false n ++ (ls.take j).flatten = a := ⟨_, rfl⟩
        rw [ha3] at hS3 hlen hacc3
        have HA3 := Hid.mk' ha3
        clear htk hl' hrd hy1 hy2 hx ha3
        obtain ⟨W2, hW2⟩ : ∃ W, wr.alloc (.cells #[.int .i64 x.f0, .string x.f1, .int .i64 x.f2, .int .i64 x.f3, .slice A4 x.f4.length c4] 42) = W := ⟨_, rfl⟩
        have g2 : wr.grownBy W2 (some bm) := by rw [← hW2]; exact World.grownBy_alloc wr _ _
        have b7 : W2.heap[wr.heap.size]? = some (.cells #[.int .i64 x.f0, .string x.f1, .int .i64 x.f2, .int .i64 x.f3, .slice A4 x.f4.length c4] 42 (0, 0)) := by rw [← hW2]; exact Go.heap_alloc_new _ _
        have hS2 : IntSet W2 bm acc3 := by rw [← hW2]; exact hS3.alloc _
        have E4 := E3.step h1 h2 h3 hne g2
        have s0 := blk_cell b7 0
        have s1 := blk_cell b7 1
        have s2 := blk_cell b7 2
        have s3 := blk_cell b7 3
        have s4 := blk_cell b7 4
        have hne7 : wr.heap.size ≠ bm := by have := hS3.lt; omega
        have k1b := E4.2.1.at
        have k2 := E4.2.2.1.at
        have q0 := blk_cell E4.1 0
        have q1 := blk_cell E4.1 1
        have p0 := blk_cell b7 0
        have p1 := blk_cell b7 1
        have hSd : IntSet W2.drew bm acc3 := hS2
        have Ed : VEnv n (some ad) c bs bf bm bv false w W2.drew := E4.drew
        have b7d : W2.drew.heap[wr.heap.size]? = some (.cells #[.int .i64 x.f0, .string x.f1, .int .i64 x.f2, .int .i64 x.f3, .slice A4 x.f4.length c4] 42 (0, 0)) := b7
        go_upto_region 8 with (fail)
        go_cut [38] (fun v38 wc => VEnv n (some ad) c bs bf bm bv false w wc ∧ IntSet wc bm (acc3 ++ kidF false n x) ∧ Hid (wc.heap[wr.heap.size]? = some (.cells #[.int .i64 x.f0, .string x.f1, .int .i64 x.f2, .int .i64 x.f3, .slice A4 x.f4.length c4] 42 (0, 0))))
        case first =>
          go_region_held3 (fun w' => w'.cell? ⟨bf, 0, none⟩ = some (.map (some bm)) ∧ w'.cell? ⟨w.heap.size, 0, none⟩ = some (.int .i64 n.f0) ∧ w'.cell? ⟨w.heap.size, 1, none⟩ = some (.string n.f1) ∧
              w'.cell? ⟨wr.heap.size, 0, none⟩ = some (.int .i64 x.f0) ∧ w'.cell? ⟨wr.heap.size, 1, none⟩ = some (.string x.f1))
            (first
              | exact ⟨k2, q0, q1, p0, p1⟩
              | exact ⟨E3e.2.2.1.at, blk_cell E3e.1 0, blk_cell E3e.1 1, blk_cell b73e 0, blk_cell b73e 1⟩
              | exact ⟨E4e.2.2.1.at, blk_cell E4e.1 0, blk_cell E4e.1 1, blk_cell b74e 0, blk_cell b74e 1⟩
              | go_keep)
            ((go_at_call 30; refine (fp_pair n.f0 n.f1 x.f0 x.f1 _ hsz hxs).mono ?_; rintro e w3 ⟨rfl, hb3⟩; have hSe := hSd.below hb3 hSd.lt; obtain ⟨w4, hrun, hS4, hg4⟩ := hSe.update hacc3 (pairF n.f0 n.f1 x.f0 x.f1) (pairF_wf _ _ _ _); have E3e := Ed.step h1 h2 h3 hne (grown_of_below hb3 (some bm)); have b73e := blk_below b7d hb3; have E4e := E3e.step h1 h2 h3 hne hg4; have b74e := blk_grown b73e hg4 (by simpa using hne7)))
          go_wp2_with (fail)
          go_meet
          case rel => exact ⟨E4e, by rw [show kidF false n x = [pairF n.f0 n.f1 x.f0 x.f1] from by unfold kidF; simp]; exact hS4, b74e⟩
        case rest =>
          obtain ⟨E5, hS5, hb7⟩ := hcut
          have b75 := hb7.out
          have k3 := E5.2.2.2.1.at
          have s0 := blk_cell b75 0
          have s1 := blk_cell b75 1
          have s2 := blk_cell b75 2
          have s3 := blk_cell b75 3
          have s4 := blk_cell b75 4
          go_wp2_with (go_at_call 77; refine (ih x A4 c4 _ l' _ HL'.out C4 (hb0.grown E5.2.2.2.2 hb0.size (fun q hq => by cases hq; exact hbm)) E5.2.1 E5.2.2.1 E5.2.2.2.1 hS5 (by simp only [List.length_append] at hlen ⊢; omega)).mono ?_; rintro e w9 ⟨rfl, hS9, hg9⟩)
          go_roundw
          case rel => exact ⟨j + 1, by go_num, by omega, E5.step h1 h2 h3 hne hg9, by rw [HTK.out, ← List.append_assoc, HA3.out, ← List.append_assoc]; exact hS9⟩
          case measure => simp [intOf]; omega
      · rw [List.take_of_length_le (by have := mapM_some_length HLS.out; omega)] at hS3
        go_wp2_with (fail)
        go_end0
        exact ⟨rfl, by rw [← List.append_assoc]; exact hS3, E3.2.2.2.2⟩
end Go.Proofs.Ytlnoadnejefmoaa.L20
set_option linter.unusedVariables false
set_option linter.unusedSimpArgs false
namespace Go.Proofs.Ytlnoadnejefmoaa.L20
open Go.RowKit Go.Maps Go.Proofs.YtlnoadnejefmoaaW.PrintWords
set_option maxHeartbeats 4000000 in
set_option maxRecDepth 100000 in
theorem fp_visit_2 (w0 : World) (bs bf bm bv : Nat) (hbm : w0.heap.size ≤ bm) (h1 : bs ≠ bm) (h2 : bf ≠ bm) (h3 : bv ≠ bm) (k : Nat) (ih : VisitAt w0 bs bf bm bv true k)
    (n : S42) (A : Option Addr) (c : Nat) (acc : List Int) (ls : List (List Int)) (w : World) (hsz : n.f1.size ≤ 1000000000) (hkl : n.f4.length ≤ maxLen) (HM : Hid (isM n = true)) (HLS : Hid (n.f4.mapM (fun c => (featL k true c).map (kidF true n c ++ ·)) = some ls)) (hC : k42.C w0 A n.f4.length n.f4)
    (hb0 : Below w0.heap.size w0 w) (c1 : Cell1 w bs (.bool true) 4) (c2 : Cell1 w bf (.map (some bm)) 68) (c3 : Cell1 w bv (.func (Fn.func 77) #[] #[.pointer (some ⟨bs, 0, none⟩), .pointer (some ⟨bf, 0, none⟩), .pointer (some ⟨bv, 0, none⟩)]) 87)
    (hS : IntSet w bm acc) (hn : acc.length + (ownF true n ++ ls.flatten).length ≤ 1000000000) :
    Calls Try.prog 77 #[.agg #[.int .i64 n.f0, .string n.f1, .int .i64 n.f2, .int .i64 n.f3, .slice A n.f4.length c], .pointer (some ⟨bs, 0, none⟩), .pointer (some ⟨bf, 0, none⟩), .pointer (some ⟨bv, 0, none⟩)] w fun e w' => e = .returned (.tuple #[]) ∧ IntSet w' bm (acc ++ (ownF true n ++ ls.flatten)) ∧ w.grownBy w' (some bm) := by
  have hlt := hS.lt
  have hacc : acc.length < maxLen := by unfold maxLen; omega
  unfold maxLen at hkl
  have hne : w.heap.size ≠ bm := by omega
  obtain ⟨W1, hW1⟩ : ∃ W, w.alloc (.cells #[.int .i64 n.f0, .string n.f1, .int .i64 n.f2, .int .i64 n.f3, .slice A n.f4.length c] 42) = W := ⟨_, rfl⟩
  have g1 : w.grownBy W1 (some bm) := by rw [← hW1]; exact World.grownBy_alloc w _ _
  have b4 : W1.heap[w.heap.size]? = some (.cells #[.int .i64 n.f0, .string n.f1, .int .i64 n.f2, .int .i64 n.f3, .slice A n.f4.length c] 42 (0, 0)) := by rw [← hW1]; exact Go.heap_alloc_new _ _
  have hS1 : IntSet W1 bm acc := by rw [← hW1]; exact hS.alloc _
  have E0 : VEnv n A c bs bf bm bv true w W1 := ⟨b4, c1.keep g1 (by simpa using h1), c2.keep g1 (by simpa using h2), c3.keep g1 (by simpa using h3), g1⟩
  have k1 := E0.2.1.at
  have r0 := blk_cell b4 0
  have r1 := blk_cell b4 1
  have r2 := blk_cell b4 2
  have r3 := blk_cell b4 3
  have r4 := blk_cell b4 4
  go_enter Try.func77, Try.ntmps77
  go_upto_if 14 with (go_at_call 78; refine (fp_meta n A c _ _ HM.out).mono ?_; rintro e w2 ⟨rfl, hb2⟩)
  have E1 := E0.step h1 h2 h3 hne (grown_of_below hb2 (some bm))
  have hS2x := hS1.below hb2 hS1.lt
  go_cut [15] (fun v15 wc => VEnv n A c bs bf bm bv true w wc ∧ IntSet wc bm (acc ++ ownF true n))
  case first =>
    go_wp2_with (fail)
    go_meet
    case rel => exact ⟨E1, by rw [show ownF true n = [] from by unfold ownF; rw [HM.out]; rfl, List.append_nil]; exact hS2x⟩
  case rest =>
    obtain ⟨E2, hSc⟩ := hcut
    have q4 := blk_cell E2.1 4
    go_wp2_with (fail)
    go_loopw [24] (fun i wr => ∃ j : Nat, i = .int .i64 j ∧ j ≤ n.f4.length ∧ VEnv n A c bs bf bm bv true w wr ∧ IntSet wr bm (acc ++ ownF true n ++ (ls.take j).flatten)) (fun i _ => n.f4.length - (intOf i).toNat)
    case atStart => exact ⟨0, rfl, by omega, E2, by rw [List.take_zero, List.flatten_nil, List.append_nil]; exact hSc⟩
    case round =>
      obtain ⟨j, rfl, hj, E3, hS3⟩ := hrel
      by_cases hlt : j < n.f4.length
      · have hlti : (j : Int) < n.f4.length := by omega
        obtain ⟨y, hy1, hy2⟩ := mapM_at HLS.out j hlt
        obtain ⟨l', hl', rfl⟩ := Option.map_eq_some_iff.1 hy2
        have hbw : Below w0.heap.size w0 wr := hb0.grown E3.2.2.2.2 hb0.size (fun q hq => by cases hq; exact hbm)
        obtain ⟨ad, A4, c4, rfl, z0, z1, z2, z3, z4, l4, C4⟩ := at_T42 hC (j : Int) (by omega) hlti
        have z0 := pw_cell_below hbw z0
        have z1 := pw_cell_below hbw z1
        have z2 := pw_cell_below hbw z2
        have z3 := pw_cell_below hbw z3
        have z4 := pw_cell_below hbw z4
        have hrd : rd_T42 n.f4 (j : Int) = n.f4[j] := by unfold rd_T42; rw [List.getD_eq_getElem?_getD, Int.toNat_natCast, List.getElem?_eq_getElem hlt]; rfl
        rw [hrd] at z0 z1 z2 z3 z4 l4 C4
        simp only [Int.toNat_natCast] at z0 z1 z2 z3 z4
        obtain ⟨x, hx⟩ : ∃ x, n.f4[j] = x := ⟨_, rfl⟩
        rw [hx] at z0 z1 z2 z3 z4 l4 C4 hl' hy1
        have hxs : x.f1.size ≤ 1000000000 := featL_size hl'
        have hlen : (acc ++ ownF true n ++ (ls.take j).flatten).length + (kidF true n x ++ l').length ≤ 1000000000 := by
          have := flat_len ls j _ hy1
          simp only [List.length_append] at hn this ⊢
          omega
        have htk : (ls.take (j + 1)).flatten = (ls.take j).flatten ++ (kidF true n x ++ l') := flat_take ls j _ hy1
        have HTK := Hid.mk' htk
        have HL' := Hid.mk' hl'
        have hacc3 : (acc ++ ownF true n ++ (ls.take j).flatten).length < maxLen := by unfold maxLen; omega
        have HX := Hid.mk' hx
        obtain ⟨acc3, ha3⟩ : ∃ a, acc ++ ownF true n ++ (ls.take j).flatten = a := ⟨_, rfl⟩
        rw [ha3] at hS3 hlen hacc3
        have HA3 := Hid.mk' ha3
        clear htk hl' hrd hy1 hy2 hx ha3
        obtain ⟨W2, hW2⟩ : ∃ W, wr.alloc (.cells #[.int .i64 x.f0, .string x.f1, .int .i64 x.f2, .int .i64 x.f3, .slice A4 x.f4.length c4] 42) = W := ⟨_, rfl⟩
        have g2 : wr.grownBy W2 (some bm) := by rw [← hW2]; exact World.grownBy_alloc wr _ _
        have b7 : W2.heap[wr.heap.size]? = some (.cells #[.int .i64 x.f0, .string x.f1, .int .i64 x.f2, .int .i64 x.f3, .slice A4 x.f4.length c4] 42 (0, 0)) := by rw [← hW2]; exact Go.heap_alloc_new _ _
        have hS2 : IntSet W2 bm acc3 := by rw [← hW2]; exact hS3.alloc _
        have E4 := E3.step h1 h2 h3 hne g2
        have s0 := blk_cell b7 0
        have s1 := blk_cell b7 1
        have s2 := blk_cell b7 2
        have s3 := blk_cell b7 3
        have s4 := blk_cell b7 4
        have hne7 : wr.heap.size ≠ bm := by have := hS3.lt; omega
        have hkn : kidF true n x = [] := by unfold kidF; rw [HM.out]; simp
        have HKN := Hid.mk' hkn
        clear hkn
        have hSx : IntSet W2 bm (acc3 ++ kidF true n x) := by rw [HKN.out, List.append_nil]; exact hS2
        have k3 := E4.2.2.2.1.at
        go_wp2_with (go_at_call 77; refine (ih x A4 c4 _ l' _ HL'.out C4 (hb0.grown E4.2.2.2.2 hb0.size (fun q hq => by cases hq; exact hbm)) E4.2.1 E4.2.2.1 E4.2.2.2.1 hSx (by simp only [List.length_append] at hlen ⊢; omega)).mono ?_; rintro e w9 ⟨rfl, hS9, hg9⟩)
        go_roundw
        case rel => exact ⟨j + 1, by go_num, by omega, E4.step h1 h2 h3 hne hg9, by rw [HTK.out, ← List.append_assoc, HA3.out, ← List.append_assoc]; exact hS9⟩
        case measure => simp [intOf]; omega
      · rw [List.take_of_length_le (by have := mapM_some_length HLS.out; omega)] at hS3
        go_wp2_with (fail)
        go_end0
        exact ⟨rfl, by rw [← List.append_assoc]; exact hS3, E3.2.2.2.2⟩
end Go.Proofs.Ytlnoadnejefmoaa.L20
set_option linter.unusedVariables false
set_option linter.unusedSimpArgs false
namespace Go.Proofs.Ytlnoadnejefmoaa.L20
open Go.RowKit Go.Maps Go.Proofs.YtlnoadnejefmoaaW.PrintWords
set_option maxHeartbeats 4000000 in
set_option maxRecDepth 100000 in
theorem fp_visit_3 (w0 : World) (bs bf bm bv : Nat) (hbm : w0.heap.size ≤ bm) (h1 : bs ≠ bm) (h2 : bf ≠ bm) (h3 : bv ≠ bm) (k : Nat) (ih : VisitAt w0 bs bf bm bv true k)
    (n : S42) (A : Option Addr) (c : Nat) (acc : List Int) (ls : List (List Int)) (w : World) (hsz : n.f1.size ≤ 1000000000) (hkl : n.f4.length ≤ maxLen) (HM : Hid (isM n = false)) (HLS : Hid (n.f4.mapM (fun c => (featL k true c).map (kidF true n c ++ ·)) = some ls)) (hC : k42.C w0 A n.f4.length n.f4)
    (hb0 : Below w0.heap.size w0 w) (c1 : Cell1 w bs (.bool true) 4) (c2 : Cell1 w bf (.map (some bm)) 68) (c3 : Cell1 w bv (.func (Fn.func 77) #[] #[.pointer (some ⟨bs, 0, none⟩), .pointer (some ⟨bf, 0, none⟩), .pointer (some ⟨bv, 0, none⟩)]) 87)
    (hS : IntSet w bm acc) (hn : acc.length + (ownF true n ++ ls.flatten).length ≤ 1000000000) :
    Calls Try.prog 77 #[.agg #[.int .i64 n.f0, .string n.f1, .int .i64 n.f2, .int .i64 n.f3, .slice A n.f4.length c], .pointer (some ⟨bs, 0, none⟩), .pointer (some ⟨bf, 0, none⟩), .pointer (some ⟨bv, 0, none⟩)] w fun e w' => e = .returned (.tuple #[]) ∧ IntSet w' bm (acc ++ (ownF true n ++ ls.flatten)) ∧ w.grownBy w' (some bm) := by
  have hlt := hS.lt
  have hacc : acc.length < maxLen := by unfold maxLen; omega
  unfold maxLen at hkl
  have hne : w.heap.size ≠ bm := by omega
  obtain ⟨W1, hW1⟩ : ∃ W, w.alloc (.cells #[.int .i64 n.f0, .string n.f1, .int .i64 n.f2, .int .i64 n.f3, .slice A n.f4.length c] 42) = W := ⟨_, rfl⟩
  have g1 : w.grownBy W1 (some bm) := by rw [← hW1]; exact World.grownBy_alloc w _ _
  have b4 : W1.heap[w.heap.size]? = some (.cells #[.int .i64 n.f0, .string n.f1, .int .i64 n.f2, .int .i64 n.f3, .slice A n.f4.length c] 42 (0, 0)) := by rw [← hW1]; exact Go.heap_alloc_new _ _
  have hS1 : IntSet W1 bm acc := by rw [← hW1]; exact hS.alloc _
  have E0 : VEnv n A c bs bf bm bv true w W1 := ⟨b4, c1.keep g1 (by simpa using h1), c2.keep g1 (by simpa using h2), c3.keep g1 (by simpa using h3), g1⟩
  have k1 := E0.2.1.at
  have r0 := blk_cell b4 0
  have r1 := blk_cell b4 1
  have r2 := blk_cell b4 2
  have r3 := blk_cell b4 3
  have r4 := blk_cell b4 4
  go_enter Try.func77, Try.ntmps77
  go_upto_if 14 with (go_at_call 78; refine (fp_meta n A c _ _ HM.out).mono ?_; rintro e w2 ⟨rfl, hb2⟩)
  have E1 := E0.step h1 h2 h3 hne (grown_of_below hb2 (some bm))
  have hS2x := hS1.below hb2 hS1.lt
  go_cut [15] (fun v15 wc => VEnv n A c bs bf bm bv true w wc ∧ IntSet wc bm (acc ++ ownF true n))
  case first =>
    have k2 := E1.2.2.1.at
    have q0 := blk_cell E1.1 0
    have q1 := blk_cell E1.1 1
    have hSd : IntSet w2.drew bm acc := hS2x
    have Ed : VEnv n A c bs bf bm bv true w w2.drew := E1.drew
    go_wp2_with (fail)
    go_region_held3 (fun w' => w'.cell? ⟨bf, 0, none⟩ = some (.map (some bm)) ∧ w'.cell? ⟨w.heap.size, 0, none⟩ = some (.int .i64 n.f0) ∧ w'.cell? ⟨w.heap.size, 1, none⟩ = some (.string n.f1))
      (first
        | exact ⟨k2, q0, q1⟩
        | exact ⟨E3e.2.2.1.at, blk_cell E3e.1 0, blk_cell E3e.1 1⟩
        | exact ⟨E4e.2.2.1.at, blk_cell E4e.1 0, blk_cell E4e.1 1⟩
        | go_keep)
      ((go_at_call 28; refine (fp_node n.f0 n.f1 _ hsz).mono ?_; rintro e w3 ⟨rfl, hb3⟩; have hS2 := hSd.below hb3 hSd.lt; obtain ⟨w4, hrun, hS4, hg4⟩ := hS2.update hacc (nodeF n.f0 n.f1) (nodeF_wf _ _); have E3e := Ed.step h1 h2 h3 hne (grown_of_below hb3 (some bm)); have E4e := E3e.step h1 h2 h3 hne hg4))
    go_wp2_with (fail)
    go_meet
    case rel => exact ⟨E4e, by rw [show ownF true n = [nodeF n.f0 n.f1] from by unfold ownF; rw [HM.out]; rfl]; exact hS4⟩
  case rest =>
    obtain ⟨E2, hSc⟩ := hcut
    have q4 := blk_cell E2.1 4
    go_wp2_with (fail)
    go_loopw [24] (fun i wr => ∃ j : Nat, i = .int .i64 j ∧ j ≤ n.f4.length ∧ VEnv n A c bs bf bm bv true w wr ∧ IntSet wr bm (acc ++ ownF true n ++ (ls.take j).flatten)) (fun i _ => n.f4.length - (intOf i).toNat)
    case atStart => exact ⟨0, rfl, by omega, E2, by rw [List.take_zero, List.flatten_nil, List.append_nil]; exact hSc⟩
    case round =>
      obtain ⟨j, rfl, hj, E3, hS3⟩ := hrel
      by_cases hlt : j < n.f4.length
      · have hlti : (j : Int) < n.f4.length := by omega
        obtain ⟨y, hy1, hy2⟩ := mapM_at HLS.out j hlt
        obtain ⟨l', hl', rfl⟩ := Option.map_eq_some_iff.1 hy2
        have hbw : Below w0.heap.size w0 wr := hb0.grown E3.2.2.2.2 hb0.size (fun q hq => by cases hq; exact hbm)
        obtain ⟨ad, A4, c4, rfl, z0, z1, z2, z3, z4, l4, C4⟩ := at_T42 hC (j : Int) (by omega) hlti
        have z0 := pw_cell_below hbw z0
        have z1 := pw_cell_below hbw z1
        have z2 := pw_cell_below hbw z2
        have z3 := pw_cell_below hbw z3
        have z4 := pw_cell_below hbw z4
        have hrd : rd_T42 n.f4 (j : Int) = n.f4[j] := by unfold rd_T42; rw [List.getD_eq_getElem?_getD, Int.toNat_natCast, List.getElem?_eq_getElem hlt]; rfl
        rw [hrd] at z0 z1 z2 z3 z4 l4 C4
        simp only [Int.toNat_natCast] at z0 z1 z2 z3 z4
        obtain ⟨x, hx⟩ : ∃ x, n.f4[j] = x := ⟨_, rfl⟩
        rw [hx] at z0 z1 z2 z3 z4 l4 C4 hl' hy1
        have hxs : x.f1.size ≤ 1000000000 := featL_size hl'
        have hlen : (acc ++ ownF true n ++ (ls.take j).flatten).length + (kidF true n x ++ l').length ≤ 1000000000 := by
          have := flat_len ls j _ hy1
          simp only [List.length_append] at hn this ⊢
          omega
        have htk : (ls.take (j + 1)).flatten = (ls.take j).flatten ++ (kidF true n x ++ l') := flat_take ls j _ hy1
        have HTK := Hid.mk' htk
        have HL' := Hid.mk' hl'
        have hacc3 : (acc ++ ownF true n ++ (ls.take j).flatten).length < maxLen := by unfold maxLen; omega
        have HX := Hid.mk' hx
        obtain ⟨acc3, ha3⟩ : ∃ a, acc ++ ownF true n ++ (ls.take j).flatten = a := ⟨_, rfl⟩
        rw [ha3] at hS3 hlen hacc3
        have HA3 := Hid.mk' ha3
        clear htk hl' hrd hy1 hy2 hx ha3
        obtain ⟨W2, hW2⟩ : ∃ W, wr.alloc (.cells #[.int .i64 x.f0, .string x.f1, .int .i64 x.f2, .int .i64 x.f3, .slice A4 x.f4.length c4] 42) = W := ⟨_, rfl⟩
        have g2 : wr.grownBy W2 (some bm) := by rw [← hW2]; exact World.grownBy_alloc wr _ _
        have b7 : W2.heap[wr.heap.size]? = some (.cells #[.int .i64 x.f0, .string x.f1, .int .i64 x.f2, .int .i64 x.f3, .slice A4 x.f4.length c4] 42 (0, 0)) := by rw [← hW2]; exact Go.heap_alloc_new _ _
        have hS2 : IntSet W2 bm acc3 := by rw [← hW2]; exact hS3.alloc _
        have E4 := E3.step h1 h2 h3 hne g2
        have s0 := blk_cell b7 0
        have s1 := blk_cell b7 1
        have s2 := blk_cell b7 2
        have s3 := blk_cell b7 3
        have s4 := blk_cell b7 4
        have hne7 : wr.heap.size ≠ bm := by have := hS3.lt; omega
        have k1b := E4.2.1.at
        cases hMx : isM x with
        | true =>
          have HMX := Hid.mk' hMx
          clear hMx
          go_upto_if 37 with (go_at_call 78; refine (fp_meta x A4 c4 _ _ HMX.out).mono ?_; rintro e w6 ⟨rfl, hb6⟩)
          have g6 := grown_of_below hb6 (some bm)
          have E6 := E4.step h1 h2 h3 hne g6
          have hS6 := hS2.below hb6 hS2.lt
          have b76 := blk_below b7 hb6
          have s0 := blk_cell b76 0
          have s1 := blk_cell b76 1
          have s2 := blk_cell b76 2
          have s3 := blk_cell b76 3
          have s4 := blk_cell b76 4
          have hkn : kidF true n x = [] := by unfold kidF; rw [HMX.out]; simp
          have HKN := Hid.mk' hkn
          clear hkn
          have hSx : IntSet w6 bm (acc3 ++ kidF true n x) := by rw [HKN.out, List.append_nil]; exact hS6
          have k3 := E6.2.2.2.1.at
          go_wp2_with (go_at_call 77; refine (ih x A4 c4 _ l' _ HL'.out C4 (hb0.grown E6.2.2.2.2 hb0.size (fun q hq => by cases hq; exact hbm)) E6.2.1 E6.2.2.1 E6.2.2.2.1 hSx (by simp only [List.length_append] at hlen ⊢; omega)).mono ?_; rintro e w9 ⟨rfl, hS9, hg9⟩)
          go_roundw
          case rel => exact ⟨j + 1, by go_num, by omega, E6.step h1 h2 h3 hne hg9, by rw [HTK.out, ← List.append_assoc, HA3.out, ← List.append_assoc]; exact hS9⟩
          case measure => simp [intOf]; omega
        | false =>
          have HMX := Hid.mk' hMx
          clear hMx
          go_upto_if 37 with (go_at_call 78; refine (fp_meta x A4 c4 _ _ HMX.out).mono ?_; rintro e w6 ⟨rfl, hb6⟩)
          have g6 := grown_of_below hb6 (some bm)
          have E6 := E4.step h1 h2 h3 hne g6
          have hS6 := hS2.below hb6 hS2.lt
          have b76 := blk_below b7 hb6
          have k2 := E6.2.2.1.at
          have q0 := blk_cell E6.1 0
          have q1 := blk_cell E6.1 1
          have p0 := blk_cell b76 0
          have p1 := blk_cell b76 1
          have hSd : IntSet w6.drew bm acc3 := hS6
          have Ed : VEnv n (some ad) c bs bf bm bv true w w6.drew := E6.drew
          have b7d : w6.drew.heap[wr.heap.size]? = some (.cells #[.int .i64 x.f0, .string x.f1, .int .i64 x.f2, .int .i64 x.f3, .slice A4 x.f4.length c4] 42 (0, 0)) := b76
          go_upto_region 8 with (fail)
          go_cut [38] (fun v38 wc => VEnv n (some ad) c bs bf bm bv true w wc ∧ IntSet wc bm (acc3 ++ kidF true n x) ∧ Hid (wc.heap[wr.heap.size]? = some (.cells #[.int .i64 x.f0, .string x.f1, .int .i64 x.f2, .int .i64 x.f3, .slice A4 x.f4.length c4] 42 (0, 0))))
          case first =>
            go_region_held3 (fun w' => w'.cell? ⟨bf, 0, none⟩ = some (.map (some bm)) ∧ w'.cell? ⟨w.heap.size, 0, none⟩ = some (.int .i64 n.f0) ∧ w'.cell? ⟨w.heap.size, 1, none⟩ = some (.string n.f1) ∧
                w'.cell? ⟨wr.heap.size, 0, none⟩ = some (.int .i64 x.f0) ∧ w'.cell? ⟨wr.heap.size, 1, none⟩ = some (.string x.f1))
              (first
                | exact ⟨k2, q0, q1, p0, p1⟩
                | exact ⟨E3e.2.2.1.at, blk_cell E3e.1 0, blk_cell E3e.1 1, blk_cell b73e 0, blk_cell b73e 1⟩
                | exact ⟨E4e.2.2.1.at, blk_cell E4e.1 0, blk_cell E4e.1 1, blk_cell b74e 0, blk_cell b74e 1⟩
                | go_keep)
              ((go_at_call 30; refine (fp_pair n.f0 n.f1 x.f0 x.f1 _ hsz hxs).mono ?_; rintro e w3 ⟨rfl, hb3⟩; have hSe := hSd.below hb3 hSd.lt; obtain ⟨w4, hrun, hS4, hg4⟩ := hSe.update hacc3 (pairF n.f0 n.f1 x.f0 x.f1) (pairF_wf _ _ _ _); have E3e := Ed.step h1 h2 h3 hne (grown_of_below hb3 (some bm)); have b73e := blk_below b7d hb3; have E4e := E3e.step h1 h2 h3 hne hg4; have b74e := blk_grown b73e hg4 (by simpa using hne7)))
            go_wp2_with (fail)
            go_meet
            case rel => exact ⟨E4e, by rw [show kidF true n x = [pairF n.f0 n.f1 x.f0 x.f1] from by unfold kidF; rw [HM.out, HMX.out]; simp]; exact hS4, b74e⟩
          case rest =>
            obtain ⟨E5, hS5, hb7⟩ := hcut
            have b75 := hb7.out
            have k3 := E5.2.2.2.1.at
            have s0 := blk_cell b75 0
            have s1 := blk_cell b75 1
            have s2 := blk_cell b75 2
            have s3 := blk_cell b75 3
            have s4 := blk_cell b75 4
            go_wp2_with (go_at_call 77; refine (ih x A4 c4 _ l' _ HL'.out C4 (hb0.grown E5.2.2.2.2 hb0.size (fun q hq => by cases hq; exact hbm)) E5.2.1 E5.2.2.1 E5.2.2.2.1 hS5 (by simp only [List.length_append] at hlen ⊢; omega)).mono ?_; rintro e w9 ⟨rfl, hS9, hg9⟩)
            go_roundw
            case rel => exact ⟨j + 1, by go_num, by omega, E5.step h1 h2 h3 hne hg9, by rw [HTK.out, ← List.append_assoc, HA3.out, ← List.append_assoc]; exact hS9⟩
            case measure => simp [intOf]; omega
      · rw [List.take_of_length_le (by have := mapM_some_length HLS.out; omega)] at hS3
        go_wp2_with (fail)
        go_end0
        exact ⟨rfl, by rw [← List.append_assoc]; exact hS3, E3.2.2.2.2⟩
end Go.Proofs.Ytlnoadnejefmoaa.L20
set_option linter.unusedVariables false
set_option linter.unusedSimpArgs false
namespace Go.Proofs.Ytlnoadnejefmoaa.L20
open Go.RowKit Go.Maps Go.Proofs.YtlnoadnejefmoaaW.PrintWords
theorem fp_visit (w0 : World) (bs bf bm bv : Nat) (hbm : w0.heap.size ≤ bm) (h1 : bs ≠ bm) (h2 : bf ≠ bm) (h3 : bv ≠ bm) (skip : Bool) : ∀ k, VisitAt w0 bs bf bm bv skip k := by
  intro k
  induction k with
  | zero => intro n A c acc l w h; cases h
  | succ k ih =>
    intro n A c acc l w h hC hb0 c1 c2 c3 hS hn
    unfold featL at h
    split at h
    case isFalse => cases h
    rename_i hsz
    obtain ⟨ls, hls, rfl⟩ := Option.map_eq_some_iff.1 h
    cases skip with
    | false => exact fp_visit_1 w0 bs bf bm bv hbm h1 h2 h3 k ih n A c acc ls w hsz.1 hsz.2 (Hid.mk' hls) hC hb0 c1 c2 c3 hS hn
    | true =>
      cases hM : isM n with
      | true => exact fp_visit_2 w0 bs bf bm bv hbm h1 h2 h3 k ih n A c acc ls w hsz.1 hsz.2 (Hid.mk' hM) (Hid.mk' hls) hC hb0 c1 c2 c3 hS hn
      | false => exact fp_visit_3 w0 bs bf bm bv hbm h1 h2 h3 k ih n A c acc ls w hsz.1 hsz.2 (Hid.mk' hM) (Hid.mk' hls) hC hb0 c1 c2 c3 hS hn
end Go.Proofs.Ytlnoadnejefmoaa.L20
set_option linter.unusedVariables false
set_option linter.unusedSimpArgs false
namespace Go.Proofs.Ytlnoadnejefmoaa.L20
open Go.RowKit Go.Maps Go.Proofs.YtlnoadnejefmoaaW.PrintWords
def insS : List Int → Int → List Int
  | [], x => [x]
  | y :: r, x => if x < y then x :: y :: r else if x = y then y :: r else y :: insS r x
def insAll (l : List Int) : List Int := l.foldl insS []
theorem mem_insS (z : Int) (l : List Int) (x : Int) : z ∈ insS l x ↔ z = x ∨ z ∈ l := by
  induction l with
  | nil => simp [insS]
  | cons y r ih =>
    unfold insS
    split
    · simp
    · split
      · rename_i h; subst h; simp
      · simp only [List.mem_cons, ih]
        constructor
        · rintro (h | h | h) <;> simp [h]
        · rintro (h | h | h) <;> simp [h]
theorem sorted_insS (l : List Int) (x : Int) (h : l.Pairwise (· < ·)) : (insS l x).Pairwise (· < ·) := by
  induction l with
  | nil => simp [insS]
  | cons y r ih =>
    have h1 := List.pairwise_cons.1 h
    unfold insS
    split
    · rename_i hx
      refine List.pairwise_cons.2 ⟨fun z hz => ?_, h⟩
      rcases List.mem_cons.1 hz with rfl | hz
      · exact hx
      · exact Int.lt_trans hx (h1.1 z hz)
    · split
      · exact h
      · refine List.pairwise_cons.2 ⟨fun z hz => ?_, ih h1.2⟩
        rcases (mem_insS z r x).1 hz with rfl | hz
        · omega
        · exact h1.1 z hz
theorem ins_fold (l : List Int) : ∀ acc : List Int, acc.Pairwise (· < ·) → (l.foldl insS acc).Pairwise (· < ·) ∧ ∀ z, z ∈ l.foldl insS acc ↔ z ∈ acc ∨ z ∈ l := by
  induction l with
  | nil => intro acc h; exact ⟨h, fun z => by simp⟩
  | cons x r ih =>
    intro acc h
    obtain ⟨h1, h2⟩ := ih (insS acc x) (sorted_insS acc x h)
    refine ⟨h1, fun z => ?_⟩
    rw [List.foldl_cons, h2, mem_insS, List.mem_cons]
    constructor
    · rintro ((h | h) | h) <;> simp [h]
    · rintro (h | h | h) <;> simp [h]
theorem insAll_sorted (l : List Int) : (insAll l).Pairwise (· < ·) := (ins_fold l [] List.Pairwise.nil).1
theorem mem_insAll (l : List Int) (z : Int) : z ∈ insAll l ↔ z ∈ l := by rw [insAll, (ins_fold l [] List.Pairwise.nil).2]; simp
theorem sorted_unique : ∀ (l m : List Int), l.Pairwise (· < ·) → m.Pairwise (· < ·) → (∀ z, z ∈ l ↔ z ∈ m) → l = m := by
  intro l
  induction l with
  | nil =>
    intro m _ _ h
    cases m with
    | nil => rfl
    | cons y r => exact absurd ((h y).2 List.mem_cons_self) (by simp)
  | cons x r ih =>
    intro m hl hm h
    cases m with
    | nil => exact absurd ((h x).1 List.mem_cons_self) (by simp)
    | cons y s =>
      have h1 := List.pairwise_cons.1 hl
      have h2 := List.pairwise_cons.1 hm
      have e : x = y := by
        rcases List.mem_cons.1 ((h x).1 List.mem_cons_self) with e | e
        · exact e
        · rcases List.mem_cons.1 ((h y).2 List.mem_cons_self) with e2 | e2
          · exact e2.symm
          · have a := h1.1 y e2
            have b := h2.1 x e
            omega
      subst e
      congr 1
      refine ih s h1.2 h2.2 fun z => ?_
      constructor
      · intro hz
        rcases List.mem_cons.1 ((h z).1 (List.mem_cons_of_mem _ hz)) with e | e
        · subst e; exact absurd (h1.1 z hz) (by omega)
        · exact e
      · intro hz
        rcases List.mem_cons.1 ((h z).2 (List.mem_cons_of_mem _ hz)) with e | e
        · subst e; exact absurd (h2.1 z hz) (by omega)
        · exact e
theorem merge_is (ks l : List Int) (hn : ks.Nodup) (h : ∀ z, z ∈ ks ↔ z ∈ l) : (ks.mergeSort fun x y => decide (x ≤ y)) = insAll l := by
  have hp := List.mergeSort_perm ks fun x y => decide (x ≤ y)
  refine sorted_unique _ _ ?_ (insAll_sorted l) fun z => ?_
  · have h1 : (ks.mergeSort fun x y => decide (x ≤ y)).Pairwise fun x y => decide (x ≤ y) = true := List.pairwise_mergeSort (fun a b c => by simp only [decide_eq_true_eq]; omega) (fun a b => by simp only [Bool.or_eq_true, decide_eq_true_eq]; omega) ks
    have h2 : (ks.mergeSort fun x y => decide (x ≤ y)).Nodup := hp.nodup_iff.2 hn
    refine (List.Pairwise.and h1 h2).imp fun {a b} hab => ?_
    have := of_decide_eq_true hab.1
    have := hab.2
    omega
  · rw [hp.mem_iff, h, mem_insAll]
/-- What has come of the set l when the keys ks have come and left tells what is still to come. -/
def Got (l : List Int) (left : Lit → Bool) (ks : List Int) : Prop := ks.Nodup ∧ (∀ x ∈ ks, x ∈ l) ∧ ∀ x, left (litI x) = decide (x ∈ l ∧ x ∉ ks)
theorem Got.start (l : List Int) : Got l (has (setD l)) [] := ⟨List.nodup_nil, fun x h => absurd h (by simp), fun x => by rw [has_setD]; simp⟩
theorem Got.more {l : List Int} {left : Lit → Bool} {ks : List Int} (h : Got l left ks) (x : Int) (hx : left (litI x) = true) : Got l (fun z => left z && !z.sameKey (litI x)) (ks ++ [x]) := by
  obtain ⟨h1, h2, h3⟩ := h
  rw [h3 x, decide_eq_true_eq] at hx
  refine ⟨?_, ?_, fun y => ?_⟩
  · rw [List.nodup_append]
    refine ⟨h1, by simp, fun a ha b hb => ?_⟩
    rw [List.mem_singleton] at hb
    subst hb
    intro e
    subst e
    exact hx.2 ha
  · intro z hz
    rcases List.mem_append.1 hz with hz | hz
    · exact h2 z hz
    · rw [List.mem_singleton] at hz; subst hz; exact hx.1
  · show (left (litI y) && !(litI y).sameKey (litI x)) = _
    rw [h3 y, sameI]
    by_cases e : y = x
    · subst e; simp
    · by_cases e1 : y ∈ l <;> by_cases e2 : y ∈ ks <;> simp [e, e1, e2]
theorem Got.done {l : List Int} {left : Lit → Bool} {ks : List Int} (h : Got l left ks) (hl : ∀ kl, left kl = false) : (ks.mergeSort fun x y => decide (x ≤ y)) = insAll l := by
  obtain ⟨h1, h2, h3⟩ := h
  refine merge_is ks l h1 fun z => ⟨h2 z, fun hz => ?_⟩
  have := h3 z
  rw [hl] at this
  by_cases e : z ∈ ks
  · exact e
  · simp [hz, e] at this
end Go.Proofs.Ytlnoadnejefmoaa.L20
set_option linter.unusedVariables false
set_option linter.unusedSimpArgs false
namespace Go.Proofs.Ytlnoadnejefmoaa.L20
open Go.RowKit Go.Maps Go.Sort Go.Proofs.YtlnoadnejefmoaaW.PrintWords
theorem five_at (w : World) (o0 o1 o2 o3 o4 : Obj) : (((((w.alloc o0).alloc o1).alloc o2).alloc o3).alloc o4).heap[w.heap.size]? = some o0 ∧ (((((w.alloc o0).alloc o1).alloc o2).alloc o3).alloc o4).heap[w.heap.size + 1]? = some o1 ∧
    (((((w.alloc o0).alloc o1).alloc o2).alloc o3).alloc o4).heap[w.heap.size + 1 + 1 + 1]? = some o3 ∧ (((((w.alloc o0).alloc o1).alloc o2).alloc o3).alloc o4).heap[w.heap.size + 1 + 1 + 1 + 1]? = some o4 := by
  have hz : ∀ (u : World) (o : Obj), (u.alloc o).heap.size = u.heap.size + 1 := fun u o => by simp
  have hn : ∀ (u : World) (o : Obj) (i : Nat), i = u.heap.size → (u.alloc o).heap[i]? = some o := fun u o i hi => by subst hi; show (u.heap.push o)[u.heap.size]? = _; exact Array.getElem?_push_size
  have ho : ∀ (u : World) (o : Obj) (i : Nat), i < u.heap.size → (u.alloc o).heap[i]? = u.heap[i]? := fun u o i hi => by show (u.heap.push o)[i]? = _; rw [Array.getElem?_push, if_neg (Nat.ne_of_lt hi)]
  refine ⟨?_, ?_, ?_, ?_⟩
  · rw [ho _ _ _ (by simp only [hz]; omega), ho _ _ _ (by simp only [hz]; omega), ho _ _ _ (by simp only [hz]; omega), ho _ _ _ (by simp only [hz]; omega), hn _ _ _ rfl]
  · rw [ho _ _ _ (by simp only [hz]; omega), ho _ _ _ (by simp only [hz]; omega), ho _ _ _ (by simp only [hz]; omega), hn _ _ _ (by simp only [hz])]
  · rw [ho _ _ _ (by simp only [hz]; omega), hn _ _ _ (by simp only [hz])]
  · rw [hn _ _ _ (by simp only [hz])]
set_option maxHeartbeats 4000000 in
set_option maxRecDepth 100000 in
theorem fp_features (n : S42) (A : Option Addr) (c k : Nat) (skip : Bool) (l : List Int) (w : World) (h : featL k skip n = some l) (hC : k42.C w A n.f4.length n.f4) (hl : l.length ≤ 1000000000) :
    Calls Try.prog 57 #[.agg #[.int .i64 n.f0, .string n.f1, .int .i64 n.f2, .int .i64 n.f3, .slice A n.f4.length c], .bool skip] w fun e w' => ∃ v, e = .returned v ∧
      (Kd.int .i64).R 3 w' w.heap.size (fun _ => True) v (insAll l) ∧ Below w.heap.size w w' := by
  have hmm := @run_makeMap Try.prog
  have H := Hid.mk' h
  clear h
  go_enter Try.func57, Try.ntmps57
  go_upto_region 4 with (fail)
  obtain ⟨W5, hW5⟩ : ∃ W, (((((w.alloc (.cells #[.int .i64 n.f0, .string n.f1, .int .i64 n.f2, .int .i64 n.f3, .slice A n.f4.length c] 42)).alloc (.cells #[.bool skip] 4)).alloc (.map #[] 0)).alloc (.cells #[.map (some (w.heap.size + 1 + 1))] 68)).alloc
    (.cells #[.func (Fn.func 77) #[] #[.pointer (some ⟨w.heap.size + 1, 0, none⟩), .pointer (some ⟨w.heap.size + 1 + 1 + 1, 0, none⟩), .pointer (some ⟨w.heap.size + 1 + 1 + 1 + 1, 0, none⟩)]] 87)) = W := ⟨_, rfl⟩
  rw [hW5]
  have c1 : Cell1 W5 (w.heap.size + 1) (.bool skip) 4 := by rw [← hW5]; exact (five_at _ _ _ _ _ _).2.1
  have c2 : Cell1 W5 (w.heap.size + 1 + 1 + 1) (.map (some (w.heap.size + 1 + 1))) 68 := by rw [← hW5]; exact (five_at _ _ _ _ _ _).2.2.1
  have c3 : Cell1 W5 (w.heap.size + 1 + 1 + 1 + 1) (.func (Fn.func 77) #[] #[.pointer (some ⟨w.heap.size + 1, 0, none⟩), .pointer (some ⟨w.heap.size + 1 + 1 + 1, 0, none⟩), .pointer (some ⟨w.heap.size + 1 + 1 + 1 + 1, 0, none⟩)]) 87 := by rw [← hW5]; exact (five_at _ _ _ _ _ _).2.2.2
  have b0 : W5.heap[w.heap.size]? = some (.cells #[.int .i64 n.f0, .string n.f1, .int .i64 n.f2, .int .i64 n.f3, .slice A n.f4.length c] 42 (0, 0)) := by rw [← hW5]; exact (five_at _ _ _ _ _ _).1
  have hS : IntSet W5 (w.heap.size + 1 + 1) [] := by
    rw [← hW5]
    have h1 := ((IntSet.made ((w.alloc (.cells #[.int .i64 n.f0, .string n.f1, .int .i64 n.f2, .int .i64 n.f3, .slice A n.f4.length c] 42)).alloc (.cells #[.bool skip] 4))).alloc (.cells #[.map (some (w.heap.size + 1 + 1))] 68)).alloc
      (.cells #[.func (Fn.func 77) #[] #[.pointer (some ⟨w.heap.size + 1, 0, none⟩), .pointer (some ⟨w.heap.size + 1 + 1 + 1, 0, none⟩), .pointer (some ⟨w.heap.size + 1 + 1 + 1 + 1, 0, none⟩)]] 87)
    simpa using h1
  have hB : Below w.heap.size w W5 := by
    rw [← hW5]
    repeat (first | exact Below.refl _ _ | apply below_alloc)
  clear hW5
  have r0 := blk_cell b0 0
  have r1 := blk_cell b0 1
  have r2 := blk_cell b0 2
  have r3 := blk_cell b0 3
  have r4 := blk_cell b0 4
  have e3 := c3.at
  have HV := fp_visit w (w.heap.size + 1) (w.heap.size + 1 + 1 + 1) (w.heap.size + 1 + 1) (w.heap.size + 1 + 1 + 1 + 1) (by omega) (by omega) (by omega) (by omega) skip k n A c [] l W5 H.out hC hB c1 c2 c3 hS (by simpa using hl)
  go_upto_region 5 with (go_at_call 77; refine HV.mono ?_; rintro e w6 ⟨rfl, hS6, hg6⟩)
  have c26 := c2.keep hg6 (by simp)
  have e2 := c26.at
  have hB6 : Below w.heap.size w w6 := hB.grown hg6 hB.size (fun q hq => by cases hq; omega)
  rw [List.nil_append] at hS6
  have hsz := World.ownsMap.size_le hS6
  have hsz6 := hB6.size
  obtain ⟨i0, hi, hz0, hz1, hz2⟩ := info_parts info3
  clear HV
  obtain ⟨cap, hcap⟩ : ∃ x, Maps.size (setD l) = x := ⟨_, rfl⟩
  rw [hcap] at hsz
  have HCAP := Hid.mk' hcap
  go_upto_region 6 with (first
    | (at_len; refine wpList_len_own _ rfl _ 68 rfl 3 4 Try.underlying68 _ (w.heap.size + 1 + 1) l.length (setD l) rfl hS6 ?_; rw [hcap])
    | (refine wpList_make_own _ rfl _ _ 45 rfl w.heap.size 3 i0 (.int .i64 0) 1 Try.underlying45 hi hz0 hz1 .i64 .i64 (cap : Int) cap rfl rfl rfl ?b2 ?b3 ?b4 ?_; (case b2 => rw [hz2]; omega); (case b3 => unfold maxLen; omega); (case b4 => exact hsz6); intro w7 hown7 hg7))
  have hS7 := hS6.grown hg7 (by simp)
  have c27 := c26.keep hg7 (by simp)
  have e27 := c27.at
  have hB7 : Below w.heap.size w w7 := hB6.grown hg7 hsz6 (fun q hq => by cases hq)
  obtain ⟨g, hg⟩ : ∃ x, w6.heap.size = x := ⟨_, rfl⟩
  rw [hg] at hown7
  try rw [hg]
  have hgb : w.heap.size ≤ g := by omega
  have hg7s : g < w7.heap.size := by
    rcases hown7.2 with ⟨h0, _⟩ | ⟨g', cap', cur, hv, hbb, hh, _⟩
    · cases h0
    · cases hv
      exact (Array.getElem?_eq_some_iff.1 hh).1
  have hgm : g ≠ w.heap.size + 1 + 1 := by have := hS6.lt; omega
  clear e2 e3 r0 r1 r2 r3 r4 b0 c1 c2 c3 hS hB hg6
  go_wp2_with (first
    | (at_range; refine wpList_range_own _ rfl _ 68 rfl 3 4 lawI Try.underlying68 _ (w.heap.size + 1 + 1) l.length (setD l) rfl hS7 ?_; intro w8 hrg8 hg8 hs8)
    | go_in)
  go_frame
  obtain ⟨r, hr⟩ : ∃ x, w7.heap.size = x := ⟨_, rfl⟩
  rw [hr] at hrg8
  try rw [hr]
  have hrw : w.heap.size ≤ r := by omega
  have hgr : g ≠ r := by omega
  go_loopw [7] (fun v wr => ∃ (left : Lit → Bool) (cnt : Nat) (ks : List Int), v = .slice (some ⟨g, 0, none⟩) ks.length cap ∧ wr.ranges Try.prog 3 (plainElem Try.prog 4) (w.heap.size + 1 + 1) r l.length (setD l) left cnt ∧
      wr.ownsRow w.heap.size 3 1 (.slice (some ⟨g, 0, none⟩) ks.length cap) ks.length (ks.map (Value.int .i64)) ∧ ks.length + cnt ≤ cap ∧ Below w.heap.size w wr ∧ Hid (Got l left ks))
    (fun _ wr => wr.rangeLeft (w.heap.size + 1 + 1) r)
  case atStart =>
    exact ⟨_, _, [], rfl, hrg8, hown7.kept hg8 (by simp [Value.ownBlock]), by rw [HCAP.out]; simp, hB7.grown hg8 (by omega) (fun q hq => by cases hq), Got.start l⟩
  case round =>
    obtain ⟨left, cnt, ks, rfl, hrg, hrow, hcnt, hBl, HG⟩ := hrel
    go_wp2_with (first
      | (at_next; refine wpList_next_ranges _ rfl _ rfl 3 lawI (plainElem Try.prog 4) (Value.int .i64) (fun c : Value => c) (fun key kl hk => by obtain ⟨x, hx, _⟩ := Maps.keyOf_int_inv Try.underlying3 hk; exact ⟨x, hx⟩) (fun v y _ => ⟨v, rfl⟩) (w.heap.size + 1 + 1) r l.length _ _ _ rfl hrg ?_ ?_)
      | go_in)
    · intro hc0 hl0
      have hs := HG.out.done hl0
      rcases hrow.2 with ⟨h0, _⟩ | ⟨g', cap', cur, hv, hbase, hb, q1, q2, q3, q4⟩
      · cases h0
      · cases hv
        have hH : Holds (Value.int .i64) wr g 0 ks.toArray := holds_of_blockI hb (by simpa using q4)
        have hgl : g < wr.heap.size := (Array.getElem?_eq_some_iff.1 hb).1
        have hsort := Try.slices_Sort_int g 0 cap ks wr hH hgl (by omega)
        have hl2 : (ks.mergeSort fun x y => decide (x ≤ y)).length = ks.length := List.length_mergeSort ks
        clear hrg hH
        go_wp2_with (go_at_call 79; refine hsort.mono ?_; rintro e w' ⟨rfl, nn, os, rfl⟩)
        go_ret
        have hgs := grownBy_sortedI (w := wr) (g := g) (n := nn) (os := os) (ks.mergeSort fun x y => decide (x ≤ y)).toArray
        have hro := ownsRow_sortedI (n := nn) (os := os) (ts := ks.mergeSort fun x y => decide (x ≤ y)) hl2 hbase hb q1 q2 q3
        rw [hs] at hro hl2 hgs
        rw [← hl2] at hro
        exact ⟨.slice (some ⟨g, 0, none⟩) (insAll l).length cap, (by first | (rw [hl2]; done) | (rw [hl2]; rfl)), Kd.R_of_own hro (fun _ _ => trivial), hBl.grown hgs hBl.size (fun q hq => by cases hq; exact hgb)⟩
    · intro x v kl y y2 w1 cnt1 hkey hlx hval hat hrg1 hlt hg1 hs1 hen
      obtain rfl : kl = litI x := by
        obtain ⟨x', e1, e2, _⟩ := Maps.keyOf_int_inv Try.underlying3 hkey
        cases e1
        exact e2
      have hrow1 := hrow.kept hg1 (by simp [Value.ownBlock, hgr])
      have hB1 := hBl.grown hg1 hBl.size (fun q hq => by cases hq; exact hrw)
      have HG1 := Hid.mk' (HG.out.more x hlx)
      clear hlx hat hval hkey hs1
      go_wp2_with (at_builtin; refine wpList_append_fits _ rfl _ _ 45 rfl w.heap.size 3 i0 1 Try.underlying45 hi hz1 g ks.length cap (ks.map (Value.int .i64)) rfl (hrow1.alloc _) ⟨w1.heap.size, 0, none⟩ 1 1 [.int .i64 x] rfl rfl (cell_one_new _ _ _) (by simp [Value.oneCell']) (by omega) ?_; intro w2 hown2 hg2)
      go_roundw
      case rel => exact ⟨_, cnt1, ks ++ [x], by simp, (hrg1.alloc _).kept hg2 (by simp; omega) (by simp; omega), by simpa using hown2, by simp; omega, (below_alloc hB1 _).grown hg2 (below_alloc hB1 _).size (fun q hq => by cases hq; exact hgb), HG1⟩
      case measure =>
        rw [((hrg1.alloc _).kept hg2 (by simp; omega) (by simp; omega)).left_eq, hrg.left_eq]
        omega
end Go.Proofs.Ytlnoadnejefmoaa.L20
