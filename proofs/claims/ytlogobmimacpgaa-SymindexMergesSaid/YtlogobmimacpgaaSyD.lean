/- Occurrences by their simple names in a map; sorted and compacted groups; the loop over the groups; what the index's cells say. At most 1000000 occurrences. -/
import Derived.Test.YtlogobmimacpgaaSyA
import Derived.Maps.RangeWalk
import Derived.Maps.Views
import Derived.Maps.OwnOps
import Derived.StringKeys
import Derived.Shelf.SlSortCmp.NoneTotal
set_option linter.unusedVariables false
set_option linter.unusedSimpArgs false
namespace Go.Proofs.Ytlogobmimacpgaa.L32
open Go.RowKit Go.Lib Go.Sort Go.Maps Go.Proofs.YtlogobmimacpgaaW.PrintWords
def RV (v : Value) : Option (DataW Value × List MemPlace) := some (.held v, [])
def litN (n : ByteArray) : Lit := .string n.data.toList
def nilV : Value := .slice none 0 0
theorem litN_inj {a b : ByteArray} (h : litN a = litN b) : a = b := by
  unfold litN at h
  injection h with h
  obtain ⟨⟨a⟩⟩ := a
  obtain ⟨⟨b⟩⟩ := b
  simp at h
  rw [h]
theorem keyN (n : ByteArray) : WideAt.IsKeyLit (litN n) := by unfold litN; trivial
def grp (l : List S56) (n : ByteArray) : List S56 := l.filter fun x => decide (keyS x = n)
theorem grp_snoc (l : List S56) (x : S56) (n : ByteArray) : grp (l ++ [x]) n = if keyS x = n then grp l n ++ [x] else grp l n := by
  unfold grp
  rw [List.filter_append]
  by_cases h : keyS x = n <;> simp [List.filter_cons, h]
theorem grp_len (l : List S56) (n : ByteArray) : (grp l n).length ≤ l.length := List.length_filter_le _ _
/-- Block b is a map; under each name it has a slice of the call's own (from block base on) with the occurrences of that name; no two lie in one block. -/
structure Groups (w : World) (base b m : Nat) (l : List S56) (D : DataW Value) (V : ByteArray → Value) : Prop where
  map : w.ownsMap Try.prog 9 RV b m D
  isMap : IsMap D
  has : ∀ n, has D (litN n) = decide (grp l n ≠ [])
  at_ : ∀ n, D.atKey (litN n) (.held nilV) = .held (V n)
  row : ∀ n, w.ownsRow base 56 4 (V n) (grp l n).length (flat encS (grp l n))
  apart : ∀ n q, n ≠ q → (V n).ownBlock = none ∨ (V n).ownBlock ≠ (V q).ownBlock
  above : b < base
theorem Groups.made (w : World) : Groups (w.alloc (.map #[] 0)) (w.heap.size + 1) w.heap.size 0 [] (.map []) (fun _ => nilV) where
  map := World.ownsMap_made _ _ _ _
  isMap := isMap_empty
  has n := rfl
  at_ n := rfl
  row n := World.ownsRow_nil _ _ _ _
  apart n q _ := .inl rfl
  above := Nat.lt_succ_self _
theorem Groups.kept {w w' : World} {base b m : Nat} {l : List S56} {D : DataW Value} {V : ByteArray → Value} (h : Groups w base b m l D V) {row : Option Nat} (hg : w.grownBy w' row) (h1 : some b ≠ row) (h2 : ∀ n, (V n).ownBlock = none ∨ (V n).ownBlock ≠ row) : Groups w' base b m l D V :=
  { h with map := h.map.kept hg h1, row := fun n => (h.row n).kept hg (h2 n) }
theorem Groups.none {w w' : World} {base b m : Nat} {l : List S56} {D : DataW Value} {V : ByteArray → Value} (h : Groups w base b m l D V) (hg : w.grownBy w' none) : Groups w' base b m l D V :=
  h.kept hg (by simp) (fun n => by cases (V n).ownBlock <;> simp)
def setV (V : ByteArray → Value) (n : ByteArray) (v : Value) : ByteArray → Value := fun q => if q = n then v else V q
/-- One occurrence more: what the append and the store leave. -/
theorem Groups.add {w w1 w2 : World} {base b m : Nat} {l : List S56} {D : DataW Value} {V : ByteArray → Value} {v' : Value} (x : S56) (h : Groups w base b m l D V)
    (hg : w.grownBy w1 (V (keyS x)).ownBlock) (hown : w1.ownsRow base 56 4 v' ((grp l (keyS x)).length + 1) (flat encS (grp l (keyS x)) ++ encS x)) (hat : v'.ownBlock = (V (keyS x)).ownBlock ∨ ∃ g, v'.ownBlock = some g ∧ w.heap.size ≤ g)
    (hmap : w2.ownsMap Try.prog 9 RV b (m + 1) (D.put (litN (keyS x)) (.held v'))) (hg2 : w1.grownBy w2 (some b)) :
    Groups w2 base b (m + 1) (l ++ [x]) (D.put (litN (keyS x)) (.held v')) (setV V (keyS x) v') := by
  have hlt : ∀ n k, (V n).ownBlock = some k → base ≤ k ∧ k < w.heap.size := fun n k hk => (h.row n).lt k hk
  have hab := h.above
  have hlt' : ∀ k, v'.ownBlock = some k → base ≤ k := fun k hk => (hown.lt k hk).1
  refine ⟨hmap, h.isMap.put _ _, fun n => ?_, fun n => ?_, fun n => ?_, fun n q hnq => ?_, hab⟩
  · by_cases e : n = keyS x
    · subst e
      rw [has_put_same h.isMap (keyN _), grp_snoc, if_pos rfl]
      simp
    · rw [has_put_other (fun e2 => e (litN_inj e2)), h.has, grp_snoc, if_neg (fun e2 => e e2.symm)]
  · by_cases e : n = keyS x
    · subst e
      rw [atKey_put_same h.isMap (keyN _)]
      simp [setV]
    · rw [atKey_put_other (fun e2 => e (litN_inj e2)), h.at_]
      simp [setV, e]
  · by_cases e : n = keyS x
    · subst e
      rw [grp_snoc, if_pos rfl, flat_app, List.length_append]
      have h1 : flat encS [x] = encS x := by simp [flat]
      rw [h1]
      simp only [setV, if_pos, List.length_singleton]
      refine hown.kept hg2 ?_
      cases hv : v'.ownBlock with
      | none => exact .inl rfl
      | some k => right; intro e; injection e with e; have := hlt' k hv; omega
    · rw [grp_snoc, if_neg (fun e2 => e e2.symm)]
      simp only [setV, if_neg e]
      refine ((h.row n).kept hg (h.apart n (keyS x) e)).kept hg2 ?_
      cases hv : (V n).ownBlock with
      | none => exact .inl rfl
      | some k => right; intro e; injection e with e; have := hlt n k hv; omega
  · by_cases e : n = keyS x
    · subst e
      simp only [setV, if_pos, if_neg (fun e2 : q = keyS x => hnq e2.symm)]
      rcases hat with hat | ⟨g, h1, h2⟩
      · rw [hat]; exact h.apart _ _ hnq
      · rw [h1]
        right
        intro e2
        have := hlt q g e2.symm
        omega
    · by_cases e3 : q = keyS x
      · subst e3
        simp only [setV, if_pos, if_neg e]
        rcases hat with hat | ⟨g, h1, h2⟩
        · rw [hat]; exact h.apart _ _ hnq
        · rw [h1]
          cases hv : (V n).ownBlock with
          | none => exact .inl rfl
          | some k => right; intro e2; injection e2 with e2; have := hlt n k hv; omega
      · simp only [setV, if_neg e, if_neg e3]
        exact h.apart _ _ hnq
theorem lawN : Keyed Try.prog 9 := string_keyed Try.underlying9
section
variable {ops : Array Oper} {rest : List Oper} {o : Oper} {a : Act} {Q : Exit → Act → World → Prop}
theorem wpList_lookupG (w : World) (hg : o.guard = none) (m x : Operand) (t : TypeId) (hop : o.op = Op.lookup t m x false) (ht : Try.prog.underlying t = some (.map 9 35)) (base b k : Nat) (l : List S56) (D : DataW Value) (V : ByteArray → Value)
    (hm : a.eval m = .map (some b)) (hG : Groups w base b k l D V) (n : ByteArray) (hx : a.eval x = .string n) (hn : n.size ≤ maxLen)
    (hK : wpList Try.prog ops Q rest (a.put o.dst (V n)) w) : wpList Try.prog ops Q (o :: rest) a w := by
  refine wpList_plain hg fun K' hK' => ?_
  have hz : (zeroValue 35).run Try.prog w = .ok nilV w := by kernel_rfl
  obtain ⟨v, ps, hrun, hv⟩ := World.ownsMap.lookup hG.map lawN ht hz (show RV nilV = some (.held nilV, []) from rfl) (Go.WideMaps.keyOf_string_mk Try.underlying9 hn)
  have h1 := hG.at_ n
  unfold litN at h1
  rw [h1] at hv
  unfold RV at hv
  simp only [Option.some.injEq, Prod.mk.injEq, DataW.held.injEq] at hv
  obtain ⟨rfl, _⟩ := hv
  unfold Oper.wp
  simp [execOp, hop, hm, hx, hrun, Result.andThen]
  exact hK' _ _ hK
end
end Go.Proofs.Ytlogobmimacpgaa.L32
set_option linter.unusedVariables false
set_option linter.unusedSimpArgs false
namespace Go.Proofs.Ytlogobmimacpgaa.L32
open Go.RowKit Go.Lib Go.Sort Go.Proofs.YtlogobmimacpgaaW.PrintWords Go.Proofs.Ytlogobmimacpgaa.Idx
theorem swo_of {α : Type} {lt : α → α → Bool} (o : Ord lt) : SWO lt := ⟨o.irr, o.tr, fun x y z h1 h2 => by
  cases e : lt x z with
  | false => rfl
  | true =>
    cases e2 : lt y x with
    | true => have := o.tr y x z e2 e; rw [h2] at this; cases this
    | false => rw [o.tot x y h1 e2, h2] at e; cases e⟩
theorem ltOf_cfS : ltOf cfS = ltS := by
  funext x y
  unfold ltOf cfS
  cases h : ltS x y <;> cases h2 : ltS y x <;> simp
theorem swoS : SWO (ltOf cfS) := by rw [ltOf_cfS]; exact swo_of ordS
theorem totS (x y : S56) (h1 : ltOf cfS x y = false) (h2 : ltOf cfS y x = false) : x = y := by rw [ltOf_cfS] at h1 h2; exact ordS.tot x y h1 h2
def sortS (l : List S56) : List S56 := l.mergeSort fun x y => !(ltOf cfS) y x
theorem sortS_len (l : List S56) : (sortS l).length = l.length := List.length_mergeSort l
theorem sortS_mem (l : List S56) (z : S56) : z ∈ sortS l ↔ z ∈ l := List.mem_mergeSort
theorem sortS_up (l : List S56) : (sortS l).Pairwise fun x y => ltS y x = false := by
  have h := List.pairwise_mergeSort (le := fun x y => !(ltOf cfS) y x) (fun a b c h1 h2 => by
    simp only [Bool.not_eq_true'] at h1 h2 ⊢
    exact swoS.ntrans c b a h2 h1) (fun a b => by
    cases h : (ltOf cfS) b a with
    | false => rfl
    | true =>
      cases h2 : (ltOf cfS) a b with
      | false => rfl
      | true => have := swoS.trans a b a h2 h; rw [swoS.irrefl] at this; cases this) l
  refine h.imp fun {x y} hxy => ?_
  rw [ltOf_cfS] at hxy
  simpa using hxy
theorem fold_up : ∀ (m acc : List S56), (acc ++ m).Pairwise (fun x y => ltS y x = false) → Up ltS acc → Up ltS (m.foldl cstep acc) ∧ ∀ z, z ∈ m.foldl cstep acc ↔ z ∈ acc ∨ z ∈ m := by
  intro m
  induction m with
  | nil => intro acc _ h; exact ⟨h, fun z => by simp⟩
  | cons x r ih =>
    intro acc hp hu
    rw [List.foldl_cons]
    have hsub : ∃ a2, cstep acc x = a2 ∧ (a2 ++ r).Pairwise (fun x y => ltS y x = false) ∧ Up ltS a2 ∧ ∀ z, z ∈ a2 ↔ z ∈ acc ∨ z = x := by
      unfold cstep
      cases hl : acc.getLast? with
      | none =>
        have : acc = [] := by simpa using hl
        subst this
        exact ⟨[x], rfl, by simpa using hp, by simp [Up], fun z => by simp⟩
      | some y =>
        obtain ⟨ini, rfl⟩ : ∃ ini, acc = ini ++ [y] := List.getLast?_eq_some_iff.1 hl
        simp only
        have hyx : ltS x y = false := by
          have := List.pairwise_append.1 hp
          exact this.2.2 y (by simp) x (by simp)
        by_cases hs : sameS x y = true
        · rw [if_pos hs]
          have e := (sameS_iff x y).1 hs
          subst e
          refine ⟨_, rfl, ?_, hu, fun z => by simp⟩
          rw [List.append_cons] at hp
          refine hp.sublist ?_
          exact List.Sublist.append (List.sublist_append_left _ _) (List.Sublist.refl _)
        · rw [if_neg hs]
          refine ⟨_, rfl, by rw [← List.append_cons]; exact hp, ?_, fun z => by simp; grind⟩
          have hlt : ltS y x = true := by
            cases e : ltS y x with
            | true => rfl
            | false => exact absurd ((sameS_iff x y).2 (ordS.tot x y hyx e)) hs
          refine List.pairwise_append.2 ⟨hu, by simp, fun a ha b hb => ?_⟩
          obtain rfl : b = x := by simpa using hb
          rcases List.mem_append.1 ha with ha | ha
          · exact ordS.tr a y b ((List.pairwise_append.1 hu).2.2 a ha y (by simp)) hlt
          · obtain rfl : a = y := by simpa using ha
            exact hlt
    obtain ⟨a2, e2, h1, h2, h3⟩ := hsub
    rw [e2]
    obtain ⟨i1, i2⟩ := ih a2 h1 h2
    refine ⟨i1, fun z => ?_⟩
    rw [i2, h3, List.mem_cons, or_assoc]
def cgrp (l : List S56) (n : ByteArray) : List S56 := compactL (sortS (grp l n))
theorem cgrp_up (l : List S56) (n : ByteArray) : Up ltS (cgrp l n) ∧ ∀ z, z ∈ cgrp l n ↔ z ∈ grp l n := by
  obtain ⟨h1, h2⟩ := fold_up (sortS (grp l n)) [] (by simpa using sortS_up _) (by simp [Up])
  refine ⟨h1, fun z => ?_⟩
  have := h2 z
  rw [sortS_mem] at this
  simpa [cgrp, compactL] using this
theorem cgrp_len (l : List S56) (n : ByteArray) : (cgrp l n).length ≤ (grp l n).length := by
  have := compact_le (sortS (grp l n))
  rw [sortS_len] at this
  exact this
theorem index_plain (l : List S56) (ns : List ByteArray) (h1 : ns.Pairwise fun x y => ltN x y = true) (h2 : ∀ n, n ∈ ns ↔ grp l n ≠ []) : ns.map (fun n => (⟨n, cgrp l n⟩ : S58)) = (idxS l).map post := by
  have h : ns.map (fun n => (n, cgrp l n)) = idxS l := by
    refine idx_is ordS ordN l _ ⟨?_, fun p hp => ?_⟩ fun a => ?_
    · rw [List.pairwise_map]; exact h1
    · obtain ⟨n, hn, rfl⟩ := List.mem_map.1 hp
      obtain ⟨u1, u2⟩ := cgrp_up l n
      refine ⟨fun e => ?_, u1, fun a ha => ?_⟩
      · obtain ⟨a, ha⟩ := List.exists_mem_of_ne_nil _ ((h2 n).1 hn)
        have := (u2 a).2 ha
        rw [show cgrp l n = [] from e] at this
        cases this
      · have := (u2 a).1 ha
        unfold grp at this
        simpa using (List.mem_filter.1 this).2
    · constructor
      · rintro ⟨p, hp, ha⟩
        obtain ⟨n, hn, rfl⟩ := List.mem_map.1 hp
        exact (List.mem_filter.1 (((cgrp_up l n).2 a).1 ha)).1
      · intro ha
        have hm : a ∈ grp l (keyS a) := List.mem_filter.2 ⟨ha, by simp⟩
        exact ⟨_, List.mem_map.2 ⟨keyS a, (h2 _).2 (List.ne_nil_of_mem hm), rfl⟩, ((cgrp_up l _).2 a).2 hm⟩
  rw [← h, List.map_map]
  rfl
end Go.Proofs.Ytlogobmimacpgaa.L32
set_option linter.unusedVariables false
set_option linter.unusedSimpArgs false
namespace Go.Proofs.Ytlogobmimacpgaa.L32
open Go.RowKit Go.Lib Go.Sort Go.Shelf Go.Proofs.YtlogobmimacpgaaW.PrintWords Go.Proofs.Ytlogobmimacpgaa.Idx
theorem cmpS_lays (blk off size : Nat) (w : World) : CmpLays Try.prog 47 #[] encS 4 cfS blk off size w := fun m os dk _ x y => compare_w x y _
theorem row4_own {w : World} {base g len cap n : Nat} {ts : List S56} (h : w.ownsRow base 56 4 (.slice (some ⟨g, 0, none⟩) len cap) n (flat encS ts)) : ∃ tl, Row4 w g ts tl := by
  rcases h.2 with ⟨e, _⟩ | ⟨g', cap', cur, e, hbase, hb, h1, h2, h3, h4⟩
  · cases e
  · injection e with e1 e2 e3
    injection e1 with e1
    injection e1 with e1
    subst e1
    refine ⟨cur.toList.drop (flat encS ts).length, ?_⟩
    have h5 : flat encS ts ++ cur.toList.drop (flat encS ts).length = cur.toList := by
      have h6 : cur.toList.take (flat encS ts).length = flat encS ts := by
        rw [h.1]; exact h4
      conv => lhs; arg 1; rw [← h6]
      exact List.take_append_drop _ _
    unfold Row4
    rw [h5, hb]
theorem sort_w (g cap base : Nat) (xs : List S56) (w : World) (hm : xs.length ≤ 1000000) (h : w.ownsRow base 56 4 (.slice (some ⟨g, 0, none⟩) xs.length cap) xs.length (flat encS xs)) :
    Calls Try.prog 46 #[.slice (some ⟨g, 0, none⟩) xs.length cap, .func (.func 47) #[] #[]] w fun e w' => e = .returned (.tuple #[]) ∧ w.grownBy w' (some g) ∧ ∃ tl, Row4 w' g (sortS xs) tl := by
  rcases h.2 with ⟨e, _⟩ | ⟨g', cap', cur, e, hbase, hb, h1, h2, h3, h4⟩
  · cases e
  · injection e with e1 e2 e3
    injection e1 with e1
    injection e1 with e1
    subst e1
    subst e3
    have eg : ∀ args w, (callFunc 47 args).run Try.prog w = .ok (.enter 47 args) w := enters_of Try.func47 (by kernel_rfl) rfl
    have hH : HoldsK encS 4 w g 0 xs.toArray := holdsK_of encS_len hb h4
    have hcon := AnyQ.slices_SortFunc_total Try.sortAt 4 (fun w => by kernel_rfl) (fun w => by kernel_rfl) encS encS_len one_cells cfS swoS 47 #[] g 0 cap xs.toArray w eg (cmpS_lays _ _ _ _) hH (Array.getElem?_eq_some_iff.1 hb).1 (by simp; omega) totS
    change Calls Try.prog 46 _ _ _ at hcon
    refine hcon.mono fun e w' hh => ?_
    obtain ⟨he, n, os, rfl⟩ := hh
    refine ⟨he, grownBy_sortedK _, ?_⟩
    exact row4_own (ownsRow_sortedK (base := base) (cap := cap) (len := xs.length) (ts := sortS xs) encS_len (sortS_len xs) hbase hb h1 h2 h3)
/-! Posts: a name, a slice's block, length and capacity. -/
abbrev P4 := ByteArray × Nat × Nat × Nat
def sl4 (p : P4) : Value := .slice (some ⟨p.2.1, 0, none⟩) p.2.2.1 p.2.2.2
def encP (p : P4) : List Value := [.string p.1, sl4 p]
theorem encP_len (p : P4) : (encP p).length = 2 := rfl
theorem encP_one (p : P4) : ∀ v ∈ encP p, v.oneCell' = true := by
  intro v hv
  simp [encP, sl4] at hv
  rcases hv with rfl | rfl <;> rfl
def cfQ (x y : P4) : Int := if ltN x.1 y.1 then -1 else if ltN y.1 x.1 then 1 else 0
theorem ltOf_cfQ (x y : P4) : ltOf cfQ x y = ltN x.1 y.1 := by
  unfold ltOf cfQ
  cases h : ltN x.1 y.1 <;> cases h2 : ltN y.1 x.1 <;> simp
theorem swoQ : SWO (ltOf cfQ) := ⟨fun x => by rw [ltOf_cfQ]; exact ordN.irr _, fun x y z => by rw [ltOf_cfQ, ltOf_cfQ, ltOf_cfQ]; exact ordN.tr _ _ _, fun x y z => by rw [ltOf_cfQ, ltOf_cfQ, ltOf_cfQ]; exact (swo_of ordN).ntrans _ _ _⟩
theorem cmpQ_lays (blk off size : Nat) (w : World) : CmpLays Try.prog 50 #[] encP 2 cfQ blk off size w := fun m os dk _ x y => comparePost_w ⟨x.1, []⟩ ⟨y.1, []⟩ (sl4 x) (sl4 y) _
theorem sortP_w (g cap base : Nat) (xs : List P4) (w : World) (hm : xs.length ≤ 1000000) (h : w.ownsRow base 58 2 (.slice (some ⟨g, 0, none⟩) xs.length cap) xs.length (flat encP xs)) :
    Calls Try.prog 49 #[.slice (some ⟨g, 0, none⟩) xs.length cap, .func (.func 50) #[] #[]] w fun e w' => e = .returned (.tuple #[]) ∧ w.grownBy w' (some g) ∧ ∃ ys : List P4, ys.Perm xs ∧ ys.Pairwise (fun x y => ltN y.1 x.1 = false) ∧ w'.ownsRow base 58 2 (.slice (some ⟨g, 0, none⟩) xs.length cap) xs.length (flat encP ys) := by
  rcases h.2 with ⟨e, _⟩ | ⟨g', cap', cur, e, hbase, hb, h1, h2, h3, h4⟩
  · cases e
  · injection e with e1 e2 e3
    injection e1 with e1
    injection e1 with e1
    subst e1
    subst e3
    have eg : ∀ args w, (callFunc 50 args).run Try.prog w = .ok (.enter 50 args) w := enters_of Try.func50 (by kernel_rfl) rfl
    have hH : HoldsK encP 2 w g 0 xs.toArray := holdsK_of encP_len hb h4
    have hcon := AnyQ.slices_SortFunc Try.sortPost 2 (fun w => by kernel_rfl) (fun w => by kernel_rfl) encP encP_len encP_one cfQ swoQ 50 #[] g 0 cap xs.toArray w eg (cmpQ_lays _ _ _ _) hH (Array.getElem?_eq_some_iff.1 hb).1 (by simp; omega)
    change Calls Try.prog 49 _ _ _ at hcon
    refine hcon.mono fun e w' hh => ?_
    obtain ⟨he, d', n, os, hp, hs, rfl⟩ := hh
    obtain ⟨p1, p2⟩ := perm_list (by simpa using hp)
    refine ⟨he, grownBy_sortedK _, d'.toList, p1, ?_, ?_⟩
    · rw [List.pairwise_iff_getElem]
      intro i j hi hj hij
      have h5 := hs i j (Nat.zero_le _) hij (by simp at hj ⊢; omega)
      rw [ltOf_cfQ] at h5
      simp at hi hj
      rw [getElem!_pos d' i hi, getElem!_pos d' j hj] at h5
      simpa using h5
    · have h6 := ownsRow_sortedK (base := base) (cap := cap) (len := xs.length) (n := n) (os := os) (ts := d'.toList) encP_len (by simpa using p2) hbase hb h1 h2 h3
      simpa using h6
theorem sortP_none (w : World) : Calls Try.prog 49 #[.slice none 0 0, .func (.func 50) #[] #[]] w fun e w' => e = .returned (.tuple #[]) ∧ w' = w := by
  have hcon := AnyF.slices_SortFunc_none Try.sortPost none 0 (.func (.func 50) #[] #[]) w
  change Calls Try.prog 49 _ _ _ at hcon
  exact hcon
set_option maxHeartbeats 1000000 in
theorem compact_few (A : Option Addr) (n cap : Nat) (w : World) (h : n < 2) :
    Calls Try.prog 48 #[.slice A n cap] w fun e w' => e = .returned (.slice A n cap) ∧ w' = w := by
  have hlt2 : decide ((n : Int) < 2) = true := decide_eq_true (by omega)
  go_enter Try.func48, Try.ntmps48
  go_wp2
  go_ret
  exact ⟨rfl, rfl⟩
theorem compact_own (g cap base : Nat) (xs : List S56) (tl : List Value) (w : World) (hm : xs.length ≤ 1000000) (hcap : xs.length ≤ cap) (hR : Row4 w g xs tl) :
    Calls Try.prog 48 #[.slice (some ⟨g, 0, none⟩) xs.length cap] w fun e w' => e = .returned (.slice (some ⟨g, 0, none⟩) (compactL xs).length cap) ∧ w.grownBy w' (some g) ∧ ∃ ys, ys.length = xs.length ∧ Row4 w' g ys tl ∧ ys.take (compactL xs).length = compactL xs := by
  by_cases h2 : 2 ≤ xs.length
  · exact compact_w g cap xs tl w hm h2 hcap hR
  · refine (compact_few _ _ _ w (by omega)).mono fun e w' hh => ?_
    obtain ⟨rfl, rfl⟩ := hh
    have e : compactL xs = xs := by
      match xs, h2 with
      | [], _ => rfl
      | [x], _ => rfl
      | x :: y :: r, h => simp at h
    rw [e]
    exact ⟨rfl, grownBy_refl _ _, xs, rfl, hR, List.take_length⟩
end Go.Proofs.Ytlogobmimacpgaa.L32
set_option linter.unusedVariables false
set_option linter.unusedSimpArgs false
set_option linter.unusedSectionVars false
namespace Go.Proofs.Ytlogobmimacpgaa.L32
open Go.RowKit Go.Lib Go.Sort Go.Shelf Go.Maps Go.Proofs.YtlogobmimacpgaaW.PrintWords Go.Proofs.Ytlogobmimacpgaa.Idx
theorem compact_grp (l : List S56) (n : ByteArray) (g cap : Nat) (tl : List Value) (w : World) (hm : l.length ≤ 1000000) (hcap : (grp l n).length ≤ cap) (hR : Row4 w g (sortS (grp l n)) tl) :
    Calls Try.prog 48 #[.slice (some ⟨g, 0, none⟩) (grp l n).length cap] w fun e w' => e = .returned (.slice (some ⟨g, 0, none⟩) (cgrp l n).length cap) ∧ w.grownBy w' (some g) ∧ ∃ ys, Row4 w' g ys tl ∧ ys.take (cgrp l n).length = cgrp l n := by
  have hl := grp_len l n
  have h := compact_own g cap 0 (sortS (grp l n)) tl w (by rw [sortS_len]; omega) (by rw [sortS_len]; exact hcap) hR
  rw [sortS_len] at h
  exact h.mono fun e w' ⟨h1, h2, ys, h3, h4, h5⟩ => ⟨h1, h2, ys, h4, h5⟩
structure L2 (wr : World) (base r0 b m : Nat) (l : List S56) (D : DataW Value) (V : ByteArray → Value) (left : Lit → Bool) (cnt : Nat) (u : Value) (xs : List P4) : Prop where
  rg : wr.ranges Try.prog 9 RV b r0 m D left cnt
  row : wr.ownsRow base 58 2 u xs.length (flat encP xs)
  nodup : (xs.map (·.1)).Nodup
  names : ∀ n, n ∈ xs.map (·.1) ↔ grp l n ≠ [] ∧ left (litN n) = false
  todo : ∀ n, left (litN n) = true → wr.ownsRow base 56 4 (V n) (grp l n).length (flat encS (grp l n))
  done : ∀ p ∈ xs, (V p.1).ownBlock = some p.2.1 ∧ p.2.2.1 = (cgrp l p.1).length ∧ p.2.2.1 ≤ p.2.2.2 ∧ ∃ ys tl, Row4 wr p.2.1 ys tl ∧ ys.take p.2.2.1 = cgrp l p.1
  fresh : ∀ k, u.ownBlock = some k → r0 < k
theorem L2.start {w w1 : World} {base b m : Nat} {l : List S56} {D : DataW Value} {V : ByteArray → Value} {cnt : Nat} (h : Groups w base b m l D V) (hrg : w1.ranges Try.prog 9 RV b w.heap.size m D (Maps.has D) cnt) (hg : w.grownBy w1 none) : L2 w1 base w.heap.size b m l D V (Maps.has D) cnt nilV [] where
  rg := hrg
  row := World.ownsRow_nil _ _ _ _
  nodup := by simp
  names n := by
    rw [h.has n]
    simp
  todo n _ := (h.none hg).row n
  done p hp := by cases hp
  fresh k hk := by simp [nilV, Value.ownBlock] at hk
section
variable {wr w1 w3 w4 w5 : World} {base r0 b m : Nat} {l : List S56} {D : DataW Value} {V : ByteArray → Value} {left : Lit → Bool} {cnt cnt1 : Nat} {u u' : Value} {xs : List P4} {n : ByteArray} {g cap : Nat} {ys : List S56} {tl : List Value}
theorem L2.row4 (h : L2 wr base r0 b m l D V left cnt u xs) (hg1 : wr.grownBy w1 (some r0)) (hVn : g < r0) (hg3 : w1.grownBy w3 (some g)) (hg4 : w3.grownBy w4 none) : w4.ownsRow base 58 2 u xs.length (flat encP xs) := by
  have hne : ∀ j, j ≤ r0 → u.ownBlock = none ∨ u.ownBlock ≠ some j := fun j hj => by
    cases hu : u.ownBlock with
    | none => exact .inl rfl
    | some k => right; intro e; injection e with e; have := h.fresh k hu; omega
  refine ((h.row.kept hg1 (hne _ (Nat.le_refl _))).kept hg3 (hne _ (by omega))).kept hg4 ?_
  cases u.ownBlock <;> simp
theorem L2.step (hV : ∀ n k, (V n).ownBlock = some k → base ≤ k ∧ k < r0) (hap : ∀ n q, n ≠ q → (V n).ownBlock = none ∨ (V n).ownBlock ≠ (V q).ownBlock) (hb : b < base) (hbr : base ≤ r0)
    (h : L2 wr base r0 b m l D V left cnt u xs) (hn : left (litN n) = true) (hne : grp l n ≠ []) (hrg1 : w1.ranges Try.prog 9 RV b r0 m D (fun z => left z && !z.sameKey (litN n)) cnt1) (hg1 : wr.grownBy w1 (some r0))
    (hVn : (V n).ownBlock = some g) (hg3 : w1.grownBy w3 (some g)) (hR3 : Row4 w3 g ys tl) (htk : ys.take (cgrp l n).length = cgrp l n) (hcap : (cgrp l n).length ≤ cap) (hg4 : w3.grownBy w4 none) (hg5 : w4.grownBy w5 u.ownBlock)
    (hown : w5.ownsRow base 58 2 u' (xs.length + 1) (flat encP xs ++ encP (n, g, (cgrp l n).length, cap))) (hat : u'.ownBlock = u.ownBlock ∨ ∃ k, u'.ownBlock = some k ∧ r0 < k) :
    L2 w5 base r0 b m l D V (fun z => left z && !z.sameKey (litN n)) cnt1 u' (xs ++ [(n, g, (cgrp l n).length, cap)]) := by
  have hgl := hV n g hVn
  have hr0 : r0 < w1.heap.size := hrg1.lt
  have hs3 := hg3.size
  have hs4 := hg4.size
  have hu : ∀ j, j ≤ r0 → some j ≠ u.ownBlock := fun j hj e => by have := h.fresh j e.symm; omega
  have hkeep : ∀ j, j < wr.heap.size → j < r0 → j ≠ g → w5.heap[j]? = wr.heap[j]? := fun j h1 h2 h3 => by
    rw [hg5.block j (by omega) (hu j (by omega)), hg4.block j (by omega) (by simp), hg3.block j (by omega) (by intro e; injection e with e; exact h3 e), hg1.block j h1 (by intro e; injection e with e; omega)]
  have hwr : r0 < wr.heap.size := h.rg.lt
  have hx : ∀ q, q ≠ n → ∀ k, (V q).ownBlock = some k → k ≠ g := fun q hq k hk e => by
    rcases hap q n hq with e1 | e1
    · rw [hk] at e1; cases e1
    · rw [hk, hVn, e] at e1; exact e1 rfl
  have hlft : ∀ q, q ≠ n → (left (litN q) && !(litN q).sameKey (litN n)) = left (litN q) := fun q hq => by
    have : (litN q).sameKey (litN n) = false := by
      cases e : (litN q).sameKey (litN n) with
      | false => rfl
      | true => exact absurd (litN_inj (WideAt.sameKey_eq e)) hq
    rw [this]; simp
  have hself : (left (litN n) && !(litN n).sameKey (litN n)) = false := by rw [WideAt.sameKey_self (keyN n)]; simp
  have hnn : n ∉ xs.map (·.1) := fun e => by have := ((h.names n).1 e).2; rw [hn] at this; cases this
  refine ⟨?_, ?_, ?_, fun q => ?_, fun q hq => ?_, fun p hp => ?_, fun k hk => ?_⟩
  · exact ((hrg1.kept hg3 (by intro e; injection e with e; omega) (by intro e; injection e with e; omega)).kept hg4 (by simp) (by simp)).kept hg5 (hu b (by omega)) (hu r0 (Nat.le_refl _))
  · rw [flat_app, List.length_append]
    have : flat encP [(n, g, (cgrp l n).length, cap)] = encP (n, g, (cgrp l n).length, cap) := by simp [flat]
    rw [this]
    exact hown
  · rw [List.map_append, List.nodup_append]
    refine ⟨h.nodup, by simp, fun a ha c hc => ?_⟩
    obtain rfl : c = n := by simpa using hc
    intro e
    rw [e] at ha
    exact hnn ha
  · rw [List.map_append, List.mem_append, h.names]
    by_cases e : q = n
    · subst e
      simp only [hself]
      simp [hne]
    · simp only [hlft q e]
      simp [e]
  · have e : q ≠ n := fun e => by rw [e, hself] at hq; cases hq
    rw [hlft q e] at hq
    have h1 := h.todo q hq
    rcases h1.2 with ⟨hnil, h0⟩ | ⟨g', cap', cur, hv, hbase, hb', rest⟩
    · exact ⟨h1.1, .inl ⟨hnil, h0⟩⟩
    · have hk : (V q).ownBlock = some g' := by rw [hv]; rfl
      have h2 := (Array.getElem?_eq_some_iff.1 hb').1
      exact ⟨h1.1, .inr ⟨g', cap', cur, hv, hbase, by rw [hkeep g' h2 (hV q g' hk).2 (hx q e g' hk)]; exact hb', rest⟩⟩
  · rcases List.mem_append.1 hp with hp | hp
    · obtain ⟨h1, h2, h3, ys', tl', h4, h5⟩ := h.done p hp
      have e : p.1 ≠ n := fun e => hnn (by rw [← e]; exact List.mem_map.2 ⟨p, hp, rfl⟩)
      have h6 := (Array.getElem?_eq_some_iff.1 h4).1
      refine ⟨h1, h2, h3, ys', tl', ?_, h5⟩
      unfold Row4
      rw [hkeep _ h6 (hV _ _ h1).2 (hx _ e _ h1)]
      exact h4
    · obtain rfl : p = (n, g, (cgrp l n).length, cap) := by simpa using hp
      refine ⟨hVn, rfl, hcap, ys, tl, ?_, htk⟩
      unfold Row4
      have h6 := (Array.getElem?_eq_some_iff.1 hR3).1
      rw [hg5.block g (by omega) (hu g (by omega)), hg4.block g h6 (by simp)]
      exact hR3
  · rcases hat with hat | ⟨k', h1, h2⟩
    · rw [hat] at hk; exact h.fresh k hk
    · rw [h1] at hk; injection hk with hk; omega
theorem keyN_inv {key : Value} {kl : Lit} (h : keyOf Try.prog 9 key = some kl) : ∃ s, key = .string s ∧ kl = litN s := by
  have hk := Try.underlying9
  cases key <;> simp [keyOf, hk, mapKey] at h
  exact ⟨_, rfl, h.2.symm⟩
end
section
variable {ops : Array Oper} {rest : List Oper} {o : Oper} {a : Act} {Q : Exit → Act → World → Prop}
theorem wpList_nextG (w : World) (hg : o.guard = none) (it : Operand) (hop : o.op = Op.next it false) {base r0 b m : Nat} {l : List S56} {D : DataW Value} {V : ByteArray → Value} {left : Lit → Bool} {cnt : Nat} {u : Value} {xs : List P4}
    (hit : a.eval it = .pointer (some ⟨r0, 0, none⟩)) (hL : L2 w base r0 b m l D V left cnt u xs) (hat : ∀ n, D.atKey (litN n) (.held nilV) = .held (V n)) (hhas : ∀ n, has D (litN n) = decide (grp l n ≠ []))
    (hDone : (∀ kl, left kl = false) → wpList Try.prog ops Q rest (a.put o.dst (.tuple #[.bool false])) w)
    (hMore : ∀ (n : ByteArray) (g cap : Nat) (w' : World) (cnt' : Nat), left (litN n) = true → grp l n ≠ [] → V n = .slice (some ⟨g, 0, none⟩) (grp l n).length cap → (grp l n).length ≤ cap → w'.ownsRow base 56 4 (.slice (some ⟨g, 0, none⟩) (grp l n).length cap) (grp l n).length (flat encS (grp l n)) → g ≠ r0 →
      w'.ranges Try.prog 9 RV b r0 m D (fun z => left z && !z.sameKey (litN n)) cnt' → cnt' < cnt → w.grownBy w' (some r0) → w'.heap.size = w.heap.size → (Instr.entry (.pointer (some ⟨r0, 0, none⟩))).run Try.prog w' = .ok (.tuple #[.string n, .slice (some ⟨g, 0, none⟩) (grp l n).length cap]) w' →
      wpList Try.prog ops Q rest (a.put o.dst (.tuple #[.bool true, .string n, .slice (some ⟨g, 0, none⟩) (grp l n).length cap])) w') (hV : ∀ n k, (V n).ownBlock = some k → k < r0) :
    wpList Try.prog ops Q (o :: rest) a w := by
  refine wpList_next_ranges w hg it hop 9 lawN RV Value.string (fun v => v) (fun key kl h => by obtain ⟨s, h1, _⟩ := keyN_inv h; exact ⟨s, h1⟩) (fun v y _ => ⟨v, rfl⟩) b r0 m D left cnt hit hL.rg (fun _ h => hDone h) ?_
  intro n c kl y w' cnt' hkey hlk hv hatk hrg hlt hgr hsz hen
  obtain ⟨s, h1, rfl⟩ := keyN_inv hkey
  cases h1
  unfold RV at hv
  simp only [Option.some.injEq] at hv
  subst hv
  have h2 := hatk (.held nilV)
  rw [hat n] at h2
  have hc : V n = c := by injection h2
  have h3 := has_true_of_atKey hatk
  rw [hhas n, decide_eq_true_eq] at h3
  have h4 := hL.todo n hlk
  rcases h4.2 with ⟨_, h0⟩ | ⟨g, cap, cur, hvn, hbase, hb', hc1, rest'⟩
  · exact absurd (List.eq_nil_of_length_eq_zero h0) h3
  · have hgr0 : g < r0 := hV n g (by rw [hvn]; rfl)
    have h5 := h4.kept hgr (.inr (by rw [hvn]; intro e; have e : g = r0 := Option.some.inj e; omega))
    have hce : c = .slice (some ⟨g, 0, none⟩) (grp l n).length cap := by rw [← hc, hvn]
    simp only [hce] at hen ⊢
    rw [hvn] at h5
    exact hMore n g cap w' cnt' hlk h3 hvn hc1 h5 (by omega) hrg hlt hgr hsz hen
end
end Go.Proofs.Ytlogobmimacpgaa.L32
set_option linter.unusedVariables false
set_option linter.unusedSimpArgs false
namespace Go.Proofs.Ytlogobmimacpgaa.L32
open Go.RowKit Go.Lib Go.Sort Go.Shelf Go.Maps Go.Proofs.YtlogobmimacpgaaW.PrintWords Go.Proofs.Ytlogobmimacpgaa.Idx
theorem row4_C {w : World} {g n : Nat} {ys xs : List S56} {tl : List Value} (h : Row4 w g ys tl) (hn : n = xs.length) (ht : ys.take n = xs) (hl : n ≤ 1000000) : Kd.C k56 w (some ⟨g, 0, none⟩) n xs := by
  refine ⟨hn.symm, by omega, fun _ => ⟨_, rfl, fun j p hj => ⟨encS p, rfl, k56_mk w p, fun i u hu => ?_⟩⟩⟩
  have hjl := (List.getElem?_eq_some_iff.1 hj).1
  have h1 : ys[j]? = some p := by
    rw [← hj, ← ht, List.getElem?_take, if_pos (by omega)]
  obtain ⟨c0, c1, c2, c3⟩ := h.at j p h1
  have hil : i < 4 := (List.getElem?_eq_some_iff.1 hu).1
  have ha : (⟨g, 0, none⟩ : Addr).add (j * k56.sz + i) = ⟨g, j * 4 + i, none⟩ := by
    have : k56.sz = 4 := rfl
    rw [this]
    unfold Addr.add
    split
    · rename_i hh; simp [hh] 
    · simp
  rw [ha]
  match i, hil, hu with
  | 0, _, hu => rw [← hu]; exact c0
  | 1, _, hu => rw [← hu]; exact c1
  | 2, _, hu => rw [← hu]; exact c2
  | 3, _, hu => rw [← hu]; exact c3
theorem row4_F {w : World} {g n : Nat} {ok : Nat → Prop} {ys xs : List S56} {tl : List Value} (h : Row4 w g ys tl) (hn : n = xs.length) (ht : ys.take n = xs) (hl : n ≤ 1000000) (hok : ok g) : Kd.F k56 w ok (some ⟨g, 0, none⟩) n xs := fun W' hW => by
  have h1 := (Array.getElem?_eq_some_iff.1 h).1
  have h2 : Row4 W' g ys tl := by unfold Row4; rw [hW g hok h1]; exact h
  exact row4_C h2 hn ht hl
theorem posts_N {w : World} {base0 base : Nat} {l : List S56} {u : Value} {ps : List P4} (hb0 : base0 ≤ base) (hl : l.length ≤ 1000000) (hrow : w.ownsRow base 58 2 u ps.length (flat encP ps))
    (hd : ∀ p ∈ ps, p.2.2.1 = (cgrp l p.1).length ∧ p.2.2.1 ≤ p.2.2.2 ∧ base0 ≤ p.2.1 ∧ some p.2.1 ≠ u.ownBlock ∧ ∃ ys tl, Row4 w p.2.1 ys tl ∧ ys.take p.2.2.1 = cgrp l p.1) :
    Kd.N k58 58 w base0 (fun k => base0 ≤ k) u (ps.map fun p => ⟨p.1, cgrp l p.1⟩) := by
  have hrow0 := own_weaken hrow hb0
  refine ⟨fun k hk => (hrow0.lt k hk).1, ps.map encP, by simp, ⟨fun k hk => hk.symm, flat encP ps, by rw [List.length_map]; exact hrow0, ?_⟩, fun j x c hx hc => ?_⟩
  · refine ⟨by rw [flat_len encP_len, List.length_map]; rfl, fun j p hj => ?_⟩
    rw [List.getElem?_map] at hj
    cases hq : ps[j]? with
    | none => rw [hq] at hj; cases hj
    | some q =>
      rw [hq] at hj
      have hjl := (List.getElem?_eq_some_iff.1 hq).1
      have hp : encP q = p := by simpa using hj
      subst hp
      have e : ((flat encP ps).drop (j * 2)).take 2 = encP q := by
        have h1 : ps = ps.take j ++ q :: ps.drop (j + 1) := by
          have h2 := List.getElem?_eq_some_iff.1 hq
          obtain ⟨h3, h4⟩ := h2
          rw [← h4]
          simp
        have h5 : (flat encP (ps.take j)).length = j * 2 := by rw [flat_len encP_len, List.length_take, Nat.min_eq_left (by omega)]
        conv => lhs; rw [h1, flat_app, flat_cons]
        rw [List.drop_left' h5, List.take_left' (encP_len q)]
      show (fun (x cs : List Value) => cs = x ∧ cs.length = 2 ∧ ∀ u ∈ cs, u.oneCell' = true) _ _
      exact ⟨e, by show (((flat encP ps).drop (j * 2)).take 2).length = 2; rw [e]; rfl, by show ∀ u ∈ ((flat encP ps).drop (j * 2)).take 2, _; rw [e]; exact encP_one q⟩
  · rw [List.getElem?_map] at hx hc
    cases hq : ps[j]? with
    | none => rw [hq] at hx; cases hx
    | some q =>
      rw [hq] at hx hc
      have hx : (⟨q.1, cgrp l q.1⟩ : S58) = x := by simpa using hx
      have hc : encP q = c := by simpa using hc
      subst hx hc
      obtain ⟨h1, h2, h3, h4, ys, tl, h5, h6⟩ := hd q (List.mem_of_getElem? hq)
      have hgl := cgrp_len l q.1
      have hgl2 := grp_len l q.1
      have := k58_mkF w (fun k => base0 ≤ k ∧ some k ≠ u.ownBlock) (⟨q.1, cgrp l q.1⟩ : S58) (A1 := some ⟨q.2.1, 0, none⟩) (c1 := q.2.2.2) (by show (cgrp l q.1).length ≤ _; omega) (row4_F h5 rfl (by rw [← h1]; exact h6) (by show (cgrp l q.1).length ≤ _; omega) ⟨h3, h4⟩)
      unfold encP sl4
      rw [h1]
      exact this
theorem names_len {l : List S56} {xs : List P4} (h1 : (xs.map (·.1)).Nodup) (h2 : ∀ n ∈ xs.map (·.1), grp l n ≠ []) : xs.length ≤ l.length := by
  have h3 : xs.map (·.1) ⊆ l.map keyS := fun n hn => by
    obtain ⟨a, ha⟩ := List.exists_mem_of_ne_nil _ (h2 n hn)
    obtain ⟨h4, h5⟩ := List.mem_filter.1 ha
    exact List.mem_map.2 ⟨a, h4, by simpa using h5⟩
  have := h1.length_le_of_subset h3
  simpa using this
/-- The end: the posts sorted by their names. -/
theorem L2.end_ {wr w' : World} {base0 base r0 b m : Nat} {l : List S56} {D : DataW Value} {V : ByteArray → Value} {left : Lit → Bool} {cnt : Nat} {u : Value} {xs ps : List P4} (hL : L2 wr base r0 b m l D V left cnt u xs) (hl0 : ∀ kl, left kl = false) (hb0 : base0 ≤ base) (hl : l.length ≤ 1000000)
    (hV : ∀ n k, (V n).ownBlock = some k → base ≤ k ∧ k < r0) (hg : wr.grownBy w' u.ownBlock) (hp : ps.Perm xs) (hs : ps.Pairwise fun x y => ltN y.1 x.1 = false) (hrow : w'.ownsRow base 58 2 u xs.length (flat encP ps)) :
    Kd.N k58 58 w' base0 (fun k => base0 ≤ k) u ((idxS l).map post) := by
  have hnd : (ps.map (·.1)).Nodup := (hp.map _).nodup_iff.2 hL.nodup
  rw [← index_plain l (ps.map (·.1)) ?_ ?_, List.map_map]
  · refine posts_N hb0 hl (by rw [hp.length_eq]; exact hrow) fun p hpm => ?_
    obtain ⟨h1, h2, h3, ys, tl, h4, h5⟩ := hL.done p (hp.mem_iff.1 hpm)
    have h6 := hV _ _ h1
    have h7 : some p.2.1 ≠ u.ownBlock := fun e => by have := hL.fresh _ e.symm; omega
    refine ⟨h2, h3, by omega, h7, ys, tl, ?_, h5⟩
    unfold Row4
    rw [hg.block _ (Array.getElem?_eq_some_iff.1 h4).1 h7]
    exact h4
  · rw [List.pairwise_map]
    have h8 : ps.Pairwise fun x y => x.1 ≠ y.1 := by
      rw [List.nodup_iff_pairwise_ne, List.pairwise_map] at hnd
      exact hnd
    refine (hs.and h8).imp fun {x y} hxy => ?_
    cases e : ltN x.1 y.1 with
    | true => rfl
    | false => exact absurd (ordN.tot _ _ e hxy.1) hxy.2
  · intro n
    rw [(hp.map _).mem_iff, hL.names]
    simp [hl0]
end Go.Proofs.Ytlogobmimacpgaa.L32
