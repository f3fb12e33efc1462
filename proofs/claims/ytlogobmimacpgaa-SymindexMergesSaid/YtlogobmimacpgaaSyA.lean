/- Comparing, sorting in place and compacting occurrences. Rows of at most 1000000 elements. -/
import Derived.Test.YtlogobmimacpgaaSy0
import Derived.Test.YtlogobmimacpgaaShelf
import Derived.Shelf.SlSortCmp.QuietGrown
import Derived.Deep.RegionHeld3
import Derived.RegionTactic
import Derived.BigRegion
import Derived.Sort.OwnSortedInts
import Derived.Maps.AppendAt
import Derived.Laws.OwnMore
import Derived.Test.YtlogobmimacpgaaL32x1
set_option linter.unusedVariables false
set_option linter.unusedSimpArgs false
namespace Go.Proofs.Ytlogobmimacpgaa.L32
open Go.RowKit Go.Lib Go.Sort Go.Proofs.YtlogobmimacpgaaW.PrintWords Go.Proofs.Ytlogobmimacpgaa.Idx
theorem Hid.mk' {p : Prop} (h : p) : Hid p := h
theorem Hid.out {p : Prop} (h : Hid p) : p := h
def cmpL : List Int → List Int → Int
  | x :: xs, y :: ys => if x = y then cmpL xs ys else compareInt x y
  | _, _ => 0
theorem ret_int {k : IntKind} {a b : Int} (h : a = b) : Ending.returned (.int k a) = .returned (.int k b) := by rw [h]
theorem cmpI_eq (x : Int) : compareInt x x = 0 := by unfold compareInt; simp
theorem cmpI_ne {x y : Int} (h : x ≠ y) : compareInt x y ≠ 0 := by unfold compareInt; split <;> (try split) <;> omega
theorem drop_at (l : List Int) (k : Nat) (h : k < l.length) : l.drop k = l.getD k 0 :: l.drop (k + 1) := by
  rw [List.drop_eq_getElem_cons h, List.getD_eq_getElem?_getD, List.getElem?_eq_getElem h]
  rfl
set_option maxHeartbeats 1000000 in
theorem slCompare (g h : Nat) (xs ys : List Int) (c d : Nat) (w : World) (hl : ys.length = xs.length) (hm : xs.length ≤ 1000) (hx : ∀ j, j < xs.length → w.cell? ⟨g, j, none⟩ = some (.int .i64 (xs.getD j 0))) (hy : ∀ j, j < xs.length → w.cell? ⟨h, j, none⟩ = some (.int .i64 (ys.getD j 0))) :
    Calls Try.prog 61 #[.slice (some ⟨g, 0, none⟩) xs.length c, .slice (some ⟨h, 0, none⟩) xs.length d] w fun e w' => e = .returned (.int .i64 (cmpL xs ys)) ∧ w' = w := by
  obtain ⟨r, hr⟩ : ∃ r, cmpL xs ys = r := ⟨_, rfl⟩
  rw [hr]
  have HR := Hid.mk' hr
  have HX := Hid.mk' hx
  have HY := Hid.mk' hy
  have HL := Hid.mk' hl
  clear hr hx hy hl
  go_enter Try.func61, Try.ntmps61
  go_wp2
  go_loop [11] (fun i => ∃ k : Nat, k ≤ xs.length ∧ i = .int .i64 k ∧ Hid (cmpL (xs.drop k) (ys.drop k) = r)) (fun i => xs.length - (intOf i).toNat)
  case atStart => exact ⟨0, Nat.zero_le _, rfl, Hid.mk' (by rw [List.drop_zero, List.drop_zero]; exact HR.out)⟩
  case round =>
    obtain ⟨k, hk, rfl, hrest⟩ := hrel
    by_cases hlt : k < xs.length
    · have hlti : (k : Int) < xs.length := by omega
      have c1 := HX.out k hlt
      have c2 := HY.out k hlt
      have e1 := drop_at xs k hlt
      have e2 := drop_at ys k (by rw [HL.out]; exact hlt)
      obtain ⟨x, hx⟩ : ∃ x, xs.getD k 0 = x := ⟨_, rfl⟩
      obtain ⟨y, hy⟩ : ∃ y, ys.getD k 0 = y := ⟨_, rfl⟩
      rw [hx] at c1 e1
      rw [hy] at c2 e2
      have hst := hrest.out
      rw [e1, e2, cmpL] at hst
      obtain ⟨cc, hcc⟩ : ∃ cc, compareInt x y = cc := ⟨_, rfl⟩
      by_cases e : x = y
      · rw [if_pos e] at hst
        have h0 : cc = 0 := by rw [← hcc, e]; exact cmpI_eq y
        rw [h0] at hcc
        have HST := Hid.mk' hst
        have HCC := Hid.mk' hcc
        clear hst hcc h0 hx hy e1 e2 e
        go_wp2_with (go_at_call 84; refine (Try.cmp_Compare_int _ _ _).mono ?_; rw [HCC.out]; rintro e w' ⟨rfl, rfl⟩)
        go_round
        case rel => exact ⟨k + 1, by omega, by go_num, HST⟩
        case measure => simp [intOf]; omega
      · rw [if_neg e] at hst
        have h0 : cc ≠ 0 := by rw [← hcc]; exact cmpI_ne e
        have h1 : (cc != 0) = true := by simpa using h0
        have HST := Hid.mk' hst
        have HCC := Hid.mk' hcc
        clear hst hcc h0 hx hy e1 e2 e
        go_wp2_with (go_at_call 84; refine (Try.cmp_Compare_int _ _ _).mono ?_; rw [HCC.out]; rintro e w' ⟨rfl, rfl⟩)
        go_ret
        exact ⟨ret_int (by rw [← HST.out, HCC.out]), rfl⟩
    · have hst := hrest.out
      rw [List.drop_of_length_le (by omega), List.drop_of_length_le (by have := HL.out; omega)] at hst
      have HST := Hid.mk' hst
      clear hst
      go_wp2
      go_ret
      exact ⟨ret_int HST.out, rfl⟩
end Go.Proofs.Ytlogobmimacpgaa.L32
namespace Go.Proofs.Ytlogobmimacpgaa.L32
open Go.RowKit Go.Lib Go.Sort Go.Proofs.YtlogobmimacpgaaW.PrintWords Go.Proofs.Ytlogobmimacpgaa.Idx
/-! Signs. -/
theorem cmpB_eq : ∀ (a b : List UInt8), compareBytes a b = if Op.bytesLess a b then -1 else if Op.bytesLess b a then 1 else 0
  | [], [] => rfl
  | [], _ :: _ => rfl
  | _ :: _, [] => rfl
  | a :: p, b :: q => by
    unfold compareBytes Op.bytesLess
    by_cases h1 : a < b
    · simp [h1]
    · by_cases h2 : b < a
      · have hne : a ≠ b := fun e => by subst e; exact h1 h2
        simp [h1, h2, hne]
      · have e : a = b := by
          have g1 := h1
          have g2 := h2
          rw [UInt8.lt_iff_toNat_lt] at g1 g2
          exact UInt8.toNat_inj.1 (by omega)
        subst e
        rw [cmpB_eq p q]
        simp [h1]
theorem cmpS_ltN (a b : ByteArray) : compareBytes a.data.toList b.data.toList = if ltN a b then -1 else if ltN b a then 1 else 0 := by
  rw [cmpB_eq]
  unfold ltN
  rw [Lib.toList_data, Lib.toList_data]
def signI (x y : Int) : Int := if x < y then -1 else if y < x then 1 else 0
theorem cmpI_sign (x y : Int) : compareInt x y = signI x y := by unfold compareInt signI; rfl
def ints3 (x : S56) : List Int := [x.f0, x.f1, x.f2]
theorem cf_ne (x y : S56) (h : cmpL (ints3 x) (ints3 y) ≠ 0) : cfS x y = cmpL (ints3 x) (ints3 y) := by
  unfold cfS ltS ltA occ
  simp only [ints3, cmpL, cmpI_sign, signI] at h ⊢
  by_cases h0 : x.f0 = y.f0
  · by_cases h1 : x.f1 = y.f1
    · by_cases h2 : x.f2 = y.f2
      · simp [h0, h1, h2] at h
      · by_cases h3 : x.f2 < y.f2
        · simp [h0, h1, h2, h3]
        · have h4 : y.f2 < x.f2 := by omega
          have h5 : ¬ y.f2 = x.f2 := fun e => h2 e.symm
          simp [h0, h1, h2, h3, h4, h5]
    · by_cases h3 : x.f1 < y.f1
      · simp [h0, h1, h3]
      · have h4 : y.f1 < x.f1 := by omega
        have h5 : ¬ y.f1 = x.f1 := fun e => h1 e.symm
        simp [h0, h1, h3, h4, h5]
  · by_cases h3 : x.f0 < y.f0
    · simp [h0, h3]
    · have h4 : y.f0 < x.f0 := by omega
      have h5 : ¬ y.f0 = x.f0 := fun e => h0 e.symm
      simp [h0, h3, h4, h5]
theorem signI_zero (x y : Int) (h : signI x y = 0) : x = y := by unfold signI at h; split at h <;> (try split at h) <;> omega
theorem cf_eq (x y : S56) (h : cmpL (ints3 x) (ints3 y) = 0) : cfS x y = compareBytes x.f3.data.toList y.f3.data.toList := by
  simp only [ints3, cmpL, cmpI_sign] at h
  have e0 : x.f0 = y.f0 := by
    by_cases e : x.f0 = y.f0
    · exact e
    · rw [if_neg e] at h; exact signI_zero _ _ h
  rw [if_pos e0] at h
  have e1 : x.f1 = y.f1 := by
    by_cases e : x.f1 = y.f1
    · exact e
    · rw [if_neg e] at h; exact signI_zero _ _ h
  rw [if_pos e1] at h
  have e2 : x.f2 = y.f2 := by
    by_cases e : x.f2 = y.f2
    · exact e
    · rw [if_neg e] at h; exact signI_zero _ _ h
  rw [cmpS_ltN]
  unfold cfS ltS ltA occ
  simp [e0, e1, e2]
theorem slCompare3 (g h : Nat) (x y : S56) (w : World) (c : Int) (hc : Hid (cmpL (ints3 x) (ints3 y) = c)) (x0 : w.cell? ⟨g, 0, none⟩ = some (.int .i64 x.f0)) (x1 : w.cell? ⟨g, 1, none⟩ = some (.int .i64 x.f1)) (x2 : w.cell? ⟨g, 2, none⟩ = some (.int .i64 x.f2))
    (y0 : w.cell? ⟨h, 0, none⟩ = some (.int .i64 y.f0)) (y1 : w.cell? ⟨h, 1, none⟩ = some (.int .i64 y.f1)) (y2 : w.cell? ⟨h, 2, none⟩ = some (.int .i64 y.f2)) :
    Calls Try.prog 61 #[.slice (some ⟨g, 0, none⟩) 3 3, .slice (some ⟨h, 0, none⟩) 3 3] w fun e w' => e = .returned (.int .i64 c) ∧ w' = w := by
  have hcon := slCompare g h (ints3 x) (ints3 y) 3 3 w rfl (by simp [ints3]) (fun j hj => by
    match j, hj with
    | 0, _ => exact x0
    | 1, _ => exact x1
    | 2, _ => exact x2) (fun j hj => by
    match j, hj with
    | 0, _ => exact y0
    | 1, _ => exact y1
    | 2, _ => exact y2)
  rw [hc.out] at hcon
  exact hcon
set_option maxHeartbeats 4000000 in
theorem compare_w (x y : S56) (w : World) :
    Calls Try.prog 47 #[.agg #[.int .i64 x.f0, .int .i64 x.f1, .int .i64 x.f2, .string x.f3], .agg #[.int .i64 y.f0, .int .i64 y.f1, .int .i64 y.f2, .string y.f3]] w fun e w' => e = .returned (.int .i64 (cfS x y)) ∧ ∃ q os', w' = grow (w.drewN q) os' := by
  obtain ⟨c, hc⟩ : ∃ c, cmpL (ints3 x) (ints3 y) = c := ⟨_, rfl⟩
  obtain ⟨r, hr⟩ : ∃ r, cfS x y = r := ⟨_, rfl⟩
  rw [hr]
  by_cases e : c = 0
  · have hr2 : compareBytes x.f3.data.toList y.f3.data.toList = r := by rw [← cf_eq x y (by rw [hc, e]), hr]
    subst e
    have HC := Hid.mk' hc
    have HR := Hid.mk' hr2
    clear hr hr2 hc
    go_enter Try.func47, Try.ntmps47
    go_wp2
    go_region_held3 (fun w' => w'.cell? ⟨w.heap.size, 0, none⟩ = some (.int .i64 x.f0) ∧ w'.cell? ⟨w.heap.size, 1, none⟩ = some (.int .i64 x.f1) ∧ w'.cell? ⟨w.heap.size, 2, none⟩ = some (.int .i64 x.f2) ∧ w'.cell? ⟨w.heap.size + 1, 0, none⟩ = some (.int .i64 y.f0) ∧ w'.cell? ⟨w.heap.size + 1, 1, none⟩ = some (.int .i64 y.f1) ∧ w'.cell? ⟨w.heap.size + 1, 2, none⟩ = some (.int .i64 y.f2))
      (go_keep) (fail)
    all_goals
      go_wp2_with (first
        | (go_at_call 61; refine (slCompare3 _ _ x y _ 0 HC (by go_simp) (by go_simp) (by go_simp) (by go_simp) (by go_simp) (by go_simp)).mono ?_; rintro e w' ⟨rfl, rfl⟩)
        | (go_at_call 51; refine (Try.strings_Compare _ _ _).mono ?_; rw [HR.out]; rintro e w' ⟨rfl, rfl⟩))
      go_ret
      exact ⟨rfl, 1, _, by simp only [alloc_eq_grow, grow_grow]; rfl⟩
  · have hr2 : c = r := by rw [← hr, cf_ne x y (by rw [hc]; exact e), hc]
    subst hr2
    have h1 : (c != 0) = true := by simpa using e
    have HC := Hid.mk' hc
    clear hr hc e
    go_enter Try.func47, Try.ntmps47
    go_wp2
    go_region_held3 (fun w' => w'.cell? ⟨w.heap.size, 0, none⟩ = some (.int .i64 x.f0) ∧ w'.cell? ⟨w.heap.size, 1, none⟩ = some (.int .i64 x.f1) ∧ w'.cell? ⟨w.heap.size, 2, none⟩ = some (.int .i64 x.f2) ∧ w'.cell? ⟨w.heap.size + 1, 0, none⟩ = some (.int .i64 y.f0) ∧ w'.cell? ⟨w.heap.size + 1, 1, none⟩ = some (.int .i64 y.f1) ∧ w'.cell? ⟨w.heap.size + 1, 2, none⟩ = some (.int .i64 y.f2))
      (go_keep) (fail)
    all_goals
      go_wp2_with (go_at_call 61; refine (slCompare3 _ _ x y _ c HC (by go_simp) (by go_simp) (by go_simp) (by go_simp) (by go_simp) (by go_simp)).mono ?_; rintro e w' ⟨rfl, rfl⟩)
      go_ret
      exact ⟨rfl, 1, _, by simp only [alloc_eq_grow, grow_grow]; rfl⟩
set_option maxHeartbeats 1000000 in
theorem comparePost_w (x y : S58) (u v : Value) (w : World) :
    Calls Try.prog 50 #[.agg #[.string x.f0, u], .agg #[.string y.f0, v]] w fun e w' => e = .returned (.int .i64 (cfP x y)) ∧ ∃ q os', w' = grow (w.drewN q) os' := by
  obtain ⟨r, hr⟩ : ∃ r, cfP x y = r := ⟨_, rfl⟩
  rw [hr]
  have HR : Hid (compareBytes x.f0.data.toList y.f0.data.toList = r) := Hid.mk' (by rw [cmpS_ltN, ← hr]; rfl)
  clear hr
  go_enter Try.func50, Try.ntmps50
  go_wp2_with (go_at_call 51; refine (Try.strings_Compare _ _ _).mono ?_; rw [HR.out]; rintro e w' ⟨rfl, rfl⟩)
  go_ret
  exact ⟨rfl, 0, _, by simp only [alloc_eq_grow, grow_grow]; rfl⟩
end Go.Proofs.Ytlogobmimacpgaa.L32
set_option linter.unusedVariables false
set_option linter.unusedSimpArgs false
set_option linter.unusedSectionVars false
namespace Go.Proofs.Ytlogobmimacpgaa.L32
open Go.RowKit Go.Lib Go.Sort
section
variable {α : Type} [Inhabited α] {enc : α → List Value} {k : Nat}
def flat (enc : α → List Value) (xs : List α) : List Value := xs.flatMap enc
theorem flat_cons (x : α) (r : List α) : flat enc (x :: r) = enc x ++ flat enc r := by simp [flat]
theorem flat_app (xs ys : List α) : flat enc (xs ++ ys) = flat enc xs ++ flat enc ys := by simp [flat]
theorem flat_len (hk : ∀ x, (enc x).length = k) : ∀ xs : List α, (flat enc xs).length = xs.length * k
  | [] => by simp [flat]
  | x :: r => by rw [flat_cons, List.length_append, hk, flat_len hk r, List.length_cons, Nat.add_mul]; omega
theorem flat_get (hk : ∀ x, (enc x).length = k) (hk0 : 0 < k) : ∀ (xs : List α) (t : Nat), t < xs.length * k → (flat enc xs)[t]? = (enc (xs[t / k]?.getD default))[t % k]?
  | [], t, h => by simp at h
  | x :: r, t, h => by
    rw [flat_cons]
    by_cases ht : t < k
    · rw [List.getElem?_append_left (by rw [hk]; exact ht), Nat.div_eq_of_lt ht, Nat.mod_eq_of_lt ht]
      rfl
    · rw [List.getElem?_append_right (by rw [hk]; omega), hk]
      have h2 : t - k < r.length * k := by rw [List.length_cons, Nat.add_mul] at h; omega
      rw [flat_get hk hk0 r (t - k) h2]
      have e1 : t / k = (t - k) / k + 1 := by rw [Nat.div_eq_sub_div hk0 (by omega)]
      have e2 : t % k = (t - k) % k := Nat.mod_eq_sub_mod (by omega)
      rw [e1, e2, List.getElem?_cons_succ]
theorem flatK_list (hk : ∀ x, (enc x).length = k) (xs : List α) : (flatK enc k xs.toArray).toList = flat enc xs := by
  rcases Nat.eq_zero_or_pos k with h0 | hk0
  · subst h0
    have h1 : (flat enc xs).length = 0 := by rw [flat_len hk]; omega
    rw [List.eq_nil_of_length_eq_zero h1]
    simp [flatK]
  · apply List.ext_getElem?
    intro t
    by_cases ht : t < xs.length * k
    · have h3 := get_flatK enc k xs.toArray t (by simpa using ht)
      have h4 : t < (flatK enc k xs.toArray).size := by simpa using ht
      rw [Array.getElem?_toList, Array.getElem?_eq_getElem h4]
      rw [getElem!_pos _ t h4] at h3
      rw [h3, flat_get hk hk0 xs t ht]
      have hq : t / k < xs.length := (Nat.div_lt_iff_lt_mul hk0).2 ht
      have hm : t % k < k := Nat.mod_lt _ hk0
      rw [getElem!_pos xs.toArray (t / k) (by simpa using hq), getElem!_pos _ (t % k) (by rw [hk]; exact hm)]
      rw [List.getElem?_eq_getElem hq]
      simp only [Option.getD_some, List.getElem_toArray]
      rw [List.getElem?_eq_getElem (by rw [hk]; exact hm)]
    · rw [List.getElem?_eq_none (by simp; omega), List.getElem?_eq_none (by rw [flat_len hk]; omega)]
theorem holdsK_of (hk : ∀ x, (enc x).length = k) {w : World} {g : Nat} {cur : Array Value} {e : TypeId} {xs : List α} (hb : w.heap[g]? = some (.cells cur e (0, 0))) (ht : cur.toList.take (xs.length * k) = flat enc xs) : HoldsK enc k w g 0 xs.toArray := by
  intro j hj
  have hj' : j < xs.length * k := by simpa using hj
  refine ⟨?_, by simp [World.frozen?, hb]⟩
  have h1 : (cur.toList.take (xs.length * k))[j]? = (flatK enc k xs.toArray)[j]? := by rw [ht, ← flatK_list hk, Array.getElem?_toList]
  rw [List.getElem?_take_of_lt hj'] at h1
  simp only [World.cell?, hb, Nat.zero_add]
  simp only [Option.isSome_none, Bool.false_eq_true, if_false]
  rw [← Array.getElem?_toList, h1]
  have h4 : j < (flatK enc k xs.toArray).size := by simpa using hj'
  rw [Array.getElem?_eq_getElem h4, getElem!_pos _ j h4]
  rfl
theorem heap_sortedK {w : World} {g n : Nat} {os : Array Obj} {cur : Array Value} {e : TypeId} {fr : Nat × Nat} (d : Array α) (hb : w.heap[g]? = some (.cells cur e fr)) :
    (sortWorldK enc k w g 0 n d os).heap[g]? = some (.cells (putCells id 0 (flatK enc k d) cur) e fr) := by
  have hg : g < w.heap.size := (Array.getElem?_eq_some_iff.1 hb).1
  unfold sortWorldK putRowK
  rw [heap_grow_old _ _ (by simpa using hg)]
  simp [putRow, mapBlock, Sort.ahead, Array.getElem?_modify, hb, onCells]
theorem grownBy_sortedK {w : World} {g n : Nat} {os : Array Obj} (d : Array α) : w.grownBy (sortWorldK enc k w g 0 n d os) (some g) := by
  unfold sortWorldK putRowK
  refine ⟨rfl, rfl, rfl, by simp, fun j hj hne => ?_⟩
  rw [heap_grow_old _ _ (by simpa using hj)]
  have : g ≠ j := fun e => hne (by rw [e])
  simp [putRow, mapBlock, Sort.ahead, Array.getElem?_modify, this]
theorem take_putCellsK (cur F : Array Value) (h : F.size ≤ cur.size) : (putCells id 0 F cur).toList.take F.size = F.toList := by
  apply List.ext_getElem?
  intro j
  by_cases hj : j < F.size
  · rw [List.getElem?_take_of_lt hj, Array.getElem?_toList]
    simp [putCells, hj, show j < cur.size by omega]
  · rw [List.getElem?_take_eq_none (by omega), List.getElem?_eq_none (by simp; omega)]
theorem ownsRow_sortedK (hk : ∀ x, (enc x).length = k) {w : World} {base g cap n len : Nat} {e : TypeId} {os : Array Obj} {cur : Array Value} {ts : List α} (hl : ts.length = len) (hbase : base ≤ g) (hb : w.heap[g]? = some (.cells cur e (0, 0)))
    (h1 : len ≤ cap) (h2 : cap ≤ maxLen) (h3 : cur.size = cap * k) :
    (sortWorldK enc k w g 0 n ts.toArray os).ownsRow base e k (.slice (some ⟨g, 0, none⟩) len cap) len (flat enc ts) := by
  refine ⟨by rw [flat_len hk, hl], .inr ⟨g, cap, _, rfl, hbase, heap_sortedK _ hb, h1, h2, by simp [putCells, h3], ?_⟩⟩
  have hs : (flatK enc k ts.toArray).size = len * k := by simp [hl]
  rw [← hs, take_putCellsK _ _ (by rw [hs, h3]; exact Nat.mul_le_mul_right k h1), flatK_list hk]
/-- A sort at any length: what the row holds behind it. -/
theorem perm_list {xs : List α} {d : Array α} (h : PermIn 0 xs.length xs.toArray d) : d.toList.Perm xs ∧ d.size = xs.length := by
  obtain ⟨h1, _, h3⟩ := h
  simp at h1
  refine ⟨?_, h1⟩
  have e1 : d.extract 0 xs.length = d := by rw [← h1]; simp
  have e2 : xs.toArray.extract 0 xs.length = xs.toArray := by simp
  rw [e1, e2] at h3
  exact h3
end
end Go.Proofs.Ytlogobmimacpgaa.L32
set_option linter.unusedVariables false
set_option linter.unusedSimpArgs false
namespace Go.Proofs.Ytlogobmimacpgaa.L32
open Go.RowKit Go.Lib Go.Sort Go.Proofs.YtlogobmimacpgaaW.PrintWords
attribute [local go_sem high] eqA56
def encS (x : S56) : List Value := [.int .i64 x.f0, .int .i64 x.f1, .int .i64 x.f2, .string x.f3]
theorem encS_len (x : S56) : (encS x).length = 4 := rfl
instance : Inhabited S56 := ⟨z56⟩
/-- Block g holds the elements ys, and further cells behind them. -/
def Row4 (w : World) (g : Nat) (ys : List S56) (tl : List Value) : Prop := w.heap[g]? = some (.cells (flat encS ys ++ tl).toArray 56 (0, 0))
theorem Row4.cell {w : World} {g : Nat} {ys : List S56} {tl : List Value} (h : Row4 w g ys tl) (t : Nat) (ht : t < ys.length * 4) : w.cell? ⟨g, t, none⟩ = (encS (ys[t / 4]?.getD default))[t % 4]? := by
  have h1 := blk_cell h t
  rw [h1, ← flat_get encS_len (by omega) ys t ht]
  simp [List.getElem?_append_left, flat_len encS_len, ht]
theorem Row4.at {w : World} {g : Nat} {ys : List S56} {tl : List Value} (h : Row4 w g ys tl) (j : Nat) (x : S56) (hj : ys[j]? = some x) :
    w.cell? ⟨g, j * 4, none⟩ = some (.int .i64 x.f0) ∧ w.cell? ⟨g, j * 4 + 1, none⟩ = some (.int .i64 x.f1) ∧ w.cell? ⟨g, j * 4 + 2, none⟩ = some (.int .i64 x.f2) ∧ w.cell? ⟨g, j * 4 + 3, none⟩ = some (.string x.f3) := by
  have hl := (List.getElem?_eq_some_iff.1 hj).1
  refine ⟨?_, ?_, ?_, ?_⟩
  · rw [h.cell _ (by omega), show j * 4 / 4 = j from by omega, show j * 4 % 4 = 0 from by omega, hj]; rfl
  · rw [h.cell _ (by omega), show (j * 4 + 1) / 4 = j from by omega, show (j * 4 + 1) % 4 = 1 from by omega, hj]; rfl
  · rw [h.cell _ (by omega), show (j * 4 + 2) / 4 = j from by omega, show (j * 4 + 2) % 4 = 2 from by omega, hj]; rfl
  · rw [h.cell _ (by omega), show (j * 4 + 3) / 4 = j from by omega, show (j * 4 + 3) % 4 = 3 from by omega, hj]; rfl
/-! The plain function. -/
def sameS (x y : S56) : Bool := x.f0 == y.f0 && (x.f1 == y.f1 && (x.f2 == y.f2 && (x.f3.toList == y.f3.toList)))
theorem sameS_iff (x y : S56) : sameS x y = true ↔ x = y := by
  unfold sameS
  simp only [Bool.and_eq_true, beq_iff_eq]
  constructor
  · rintro ⟨h0, h1, h2, h3⟩
    cases x; cases y
    simp only at h0 h1 h2 h3
    rw [h0, h1, h2, Go.Proofs.Ytlogobmimacpgaa.Idx.ba_ext h3]
  · rintro rfl; exact ⟨rfl, rfl, rfl, rfl⟩
def cstep (acc : List S56) (x : S56) : List S56 := match acc.getLast? with
  | none => [x]
  | some y => if sameS x y then acc else acc ++ [x]
def compactL (l : List S56) : List S56 := l.foldl cstep []
theorem compact_snoc (l : List S56) (x : S56) : compactL (l ++ [x]) = cstep (compactL l) x := by unfold compactL; rw [List.foldl_append]; rfl
theorem cstep_last (acc : List S56) (x : S56) : (cstep acc x).getLast? = some x := by
  unfold cstep
  split
  · rfl
  · rename_i y hy
    split
    · rename_i h; rw [(sameS_iff x y).1 h]; exact hy
    · simp
theorem compact_last (l : List S56) (j : Nat) (x : S56) (h : l[j]? = some x) : (compactL (l.take (j + 1))).getLast? = some x := by
  obtain ⟨hj, rfl⟩ := List.getElem?_eq_some_iff.1 h
  rw [List.take_succ_eq_append_getElem hj, compact_snoc, cstep_last]
theorem compact_step (l : List S56) (j : Nat) (x y : S56) (hx : l[j]? = some x) (hy : l[j + 1]? = some y) : compactL (l.take (j + 2)) = if sameS y x then compactL (l.take (j + 1)) else compactL (l.take (j + 1)) ++ [y] := by
  obtain ⟨hj, e⟩ := List.getElem?_eq_some_iff.1 hy
  rw [List.take_succ_eq_append_getElem hj, compact_snoc, e]
  unfold cstep
  rw [compact_last l j x hx]
theorem compact_le (l : List S56) : (compactL l).length ≤ l.length := by
  unfold compactL
  suffices ∀ (m acc : List S56), (m.foldl cstep acc).length ≤ acc.length + m.length by have := this l []; simpa using this
  intro m
  induction m with
  | nil => intro acc; simp
  | cons x r ih =>
    intro acc
    have h1 := ih (cstep acc x)
    have h2 : (cstep acc x).length ≤ acc.length + 1 := by
      unfold cstep
      split
      · simp
      · split <;> simp
    simp only [List.foldl_cons, List.length_cons]
    omega
theorem grownBy_refl (w : World) (r : Option Nat) : w.grownBy w r := ⟨rfl, rfl, rfl, Nat.le_refl _, fun _ _ _ => rfl⟩
theorem compact_one (l : List S56) (h : 0 < l.length) : compactL (l.take 1) = l.take 1 := by
  match l, h with
  | x :: r, _ => rfl
end Go.Proofs.Ytlogobmimacpgaa.L32
namespace Go.Proofs.Ytlogobmimacpgaa.L32
open Go.RowKit Go.Lib Go.Sort Go.Proofs.YtlogobmimacpgaaW.PrintWords
theorem flat_take (ys : List S56) (c : Nat) (h : c ≤ ys.length) : (flat encS ys).take (c * 4) = flat encS (ys.take c) := by
  have h1 : flat encS ys = flat encS (ys.take c) ++ flat encS (ys.drop c) := by rw [← flat_app, List.take_append_drop]
  rw [h1, List.take_left']
  rw [flat_len encS_len, List.length_take, Nat.min_eq_left h]
theorem flat_drop (ys : List S56) (c : Nat) (h : c ≤ ys.length) : (flat encS ys).drop (c * 4) = flat encS (ys.drop c) := by
  have h1 : flat encS ys = flat encS (ys.take c) ++ flat encS (ys.drop c) := by rw [← flat_app, List.take_append_drop]
  rw [h1, List.drop_left']
  rw [flat_len encS_len, List.length_take, Nat.min_eq_left h]
theorem set_split (ys : List S56) (c : Nat) (y : S56) (h : c < ys.length) : ys.set c y = ys.take c ++ y :: ys.drop (c + 1) := by
  rw [List.set_eq_take_append_cons_drop, if_pos h]
theorem one_cells (x : S56) : ∀ v ∈ encS x, v.oneCell' = true := by
  intro v hv
  simp [encS] at hv
  rcases hv with rfl | rfl | rfl | rfl <;> rfl
theorem setCells_grown (w : World) (g o : Nat) (vs : List Value) : w.grownBy (w.setCells g o vs) (some g) := by
  obtain ⟨h1, h2, h3, h4⟩ := setCells_same g vs o w
  exact ⟨h1, h2, h3, by omega, fun k _ hne => setCells_far vs o k (fun e => hne (by rw [e]))⟩
section
variable {ops : Array Oper} {rest : List Oper} {o : Oper} {a : Act} {Q : Exit → Act → World → Prop}
theorem wpList_store4 {W : World} {g c : Nat} {ys : List S56} {tl : List Value} (y : S56) (hgd : o.guard = none) (hN : o.dst = none) (p x : Operand) (ho : o.op = .store 56 p x) (haddr : a.eval p = .pointer (some ⟨g, c * 4, none⟩)) (hx : a.eval x = .agg #[.int .i64 y.f0, .int .i64 y.f1, .int .i64 y.f2, .string y.f3])
    (hR : Row4 W g ys tl) (hc : c < ys.length) (h : ∀ w1, Row4 w1 g (ys.set c y) tl → W.grownBy w1 (some g) → wpList Try.prog ops Q rest a w1) : wpList Try.prog ops Q (o :: rest) a W := by
  have hfl := flat_len encS_len ys
  have hrun := run_store_run (P := Try.prog) (o := c * 4) 56 (.agg #[.int .i64 y.f0, .int .i64 y.f1, .int .i64 y.f2, .string y.f3]) (encS y) hR rfl (by kernel_rfl) (by simp [encS, hfl]; omega) (one_cells y)
  refine wpList_plain hgd fun K hK => ?_
  unfold Oper.wp execOp
  simp only [ho, haddr, hx, Sem.run_bind, Sem.run_pure, Result.andThen_ok, hrun]
  show K (a.put o.dst undef) _
  rw [hN]
  obtain ⟨cur', h1, h2, h3⟩ := setCells_row (encS y) (c * 4) W _ hR (by simp [encS, hfl]; omega)
  have hcur : cur' = (flat encS (ys.set c y) ++ tl).toArray := by
    apply Array.toList_inj.1
    rw [h3, set_split ys c y hc, flat_app, flat_cons]
    simp only [List.length_cons, encS_len]
    have e1 : (flat encS ys ++ tl).take (c * 4) = flat encS (ys.take c) := by rw [List.take_append_of_le_length (by omega), flat_take ys c (by omega)]
    have e2 : (flat encS ys ++ tl).drop (c * 4 + 4) = flat encS (ys.drop (c + 1)) ++ tl := by rw [show c * 4 + 4 = (c + 1) * 4 from by omega, List.drop_append_of_le_length (by omega), flat_drop ys (c + 1) (by omega)]
    rw [e1, e2]
    simp
  rw [hcur] at h1
  exact hK _ _ (h _ h1 (setCells_grown _ _ _ _))
theorem wpList_clear4 {W : World} {g c n c2 : Nat} {ys : List S56} {tl : List Value} (hgd : o.guard = none) (x : Operand) (ho : o.op = .call { callee := .builtin .clear, args := #[x], argTypes := #[35] }) (hx : a.eval x = .slice (some ⟨g, c * 4, none⟩) n c2) (hn : n = ys.length - c) (hc : c < ys.length) (hm : ys.length ≤ 1000000)
    (hR : Row4 W g ys tl) (h : ∀ w1, Row4 w1 g (ys.take c ++ List.replicate (ys.length - c) z56) tl → W.grownBy w1 (some g) → wpList Try.prog ops Q rest (a.put o.dst (.tuple #[])) w1) : wpList Try.prog ops Q (o :: rest) a W := by
  have hfl := flat_len encS_len ys
  obtain ⟨q, hq⟩ : ∃ q, n = q + 1 := ⟨n - 1, by omega⟩
  have hzl : ∀ m, (Builtin.zeroCells #[.int .i64 0, .int .i64 0, .int .i64 0, .string ⟨#[]⟩] m).toList = flat encS (List.replicate m z56) := by
    intro m
    apply List.ext_getElem?
    intro t
    by_cases ht : t < m * 4
    · rw [flat_get encS_len (by omega) _ t (by simpa using ht)]
      have h4 : t / 4 < m := by omega
      simp only [Builtin.zeroCells, Array.getElem?_toList]
      rw [Array.getElem?_map]
      simp only [List.size_toArray, List.length_cons, List.length_nil]
      rw [Array.getElem?_range, if_pos (by simpa using ht)]
      simp only [Option.map_some, List.getElem?_replicate, if_pos h4, Option.getD_some]
      have : t % 4 = 0 ∨ t % 4 = 1 ∨ t % 4 = 2 ∨ t % 4 = 3 := by omega
      rcases this with e | e | e | e <;> (rw [show t % (0 + 1 + 1 + 1 + 1) = t % 4 from rfl, e]; rfl)
    · rw [List.getElem?_eq_none (by simp [Builtin.zeroCells]; omega), List.getElem?_eq_none (by rw [flat_len encS_len]; simp; omega)]
  have hz : ∀ w, (zeroValue 56).run Try.prog w = .ok (.agg #[.int .i64 0, .int .i64 0, .int .i64 0, .string ⟨#[]⟩]) w := fun w => by kernel_rfl
  have hone : ∀ v ∈ flat encS (List.replicate n z56), v.oneCell' = true := by
    intro v hv
    unfold flat at hv
    obtain ⟨x, _, hx⟩ := List.mem_flatMap.1 hv
    exact one_cells x v hx
  have hlen : (flat encS (List.replicate n z56)).length = n * 4 := by rw [flat_len encS_len]; simp
  have hcell : ∀ j, j < n * 4 → (W.cell? ⟨g, c * 4 + 0 + j, none⟩).isSome = true := fun j hj => by
    rw [blk_cell hR, Nat.add_zero]
    simp [hfl]
    omega
  have hst := run_storeCells_cells (P := Try.prog) g (c * 4) (flat encS (List.replicate n z56)) 0 W (by rw [hlen]; exact hcell) (fun j _ => blk_frozen hR _) hone
  simp only [Nat.add_zero] at hst
  have hrun : ∀ ty, (Builtin.clear_ #[35] ty #[.slice (some ⟨g, c * 4, none⟩) n c2]).run Try.prog W = .ok (.tuple #[]) (W.setCells g (c * 4) (flat encS (List.replicate n z56))) := by
    intro ty
    rw [hq] at hst ⊢
    have e4 : (Value.agg #[.int .i64 0, .int .i64 0, .int .i64 0, .string ⟨#[]⟩]).cells = #[.int .i64 0, .int .i64 0, .int .i64 0, .string ⟨#[]⟩] := rfl
    simp [Builtin.clear_, run_underlying Try.underlying35, hz, e4, hzl, hst]
  refine wpList_plain hgd fun K hK => ?_
  unfold Oper.wp execOp
  simp only [ho, resolve, invoke, builtin, Sem.run_bind, Sem.run_pure, Result.andThen_ok, List.map_toArray, List.map_cons, List.map_nil, hx, hrun]
  obtain ⟨cur', h1, h2, h3⟩ := setCells_row (flat encS (List.replicate n z56)) (c * 4) W _ hR (by rw [hlen]; simp [hfl]; omega)
  have hcur : cur' = (flat encS (ys.take c ++ List.replicate (ys.length - c) z56) ++ tl).toArray := by
    apply Array.toList_inj.1
    rw [h3, flat_app, hlen, ← hn]
    have e1 : (flat encS ys ++ tl).take (c * 4) = flat encS (ys.take c) := by rw [List.take_append_of_le_length (by omega), flat_take ys c (by omega)]
    have e2 : (flat encS ys ++ tl).drop (c * 4 + n * 4) = tl := by rw [show c * 4 + n * 4 = (flat encS ys).length from by omega, List.drop_left]
    rw [e1, e2]
  rw [hcur] at h1
  exact hK _ _ (h _ h1 (setCells_grown _ _ _ _))
end
end Go.Proofs.Ytlogobmimacpgaa.L32
namespace Go.Proofs.Ytlogobmimacpgaa.L32
open Go.RowKit Go.Lib Go.Sort Go.Proofs.YtlogobmimacpgaaW.PrintWords
attribute [local go_sem high] eqA56
theorem grown_trans0 {a b c : World} {row : Option Nat} (h : a.grownBy b row) (k : b.grownBy c row) : a.grownBy c row :=
  ⟨k.os.trans h.os, k.tape.trans h.tape, k.output.trans h.output, Nat.le_trans h.size k.size, fun i hi hn => (k.block i (Nat.lt_of_lt_of_le hi h.size) hn).trans (h.block i hi hn)⟩
theorem grown_drewN (w : World) (n : Nat) (r : Option Nat) : w.grownBy (w.drewN n) r := ⟨rfl, rfl, rfl, Nat.le_refl _, fun _ _ _ => rfl⟩
theorem ret_slice {A : Option Addr} {n m c : Nat} (h : n = m) : Ending.returned (.slice A n c) = .returned (.slice A m c) := by rw [h]
theorem drop_get {xs ys : List S56} {m : Nat} (h : ys.drop m = xs.drop m) (j : Nat) (hj : m ≤ j) : ys[j]? = xs[j]? := by
  have h1 := congrArg (fun l => l[j - m]?) h
  simp only [List.getElem?_drop] at h1
  rwa [show m + (j - m) = j from by omega] at h1
theorem drop_more {xs ys : List S56} {m n : Nat} (h : ys.drop m = xs.drop m) (hn : m ≤ n) : ys.drop n = xs.drop n := by
  have h1 := congrArg (fun l => l.drop (n - m)) h
  simp only [List.drop_drop] at h1
  rwa [show m + (n - m) = n from by omega] at h1
set_option maxHeartbeats 8000000 in
set_option maxRecDepth 100000 in
theorem compact_w (g cap : Nat) (xs : List S56) (tl : List Value) (w : World) (hm : xs.length ≤ 1000000) (h2 : 2 ≤ xs.length) (hcap : xs.length ≤ cap) (hR : Row4 w g xs tl) :
    Calls Try.prog 48 #[.slice (some ⟨g, 0, none⟩) xs.length cap] w fun e w' => e = .returned (.slice (some ⟨g, 0, none⟩) (compactL xs).length cap) ∧ w.grownBy w' (some g) ∧ ∃ ys, ys.length = xs.length ∧ Row4 w' g ys tl ∧ ys.take (compactL xs).length = compactL xs := by
  have hlt2 : decide ((xs.length : Int) < 2) = false := decide_eq_false (by omega)
  go_enter Try.func48, Try.ntmps48
  go_wp2
  go_loopw [3] (fun i wr => ∃ m : Nat, i = .int .i64 ((m : Int) + 1) ∧ m + 1 ≤ xs.length ∧ w.grownBy wr (some g) ∧ Row4 wr g xs tl ∧ Hid (compactL (xs.take (m + 1)) = xs.take (m + 1))) (fun i _ => xs.length - (intOf i).toNat)
  case atStart => exact ⟨0, rfl, by omega, grownBy_refl _ _, hR, compact_one xs (by omega)⟩
  case round =>
    obtain ⟨m, rfl, hk, hg, hRr, hC⟩ := hrel
    by_cases hlt : m + 1 < xs.length
    · have hlti : (m : Int) + 1 < xs.length := by omega
      obtain ⟨x, hx⟩ : ∃ x, xs[m]? = some x := ⟨_, List.getElem?_eq_getElem (by omega)⟩
      obtain ⟨y, hy⟩ : ∃ y, xs[m + 1]? = some y := ⟨_, List.getElem?_eq_getElem hlt⟩
      obtain ⟨p0, p1, p2, p3⟩ := hRr.at (m + 1) y hy
      obtain ⟨q0, q1, q2, q3⟩ := hRr.at m x hx
      have hst := compact_step xs m x y hx hy
      have hty := List.take_succ_eq_append_getElem (l := xs) hlt
      rw [(List.getElem?_eq_some_iff.1 hy).2] at hty
      clear hx hy
      have hk0 : (0 : Int) ≤ (m : Int) + 1 := by omega
      have hk1 : (0 : Int) ≤ (m : Int) := by omega
      have hk2 : (m : Int) < xs.length := by omega
      have hk3 : ((m : Int) + 1).toNat = m + 1 := by omega
      have hw1 : IntKind.i64.wrap ((m : Int) + 1 - 1) = (m : Int) := by rw [show (m : Int) + 1 - 1 = (m : Int) from by omega]; exact IntWalk.i64_in _ (by omega)
      cases hd : sameS y x with
      | false =>
        rw [hd, hC.out, if_neg (by simp), ← hty] at hst
        have HST := Hid.mk' hst
        have hd2 : (y.f0 == x.f0 && (y.f1 == x.f1 && (y.f2 == x.f2 && (y.f3.toList == x.f3.toList)))) = false := hd
        clear hst hd hty
        go_wp2
        go_quiet (fail)
        go_wp2
        go_roundw
        case rel => exact ⟨m + 1, by go_num, by omega, grown_trans0 hg (grown_drewN _ _ _), hRr, HST⟩
        case measure => simp [intOf]; omega
      | true =>
        rw [hd, if_pos rfl] at hst
        have HST := Hid.mk' hst
        have HC := hC
        have hd2 : (y.f0 == x.f0 && (y.f1 == x.f1 && (y.f2 == x.f2 && (y.f3.toList == x.f3.toList)))) = true := hd
        have hne : ¬ cap = m + 1 := by omega
        clear hst hd hty hC
        go_wp2
        go_quiet (fail)
        go_wp2
        clear p0 p1 p2 p3 q0 q1 q2 q3
        have hgW : w.grownBy (wr.drewN nq) (some g) := grown_trans0 hg (grown_drewN _ _ _)
        have hRW : Row4 (wr.drewN nq) g xs tl := hRr
        have hcl := compact_le (xs.take (m + 2))
        obtain ⟨W2, hW2⟩ : ∃ W, wr.drewN nq = W := ⟨_, rfl⟩
        rw [hW2] at hgW hRW ⊢
        clear hW2 hRr hg
        go_loopw [3, 5] (fun i i2 wr2 => ∃ (c j : Nat) (ys : List S56), i = .int .i64 c ∧ i2 = .int .i64 ((j : Int) + 1) ∧ m + j + 2 ≤ xs.length ∧ c ≤ m + j + 1 ∧ ys.length = xs.length ∧ w.grownBy wr2 (some g) ∧ Row4 wr2 g ys tl ∧ Hid (c = (compactL (xs.take (m + j + 2))).length) ∧ Hid (ys.take c = compactL (xs.take (m + j + 2))) ∧ Hid (ys.drop (m + j + 1) = xs.drop (m + j + 1))) (fun _ i2 _ => xs.length - (intOf i2).toNat)
        case atStart => exact ⟨m + 1, 0, xs, by go_num, by go_num, by omega, by omega, rfl, hgW, hRW, by rw [show m + 0 + 2 = m + 2 from by omega, HST.out, HC.out, List.length_take]; exact (Nat.min_eq_left (by omega)).symm, by rw [show m + 0 + 2 = m + 2 from by omega, HST.out, HC.out]; exact Hid.mk' rfl, Hid.mk' rfl⟩
        case round =>
          obtain ⟨c, j, ys, rfl, rfl, hmj, hc, hyl, hg2, hR2, H1, H2, H3⟩ := hrel
          have hst := compact_step xs (m + j + 1)
          by_cases hj : m + j + 2 < xs.length
          · have hji : (j : Int) + 1 < ((xs.length - (m + 1) : Nat) : Int) := by omega
            obtain ⟨b, hb⟩ : ∃ b, xs[m + j + 1]? = some b := ⟨_, List.getElem?_eq_getElem (by omega)⟩
            obtain ⟨e, he⟩ : ∃ e, xs[m + j + 2]? = some e := ⟨_, List.getElem?_eq_getElem hj⟩
            have hst := hst b e hb (by rw [show m + j + 1 + 1 = m + j + 2 from by omega]; exact he)
            rw [show m + j + 1 + 2 = m + j + 3 from by omega, show m + j + 1 + 1 = m + j + 2 from by omega] at hst
            obtain ⟨p0, p1, p2, p3⟩ := hR2.at (m + j + 2) e (by rw [drop_get H3.out _ (by omega)]; exact he)
            obtain ⟨q0, q1, q2, q3⟩ := hR2.at (m + j + 1) b (by rw [drop_get H3.out _ (by omega)]; exact hb)
            have e1 : (m + j + 2) * 4 = (m + 1) * 4 + (j + 1) * 4 := by omega
            have e2 : (m + j + 1) * 4 = (m + 1) * 4 + j * 4 := by omega
            rw [e1] at p0 p1 p2 p3
            rw [e2] at q0 q1 q2 q3
            have hd3 := drop_more H3.out (show m + j + 1 ≤ m + j + 2 from by omega)
            have hj0 : (0 : Int) ≤ (j : Int) + 1 := by omega
            have hj1 : (0 : Int) ≤ (j : Int) := by omega
            have hj2 : (j : Int) < ((xs.length - (m + 1) : Nat) : Int) := by omega
            have hj3 : ((j : Int) + 1).toNat = j + 1 := by omega
            have hw2 : IntKind.i64.wrap ((j : Int) + 1 - 1) = (j : Int) := by rw [show (j : Int) + 1 - 1 = (j : Int) from by omega]; exact IntWalk.i64_in _ (by omega)
            have HD := Hid.mk' hd3
            have hc0 : (0 : Int) ≤ (c : Int) := by omega
            have hc1 : (c : Int) < xs.length := by omega
            clear hb he e1 e2 hd3
            cases hq : sameS e b with
            | true =>
              rw [hq, if_pos rfl] at hst
              have HST2 := Hid.mk' hst
              have hq2 : (e.f0 == b.f0 && (e.f1 == b.f1 && (e.f2 == b.f2 && (e.f3.toList == b.f3.toList)))) = true := hq
              clear hst hq
              go_wp2
              go_quiet (fail)
              go_wp2
              go_roundw
              case rel => exact ⟨c, j + 1, ys, rfl, by go_num, by omega, by omega, hyl, grown_trans0 hg2 (grown_drewN _ _ _), hR2, by rw [show m + (j + 1) + 2 = m + j + 3 from by omega, HST2.out]; exact H1, by rw [show m + (j + 1) + 2 = m + j + 3 from by omega, HST2.out]; exact H2, by rw [show m + (j + 1) + 1 = m + j + 2 from by omega]; exact HD⟩
              case measure => simp [intOf]; omega
            | false =>
              rw [hq, if_neg (by simp)] at hst
              have HST2 := Hid.mk' hst
              have hq2 : (e.f0 == b.f0 && (e.f1 == b.f1 && (e.f2 == b.f2 && (e.f3.toList == b.f3.toList)))) = false := hq
              clear hst hq
              go_wp2
              go_quiet (fail)
              go_wp2_with (refine wpList_store4 (g := g) (c := c) (ys := ys) (tl := tl) e rfl rfl _ _ rfl rfl rfl hR2 (by omega) ?_; intro w5 hR5 hg5)
              go_roundw
              case rel => exact ⟨c + 1, j + 1, ys.set c e, by go_num, by go_num, by omega, by omega, by simp [hyl], grown_trans0 (grown_trans0 hg2 (grown_drewN _ _ _)) hg5, hR5, by rw [show m + (j + 1) + 2 = m + j + 3 from by omega, HST2.out, List.length_append, ← H1.out]; rfl, by
                rw [show m + (j + 1) + 2 = m + j + 3 from by omega, HST2.out, ← H2.out, set_split ys c e (by omega)]
                rw [List.take_append, List.length_take, Nat.min_eq_left (by omega), List.take_of_length_le (by rw [List.length_take]; omega), show c + 1 - c = 1 from by omega]
                exact Hid.mk' rfl, by rw [show m + (j + 1) + 1 = m + j + 2 from by omega, List.drop_set_of_lt (by omega)]; exact HD⟩
              case measure => simp [intOf]; omega
          · have hx : m + j + 2 = xs.length := by omega
            rw [hx, List.take_of_length_le (Nat.le_refl _)] at H1 H2
            have hne2 : ¬ cap = c := by omega
            have hc0 : (0 : Int) ≤ (c : Int) := by omega
            have hc1 : (c : Int) ≤ xs.length := by omega
            have hji : ¬ (j : Int) + 1 < ((xs.length - (m + 1) : Nat) : Int) := by omega
            clear hst
            go_wp2_with (refine wpList_clear4 (g := g) (c := c) (ys := ys) (tl := tl) rfl _ rfl rfl (by omega) (by omega) (by omega) hR2 ?_; intro w5 hR5 hg5)
            go_ret
            exact ⟨ret_slice H1.out, grown_trans0 hg2 hg5, _, by simp; omega, hR5, by rw [← H1.out, List.take_left' (by rw [List.length_take]; omega)]; exact H2.out⟩
    · have hst := hC.out
      rw [List.take_of_length_le (by omega)] at hst
      have HST := Hid.mk' hst
      clear hst
      go_wp2
      go_ret
      exact ⟨ret_slice (by rw [HST.out]), hg, xs, rfl, hRr, by rw [HST.out, List.take_length]⟩
end Go.Proofs.Ytlogobmimacpgaa.L32
