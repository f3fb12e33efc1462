/- What the program's functions answer, plainly; the chapter's examples hold. Lists of at most 1000000. -/
import Derived.Test.YtlogobmimacpgaaSyN
import Derived.Test.YtlogobmimacpgaaSyK
import Derived.Test.YtlogobmimacpgaaL32x3
import Derived.Test.YtlogobmimacpgaaL32x4
import Derived.Test.YtlogobmimacpgaaL32x5
import Derived.Test.YtlogobmimacpgaaSyH
import Derived.Test.YtlogobmimacpgaaL32x6
set_option linter.unusedVariables false
set_option linter.unusedSimpArgs false
namespace Go.Proofs.Ytlogobmimacpgaa.L32
open Go.RowKit Go.Lib Go.Sort Go.Shelf Go.Proofs.YtlogobmimacpgaaW.PrintWords Go.Proofs.Ytlogobmimacpgaa.Idx
def bM : ByteArray := ⟨#[109]⟩
def bMA : ByteArray := ⟨#[109, 46, 65]⟩
def bMAn : ByteArray := ⟨#[109, 46, 65, 46, 110]⟩
def bA : ByteArray := ⟨#[65]⟩
def bN : ByteArray := ⟨#[110]⟩
def ds0 : List tD := [⟨1, 0, bM, 0, ⟨#[]⟩, [], [], false, 7, 0, 0⟩, ⟨2, 0, bMA, 0, ⟨#[]⟩, [], [], false, 7, 0, 0⟩, ⟨3, 0, bMAn, 0, ⟨#[]⟩, [], [], false, 7, 10, 0⟩]
def rs0 : List tR := [⟨7, 17, 18, 4, 2, 2⟩]
def o1 : tA := ⟨7, 0, 0, bM⟩
def o2 : tA := ⟨7, 0, 0, bMA⟩
def o3 : tA := ⟨7, 10, 0, bMAn⟩
def o4 : tA := ⟨7, 17, 4, bMA⟩
def L0 : List tP := [⟨bA, [o2, o4]⟩, ⟨bM, [o1]⟩, ⟨bN, [o3]⟩]
theorem occ0 : occG ds0 rs0 = [o1, o2, o3, o4] := by rfl
theorem k1 : keyS o1 = bM := by rfl
theorem k2 : keyS o2 = bA := by rfl
theorem k3 : keyS o3 = bN := by rfl
theorem k4 : keyS o4 = bA := by rfl
theorem lMA : ltN bM bA = false := by simp [ltN, ByteArray.toList_eq, Op.bytesLess, bM, bA]
theorem lAM : ltN bA bM = true := by simp [ltN, ByteArray.toList_eq, Op.bytesLess, bM, bA]
theorem lAN : ltN bA bN = true := by simp [ltN, ByteArray.toList_eq, Op.bytesLess, bN, bA]
theorem lMN : ltN bM bN = true := by simp [ltN, ByteArray.toList_eq, Op.bytesLess, bN, bM]
theorem lAA : ltN bA bA = false := ordN.irr _
theorem l24 : ltS o2 o4 = true := by rfl
theorem idx0 : (idxS (occG ds0 rs0)).map post = L0 := by
  rw [occ0]
  unfold idxS idx
  simp [List.foldl_cons, addP, insB, k1, k2, k3, k4, lMA, lAM, lAN, lMN, lAA, l24, L0, post]
theorem pairs0 : allS L0 = [o2, o4, o1, o3] := by rfl
end Go.Proofs.Ytlogobmimacpgaa.L32
set_option linter.unusedVariables false
set_option linter.unusedSimpArgs false
namespace Go.Proofs.Ytlogobmimacpgaa.L32
open Go.RowKit Go.Proofs.YtlogobmimacpgaaW.PrintWords Go.Proofs.Ytlogobmimacpgaa.Idx
theorem pget_from (ds : List tD) (hl : ds.length ≤ 1000000) (id : Int) : ∀ (d n k : Nat), n + d = ds.length → d < k → decl_Get.l0 k id ds (ds.length : Int) (n : Int) = some (getT (getO (ds.drop n) id)) := by
  intro d
  induction d with
  | zero =>
    intro n k hn hk
    obtain ⟨k, rfl⟩ : ∃ q, k = q + 1 := ⟨k - 1, by omega⟩
    unfold decl_Get.l0
    rw [if_neg (by omega), List.drop_of_length_le (by omega)]
    rfl
  | succ d ih =>
    intro n k hn hk
    obtain ⟨k, rfl⟩ : ∃ q, k = q + 1 := ⟨k - 1, by omega⟩
    have h := ih (n + 1) k (by omega) (by omega)
    rw [nsucc] at h
    unfold decl_Get.l0
    rw [if_pos (by omega), if_pos (by omega), if_pos (by omega), rdD ds n (by omega), List.drop_eq_getElem_cons (show n < ds.length by omega)]
    unfold getO at h ⊢
    rw [List.find?_cons]
    by_cases e : ds[n].f0 = id
    · rw [if_pos e, decide_eq_true e]
      rfl
    · rw [if_neg e, decide_eq_false e, wrap_in _ (by omega) (by omega)]
      exact h
theorem pget_f (ds : List tD) (hl : ds.length ≤ 1000000) (id : Int) (k : Nat) (hk : ds.length < k) : decl_Get.f k ds id = some (getT (getO ds id)) := pget_from ds hl id ds.length 0 k (by omega) hk
theorem build1_from (ds : List tD) (rs : List tR) (l2 l3) (M : Nat) (hM : M ≤ 100000) (hl0 : ds.length ≤ M) (hl1 : rs.length ≤ M) (acc0 : List tA) : ∀ (d n k : Nat) (acc : List tA), n + d = rs.length → d + M < k → acc.length ≤ n + M → acc = acc0 ++ (rs.take n).filterMap (occR ds) →
    symindex_Build.l1 k acc rs (rs.length : Int) (n : Int) ds rs l2 l3 = symindex_index.f (acc0 ++ rs.filterMap (occR ds)) := by
  intro d
  induction d with
  | zero =>
    intro n k acc hn hk ha he
    obtain ⟨k, rfl⟩ : ∃ q, k = q + 1 := ⟨k - 1, by omega⟩
    unfold symindex_Build.l1
    rw [if_neg (by omega), he, List.take_of_length_le (by omega)]
    simp
  | succ d ih =>
    intro n k acc hn hk ha he
    obtain ⟨k, rfl⟩ : ∃ q, k = q + 1 := ⟨k - 1, by omega⟩
    have ht := occR_take ds rs n (by omega)
    unfold symindex_Build.l1
    rw [if_pos (by omega), if_pos (by omega), if_pos (by omega), rdR rs n (by omega), pget_f ds (by omega) _ k (by omega)]
    simp only [Option.bind_some]
    cases e : getO ds rs[n].f4 with
    | none =>
      have ho : occR ds rs[n] = none := by unfold occR; rw [e]; rfl
      rw [ho] at ht
      have h := ih (n + 1) k acc (by omega) (by omega) (by omega) (by rw [he, ht]; simp)
      rw [nsucc] at h
      rw [if_neg (by simp [getT]), wrap_in _ (by omega) (by omega)]
      exact h
    | some x =>
      have ho : occR ds rs[n] = some ⟨rs[n].f0, rs[n].f1, rs[n].f3, x.f2⟩ := by unfold occR; rw [e]; rfl
      rw [ho] at ht
      have h := ih (n + 1) k (acc ++ [⟨rs[n].f0, rs[n].f1, rs[n].f3, x.f2⟩]) (by omega) (by omega) (by simp; omega) (by rw [he, ht]; simp)
      rw [nsucc] at h
      rw [if_pos (by simp [getT]), if_pos (by omega), wrap_in _ (by omega) (by omega)]
      exact h
theorem build0_from (ds : List tD) (rs : List tR) (l2 l3) (M : Nat) (hM : M ≤ 100000) (hl0 : ds.length ≤ M) (hl1 : rs.length ≤ M) : ∀ (d n k : Nat) (acc : List tA), n + d = ds.length → d + (M + M) + 1 < k → acc = (ds.take n).map occD →
    symindex_Build.l0 k acc ds (ds.length : Int) (n : Int) ds rs l2 l3 = symindex_index.f (occG ds rs) := by
  intro d
  induction d with
  | zero =>
    intro n k acc hn hk he
    obtain ⟨k, rfl⟩ : ∃ q, k = q + 1 := ⟨k - 1, by omega⟩
    rw [List.take_of_length_le (by omega)] at he
    unfold symindex_Build.l0
    rw [if_neg (by omega)]
    exact build1_from ds rs l2 l3 M hM hl0 hl1 (ds.map occD) rs.length 0 k acc (by omega) (by omega) (by rw [he]; simp; omega) (by rw [he]; simp)
  | succ d ih =>
    intro n k acc hn hk he
    obtain ⟨k, rfl⟩ : ∃ q, k = q + 1 := ⟨k - 1, by omega⟩
    have h := ih (n + 1) k (acc ++ [occD ds[n]]) (by omega) (by omega) (by rw [he, occD_take ds n (by omega)])
    rw [nsucc] at h
    have ha : acc.length = n := by rw [he]; simp; omega
    unfold symindex_Build.l0
    rw [if_pos (by omega), if_pos (by omega), if_pos (by omega), if_pos (by omega), wrap_in _ (by omega) (by omega), rdD ds n (by omega)]
    exact h
theorem occG_few (ds : List tD) (rs : List tR) (h : okG ds rs) : few (occG ds rs) = true := by
  obtain ⟨h0, h1, h2⟩ := h
  unfold few
  rw [Bool.and_eq_true, decide_eq_true_eq, List.all_eq_true]
  refine ⟨?_, fun x hx => ?_⟩
  · have := List.length_filterMap_le (occR ds) rs
    simp only [occG, List.length_append, List.length_map]
    omega
  · rw [decide_eq_true_eq]
    rcases List.mem_append.1 hx with hx | hx
    · obtain ⟨d, hd, rfl⟩ := List.mem_map.1 hx
      exact h2 d hd
    · obtain ⟨r, hr, hrx⟩ := List.mem_filterMap.1 hx
      unfold occR at hrx
      cases e : getO ds r.f4 with
      | none => rw [e] at hrx; cases hrx
      | some d =>
        rw [e] at hrx
        injection hrx with hrx
        subst hrx
        exact h2 d (List.mem_of_find?_eq_some e)
theorem build_f (ds : List tD) (rs : List tR) (l2 l3) (h : okG ds rs) (k : Nat) (hk : 400000 < k) : symindex_Build.f k ds rs l2 l3 = some ((idxS (occG ds rs)).map post) := by
  unfold symindex_Build.f
  have hk2 : ds.length + (100000 + 100000) + 1 < k := by have := h.1; omega
  have h1 := build0_from ds rs l2 l3 100000 (Nat.le_refl _) h.1 h.2.1 ds.length 0 k [] (by omega) hk2 (by simp)
  refine h1.trans ?_
  unfold symindex_index.f
  rw [if_pos (occG_few ds rs h)]
/-! What is asked. -/
def underL (l : List tP) (nm : ByteArray) : List tA := match l.find? fun p => decide (p.f0 = nm) with
  | some p => p.f1
  | none => []
theorem under_from (l : List tP) (hl : l.length ≤ 1000000) (nm : ByteArray) : ∀ (d n k : Nat), n + d = l.length → d < k → symindex_under.l0 k nm l (l.length : Int) (n : Int) = some (underL (l.drop n) nm) := by
  intro d
  induction d with
  | zero =>
    intro n k hn hk
    obtain ⟨k, rfl⟩ : ∃ q, k = q + 1 := ⟨k - 1, by omega⟩
    unfold symindex_under.l0
    rw [if_neg (by omega), List.drop_of_length_le (by omega)]
    rfl
  | succ d ih =>
    intro n k hn hk
    obtain ⟨k, rfl⟩ : ∃ q, k = q + 1 := ⟨k - 1, by omega⟩
    have h := ih (n + 1) k (by omega) (by omega)
    rw [nsucc] at h
    unfold symindex_under.l0
    rw [if_pos (by omega), if_pos (by omega), if_pos (by omega), rdP l n (by omega), List.drop_eq_getElem_cons (show n < l.length by omega)]
    unfold underL at h ⊢
    rw [List.find?_cons]
    by_cases e : l[n].f0 = nm
    · rw [if_pos (bytes_eq.2 e), decide_eq_true e]
    · rw [if_neg (fun e2 => e (bytes_eq.1 e2)), decide_eq_false e, wrap_in _ (by omega) (by omega)]
      exact h
theorem under_f (l : List tP) (hl : l.length ≤ 1000000) (nm : ByteArray) (k : Nat) (hk : l.length < k) : symindex_under.f k l nm = some (underL l nm) := under_from l hl nm l.length 0 k (by omega) hk
theorem filt_snoc {α : Type} (p : α → Bool) (l : List α) (n : Nat) (h : n < l.length) : (l.take (n + 1)).filter p = if p l[n] then (l.take n).filter p ++ [l[n]] else (l.take n).filter p := by
  rw [take_get l n l[n] (List.getElem?_eq_getElem h), List.filter_append]
  cases e : p l[n] <;> simp [List.filter_cons, e]
theorem filt_le {α : Type} (p : α → Bool) (l : List α) (n : Nat) : ((l.take n).filter p).length ≤ n := by
  have h1 := List.length_filter_le p (l.take n)
  rw [List.length_take] at h1
  omega
def isDef (x : tA) : Bool := decide (x.f2 = 0)
def isRef (nm : ByteArray) (x : tA) : Bool := !decide (x.f2 = 0) && decide (x.f3 = nm)
theorem defs_from (l : List tA) (hl : l.length ≤ 1000000) : ∀ (d n k : Nat), n + d = l.length → d < k → symindex_Defs.l0 k ((l.take n).filter isDef) l (l.length : Int) (n : Int) = some (l.filter isDef) := by
  intro d
  induction d with
  | zero =>
    intro n k hn hk
    obtain ⟨k, rfl⟩ : ∃ q, k = q + 1 := ⟨k - 1, by omega⟩
    unfold symindex_Defs.l0
    rw [if_neg (by omega), List.take_of_length_le (by omega)]
  | succ d ih =>
    intro n k hn hk
    obtain ⟨k, rfl⟩ : ∃ q, k = q + 1 := ⟨k - 1, by omega⟩
    have h := ih (n + 1) k (by omega) (by omega)
    have hle := filt_le isDef l n
    rw [nsucc, filt_snoc _ _ _ (by omega)] at h
    unfold symindex_Defs.l0
    rw [if_pos (by omega), if_pos (by omega), if_pos (by omega), rdA l n (by omega), wrap_in _ (by omega) (by omega)]
    by_cases e : l[n].f2 = 0
    · rw [if_pos (show isDef l[n] = true from decide_eq_true e)] at h
      rw [if_pos e, if_pos (by omega)]
      exact h
    · rw [if_neg (show ¬ isDef l[n] = true by unfold isDef; simpa using e)] at h
      rw [if_neg e]
      exact h
theorem defs_f (l : List tP) (hl : l.length ≤ 1000000) (nm : ByteArray) (hu : (underL l nm).length ≤ 1000000) (k : Nat) (hk : 1000000 < k) : symindex_Defs.f k l nm = some ((underL l nm).filter isDef) := by
  unfold symindex_Defs.f
  rw [under_f l hl nm k (by omega)]
  simp only [Option.bind_some]
  have hk2 : (underL l nm).length < k := by omega
  exact defs_from _ hu (underL l nm).length 0 k (by omega) hk2
theorem refs_from (nm : ByteArray) (l : List tA) (hl : l.length ≤ 1000000) : ∀ (d n k : Nat), n + d = l.length → d < k → symindex_Refs.l0 k nm ((l.take n).filter (isRef nm)) l (l.length : Int) (n : Int) = some (l.filter (isRef nm)) := by
  intro d
  induction d with
  | zero =>
    intro n k hn hk
    obtain ⟨k, rfl⟩ : ∃ q, k = q + 1 := ⟨k - 1, by omega⟩
    unfold symindex_Refs.l0
    rw [if_neg (by omega), List.take_of_length_le (by omega)]
  | succ d ih =>
    intro n k hn hk
    obtain ⟨k, rfl⟩ : ∃ q, k = q + 1 := ⟨k - 1, by omega⟩
    have h := ih (n + 1) k (by omega) (by omega)
    have hle := filt_le (isRef nm) l n
    rw [nsucc, filt_snoc _ _ _ (by omega)] at h
    unfold symindex_Refs.l0
    rw [if_pos (by omega), if_pos (by omega), if_pos (by omega), rdA l n (by omega), wrap_in _ (by omega) (by omega)]
    by_cases e : l[n].f2 = 0
    · rw [if_neg (show ¬ isRef nm l[n] = true by unfold isRef; simp [e])] at h
      rw [if_pos e]
      exact h
    · rw [if_neg e]
      by_cases e2 : l[n].f3 = nm
      · rw [if_pos (show isRef nm l[n] = true by unfold isRef; simp [e, e2])] at h
        rw [if_pos (bytes_eq.2 e2), if_pos (by omega)]
        exact h
      · rw [if_neg (show ¬ isRef nm l[n] = true by unfold isRef; simp [e2])] at h
        rw [if_neg (fun e3 => e2 (bytes_eq.1 e3))]
        exact h
theorem refs_f (l : List tP) (hl : l.length ≤ 1000000) (nm : ByteArray) (hn : nm.size ≤ 1000000) (hu : (underL l (simpleB nm)).length ≤ 1000000) (k : Nat) (hk : 1000000 < k) : symindex_Refs.f k l nm = some ((underL l (simpleB nm)).filter (isRef nm)) := by
  unfold symindex_Refs.f
  rw [simple_f nm hn k (by omega)]
  simp only [Option.bind_some]
  rw [under_f l hl _ k (by omega)]
  simp only [Option.bind_some]
  have hk2 : (underL l (simpleB nm)).length < k := by omega
  exact refs_from nm _ hu (underL l (simpleB nm)).length 0 k (by omega) hk2
theorem union_f (a b : List tP) (ha : a.length ≤ 1000000) (hb : b.length ≤ 1000000) (ha2 : (allS a).length ≤ 1000000) (hb2 : (allS b).length ≤ 1000000) (k : Nat) (hk : 1000000 < k) : symindex_Union.f k a b = symindex_index.f (allS a ++ allS b) := by
  unfold symindex_Union.f
  rw [all_f a ha ha2 k (by omega)]
  simp only [Option.bind_some]
  rw [all_f b hb hb2 k (by omega)]
  simp only [Option.bind_some]
  rw [if_pos (by omega)]
  simp
end Go.Proofs.Ytlogobmimacpgaa.L32
set_option linter.unusedVariables false
set_option linter.unusedSimpArgs false
namespace Go.Proofs.Ytlogobmimacpgaa.L32
open Go.RowKit Go.Lib Go.Proofs.YtlogobmimacpgaaW.PrintWords Go.Proofs.Ytlogobmimacpgaa.Idx
def hasPre (p a : ByteArray) : Bool := if p.size ≤ a.size then (a.extract 0 p.size).toList == p.toList else false
theorem hasPre_f (a p : ByteArray) : strings_HasPrefix.f a p = some (hasPre p a) := by
  unfold strings_HasPrefix.f stringslite_HasPrefix.f hasPre
  by_cases h : p.size ≤ a.size
  · rw [if_pos (by omega), if_pos (by omega), if_pos (by omega), if_pos h]
    simp
  · rw [if_neg (by omega), if_neg h]
    simp
theorem names_from (pre : ByteArray) (l : List tP) (hl : l.length ≤ 1000000) : ∀ (d n k : Nat), n + d = l.length → d < k → symindex_Names.l0 k pre (((l.map (·.f0)).take n).filter (hasPre pre)) l (l.length : Int) (n : Int) = some ((l.map (·.f0)).filter (hasPre pre)) := by
  intro d
  induction d with
  | zero =>
    intro n k hn hk
    obtain ⟨k, rfl⟩ : ∃ q, k = q + 1 := ⟨k - 1, by omega⟩
    unfold symindex_Names.l0
    rw [if_neg (by omega), List.take_of_length_le (by simp; omega)]
  | succ d ih =>
    intro n k hn hk
    obtain ⟨k, rfl⟩ : ∃ q, k = q + 1 := ⟨k - 1, by omega⟩
    have h := ih (n + 1) k (by omega) (by omega)
    have hle := filt_le (hasPre pre) (l.map (·.f0)) n
    rw [nsucc, filt_snoc _ _ _ (by simp; omega), List.getElem_map] at h
    unfold symindex_Names.l0
    rw [if_pos (by omega), if_pos (by omega), if_pos (by omega), rdP l n (by omega), hasPre_f, wrap_in _ (by omega) (by omega)]
    simp only [Option.bind_some]
    cases e : hasPre pre l[n].f0 with
    | true => rw [e, if_pos rfl] at h; rw [if_pos rfl, if_pos (by omega)]; exact h
    | false => rw [e, if_neg (by simp)] at h; rw [if_neg (by simp)]; exact h
theorem names_f (l : List tP) (hl : l.length ≤ 1000000) (pre : ByteArray) (k : Nat) (hk : l.length < k) : symindex_Names.f k l pre = some ((l.map (·.f0)).filter (hasPre pre)) := names_from pre l hl l.length 0 k (by omega) hk
theorem same05_from (l : List Int) (hl : l.length ≤ 1000000) : ∀ (d n k : Nat), n + d = l.length → d < k → codesearchref05_Same.l0 k l l (n : Int) = some true := by
  intro d
  induction d with
  | zero =>
    intro n k hn hk
    obtain ⟨k, rfl⟩ : ∃ q, k = q + 1 := ⟨k - 1, by omega⟩
    unfold codesearchref05_Same.l0
    rw [if_neg (by omega)]
  | succ d ih =>
    intro n k hn hk
    obtain ⟨k, rfl⟩ : ∃ q, k = q + 1 := ⟨k - 1, by omega⟩
    have h := ih (n + 1) k (by omega) (by omega)
    rw [nsucc] at h
    unfold codesearchref05_Same.l0
    rw [if_pos (by omega), if_pos (by omega), if_pos (by omega), if_pos rfl, wrap_in _ (by omega) (by omega)]
    exact h
theorem same05_self (l : List Int) (hl : l.length ≤ 1000000) (k : Nat) (hk : l.length < k) : codesearchref05_Same.f k l l = some true := by
  unfold codesearchref05_Same.f
  rw [if_pos rfl]
  exact same05_from l hl l.length 0 k (by omega) hk
theorem ok0 : okG ds0 rs0 := ⟨by decide, by decide, fun d hd => by
  simp [ds0] at hd
  rcases hd with rfl | rfl | rfl <;> decide⟩
theorem idx1 : (idxS (allS L0)).map post = L0 := by
  rw [pairs0]
  have : idxS [o2, o4, o1, o3] = idxS (occG ds0 rs0) := idx_same ordS ordN _ _ fun a => by
    rw [occ0]
    simp only [List.mem_cons, List.not_mem_nil, or_false]
    grind
  rw [this, idx0]
theorem few0 : few (allS L0) = true := by rfl
theorem e1 : simpleB bMA = bA := k2
theorem e2 : simpleB bA = bA := by rfl
theorem r1 : (underL L0 bA).filter (isRef bMA) = [o4] := by rfl
theorem r2 : (underL L0 bA).filter (isRef bA) = [] := by rfl
theorem r3 : (underL L0 bA).filter isDef = [o2] := by rfl
theorem alive_f (k : Nat) (hk : 10000000 < k) : codesearchlaw32_alive.f k = some true := by
  obtain ⟨k, rfl⟩ : ∃ q, k = q + 1 + 1 := ⟨k - 2, by omega⟩
  unfold codesearchlaw32_alive.f
  change (symindex_Build.f (k + 1 + 1) ds0 rs0 [] []).bind _ = _
  rw [build_f ds0 rs0 [] [] ok0 _ (by omega), idx0]
  simp only [Option.bind_some]
  have t0 : (rd_T58 L0 0).f0.toList = [65] := by rw [ByteArray.toList_eq]; rfl
  have t1 : (rd_T58 L0 1).f0.toList = [109] := by rw [ByteArray.toList_eq]; rfl
  have t2 : (rd_T58 L0 2).f0.toList = [110] := by rw [ByteArray.toList_eq]; rfl
  rw [if_pos (by rfl), if_pos (by decide), if_pos t0]
  change (codesearchref32_SameAt.f (k + 1 + 1) [o2, o4] [o2, o4]).bind _ = _
  rw [sameAt_self _ (by decide) _ (by simp; omega)]
  simp only [Option.bind_some]
  rw [if_pos trivial, if_pos (by decide), if_pos t1, if_pos (by decide), t2]
  change codesearchlaw32_alive.j0 (k + 1 + 1) L0 [o2, o4] false = _
  unfold codesearchlaw32_alive.j0
  dsimp only
  rw [if_neg (by simp)]
  change (symindex_Refs.f (k + 1) L0 bMA).bind _ = _
  rw [refs_f L0 (by decide) bMA (by decide) (by rw [e1]; decide) _ (by omega), e1, r1]
  simp only [Option.bind_some]
  rw [if_pos (by decide)]
  change (codesearchref32_SameAt.f (k + 1) [o4] [o4]).bind _ = _
  rw [sameAt_self _ (by decide) _ (by simp; omega)]
  simp only [Option.bind_some]
  rw [if_pos trivial]
  change (symindex_Refs.f (k + 1) L0 bA).bind _ = _
  rw [refs_f L0 (by decide) bA (by decide) (by rw [e2]; decide) _ (by omega), e2, r2]
  simp only [Option.bind_some]
  rw [if_pos (by rfl)]
  change (symindex_Defs.f (k + 1) L0 bA).bind _ = _
  rw [defs_f L0 (by decide) bA (by decide) _ (by omega), r3]
  simp only [Option.bind_some]
  change (codesearchref32_SameAt.f (k + 1) [o2] [o2]).bind _ = _
  rw [sameAt_self _ (by decide) _ (by simp; omega)]
  simp only [Option.bind_some]
  change codesearchlaw32_alive.j1 (k + 1) L0 [o2, o4] false = _
  unfold codesearchlaw32_alive.j1
  dsimp only
  rw [if_neg (by simp)]
  have hw : symindex_Without.f L0 [7] = some [] := by
    unfold symindex_Without.f
    rw [if_pos ⟨by decide, by decide⟩]
    have : keepL [7] (allS L0) = [] := by decide
    rw [this]
    rfl
  rw [hw]
  simp only [Option.bind_some]
  rw [if_pos (by rfl), names_f L0 (by decide) _ _ (by show 3 < k; omega)]
  simp only [Option.bind_some]
  have hn : ((L0.map (·.f0)).filter (hasPre ⟨#[]⟩)).length = 3 := by
    have h1 : ∀ a : ByteArray, hasPre ⟨#[]⟩ a = true := fun a => by
      unfold hasPre
      rw [if_pos (by show 0 ≤ _; omega)]
      have : (a.extract 0 (⟨#[]⟩ : ByteArray).size) = ⟨#[]⟩ := by
        apply ba_ext
        rw [ByteArray.toList_eq, ByteArray.toList_eq]
        simp [show (⟨#[]⟩ : ByteArray).size = 0 from rfl]
      rw [this]
      simp
    rw [List.filter_eq_self.2 (fun a _ => h1 a)]
    rfl
  rw [if_pos (by rw [hn]; rfl)]
  have hd : symindex_Docs.f [o2, o4] = some [7] := by
    unfold symindex_Docs.f
    rw [if_pos (by decide)]
    have : sortI (docS [o2, o4]) = [7, 7] := by simp [sortI, docS, o2, o4, List.mergeSort]
    rw [this]
    rfl
  rw [hd]
  simp only [Option.bind_some]
  rw [same05_self _ (by decide) _ (by simp; omega)]
  simp only [Option.bind_some]
  rw [if_pos trivial, union_f L0 [] (by decide) (by decide) (by decide) (by decide) _ (by omega)]
  have hu : symindex_index.f (allS L0 ++ allS []) = some L0 := by
    have : allS L0 ++ allS [] = allS L0 := by simp [allS]
    rw [this]
    unfold symindex_index.f
    rw [if_pos few0, idx1]
  rw [hu]
  simp only [Option.bind_some]
  rw [same_self L0 (by decide) (by decide) _ (by show 3 + 1000000 < k; omega)]
  rfl
end Go.Proofs.Ytlogobmimacpgaa.L32
