/- The law SymindexAsks answers true. Plain Lean, over the printed words. -/
import Derived.Test.YtlogobmimacpgaaSyLaw0
import Derived.Test.YtlogobmimacpgaaL32x12
import Derived.Test.YtlogobmimacpgaaL32x13
import Derived.Test.YtlogobmimacpgaaL32x14
set_option linter.unusedVariables false
set_option linter.unusedSimpArgs false
namespace Go.Proofs.Ytlogobmimacpgaa.L32
open Go.RowKit Go.Lib Go.Proofs.YtlogobmimacpgaaW.PrintWords Go.Proofs.Ytlogobmimacpgaa.Idx
/-! Defs and Refs of the reference. -/
def dP (nm : ByteArray) (p : tP) : List tA := p.f1.filter fun x => decide (p.f0 = nm) && isDef x
theorem rdefs_inner (nm : ByteArray) (L : List tP) (hL : L.length ≤ 1000000) (n : Nat) (hn : n < L.length) (hf : L[n].f1.length ≤ 100000) (acc : List tA) (ha : acc.length ≤ 100000) : ∀ (d j k : Nat), j + d = L[n].f1.length →
    codesearchref32_Defs.l1 (k + d + 1) L nm (acc ++ (L[n].f1.take j).filter fun x => decide (L[n].f0 = nm) && isDef x) (n : Int) (j : Int) = codesearchref32_Defs.l0 k L nm (acc ++ dP nm L[n]) ((n : Int) + 1) := by
  intro d
  induction d with
  | zero =>
    intro j k hj
    rw [List.take_of_length_le (by omega)]
    show codesearchref32_Defs.l1 (k + 1) L nm _ _ _ = _
    unfold codesearchref32_Defs.l1
    rw [if_pos (by omega), if_pos (by omega), rdP L n hn, if_neg (by omega), wrap_in _ (by omega) (by omega)]
    rfl
  | succ d ih =>
    intro j k hj
    have h := ih (j + 1) k (by omega)
    have hle := filt_le (fun x => decide (L[n].f0 = nm) && isDef x) L[n].f1 j
    rw [nsucc, filt_snoc _ _ _ (show j < L[n].f1.length by omega)] at h
    show codesearchref32_Defs.l1 ((k + d + 1) + 1) L nm _ _ _ = _
    unfold codesearchref32_Defs.l1
    rw [if_pos (by omega), if_pos (by omega), rdP L n hn, if_pos (by omega), wrap_in _ (by omega) (by omega)]
    by_cases e : L[n].f0 = nm
    · rw [if_pos (bytes_eq.2 e), if_pos (by omega), rdA _ j (by omega)]
      by_cases e2 : L[n].f1[j].f2 = 0
      · rw [if_pos e2, if_pos (by rw [List.length_append]; omega)]
        rw [if_pos (show (decide (L[n].f0 = nm) && isDef L[n].f1[j]) = true by simp [isDef, e, e2]), ← List.append_assoc] at h
        exact h
      · rw [if_neg e2]
        rw [if_neg (show ¬ (decide (L[n].f0 = nm) && isDef L[n].f1[j]) = true by simp [isDef, e2])] at h
        exact h
    · rw [if_neg (fun e3 => e (bytes_eq.1 e3))]
      rw [if_neg (show ¬ (decide (L[n].f0 = nm) && isDef L[n].f1[j]) = true by simp [e])] at h
      exact h
theorem flatF_take {β : Type} (f : tP → List β) (L : List tP) (n : Nat) (h : n < L.length) : (L.take (n + 1)).flatMap f = (L.take n).flatMap f ++ f L[n] := by
  rw [take_get L n L[n] (List.getElem?_eq_getElem h), List.flatMap_append]
  simp
theorem flat_le (f : tP → List tA) (hf : ∀ p, (f p).length ≤ p.f1.length) : ∀ L : List tP, (L.flatMap f).length ≤ (allS L).length
  | [] => by simp
  | p :: r => by
    have h1 := flat_le f hf r
    have h2 := hf p
    unfold allS at *
    rw [List.flatMap_cons, List.flatMap_cons, List.length_append, List.length_append]
    omega
set_option maxRecDepth 20000 in
theorem rdefs_from (nm : ByteArray) (L : List tP) (hL : L.length ≤ 1000) (hf : ∀ p ∈ L, p.f1.length ≤ 1000) (ha : (allS L).length ≤ 100000) : ∀ (d n k : Nat), n + d = L.length → d * 2000 < k →
    codesearchref32_Defs.l0 k L nm ((L.take n).flatMap (dP nm)) (n : Int) = some (L.flatMap (dP nm)) := by
  intro d
  induction d with
  | zero =>
    intro n k hn hk
    obtain ⟨k, rfl⟩ : ∃ q, k = q + 1 := ⟨k - 1, by omega⟩
    unfold codesearchref32_Defs.l0
    rw [if_neg (by omega), List.take_of_length_le (by omega)]
  | succ d ih =>
    intro n k hn hk
    have hnl : n < L.length := by omega
    have hfn := hf _ (List.getElem_mem hnl)
    obtain ⟨k, rfl⟩ : ∃ q, k = (q + L[n].f1.length + 1) + 1 := ⟨k - (L[n].f1.length + 2), by omega⟩
    have h := ih (n + 1) k (by omega) (by omega)
    have hle := allS_le L n
    have hfl := flat_le (dP nm) (fun p => List.length_filter_le _ _) (L.take n)
    have hi := rdefs_inner nm L (by omega) n hnl (by omega) ((L.take n).flatMap (dP nm)) (by omega) L[n].f1.length 0 k (by omega)
    rw [nsucc, flatF_take _ L n hnl] at h
    rw [List.take_zero, List.filter_nil, List.append_nil] at hi
    unfold codesearchref32_Defs.l0
    rw [if_pos (by omega)]
    exact hi.trans h
theorem rdefs_f (nm : ByteArray) (L : List tP) (hL : L.length ≤ 1000) (hf : ∀ p ∈ L, p.f1.length ≤ 1000) (ha : (allS L).length ≤ 100000) (k : Nat) (hk : 3000000 < k) : codesearchref32_Defs.f k L nm = some (L.flatMap (dP nm)) := by
  have h := rdefs_from nm L hL hf ha L.length 0 k (by omega) (by omega)
  exact h
def rP (nm : ByteArray) (p : tP) : List tA := p.f1.filter (isRef nm)
theorem rrefs_inner (nm : ByteArray) (L : List tP) (hL : L.length ≤ 1000000) (n : Nat) (hn : n < L.length) (hf : L[n].f1.length ≤ 100000) (acc : List tA) (ha : acc.length ≤ 100000) : ∀ (d j k : Nat), j + d = L[n].f1.length →
    codesearchref32_Refs.l1 (k + d + 1) L nm (acc ++ (L[n].f1.take j).filter (isRef nm)) (n : Int) (j : Int) = codesearchref32_Refs.l0 k L nm (acc ++ rP nm L[n]) ((n : Int) + 1) := by
  intro d
  induction d with
  | zero =>
    intro j k hj
    rw [List.take_of_length_le (by omega)]
    show codesearchref32_Refs.l1 (k + 1) L nm _ _ _ = _
    unfold codesearchref32_Refs.l1
    rw [if_pos (by omega), if_pos (by omega), rdP L n hn, if_neg (by omega), wrap_in _ (by omega) (by omega)]
    rfl
  | succ d ih =>
    intro j k hj
    have h := ih (j + 1) k (by omega)
    have hle := filt_le (isRef nm) L[n].f1 j
    rw [nsucc, filt_snoc _ _ _ (show j < L[n].f1.length by omega)] at h
    show codesearchref32_Refs.l1 ((k + d + 1) + 1) L nm _ _ _ = _
    unfold codesearchref32_Refs.l1
    rw [if_pos (by omega), if_pos (by omega), rdP L n hn, if_pos (by omega), if_pos (by omega), wrap_in _ (by omega) (by omega), rdA _ j (by omega)]
    by_cases e : L[n].f1[j].f3 = nm
    · rw [if_pos (bytes_eq.2 e)]
      by_cases e2 : L[n].f1[j].f2 = 0
      · rw [if_pos e2]
        rw [if_neg (show ¬ isRef nm L[n].f1[j] = true by simp [isRef, e2])] at h
        exact h
      · rw [if_neg e2, if_pos (by rw [List.length_append]; omega)]
        rw [if_pos (show isRef nm L[n].f1[j] = true by simp [isRef, e, e2]), ← List.append_assoc] at h
        exact h
    · rw [if_neg (fun e3 => e (bytes_eq.1 e3))]
      rw [if_neg (show ¬ isRef nm L[n].f1[j] = true by simp [isRef, e])] at h
      exact h
set_option maxRecDepth 20000 in
theorem rrefs_from (nm : ByteArray) (L : List tP) (hL : L.length ≤ 1000) (hf : ∀ p ∈ L, p.f1.length ≤ 1000) (ha : (allS L).length ≤ 100000) : ∀ (d n k : Nat), n + d = L.length → d * 2000 < k →
    codesearchref32_Refs.l0 k L nm ((L.take n).flatMap (rP nm)) (n : Int) = some (L.flatMap (rP nm)) := by
  intro d
  induction d with
  | zero =>
    intro n k hn hk
    obtain ⟨k, rfl⟩ : ∃ q, k = q + 1 := ⟨k - 1, by omega⟩
    unfold codesearchref32_Refs.l0
    rw [if_neg (by omega), List.take_of_length_le (by omega)]
  | succ d ih =>
    intro n k hn hk
    have hnl : n < L.length := by omega
    have hfn := hf _ (List.getElem_mem hnl)
    obtain ⟨k, rfl⟩ : ∃ q, k = (q + L[n].f1.length + 1) + 1 := ⟨k - (L[n].f1.length + 2), by omega⟩
    have h := ih (n + 1) k (by omega) (by omega)
    have hle := allS_le L n
    have hfl := flat_le (rP nm) (fun p => List.length_filter_le _ _) (L.take n)
    have hi := rrefs_inner nm L (by omega) n hnl (by omega) ((L.take n).flatMap (rP nm)) (by omega) L[n].f1.length 0 k (by omega)
    rw [nsucc, flatF_take _ L n hnl] at h
    rw [List.take_zero, List.filter_nil, List.append_nil] at hi
    unfold codesearchref32_Refs.l0
    rw [if_pos (by omega)]
    exact hi.trans h
theorem rrefs_f (nm : ByteArray) (L : List tP) (hL : L.length ≤ 1000) (hf : ∀ p ∈ L, p.f1.length ≤ 1000) (ha : (allS L).length ≤ 100000) (k : Nat) (hk : 3000000 < k) : codesearchref32_Refs.f k L nm = some (L.flatMap (rP nm)) := by
  have h := rrefs_from nm L hL hf ha L.length 0 k (by omega) (by omega)
  exact h
/-! The same as the program's. -/
theorem flat_none (nm : ByteArray) (f : tP → List tA) : ∀ r : List tP, (∀ p ∈ r, f p = []) → r.flatMap f = []
  | [], _ => rfl
  | p :: r, h => by rw [List.flatMap_cons, h p List.mem_cons_self, flat_none nm f r (fun q hq => h q (List.mem_cons_of_mem _ hq))]; rfl
theorem under_flat (nm : ByteArray) (q : tA → Bool) (f : tP → List tA) : ∀ L : List tP, (L.Pairwise fun p r => p.f0 ≠ r.f0) → (∀ p ∈ L, f p = if p.f0 = nm then p.f1.filter q else []) → (underL L nm).filter q = L.flatMap f
  | [], _, _ => rfl
  | p :: r, hp, hf => by
    have h1 := List.pairwise_cons.1 hp
    rw [List.flatMap_cons, hf p List.mem_cons_self]
    unfold underL
    rw [List.find?_cons]
    by_cases e : p.f0 = nm
    · rw [decide_eq_true e, if_pos e, flat_none nm f r, List.append_nil]
      intro x hx
      rw [hf x (List.mem_cons_of_mem _ hx), if_neg (fun e2 => h1.1 x hx (by rw [e, e2]))]
    · rw [decide_eq_false e, if_neg e, List.nil_append]
      exact under_flat nm q f r h1.2 (fun x hx => hf x (List.mem_cons_of_mem _ hx))
theorem idx_apart (l : List tA) : ((idxS l).map post).Pairwise fun p r => p.f0 ≠ r.f0 := by
  rw [List.pairwise_map]
  refine (idx_right (key := keyS) ordS ordN l).1.imp fun {p r} h e => ?_
  have e : p.1 = r.1 := e
  rw [e, ordN.irr] at h
  cases h
theorem idx_key (l : List tA) (p : tP) (hp : p ∈ (idxS l).map post) (x : tA) (hx : x ∈ p.f1) : keyS x = p.f0 := by
  obtain ⟨q, hq, rfl⟩ := List.mem_map.1 hp
  exact ((idx_right (key := keyS) ordS ordN l).2 q hq).2.2 x hx
theorem defs_same (l : List tA) (nm : ByteArray) : (underL ((idxS l).map post) nm).filter isDef = ((idxS l).map post).flatMap (dP nm) :=
  under_flat nm isDef (dP nm) _ (idx_apart l) fun p _ => by
    unfold dP
    by_cases e : p.f0 = nm
    · rw [if_pos e, decide_eq_true e]; rfl
    · rw [if_neg e, decide_eq_false e]; simp
theorem refs_same (l : List tA) (nm : ByteArray) : (underL ((idxS l).map post) (simpleB nm)).filter (isRef nm) = ((idxS l).map post).flatMap (rP nm) :=
  under_flat (simpleB nm) (isRef nm) (rP nm) _ (idx_apart l) fun p hp => by
    unfold rP
    by_cases e : p.f0 = simpleB nm
    · rw [if_pos e]
    · rw [if_neg e]
      refine List.filter_eq_nil_iff.2 fun x hx hq => e ?_
      unfold isRef at hq
      simp only [Bool.and_eq_true, decide_eq_true_eq] at hq
      rw [← idx_key l p hp x hx]
      unfold keyS
      rw [hq.2]
end Go.Proofs.Ytlogobmimacpgaa.L32
