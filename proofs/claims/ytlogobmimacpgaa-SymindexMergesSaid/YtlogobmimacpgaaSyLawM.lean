/- The law SymindexMerges answers true. Plain Lean, over the printed words. -/
import Derived.Test.YtlogobmimacpgaaSyL3
import Derived.Test.YtlogobmimacpgaaL32x15
import Derived.Test.YtlogobmimacpgaaL32x16
import Derived.Test.YtlogobmimacpgaaSyLaw0
set_option linter.unusedVariables false
set_option linter.unusedSimpArgs false
namespace Go.Proofs.Ytlogobmimacpgaa.L32
open Go.RowKit Go.Proofs.YtlogobmimacpgaaW.PrintWords Go.Proofs.Ytlogobmimacpgaa.Idx
theorem in_from (l : List Int) (hl : l.length ≤ 1000000) (x : Int) : ∀ (d n k : Nat), n + d = l.length → d < k → codesearchref05_In.l0 k l x (n : Int) = some ((l.drop n).contains x) := by
  intro d
  induction d with
  | zero =>
    intro n k hn hk
    obtain ⟨k, rfl⟩ : ∃ q, k = q + 1 := ⟨k - 1, by omega⟩
    unfold codesearchref05_In.l0
    rw [if_neg (by omega), List.drop_of_length_le (by omega)]
    rfl
  | succ d ih =>
    intro n k hn hk
    obtain ⟨k, rfl⟩ : ∃ q, k = q + 1 := ⟨k - 1, by omega⟩
    have h := ih (n + 1) k (by omega) (by omega)
    rw [nsucc] at h
    have hr : rd l (n : Int) = l[n] := by unfold rd; rw [Int.toNat_natCast, List.getD_eq_getElem?_getD, List.getElem?_eq_getElem (by omega)]; rfl
    unfold codesearchref05_In.l0
    rw [if_pos (by omega), if_pos (by omega), hr, List.drop_eq_getElem_cons (show n < l.length by omega), List.contains_cons]
    by_cases e : l[n] = x
    · rw [if_pos e]; simp [e]
    · rw [if_neg e, wrap_in _ (by omega) (by omega), h]
      have : (x == l[n]) = false := by simp; exact fun e2 => e e2.symm
      rw [this]
      simp
theorem in_f (l : List Int) (hl : l.length ≤ 1000000) (x : Int) (k : Nat) (hk : l.length < k) : codesearchref05_In.f k l x = some (l.contains x) := in_from l hl x l.length 0 k (by omega) hk
def PX (dead : List Int) (l : List tA) : List tP := (idxS (keepL dead l)).map post
theorem keep_app (dead : List Int) (a b : List tA) : keepL dead (a ++ b) = keepL dead a ++ keepL dead b := List.filter_append ..
theorem keepL_le (dead : List Int) (l : List tA) : (keepL dead l).length ≤ l.length := List.length_filter_le _ _
theorem PX_add (dead : List Int) (l : List tA) (x : tA) (h : inDead dead x = false) (hl : l.length ≤ 100000) (hx : x.f3.size ≤ 1000000) (k : Nat) (hk : 6000000 < k) : codesearchref32_Add.f k (PX dead l) x.f0 x.f1 x.f2 x.f3 = some (PX dead (l ++ [x])) := by
  unfold PX
  have hkl := keepL_le dead l
  obtain ⟨p1, p2⟩ := posts_len (keepL dead l)
  rw [add_f _ (by omega) (fun p hp => by have := p2 p hp; omega) x hx k hk, keep_app]
  have : keepL dead [x] = [x] := by simp [keepL, h]
  rw [this, idxS_snoc]
theorem PX_skip (dead : List Int) (l : List tA) (x : tA) (h : inDead dead x = true) : PX dead (l ++ [x]) = PX dead l := by
  unfold PX
  rw [keep_app]
  have : keepL dead [x] = [] := by simp [keepL, h]
  rw [this, List.append_nil]
theorem rwo_inner (dead : List Int) (hdl : dead.length ≤ 1000000) (L : List tP) (hL : L.length ≤ 1000000) (n : Nat) (hn : n < L.length) (hf : L[n].f1.length ≤ 10000) (hs : ∀ x ∈ L[n].f1, x.f3.size ≤ 1000000) (A : List tA) (hA : A.length ≤ 10000) : ∀ (d j k : Nat), j + d = L[n].f1.length → 10000000 < k →
    codesearchref32_Without.l1 (k + d + 1) L dead (PX dead (A ++ L[n].f1.take j)) (n : Int) (j : Int) = codesearchref32_Without.l0 k L dead (PX dead (A ++ L[n].f1)) ((n : Int) + 1) := by
  intro d
  induction d with
  | zero =>
    intro j k hj hk
    rw [List.take_of_length_le (by omega)]
    show codesearchref32_Without.l1 (k + 1) L dead _ _ _ = _
    unfold codesearchref32_Without.l1
    rw [if_pos (by omega), if_pos (by omega), rdP L n hn, if_neg (by omega), wrap_in _ (by omega) (by omega)]
  | succ d ih =>
    intro j k hj hk
    have h := ih (j + 1) k (by omega) hk
    rw [nsucc, take_get L[n].f1 j _ (List.getElem?_eq_getElem (by omega)), ← List.append_assoc] at h
    have hx := hs _ (List.getElem_mem (show j < L[n].f1.length by omega))
    show codesearchref32_Without.l1 ((k + d + 1) + 1) L dead _ _ _ = _
    unfold codesearchref32_Without.l1
    rw [if_pos (by omega), if_pos (by omega), rdP L n hn, if_pos (by omega), if_pos (by omega), rdA _ j (by omega), in_f dead hdl _ _ (by omega), wrap_in _ (by omega) (by omega)]
    simp only [Option.bind_some]
    cases e : inDead dead L[n].f1[j] with
    | true =>
      rw [PX_skip _ _ _ e] at h
      rw [if_pos (show dead.contains L[n].f1[j].f0 = true from e)]
      exact h
    | false =>
      rw [if_neg (show ¬ dead.contains L[n].f1[j].f0 = true by rw [show dead.contains L[n].f1[j].f0 = false from e]; simp), PX_add dead _ _ e (by rw [List.length_append, List.length_take]; omega) hx _ (by omega)]
      simp only [Option.bind_some]
      exact h
set_option maxRecDepth 20000 in
theorem rwo_from (dead : List Int) (hdl : dead.length ≤ 1000000) (L : List tP) (hL : L.length ≤ 1000) (hf : ∀ p ∈ L, p.f1.length ≤ 1000) (ha : (allS L).length ≤ 10000) (hs : ∀ x ∈ allS L, x.f3.size ≤ 1000000) (M : Nat) (hM : 10000000 ≤ M) : ∀ (d n k : Nat), n + d = L.length → d * 2000 + M < k →
    codesearchref32_Without.l0 k L dead (PX dead (allS (L.take n))) (n : Int) = some (PX dead (allS L)) := by
  intro d
  induction d with
  | zero =>
    intro n k hn hk
    obtain ⟨k, rfl⟩ : ∃ q, k = q + 1 := ⟨k - 1, by omega⟩
    unfold codesearchref32_Without.l0
    rw [if_neg (by omega), List.take_of_length_le (by omega)]
  | succ d ih =>
    intro n k hn hk
    have hnl : n < L.length := by omega
    have hfn := hf _ (List.getElem_mem hnl)
    obtain ⟨k, rfl⟩ : ∃ q, k = (q + L[n].f1.length + 1) + 1 := ⟨k - (L[n].f1.length + 2), by omega⟩
    have h := ih (n + 1) k (by omega) (by omega)
    have hle := allS_le L n
    have hsn : ∀ x ∈ L[n].f1, x.f3.size ≤ 1000000 := fun x hx => hs x (List.mem_flatMap.2 ⟨L[n], List.getElem_mem hnl, hx⟩)
    have hi := rwo_inner dead hdl L (by omega) n hnl (by omega) hsn (allS (L.take n)) (by omega) L[n].f1.length 0 k (by omega) (by omega)
    rw [nsucc, allS_take L n hnl, rdP L n hnl] at h
    rw [List.take_zero, List.append_nil] at hi
    unfold codesearchref32_Without.l0
    rw [if_pos (by omega)]
    exact hi.trans h
theorem rwithout_f (dead : List Int) (hdl : dead.length ≤ 1000000) (L : List tP) (hL : L.length ≤ 1000) (hf : ∀ p ∈ L, p.f1.length ≤ 1000) (ha : (allS L).length ≤ 10000) (hs : ∀ x ∈ allS L, x.f3.size ≤ 1000000) (k : Nat) (hk : 20000000 < k) : codesearchref32_Without.f k L dead = some (PX dead (allS L)) := by
  have h := rwo_from dead hdl L hL hf ha hs 10000000 (Nat.le_refl _) L.length 0 k (by omega) (by omega)
  exact h
/-! Union. -/
def PU (B l : List tA) : List tP := (idxS (B ++ l)).map post
theorem PU_add (B l : List tA) (x : tA) (hB : B.length ≤ 100000) (hl : l.length ≤ 100000) (hx : x.f3.size ≤ 1000000) (k : Nat) (hk : 6000000 < k) : codesearchref32_Add.f k (PU B l) x.f0 x.f1 x.f2 x.f3 = some (PU B (l ++ [x])) := by
  unfold PU
  obtain ⟨p1, p2⟩ := posts_len (B ++ l)
  rw [List.length_append] at p1 p2
  rw [add_f _ (by omega) (fun p hp => by have := p2 p hp; omega) x hx k hk, ← List.append_assoc, idxS_snoc]
theorem run_inner (L : List tP) (hL : L.length ≤ 1000000) (B : List tA) (hB : B.length ≤ 100000) (n : Nat) (hn : n < L.length) (hf : L[n].f1.length ≤ 10000) (hs : ∀ x ∈ L[n].f1, x.f3.size ≤ 1000000) (A : List tA) (hA : A.length ≤ 10000) : ∀ (d j k : Nat), j + d = L[n].f1.length → 10000000 < k →
    codesearchref32_Union.l1 (k + d + 1) L (PU B (A ++ L[n].f1.take j)) (n : Int) (j : Int) = codesearchref32_Union.l0 k L (PU B (A ++ L[n].f1)) ((n : Int) + 1) := by
  intro d
  induction d with
  | zero =>
    intro j k hj hk
    rw [List.take_of_length_le (by omega)]
    show codesearchref32_Union.l1 (k + 1) L _ _ _ = _
    unfold codesearchref32_Union.l1
    rw [if_pos (by omega), if_pos (by omega), rdP L n hn, if_neg (by omega), wrap_in _ (by omega) (by omega)]
  | succ d ih =>
    intro j k hj hk
    have h := ih (j + 1) k (by omega) hk
    rw [nsucc, take_get L[n].f1 j _ (List.getElem?_eq_getElem (by omega)), ← List.append_assoc] at h
    have hx := hs _ (List.getElem_mem (show j < L[n].f1.length by omega))
    show codesearchref32_Union.l1 ((k + d + 1) + 1) L _ _ _ = _
    unfold codesearchref32_Union.l1
    rw [if_pos (by omega), if_pos (by omega), rdP L n hn, if_pos (by omega), if_pos (by omega), rdA _ j (by omega), PU_add B _ _ hB (by rw [List.length_append, List.length_take]; omega) hx _ (by omega), wrap_in _ (by omega) (by omega)]
    simp only [Option.bind_some]
    exact h
set_option maxRecDepth 20000 in
theorem run_from (L : List tP) (hL : L.length ≤ 1000) (B : List tA) (hB : B.length ≤ 100000) (hf : ∀ p ∈ L, p.f1.length ≤ 1000) (ha : (allS L).length ≤ 10000) (hs : ∀ x ∈ allS L, x.f3.size ≤ 1000000) (M : Nat) (hM : 10000000 ≤ M) : ∀ (d n k : Nat), n + d = L.length → d * 2000 + M < k →
    codesearchref32_Union.l0 k L (PU B (allS (L.take n))) (n : Int) = some (PU B (allS L)) := by
  intro d
  induction d with
  | zero =>
    intro n k hn hk
    obtain ⟨k, rfl⟩ : ∃ q, k = q + 1 := ⟨k - 1, by omega⟩
    unfold codesearchref32_Union.l0
    rw [if_neg (by omega), List.take_of_length_le (by omega)]
  | succ d ih =>
    intro n k hn hk
    have hnl : n < L.length := by omega
    have hfn := hf _ (List.getElem_mem hnl)
    obtain ⟨k, rfl⟩ : ∃ q, k = (q + L[n].f1.length + 1) + 1 := ⟨k - (L[n].f1.length + 2), by omega⟩
    have h := ih (n + 1) k (by omega) (by omega)
    have hle := allS_le L n
    have hsn : ∀ x ∈ L[n].f1, x.f3.size ≤ 1000000 := fun x hx => hs x (List.mem_flatMap.2 ⟨L[n], List.getElem_mem hnl, hx⟩)
    have hi := run_inner L (by omega) B hB n hnl (by omega) hsn (allS (L.take n)) (by omega) L[n].f1.length 0 k (by omega) (by omega)
    rw [nsucc, allS_take L n hnl, rdP L n hnl] at h
    rw [List.take_zero, List.append_nil] at hi
    unfold codesearchref32_Union.l0
    rw [if_pos (by omega)]
    exact hi.trans h
theorem keep_nil (l : List tA) : keepL [] l = l := List.filter_eq_self.2 fun x _ => rfl
theorem runion_f (a b : List tP) (ha : a.length ≤ 1000) (hb : b.length ≤ 1000) (hfa : ∀ p ∈ a, p.f1.length ≤ 1000) (hfb : ∀ p ∈ b, p.f1.length ≤ 1000) (haa : (allS a).length ≤ 10000) (hab : (allS b).length ≤ 10000) (hsa : ∀ x ∈ allS a, x.f3.size ≤ 1000000) (hsb : ∀ x ∈ allS b, x.f3.size ≤ 1000000) (k : Nat) (hk : 20000000 < k) :
    codesearchref32_Union.f k a b = some ((idxS (allS a ++ allS b)).map post) := by
  unfold codesearchref32_Union.f
  rw [rwithout_f [] (by simp) a ha hfa haa hsa k hk]
  simp only [Option.bind_some]
  have h := run_from b hb (allS a) (by omega) hfb hab hsb 10000000 (Nat.le_refl _) b.length 0 k (by omega) (by omega)
  unfold PX
  rw [keep_nil]
  have e : PU (allS a) (allS (b.take 0)) = (idxS (allS a)).map post := by unfold PU; simp [allS]
  rw [e] at h
  exact h
theorem few_of {l : List tA} (hl : l.length ≤ 1000000) (hs : ∀ x ∈ l, x.f3.size ≤ 1000000) : few l = true := by
  unfold few
  rw [Bool.and_eq_true, decide_eq_true_eq, List.all_eq_true]
  exact ⟨hl, fun x hx => decide_eq_true (hs x hx)⟩
theorem law_merges (a b : List tA) (dead : List Int) : ∃ k, codesearchlaw32_SymindexMerges.f k a b dead = some true := by
  obtain ⟨k, hk⟩ : ∃ k, 30000000 < k := ⟨30000001, by omega⟩
  refine ⟨k + 1, ?_⟩
  unfold codesearchlaw32_SymindexMerges.f
  rw [alive_f (k + 1) (by omega)]
  simp only [Option.bind_some]
  rw [if_pos trivial, lfew_f a _ (by omega)]
  simp only [Option.bind_some]
  have ht : codesearchlaw32_SymindexMerges.j0 (k + 1) a b dead true = some true := by
    unfold codesearchlaw32_SymindexMerges.j0
    dsimp only
    rw [if_pos rfl]
  cases ha : few60 a with
  | false => rw [if_neg (by simp)]; exact ht
  | true =>
    rw [if_pos rfl, lfew_f b _ (by omega)]
    simp only [Option.bind_some]
    cases hb : few60 b with
    | false => rw [if_neg (by simp)]; exact ht
    | true =>
      rw [if_pos rfl]
      by_cases hd : (dead.length : Int) > 60
      · rw [decide_eq_true hd]; exact ht
      · rw [decide_eq_false hd]
        obtain ⟨a1, a2⟩ := few60_get ha
        obtain ⟨b1, b2⟩ := few60_get hb
        obtain ⟨sa1, sa2, sa3, sa4⟩ := idx_sizes ha
        obtain ⟨sb1, sb2, sb3, sb4⟩ := idx_sizes hb
        obtain ⟨La, hLa⟩ : ∃ L, (idxS a).map post = L := ⟨_, rfl⟩
        obtain ⟨Lb, hLb⟩ : ∃ L, (idxS b).map post = L := ⟨_, rfl⟩
        rw [hLa] at sa1 sa2 sa3 sa4
        rw [hLb] at sb1 sb2 sb3 sb4
        unfold codesearchlaw32_SymindexMerges.j0
        dsimp only
        rw [if_neg (by simp), lindex_f a (by omega) (fun x hx => by have := a2 x hx; omega) k (by omega), hLa]
        simp only [Option.bind_some]
        rw [lindex_f b (by omega) (fun x hx => by have := b2 x hx; omega) k (by omega), hLb]
        simp only [Option.bind_some]
        have hkl := keepL_le dead (allS La)
        have hw : symindex_Without.f La dead = some (PX dead (allS La)) := by
          unfold symindex_Without.f
          rw [if_pos ⟨by omega, by omega⟩]
          unfold symindex_index.f
          rw [if_pos (few_of (by omega) (fun x hx => by have := sa4 x (List.mem_filter.1 hx).1; omega))]
          rfl
        rw [hw]
        simp only [Option.bind_some]
        rw [rwithout_f dead (by omega) La (by omega) (fun p hp => by have := sa2 p hp; omega) (by omega) (fun x hx => by have := sa4 x hx; omega) k (by omega)]
        simp only [Option.bind_some]
        obtain ⟨p1, p2⟩ := posts_len (keepL dead (allS La))
        rw [show PX dead (allS La) = (idxS (keepL dead (allS La))).map post from rfl, same_self _ (by omega) (fun p hp => by have := p2 p hp; omega) k (by omega)]
        simp only [Option.bind_some]
        rw [if_pos trivial, union_f La Lb (by omega) (by omega) (by omega) (by omega) k (by omega)]
        have hu : symindex_index.f (allS La ++ allS Lb) = some ((idxS (allS La ++ allS Lb)).map post) := by
          unfold symindex_index.f
          rw [if_pos (few_of (by rw [List.length_append]; omega) (fun x hx => by
            rcases List.mem_append.1 hx with hx | hx
            · have := sa4 x hx; omega
            · have := sb4 x hx; omega))]
        rw [hu]
        simp only [Option.bind_some]
        rw [runion_f La Lb (by omega) (by omega) (fun p hp => by have := sa2 p hp; omega) (fun p hp => by have := sb2 p hp; omega) (by omega) (by omega) (fun x hx => by have := sa4 x hx; omega) (fun x hx => by have := sb4 x hx; omega) k (by omega)]
        simp only [Option.bind_some]
        obtain ⟨q1, q2⟩ := posts_len (allS La ++ allS Lb)
        rw [List.length_append] at q1 q2
        rw [same_self _ (by omega) (fun p hp => by have := q2 p hp; omega) k (by omega)]
        rfl
end Go.Proofs.Ytlogobmimacpgaa.L32
