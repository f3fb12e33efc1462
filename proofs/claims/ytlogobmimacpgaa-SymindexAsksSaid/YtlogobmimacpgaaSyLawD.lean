/- Docs, Names and texts, plainly; the law SymindexAsks. Plain Lean, over the printed words. -/
import Derived.Test.YtlogobmimacpgaaSyLawA
set_option linter.unusedVariables false
set_option linter.unusedSimpArgs false
namespace Go.Proofs.Ytlogobmimacpgaa.L32
open Go.RowKit Go.Lib Go.Proofs.YtlogobmimacpgaaW.PrintWords Go.Proofs.Ytlogobmimacpgaa.Idx
def ltI (a b : Int) : Bool := decide (a < b)
theorem ordI : Ord ltI := ⟨fun x => by simp [ltI], fun x y z h1 h2 => by simp [ltI] at *; omega, fun x y h1 h2 => by simp [ltI] at *; omega⟩
theorem rdI (l : List Int) (n : Nat) (h : n < l.length) : rd l (n : Int) = l[n] := by unfold rd; rw [Int.toNat_natCast, List.getD_eq_getElem?_getD, List.getElem?_eq_getElem h]; rfl
theorem iput_done (x0 : List Int) (hx : x0.length ≤ 1000000) (x : Int) : ∀ (d n k : Nat) (acc : List Int), n + d = x0.length → 2 * d < k → acc.length ≤ n + 1 → codesearchref05_Put.l0 k x0 x acc true (n : Int) = some (acc ++ x0.drop n) := by
  intro d
  induction d with
  | zero =>
    intro n k acc hn hk ha
    obtain ⟨k, rfl⟩ : ∃ q, k = q + 1 := ⟨k - 1, by omega⟩
    unfold codesearchref05_Put.l0
    rw [if_neg (by omega), if_pos rfl, List.drop_of_length_le (by omega), List.append_nil]
  | succ d ih =>
    intro n k acc hn hk ha
    obtain ⟨k, rfl⟩ : ∃ q, k = q + 2 := ⟨k - 2, by omega⟩
    have h := ih (n + 1) k (acc ++ [x0[n]]) (by omega) (by omega) (by simp; omega)
    rw [nsucc] at h
    unfold codesearchref05_Put.l0
    rw [if_pos (by omega), if_pos rfl]
    unfold codesearchref05_Put.j1
    rw [if_neg (by simp), if_pos (by omega), if_pos (by omega), if_pos (by omega), wrap_in _ (by omega) (by omega), rdI x0 n (by omega)]
    rw [List.drop_eq_getElem_cons (show n < x0.length by omega)]
    exact h.trans (by simp)
theorem iput_from (x0 : List Int) (hx : x0.length ≤ 1000000) (x : Int) : ∀ (d n k : Nat) (acc : List Int), n + d = x0.length → 2 * d < k → acc.length ≤ n → codesearchref05_Put.l0 k x0 x acc false (n : Int) = some (acc ++ insB ltI (x0.drop n) x) := by
  intro d
  induction d with
  | zero =>
    intro n k acc hn hk ha
    obtain ⟨k, rfl⟩ : ∃ q, k = q + 1 := ⟨k - 1, by omega⟩
    unfold codesearchref05_Put.l0
    rw [if_neg (by omega), if_neg (by simp), if_pos (by omega), List.drop_of_length_le (by omega)]
    rfl
  | succ d ih =>
    intro n k acc hn hk ha
    obtain ⟨k, rfl⟩ : ∃ q, k = q + 2 := ⟨k - 2, by omega⟩
    have h := ih (n + 1) k (acc ++ [x0[n]]) (by omega) (by omega) (by simp; omega)
    have hd1 := iput_done x0 hx x d (n + 1) k (acc ++ [x0[n]]) (by omega) (by omega) (by simp; omega)
    have hd2 := iput_done x0 hx x d (n + 1) k (acc ++ [x] ++ [x0[n]]) (by omega) (by omega) (by simp; omega)
    rw [nsucc] at h hd1 hd2
    unfold codesearchref05_Put.l0
    rw [if_pos (by omega), if_neg (by simp), if_pos (by omega), rdI x0 n (by omega)]
    rw [List.drop_eq_getElem_cons (show n < x0.length by omega)]
    unfold codesearchref05_Put.j1
    by_cases e : x0[n] ≥ x
    · rw [if_pos (decide_eq_true e), if_pos (by omega), if_pos (by omega), rdI x0 n (by omega)]
      by_cases e2 : x0[n] > x
      · have hi : insB ltI (x0[n] :: x0.drop (n + 1)) x = x :: x0[n] :: x0.drop (n + 1) := by
          rw [insB, if_neg (show ¬ ltI x0[n] x = true by simp [ltI]; omega), if_pos (show ltI x x0[n] = true by simp [ltI]; omega)]
        rw [if_pos e2, if_pos (by omega)]
        simp only [Option.bind_some]
        rw [if_pos (by simp; omega), wrap_in _ (by omega) (by omega), hi]
        exact hd2.trans (by simp)
      · have hi : insB ltI (x0[n] :: x0.drop (n + 1)) x = x0[n] :: x0.drop (n + 1) := by
          rw [insB, if_neg (show ¬ ltI x0[n] x = true by simp [ltI]; omega), if_neg (show ¬ ltI x x0[n] = true by simp [ltI]; omega)]
        rw [if_neg e2, if_pos (by omega), wrap_in _ (by omega) (by omega), hi]
        exact hd1.trans (by simp)
    · have hi : insB ltI (x0[n] :: x0.drop (n + 1)) x = x0[n] :: insB ltI (x0.drop (n + 1)) x := by
        rw [insB, if_pos (show ltI x0[n] x = true by simp [ltI]; omega)]
      rw [if_neg (by simpa using e), if_pos (by omega), if_pos (by omega), if_pos (by omega), wrap_in _ (by omega) (by omega), rdI x0 n (by omega), hi]
      exact h.trans (by simp)
theorem iput_f (x0 : List Int) (hx : x0.length ≤ 1000000) (x : Int) (k : Nat) (hk : 2 * x0.length < k) : codesearchref05_Put.f k x0 x = some (insB ltI x0 x) := by
  unfold codesearchref05_Put.f
  have h := iput_from x0 hx x x0.length 0 k [] (by omega) hk (by simp)
  simpa using h
def setI (l : List Int) : List Int := l.foldl (insB ltI) []
theorem setI_snoc (l : List Int) (x : Int) : setI (l ++ [x]) = insB ltI (setI l) x := by unfold setI; rw [List.foldl_append]; rfl
theorem setI_is (l : List Int) : Up ltI (setI l) ∧ (∀ z, z ∈ setI l ↔ z ∈ l) ∧ (setI l).length ≤ l.length := by
  suffices ∀ (m a : List Int), Up ltI a → Up ltI (m.foldl (insB ltI) a) ∧ (∀ z, z ∈ m.foldl (insB ltI) a ↔ z ∈ a ∨ z ∈ m) ∧ (m.foldl (insB ltI) a).length ≤ a.length + m.length by
    obtain ⟨h1, h2, h3⟩ := this l [] (by simp [Up])
    exact ⟨h1, fun z => by simpa [setI] using h2 z, by simpa [setI] using h3⟩
  intro m
  induction m with
  | nil => intro a h; exact ⟨h, fun z => by simp, by simp⟩
  | cons x r ih =>
    intro a h
    obtain ⟨h1, h2, h3⟩ := ih (insB ltI a x) (up_insB ordI x a h)
    have h4 := insB_len ltI x a
    refine ⟨h1, fun z => ?_, by rw [List.foldl_cons, List.length_cons]; omega⟩
    rw [List.foldl_cons, h2, mem_insB ordI, List.mem_cons]
    grind
theorem rdocs_from (l : List tA) (hl : l.length ≤ 100000) : ∀ (d n k : Nat), n + d = l.length → d + 300000 < k → codesearchref32_Docs.l0 k l (setI (docS (l.take n))) (n : Int) = some (setI (docS l)) := by
  obtain ⟨M, hM⟩ : ∃ M, M = 300000 := ⟨_, rfl⟩
  rw [← hM]
  intro d
  induction d with
  | zero =>
    intro n k hn hk
    obtain ⟨k, rfl⟩ : ∃ q, k = q + 1 := ⟨k - 1, by omega⟩
    unfold codesearchref32_Docs.l0
    rw [if_neg (by omega), List.take_of_length_le (by omega)]
  | succ d ih =>
    intro n k hn hk
    obtain ⟨k, rfl⟩ : ∃ q, k = q + 1 := ⟨k - 1, by omega⟩
    have h := ih (n + 1) k (by omega) (by omega)
    have he : docS (l.take (n + 1)) = docS (l.take n) ++ [l[n].f0] := by
      rw [take_get l n l[n] (List.getElem?_eq_getElem (by omega))]
      unfold docS
      rw [List.map_append]
      rfl
    rw [nsucc, he, setI_snoc] at h
    have h3 := (setI_is (docS (l.take n))).2.2
    have h4 : (docS (l.take n)).length = n := by unfold docS; rw [List.length_map, List.length_take]; omega
    unfold codesearchref32_Docs.l0
    rw [if_pos (by omega), if_pos (by omega), rdA l n (by omega), iput_f _ (by omega) _ k (by omega), wrap_in _ (by omega) (by omega)]
    simp only [Option.bind_some]
    exact h
theorem rdocs_f (l : List tA) (hl : l.length ≤ 100000) (k : Nat) (hk : 500000 < k) : codesearchref32_Docs.f k l = some (setI (docS l)) := by
  have h := rdocs_from l hl l.length 0 k (by omega) (by omega)
  exact h
/-- A sorted list, compacted. -/
theorem compact_is (zs : List Int) (hs : zs.Pairwise fun x y => x ≤ y) : Up ltI (Lib.compact zs) ∧ ∀ z, z ∈ Lib.compact zs ↔ z ∈ zs := by
  have key : ∀ m, m ≤ zs.length → Up ltI (compactUpTo zs.toArray m) ∧ (∀ z, z ∈ compactUpTo zs.toArray m ↔ z ∈ zs.take m) := by
    intro m
    induction m with
    | zero => intro _; exact ⟨by simp [compactUpTo, Up], fun z => by simp [compactUpTo]⟩
    | succ m ih =>
      intro hm
      obtain ⟨h1, h2⟩ := ih (by omega)
      have hg : zs.toArray[m]! = zs[m] := by rw [getElem!_pos zs.toArray m (by simp; omega)]; simp
      rw [compactUpTo_succ, hg, List.take_succ_eq_append_getElem (by omega)]
      by_cases hk : keeps zs.toArray m = true
      · rw [if_pos hk]
        refine ⟨?_, fun z => by rw [List.mem_append, List.mem_append, h2]⟩
        refine List.pairwise_append.2 ⟨h1, by simp, fun a ha b hb => ?_⟩
        obtain rfl : b = zs[m] := by simpa using hb
        have ha2 := (h2 a).1 ha
        obtain ⟨j, hj, rfl⟩ := List.getElem_of_mem ha2
        rw [List.length_take] at hj
        rw [List.getElem_take]
        have hp := List.pairwise_iff_getElem.1 hs
        have hm0 : m ≠ 0 := by omega
        have hg2 : zs.toArray[m - 1]! = zs[m - 1] := by rw [getElem!_pos zs.toArray (m - 1) (by simp; omega)]; simp
        have hne : zs[m] ≠ zs[m - 1] := by
          unfold keeps at hk
          rw [hg, hg2] at hk
          simpa [hm0] using hk
        have hle1 := hp (m - 1) m (by omega) (by omega) (by omega)
        have hle2 : zs[j] ≤ zs[m - 1] := by
          rcases Nat.lt_or_ge j (m - 1) with h | h
          · exact hp j (m - 1) (by omega) (by omega) h
          · have : j = m - 1 := by omega
            subst this
            exact Int.le_refl _
        simp only [ltI, decide_eq_true_eq]
        omega
      · rw [if_neg hk, List.append_nil]
        refine ⟨h1, fun z => ?_⟩
        have hm0 : m ≠ 0 := fun e => hk (by simp [keeps, e])
        have hg2 : zs.toArray[m - 1]! = zs[m - 1] := by rw [getElem!_pos zs.toArray (m - 1) (by simp; omega)]; simp
        have he : zs[m] = zs[m - 1] := by
          unfold keeps at hk
          rw [hg, hg2] at hk
          simpa [hm0] using hk
        rw [h2, List.mem_append, List.mem_singleton]
        constructor
        · exact .inl
        · rintro (h | rfl)
          · exact h
          · rw [he]
            have hj : m - 1 < (zs.take m).length := by rw [List.length_take]; omega
            have := List.getElem_mem hj
            rw [List.getElem_take] at this
            exact this
  obtain ⟨h1, h2⟩ := key zs.length (Nat.le_refl _)
  rw [List.take_length] at h2
  exact ⟨h1, h2⟩
theorem docs_same (l : List Int) : Lib.compact (sortI l) = setI l := by
  have hs : (sortI l).Pairwise fun x y => x ≤ y := by
    have h := List.pairwise_mergeSort (le := fun x y : Int => decide (x ≤ y)) (fun a b c h1 h2 => by simp at *; omega) (fun a b => by simp; omega) l
    exact h.imp fun h => by simpa using h
  obtain ⟨h1, h2⟩ := compact_is (sortI l) hs
  obtain ⟨h3, h4, _⟩ := setI_is l
  refine up_unique ordI _ _ h1 h3 fun z => ?_
  rw [h2, h4]
  exact List.mem_mergeSort
/-! Names and texts. -/
theorem rnames_from (pre : ByteArray) (l : List tP) (hl : l.length ≤ 1000000) : ∀ (d n k : Nat), n + d = l.length → d < k → codesearchref32_Names.l0 k l pre (((l.map (·.f0)).take n).filter (hasPre pre)) (n : Int) = some ((l.map (·.f0)).filter (hasPre pre)) := by
  intro d
  induction d with
  | zero =>
    intro n k hn hk
    obtain ⟨k, rfl⟩ : ∃ q, k = q + 1 := ⟨k - 1, by omega⟩
    unfold codesearchref32_Names.l0
    rw [if_neg (by omega), List.take_of_length_le (by simp; omega)]
  | succ d ih =>
    intro n k hn hk
    obtain ⟨k, rfl⟩ : ∃ q, k = q + 1 := ⟨k - 1, by omega⟩
    have h := ih (n + 1) k (by omega) (by omega)
    have hle := filt_le (hasPre pre) (l.map (·.f0)) n
    rw [nsucc, filt_snoc _ _ _ (by simp; omega), List.getElem_map] at h
    unfold codesearchref32_Names.l0
    rw [if_pos (by omega), if_pos (by omega), rdP l n (by omega), wrap_in _ (by omega) (by omega)]
    by_cases e : pre.size ≤ l[n].f0.size
    · rw [if_pos (by omega), if_pos (by omega), if_pos (by omega)]
      by_cases e2 : (l[n].f0.extract 0 pre.size).toList = pre.toList
      · rw [if_pos (by simpa using e2), if_pos (by omega)]
        rw [if_pos (show hasPre pre l[n].f0 = true by unfold hasPre; rw [if_pos e]; simpa using e2)] at h
        exact h
      · rw [if_neg (by simpa using e2)]
        rw [if_neg (show ¬ hasPre pre l[n].f0 = true by unfold hasPre; rw [if_pos e]; simpa using e2)] at h
        exact h
    · rw [if_neg (by omega)]
      rw [if_neg (show ¬ hasPre pre l[n].f0 = true by unfold hasPre; rw [if_neg e]; simp)] at h
      exact h
theorem rnames_f (l : List tP) (hl : l.length ≤ 1000000) (pre : ByteArray) (k : Nat) (hk : l.length < k) : codesearchref32_Names.f k l pre = some ((l.map (·.f0)).filter (hasPre pre)) := rnames_from pre l hl l.length 0 k (by omega) hk
theorem sameText_from (l : List ByteArray) (hl : l.length ≤ 1000000) : ∀ (d n k : Nat), n + d = l.length → d < k → codesearchref14_SameText.l0 k l l (n : Int) = some true := by
  intro d
  induction d with
  | zero =>
    intro n k hn hk
    obtain ⟨k, rfl⟩ : ∃ q, k = q + 1 := ⟨k - 1, by omega⟩
    unfold codesearchref14_SameText.l0
    rw [if_neg (by omega)]
  | succ d ih =>
    intro n k hn hk
    obtain ⟨k, rfl⟩ : ∃ q, k = q + 1 := ⟨k - 1, by omega⟩
    have h := ih (n + 1) k (by omega) (by omega)
    rw [nsucc] at h
    unfold codesearchref14_SameText.l0
    rw [if_pos (by omega), if_pos (by omega), if_pos (by omega), if_pos rfl, wrap_in _ (by omega) (by omega)]
    exact h
theorem sameText_self (l : List ByteArray) (hl : l.length ≤ 1000000) (k : Nat) (hk : l.length < k) : codesearchref14_SameText.f k l l = some true := by
  unfold codesearchref14_SameText.f
  rw [if_pos rfl]
  exact sameText_from l hl l.length 0 k (by omega) hk
theorem law_asks (l : List tA) (nm : ByteArray) : ∃ k, codesearchlaw32_SymindexAsks.f k l nm = some true := by
  obtain ⟨k, hk⟩ : ∃ k, 30000000 < k := ⟨30000001, by omega⟩
  refine ⟨k + 1, ?_⟩
  unfold codesearchlaw32_SymindexAsks.f
  rw [alive_f (k + 1) (by omega)]
  simp only [Option.bind_some]
  rw [if_pos trivial, lfew_f l _ (by omega)]
  simp only [Option.bind_some]
  have ht : codesearchlaw32_SymindexAsks.j0 (k + 1) l nm true = some true := by
    unfold codesearchlaw32_SymindexAsks.j0
    dsimp only
    rw [if_pos rfl]
  cases ha : few60 l with
  | false => rw [if_neg (by simp)]; exact ht
  | true =>
    rw [if_pos rfl]
    by_cases hd : (nm.size : Int) > 100
    · rw [decide_eq_true hd]; exact ht
    · rw [decide_eq_false hd]
      obtain ⟨a1, a2⟩ := few60_get ha
      obtain ⟨s1, s2, s3, s4⟩ := idx_sizes ha
      have hds := defs_same l nm
      have hrs := refs_same l nm
      have hu : ∀ q, (underL ((idxS l).map post) q).length ≤ 60 := fun q => by
        unfold underL
        split
        · rename_i p hp
          exact s2 p (List.mem_of_find?_eq_some hp)
        · simp
      obtain ⟨L, hL⟩ : ∃ L, (idxS l).map post = L := ⟨_, rfl⟩
      rw [hL] at s1 s2 s3 s4 hds hrs hu
      unfold codesearchlaw32_SymindexAsks.j0
      dsimp only
      rw [if_neg (by simp), lindex_f l (by omega) (fun x hx => by have := a2 x hx; omega) k (by omega), hL]
      simp only [Option.bind_some]
      have hu1 := hu nm
      have hu2 := hu (simpleB nm)
      rw [defs_f L (by omega) nm (by omega) k (by omega), rdefs_f nm L (by omega) (fun p hp => by have := s2 p hp; omega) (by omega) k (by omega), hds]
      simp only [Option.bind_some]
      have hl1 : (L.flatMap (dP nm)).length ≤ 1000000 := by have := flat_le (dP nm) (fun p => List.length_filter_le _ _) L; omega
      rw [sameAt_self _ hl1 k (by omega)]
      simp only [Option.bind_some]
      rw [if_pos trivial, refs_f L (by omega) nm (by omega) (by omega) k (by omega), rrefs_f nm L (by omega) (fun p hp => by have := s2 p hp; omega) (by omega) k (by omega), hrs]
      simp only [Option.bind_some]
      have hl2 : (L.flatMap (rP nm)).length ≤ 1000000 := by have := flat_le (rP nm) (fun p => List.length_filter_le _ _) L; omega
      rw [sameAt_self _ hl2 k (by omega)]
      simp only [Option.bind_some]
      have hdoc : symindex_Docs.f l = some (setI (docS l)) := by
        unfold symindex_Docs.f
        rw [if_pos (by omega), docs_same]
      have hsl := (setI_is (docS l)).2.2
      have hdl : (docS l).length = l.length := by simp [docS]
      rw [if_pos trivial, hdoc]
      simp only [Option.bind_some]
      rw [rdocs_f l (by omega) k (by omega)]
      simp only [Option.bind_some]
      rw [same05_self _ (by omega) k (by omega)]
      simp only [Option.bind_some]
      rw [if_pos trivial, names_f L (by omega) nm k (by omega)]
      simp only [Option.bind_some]
      rw [rnames_f L (by omega) nm k (by omega)]
      simp only [Option.bind_some]
      have hnl : ((L.map (·.f0)).filter (hasPre nm)).length ≤ 60 := by
        have := List.length_filter_le (hasPre nm) (L.map (·.f0))
        rw [List.length_map] at this
        omega
      rw [sameText_self _ (Nat.le_trans hnl (by omega)) k (Nat.lt_of_le_of_lt hnl (by omega))]
      rfl
end Go.Proofs.Ytlogobmimacpgaa.L32
