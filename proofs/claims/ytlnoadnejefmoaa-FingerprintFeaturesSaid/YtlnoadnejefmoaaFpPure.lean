/- Lists of numbers in increasing order: an element put in its place; lists with the same elements are the same. Plain Lean. -/
import Derived.Test.YtlnoadnejefmoaaFpFeat4
import Derived.Sort.OwnSortedInts
import Derived.Maps.RangeWalk
set_option linter.unusedVariables false
set_option linter.unusedSimpArgs false
namespace Go.Proofs.Ytlnoadnejefmoaa.L20
open Go.RowKit Go.Maps Go.Proofs.YtlnoadnejefmoaaW.PrintWords
def insS : List Int → Int → List Int
  | [], x => [x]
  | y :: r, x => if x < y then x :: y :: r else if x = y then y :: r else y :: insS r x
def insAll (l : List Int) : List Int := l.foldl insS []
theorem mem_insS (z : Int) (l : List Int) (x : Int) : z ∈ insS l x ↔ z = x ∨ z ∈ l := by
  induction l with
  | nil => simp [insS]
  | cons y r ih =>
    unfold insS
    split
    · simp
    · split
      · rename_i h; subst h; simp
      · simp only [List.mem_cons, ih]
        constructor
        · rintro (h | h | h) <;> simp [h]
        · rintro (h | h | h) <;> simp [h]
theorem sorted_insS (l : List Int) (x : Int) (h : l.Pairwise (· < ·)) : (insS l x).Pairwise (· < ·) := by
  induction l with
  | nil => simp [insS]
  | cons y r ih =>
    have h1 := List.pairwise_cons.1 h
    unfold insS
    split
    · rename_i hx
      refine List.pairwise_cons.2 ⟨fun z hz => ?_, h⟩
      rcases List.mem_cons.1 hz with rfl | hz
      · exact hx
      · exact Int.lt_trans hx (h1.1 z hz)
    · split
      · exact h
      · refine List.pairwise_cons.2 ⟨fun z hz => ?_, ih h1.2⟩
        rcases (mem_insS z r x).1 hz with rfl | hz
        · omega
        · exact h1.1 z hz
theorem ins_fold (l : List Int) : ∀ acc : List Int, acc.Pairwise (· < ·) → (l.foldl insS acc).Pairwise (· < ·) ∧ ∀ z, z ∈ l.foldl insS acc ↔ z ∈ acc ∨ z ∈ l := by
  induction l with
  | nil => intro acc h; exact ⟨h, fun z => by simp⟩
  | cons x r ih =>
    intro acc h
    obtain ⟨h1, h2⟩ := ih (insS acc x) (sorted_insS acc x h)
    refine ⟨h1, fun z => ?_⟩
    rw [List.foldl_cons, h2, mem_insS, List.mem_cons]
    constructor
    · rintro ((h | h) | h) <;> simp [h]
    · rintro (h | h | h) <;> simp [h]
theorem insAll_sorted (l : List Int) : (insAll l).Pairwise (· < ·) := (ins_fold l [] List.Pairwise.nil).1
theorem mem_insAll (l : List Int) (z : Int) : z ∈ insAll l ↔ z ∈ l := by rw [insAll, (ins_fold l [] List.Pairwise.nil).2]; simp
theorem sorted_unique : ∀ (l m : List Int), l.Pairwise (· < ·) → m.Pairwise (· < ·) → (∀ z, z ∈ l ↔ z ∈ m) → l = m := by
  intro l
  induction l with
  | nil =>
    intro m _ _ h
    cases m with
    | nil => rfl
    | cons y r => exact absurd ((h y).2 List.mem_cons_self) (by simp)
  | cons x r ih =>
    intro m hl hm h
    cases m with
    | nil => exact absurd ((h x).1 List.mem_cons_self) (by simp)
    | cons y s =>
      have h1 := List.pairwise_cons.1 hl
      have h2 := List.pairwise_cons.1 hm
      have e : x = y := by
        rcases List.mem_cons.1 ((h x).1 List.mem_cons_self) with e | e
        · exact e
        · rcases List.mem_cons.1 ((h y).2 List.mem_cons_self) with e2 | e2
          · exact e2.symm
          · have a := h1.1 y e2
            have b := h2.1 x e
            omega
      subst e
      congr 1
      refine ih s h1.2 h2.2 fun z => ?_
      constructor
      · intro hz
        rcases List.mem_cons.1 ((h z).1 (List.mem_cons_of_mem _ hz)) with e | e
        · subst e; exact absurd (h1.1 z hz) (by omega)
        · exact e
      · intro hz
        rcases List.mem_cons.1 ((h z).2 (List.mem_cons_of_mem _ hz)) with e | e
        · subst e; exact absurd (h2.1 z hz) (by omega)
        · exact e
theorem merge_is (ks l : List Int) (hn : ks.Nodup) (h : ∀ z, z ∈ ks ↔ z ∈ l) : (ks.mergeSort fun x y => decide (x ≤ y)) = insAll l := by
  have hp := List.mergeSort_perm ks fun x y => decide (x ≤ y)
  refine sorted_unique _ _ ?_ (insAll_sorted l) fun z => ?_
  · have h1 : (ks.mergeSort fun x y => decide (x ≤ y)).Pairwise fun x y => decide (x ≤ y) = true := List.pairwise_mergeSort (fun a b c => by simp only [decide_eq_true_eq]; omega) (fun a b => by simp only [Bool.or_eq_true, decide_eq_true_eq]; omega) ks
    have h2 : (ks.mergeSort fun x y => decide (x ≤ y)).Nodup := hp.nodup_iff.2 hn
    refine (List.Pairwise.and h1 h2).imp fun {a b} hab => ?_
    have := of_decide_eq_true hab.1
    have := hab.2
    omega
  · rw [hp.mem_iff, h, mem_insAll]
/-- What has come of the set l when the keys ks have come and left tells what is still to come. -/
def Got (l : List Int) (left : Lit → Bool) (ks : List Int) : Prop := ks.Nodup ∧ (∀ x ∈ ks, x ∈ l) ∧ ∀ x, left (litI x) = decide (x ∈ l ∧ x ∉ ks)
theorem Got.start (l : List Int) : Got l (has (setD l)) [] := ⟨List.nodup_nil, fun x h => absurd h (by simp), fun x => by rw [has_setD]; simp⟩
theorem Got.more {l : List Int} {left : Lit → Bool} {ks : List Int} (h : Got l left ks) (x : Int) (hx : left (litI x) = true) : Got l (fun z => left z && !z.sameKey (litI x)) (ks ++ [x]) := by
  obtain ⟨h1, h2, h3⟩ := h
  rw [h3 x, decide_eq_true_eq] at hx
  refine ⟨?_, ?_, fun y => ?_⟩
  · rw [List.nodup_append]
    refine ⟨h1, by simp, fun a ha b hb => ?_⟩
    rw [List.mem_singleton] at hb
    subst hb
    intro e
    subst e
    exact hx.2 ha
  · intro z hz
    rcases List.mem_append.1 hz with hz | hz
    · exact h2 z hz
    · rw [List.mem_singleton] at hz; subst hz; exact hx.1
  · show (left (litI y) && !(litI y).sameKey (litI x)) = _
    rw [h3 y, sameI]
    by_cases e : y = x
    · subst e; simp
    · by_cases e1 : y ∈ l <;> by_cases e2 : y ∈ ks <;> simp [e, e1, e2]
theorem Got.done {l : List Int} {left : Lit → Bool} {ks : List Int} (h : Got l left ks) (hl : ∀ kl, left kl = false) : (ks.mergeSort fun x y => decide (x ≤ y)) = insAll l := by
  obtain ⟨h1, h2, h3⟩ := h
  refine merge_is ks l h1 fun z => ⟨h2 z, fun hz => ?_⟩
  have := h3 z
  rw [hl] at this
  by_cases e : z ∈ ks
  · exact e
  · simp [hz, e] at this
end Go.Proofs.Ytlnoadnejefmoaa.L20
