/- What the laws' own functions few and index answer, and the sizes of an index. Plain Lean, over the printed words. -/
import Derived.Test.YtlogobmimacpgaaSyL3
import Derived.Test.YtlogobmimacpgaaL32x11
set_option linter.unusedVariables false
set_option linter.unusedSimpArgs false
namespace Go.Proofs.Ytlogobmimacpgaa.L32
open Go.RowKit Go.Proofs.YtlogobmimacpgaaW.PrintWords Go.Proofs.Ytlogobmimacpgaa.Idx
def few60 (l : List tA) : Bool := decide (l.length ≤ 60) && l.all fun x => decide (x.f3.size ≤ 100)
theorem lfew_from (l : List tA) (hl : l.length ≤ 60) : ∀ (d n k : Nat), n + d = l.length → d < k → codesearchlaw32_few.l0 k l (n : Int) = some ((l.drop n).all fun x => decide (x.f3.size ≤ 100)) := by
  intro d
  induction d with
  | zero =>
    intro n k hn hk
    obtain ⟨k, rfl⟩ : ∃ q, k = q + 1 := ⟨k - 1, by omega⟩
    unfold codesearchlaw32_few.l0
    rw [if_neg (by omega), List.drop_of_length_le (by omega)]
    rfl
  | succ d ih =>
    intro n k hn hk
    obtain ⟨k, rfl⟩ : ∃ q, k = q + 1 := ⟨k - 1, by omega⟩
    have h := ih (n + 1) k (by omega) (by omega)
    rw [nsucc] at h
    unfold codesearchlaw32_few.l0
    rw [if_pos (by omega), if_pos (by omega), rdA l n (by omega), List.drop_eq_getElem_cons (show n < l.length by omega), List.all_cons]
    by_cases e : (l[n].f3.size : Int) > 100
    · rw [if_pos e]
      have : decide (l[n].f3.size ≤ 100) = false := decide_eq_false (by omega)
      rw [this]
      rfl
    · rw [if_neg e, wrap_in _ (by omega) (by omega), h]
      have : decide (l[n].f3.size ≤ 100) = true := decide_eq_true (by omega)
      rw [this]
      rfl
theorem lfew_f (l : List tA) (k : Nat) (hk : 100 < k) : codesearchlaw32_few.f k l = some (few60 l) := by
  unfold codesearchlaw32_few.f few60
  by_cases h : (l.length : Int) > 60
  · rw [if_pos h]
    have : decide (l.length ≤ 60) = false := decide_eq_false (by omega)
    rw [this]
    rfl
  · rw [if_neg h]
    have h1 := lfew_from l (by omega) l.length 0 k (by omega) (by omega)
    have : decide (l.length ≤ 60) = true := decide_eq_true (by omega)
    rw [this]
    exact h1
theorem few60_get {l : List tA} (h : few60 l = true) : l.length ≤ 60 ∧ ∀ x ∈ l, x.f3.size ≤ 100 := by
  unfold few60 at h
  simpa [List.all_eq_true] using h
theorem lindex_from (l : List tA) (hl : l.length ≤ 1000) (hs : ∀ x ∈ l, x.f3.size ≤ 1000000) (M : Nat) (hM : 6000000 ≤ M) : ∀ (d n k : Nat), n + d = l.length → d + M < k → codesearchlaw32_index.l0 k l ((idxS (l.take n)).map post) (n : Int) = some ((idxS l).map post) := by
  intro d
  induction d with
  | zero =>
    intro n k hn hk
    obtain ⟨k, rfl⟩ : ∃ q, k = q + 1 := ⟨k - 1, by omega⟩
    unfold codesearchlaw32_index.l0
    rw [if_neg (by omega), List.take_of_length_le (by omega)]
  | succ d ih =>
    intro n k hn hk
    obtain ⟨k, rfl⟩ : ∃ q, k = q + 1 := ⟨k - 1, by omega⟩
    have h := ih (n + 1) k (by omega) (by omega)
    rw [nsucc, take_get l n l[n] (List.getElem?_eq_getElem (by omega)), idxS_snoc] at h
    obtain ⟨p1, p2⟩ := posts_len (l.take n)
    rw [List.length_take] at p1 p2
    unfold codesearchlaw32_index.l0
    rw [if_pos (by omega), if_pos (by omega), rdA l n (by omega), add_f _ (by omega) (fun p hp => by have := p2 p hp; omega) _ (hs _ (List.getElem_mem _)) k (by omega), wrap_in _ (by omega) (by omega)]
    simp only [Option.bind_some]
    exact h
theorem lindex_f (l : List tA) (hl : l.length ≤ 1000) (hs : ∀ x ∈ l, x.f3.size ≤ 1000000) (k : Nat) (hk : 7000000 < k) : codesearchlaw32_index.f k l = some ((idxS l).map post) := by
  have h := lindex_from l hl hs 6000000 (Nat.le_refl _) l.length 0 k (by omega) (by omega)
  exact h
theorem mem_allS (l : List tA) (x : tA) : x ∈ allS ((idxS l).map post) ↔ x ∈ l := by
  have : allS ((idxS l).map post) = allP (idxS l) := by
    unfold allS allP
    rw [List.flatMap_map]
    rfl
  rw [this]
  exact mem_idx ordS ordN l x
theorem flatMap_len {α β : Type} (f : α → List β) (m : Nat) : ∀ l : List α, (∀ p ∈ l, (f p).length ≤ m) → (l.flatMap f).length ≤ l.length * m
  | [], _ => by simp
  | p :: r, h => by
    have h1 := h p List.mem_cons_self
    have h2 := flatMap_len f m r (fun q hq => h q (List.mem_cons_of_mem _ hq))
    rw [List.flatMap_cons, List.length_append, List.length_cons, Nat.add_mul]
    omega
/-- The sizes of the index of few occurrences. -/
theorem idx_sizes {l : List tA} (h : few60 l = true) : ((idxS l).map post).length ≤ 60 ∧ (∀ p ∈ (idxS l).map post, p.f1.length ≤ 60) ∧ (allS ((idxS l).map post)).length ≤ 3600 ∧ ∀ x ∈ allS ((idxS l).map post), x.f3.size ≤ 100 := by
  obtain ⟨h1, h2⟩ := few60_get h
  obtain ⟨p1, p2⟩ := posts_len l
  have p3 : ∀ p ∈ (idxS l).map post, p.f1.length ≤ 60 := fun p hp => by have := p2 p hp; omega
  refine ⟨by omega, p3, ?_, fun x hx => h2 x ((mem_allS l x).1 hx)⟩
  have h3 : (allS ((idxS l).map post)).length ≤ ((idxS l).map post).length * 60 := flatMap_len (fun p : tP => p.f1) 60 _ p3
  have : ((idxS l).map post).length * 60 ≤ 60 * 60 := Nat.mul_le_mul_right 60 (by omega)
  omega
end Go.Proofs.Ytlogobmimacpgaa.L32
