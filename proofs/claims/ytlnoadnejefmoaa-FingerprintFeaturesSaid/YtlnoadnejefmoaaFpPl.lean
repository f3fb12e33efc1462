/- The features of a tree as lists of numbers: what is in them, and what a bound on the tree's size gives. Plain Lean. -/
import Derived.Test.YtlnoadnejefmoaaFgn20
set_option linter.unusedVariables false
set_option linter.unusedSimpArgs false
namespace Go.Proofs.Ytlnoadnejefmoaa.L20
open Go.RowKit Go.Maps Go.Proofs.YtlnoadnejefmoaaW.PrintWords
section
variable {α β : Type} {f g : α → Option β}
theorem mapM_cons_some {x : α} {l : List α} {ls : List β} (h : (x :: l).mapM f = some ls) : ∃ y r, f x = some y ∧ l.mapM f = some r ∧ ls = y :: r := by
  rw [List.mapM_cons] at h
  cases hx : f x with
  | none => rw [hx] at h; cases h
  | some y =>
    cases hr : l.mapM f with
    | none => rw [hx, hr] at h; cases h
    | some r => rw [hx, hr] at h; exact ⟨y, r, rfl, rfl, (Option.some.inj h).symm⟩
theorem mapM_cons_of {x : α} {l : List α} {y : β} {r : List β} (h1 : f x = some y) (h2 : l.mapM f = some r) : (x :: l).mapM f = some (y :: r) := by
  rw [List.mapM_cons, h1, h2]
  rfl
theorem mapM_mem : ∀ {l : List α} {ls : List β}, l.mapM f = some ls → (∀ y ∈ ls, ∃ c ∈ l, f c = some y) ∧ ∀ c ∈ l, ∃ y ∈ ls, f c = some y := by
  intro l
  induction l with
  | nil => intro ls h; cases h; exact ⟨fun y hy => absurd hy (by simp), fun c hc => absurd hc (by simp)⟩
  | cons x l ih =>
    intro ls h
    obtain ⟨y, r, h1, h2, rfl⟩ := mapM_cons_some h
    obtain ⟨i1, i2⟩ := ih h2
    refine ⟨fun z hz => ?_, fun c hc => ?_⟩
    · rcases List.mem_cons.1 hz with rfl | hz
      · exact ⟨x, List.mem_cons_self, h1⟩
      · obtain ⟨c, hc, e⟩ := i1 z hz
        exact ⟨c, List.mem_cons_of_mem _ hc, e⟩
    · rcases List.mem_cons.1 hc with rfl | hc
      · exact ⟨y, List.mem_cons_self, h1⟩
      · obtain ⟨z, hz, e⟩ := i2 c hc
        exact ⟨z, List.mem_cons_of_mem _ hz, e⟩
theorem mapM_imp : ∀ {l : List α} {ls : List β}, l.mapM f = some ls → (∀ c ∈ l, ∀ y, f c = some y → g c = some y) → l.mapM g = some ls := by
  intro l
  induction l with
  | nil => intro ls h _; cases h; rfl
  | cons x l ih =>
    intro ls h hfg
    obtain ⟨y, r, h1, h2, rfl⟩ := mapM_cons_some h
    exact mapM_cons_of (hfg x List.mem_cons_self y h1) (ih h2 fun c hc => hfg c (List.mem_cons_of_mem _ hc))
end
abbrev Nd := S42
theorem featL_parts {k : Nat} {skip : Bool} {n : Nd} {l : List Int} (h : featL (k + 1) skip n = some l) : n.f1.size ≤ 1000000000 ∧ n.f4.length ≤ maxLen ∧ ∃ ls, n.f4.mapM (fun c => (featL k skip c).map (kidF skip n c ++ ·)) = some ls ∧ l = ownF skip n ++ ls.flatten := by
  unfold featL at h
  split at h
  · rename_i hs
    obtain ⟨ls, h1, h2⟩ := Option.map_eq_some_iff.1 h
    exact ⟨hs.1, hs.2, ls, h1, h2.symm⟩
  · cases h
theorem featL_of {k : Nat} {skip : Bool} {n : Nd} {ls : List (List Int)} (h1 : n.f1.size ≤ 1000000000) (h2 : n.f4.length ≤ maxLen) (h3 : n.f4.mapM (fun c => (featL k skip c).map (kidF skip n c ++ ·)) = some ls) : featL (k + 1) skip n = some (ownF skip n ++ ls.flatten) := by
  unfold featL
  rw [if_pos ⟨h1, h2⟩, h3]
  rfl
theorem featL_mono {skip : Bool} : ∀ {k : Nat} {n : Nd} {l : List Int}, featL k skip n = some l → featL (k + 1) skip n = some l := by
  intro k
  induction k with
  | zero => intro n l h; cases h
  | succ k ih =>
    intro n l h
    obtain ⟨h1, h2, ls, h3, rfl⟩ := featL_parts h
    refine featL_of h1 h2 (mapM_imp h3 fun c _ y hy => ?_)
    obtain ⟨z, hz, rfl⟩ := Option.map_eq_some_iff.1 hy
    rw [ih hz]
    rfl
theorem featL_more {skip : Bool} {k m : Nat} {n : Nd} {l : List Int} (h : featL k skip n = some l) (hm : k ≤ m) : featL m skip n = some l := by
  obtain ⟨d, rfl⟩ := Nat.exists_eq_add_of_le hm
  induction d with
  | zero => exact h
  | succ d ih => exact featL_mono (ih (by omega))
theorem featL_mem {k : Nat} {skip : Bool} {n : Nd} {l : List Int} (h : featL (k + 1) skip n = some l) (x : Int) : x ∈ l ↔ x ∈ ownF skip n ∨ ∃ c ∈ n.f4, x ∈ kidF skip n c ∨ ∃ lc, featL k skip c = some lc ∧ x ∈ lc := by
  obtain ⟨_, _, ls, h3, rfl⟩ := featL_parts h
  obtain ⟨m1, m2⟩ := mapM_mem h3
  rw [List.mem_append, List.mem_flatten]
  constructor
  · rintro (h | ⟨y, hy, hx⟩)
    · exact .inl h
    · obtain ⟨c, hc, e⟩ := m1 y hy
      obtain ⟨z, hz, rfl⟩ := Option.map_eq_some_iff.1 e
      rcases List.mem_append.1 hx with hx | hx
      · exact .inr ⟨c, hc, .inl hx⟩
      · exact .inr ⟨c, hc, .inr ⟨z, hz, hx⟩⟩
  · rintro (h | ⟨c, hc, h⟩)
    · exact .inl h
    · obtain ⟨y, hy, e⟩ := m2 c hc
      obtain ⟨z, hz, rfl⟩ := Option.map_eq_some_iff.1 e
      refine .inr ⟨_, hy, ?_⟩
      rcases h with h | ⟨lc, hlc, h⟩
      · exact List.mem_append_left _ h
      · rw [hz] at hlc
        obtain rfl := Option.some.inj hlc
        exact List.mem_append_right _ h
theorem featL_kid {k : Nat} {skip : Bool} {n : Nd} {l : List Int} (h : featL (k + 1) skip n = some l) (c : Nd) (hc : c ∈ n.f4) : ∃ lc, featL k skip c = some lc := by
  obtain ⟨_, _, ls, h3, rfl⟩ := featL_parts h
  obtain ⟨y, hy, e⟩ := (mapM_mem h3).2 c hc
  obtain ⟨z, hz, rfl⟩ := Option.map_eq_some_iff.1 e
  exact ⟨z, hz⟩
theorem ownF_wf (skip : Bool) (n : Nd) : ∀ x ∈ ownF skip n, wfI x := by
  intro x hx
  unfold ownF at hx
  split at hx
  · cases hx
  · rw [List.mem_singleton] at hx; subst hx; exact nodeF_wf _ _
theorem kidF_wf (skip : Bool) (n c : Nd) : ∀ x ∈ kidF skip n c, wfI x := by
  intro x hx
  unfold kidF at hx
  split at hx
  · cases hx
  · rw [List.mem_singleton] at hx; subst hx; exact pairF_wf _ _ _ _
theorem featL_wf {skip : Bool} : ∀ {k : Nat} {n : Nd} {l : List Int}, featL k skip n = some l → ∀ x ∈ l, wfI x := by
  intro k
  induction k with
  | zero => intro n l h; cases h
  | succ k ih =>
    intro n l h x hx
    rcases (featL_mem h x).1 hx with h1 | ⟨c, _, h1 | ⟨lc, hlc, h1⟩⟩
    · exact ownF_wf _ _ x h1
    · exact kidF_wf _ _ _ x h1
    · exact ih hlc x h1
/-- What a pattern needs is among its features. -/
theorem need_sub : ∀ {k : Nat} {n : Nd} {a b : List Int}, featL k true n = some a → featL k false n = some b → ∀ x ∈ a, x ∈ b := by
  intro k
  induction k with
  | zero => intro n a b h; cases h
  | succ k ih =>
    intro n a b ha hb x hx
    refine (featL_mem hb x).2 ?_
    rcases (featL_mem ha x).1 hx with h1 | ⟨c, hc, h1 | ⟨lc, hlc, h1⟩⟩
    · left
      unfold ownF at h1 ⊢
      split at h1
      · cases h1
      · simpa using h1
    · right
      refine ⟨c, hc, .inl ?_⟩
      unfold kidF at h1 ⊢
      split at h1
      · cases h1
      · simpa using h1
    · right
      obtain ⟨ld, hld⟩ := featL_kid hb c hc
      exact ⟨c, hc, .inr ⟨ld, hld, ih hlc hld x h1⟩⟩
theorem kidF_len (skip : Bool) (n c : Nd) : (kidF skip n c).length ≤ 1 := by unfold kidF; split <;> simp
theorem ownF_len (skip : Bool) (n : Nd) : (ownF skip n).length ≤ 1 := by unfold ownF; split <;> simp
end Go.Proofs.Ytlnoadnejefmoaa.L20
