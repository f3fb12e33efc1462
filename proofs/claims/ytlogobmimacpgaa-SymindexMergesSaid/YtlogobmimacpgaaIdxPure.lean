/- Indexes: lists of posts in increasing order of their names, each with occurrences in increasing order. An occurrence put in its place; indexes of the same occurrences are the same. Plain Lean. -/
import Derived.Outline
set_option linter.unusedVariables false
set_option linter.unusedSimpArgs false
namespace Go.Proofs.Ytlogobmimacpgaa.Idx
/-- A strict order in which different things can be told apart. -/
structure Ord {α : Type} (lt : α → α → Bool) : Prop where
  irr : ∀ x, lt x x = false
  tr : ∀ x y z, lt x y = true → lt y z = true → lt x z = true
  tot : ∀ x y, lt x y = false → lt y x = false → x = y
section
variable {α : Type} {lt : α → α → Bool}
theorem Ord.asym (o : Ord lt) {x y : α} (h : lt x y = true) : lt y x = false := by
  cases e : lt y x with
  | false => rfl
  | true => have := o.tr x y x h e; rw [o.irr] at this; cases this
def Up (lt : α → α → Bool) (l : List α) : Prop := l.Pairwise fun x y => lt x y = true
def insB (lt : α → α → Bool) : List α → α → List α
  | [], x => [x]
  | y :: r, x => if lt y x then y :: insB lt r x else if lt x y then x :: y :: r else y :: r
theorem mem_insB (o : Ord lt) (z x : α) : ∀ l : List α, z ∈ insB lt l x ↔ z = x ∨ z ∈ l := by
  intro l
  induction l with
  | nil => simp [insB]
  | cons y r ih =>
    unfold insB
    split
    · simp only [List.mem_cons, ih]
      constructor
      · rintro (h | h | h) <;> simp [h]
      · rintro (h | h | h) <;> simp [h]
    · split
      · simp
      · rename_i h1 h2
        obtain rfl := o.tot y x (by simpa using h1) (by simpa using h2)
        simp
theorem up_insB (o : Ord lt) (x : α) : ∀ l : List α, Up lt l → Up lt (insB lt l x) := by
  intro l
  induction l with
  | nil => intro _; simp [insB, Up]
  | cons y r ih =>
    intro h
    have h1 := List.pairwise_cons.1 h
    unfold insB
    split
    · rename_i hyx
      refine List.pairwise_cons.2 ⟨fun z hz => ?_, ih h1.2⟩
      rcases (mem_insB o z x r).1 hz with rfl | hz
      · exact hyx
      · exact h1.1 z hz
    · split
      · rename_i hxy
        refine List.pairwise_cons.2 ⟨fun z hz => ?_, h⟩
        rcases List.mem_cons.1 hz with rfl | hz
        · exact hxy
        · exact o.tr _ _ _ hxy (h1.1 z hz)
      · exact h
theorem up_unique (o : Ord lt) : ∀ (l m : List α), Up lt l → Up lt m → (∀ z, z ∈ l ↔ z ∈ m) → l = m := by
  intro l
  induction l with
  | nil =>
    intro m _ _ h
    cases m with
    | nil => rfl
    | cons y r => exact absurd ((h y).2 List.mem_cons_self) (by simp)
  | cons x r ih =>
    intro m hl hm h
    cases m with
    | nil => exact absurd ((h x).1 List.mem_cons_self) (by simp)
    | cons y s =>
      have h1 := List.pairwise_cons.1 hl
      have h2 := List.pairwise_cons.1 hm
      have e : x = y := by
        rcases List.mem_cons.1 ((h x).1 List.mem_cons_self) with e | e
        · exact e
        · rcases List.mem_cons.1 ((h y).2 List.mem_cons_self) with e2 | e2
          · exact e2.symm
          · have a := o.asym (h1.1 y e2)
            rw [h2.1 x e] at a
            cases a
      subst e
      congr 1
      refine ih s h1.2 h2.2 fun z => ?_
      constructor
      · intro hz
        rcases List.mem_cons.1 ((h z).1 (List.mem_cons_of_mem _ hz)) with e | e
        · subst e; have := h1.1 z hz; rw [o.irr] at this; cases this
        · exact e
      · intro hz
        rcases List.mem_cons.1 ((h z).2 (List.mem_cons_of_mem _ hz)) with e | e
        · subst e; have := h2.1 z hz; rw [o.irr] at this; cases this
        · exact e
end
section
variable {α κ : Type} {lt : α → α → Bool} {ltk : κ → κ → Bool} {key : α → κ}
/-- An index: increasing names, each with some increasing occurrences of that name. -/
def Right (lt : α → α → Bool) (ltk : κ → κ → Bool) (key : α → κ) (i : List (κ × List α)) : Prop := (i.Pairwise fun p q => ltk p.1 q.1 = true) ∧ ∀ p ∈ i, p.2 ≠ [] ∧ Up lt p.2 ∧ ∀ a ∈ p.2, key a = p.1
def Holds (i : List (κ × List α)) (a : α) : Prop := ∃ p ∈ i, a ∈ p.2
/-- An index with one more occurrence. -/
def addP (lt : α → α → Bool) (ltk : κ → κ → Bool) (key : α → κ) : List (κ × List α) → α → List (κ × List α)
  | [], x => [(key x, [x])]
  | p :: r, x => if ltk p.1 (key x) then p :: addP lt ltk key r x else if ltk (key x) p.1 then (key x, [x]) :: p :: r else (p.1, insB lt p.2 x) :: r
theorem add_names (ok : Ord ltk) (x : α) : ∀ (i : List (κ × List α)) (q : κ × List α), q ∈ addP lt ltk key i x → q.1 = key x ∨ ∃ p ∈ i, p.1 = q.1 := by
  intro i
  induction i with
  | nil => intro q hq; left; simp [addP] at hq; rw [hq]
  | cons p r ih =>
    intro q hq
    unfold addP at hq
    split at hq
    · rcases List.mem_cons.1 hq with rfl | hq
      · exact .inr ⟨q, List.mem_cons_self, rfl⟩
      · rcases ih q hq with h | ⟨p', hp', e⟩
        · exact .inl h
        · exact .inr ⟨p', List.mem_cons_of_mem _ hp', e⟩
    · split at hq
      · rcases List.mem_cons.1 hq with rfl | hq
        · exact .inl rfl
        · exact .inr ⟨q, hq, rfl⟩
      · rcases List.mem_cons.1 hq with rfl | hq
        · exact .inr ⟨p, List.mem_cons_self, rfl⟩
        · exact .inr ⟨q, List.mem_cons_of_mem _ hq, rfl⟩
theorem add_right (o : Ord lt) (ok : Ord ltk) (x : α) : ∀ i : List (κ × List α), Right lt ltk key i → Right lt ltk key (addP lt ltk key i x) := by
  intro i
  induction i with
  | nil =>
    intro _
    refine ⟨by simp [addP], fun p hp => ?_⟩
    simp [addP] at hp
    subst hp
    exact ⟨by simp, by simp [Up], fun a ha => by simp at ha; rw [ha]⟩
  | cons p r ih =>
    intro h
    obtain ⟨h1, h2⟩ := h
    have h3 := List.pairwise_cons.1 h1
    have hr : Right lt ltk key r := ⟨h3.2, fun q hq => h2 q (List.mem_cons_of_mem _ hq)⟩
    unfold addP
    split
    · rename_i hlt
      obtain ⟨i1, i2⟩ := ih hr
      refine ⟨List.pairwise_cons.2 ⟨fun q hq => ?_, i1⟩, fun q hq => ?_⟩
      · rcases add_names ok x r q hq with e | ⟨p', hp', e⟩
        · rw [e]; exact hlt
        · rw [← e]; exact h3.1 p' hp'
      · rcases List.mem_cons.1 hq with rfl | hq
        · exact h2 q List.mem_cons_self
        · exact i2 q hq
    · split
      · rename_i hlt
        refine ⟨List.pairwise_cons.2 ⟨fun q hq => ?_, h1⟩, fun q hq => ?_⟩
        · rcases List.mem_cons.1 hq with rfl | hq
          · exact hlt
          · exact ok.tr _ _ _ hlt (h3.1 q hq)
        · rcases List.mem_cons.1 hq with rfl | hq
          · exact ⟨by simp, by simp [Up], fun a ha => by simp at ha; rw [ha]⟩
          · exact h2 q hq
      · rename_i n1 n2
        have e := ok.tot p.1 (key x) (by simpa using n1) (by simpa using n2)
        obtain ⟨_, u, kk⟩ := h2 p List.mem_cons_self
        refine ⟨List.pairwise_cons.2 ⟨fun q hq => h3.1 q hq, h3.2⟩, fun q hq => ?_⟩
        rcases List.mem_cons.1 hq with rfl | hq
        · refine ⟨fun e0 => ?_, up_insB o x p.2 u, fun a ha => ?_⟩
          · have : x ∈ insB lt p.2 x := (mem_insB o x x p.2).2 (.inl rfl)
            rw [show insB lt p.2 x = [] from e0] at this
            cases this
          · rcases (mem_insB o a x p.2).1 ha with rfl | ha
            · exact e.symm
            · exact kk a ha
        · exact h2 q (List.mem_cons_of_mem _ hq)
theorem add_holds (o : Ord lt) (ok : Ord ltk) (x a : α) : ∀ i : List (κ × List α), Holds (addP lt ltk key i x) a ↔ a = x ∨ Holds i a := by
  intro i
  induction i with
  | nil => simp [addP, Holds]
  | cons p r ih =>
    have hc : ∀ (q : κ × List α) (l : List (κ × List α)), Holds (q :: l) a ↔ a ∈ q.2 ∨ Holds l a := fun q l => by simp [Holds]
    unfold addP
    split
    · rw [hc, hc, ih]
      constructor
      · rintro (h | h | h) <;> simp [h]
      · rintro (h | h | h) <;> simp [h]
    · split
      · rw [hc, hc]; simp
      · rw [hc, hc, mem_insB o]
        constructor
        · rintro ((h | h) | h) <;> simp [h]
        · rintro (h | h | h) <;> simp [h]
theorem right_unique (o : Ord lt) (ok : Ord ltk) : ∀ (i j : List (κ × List α)), Right lt ltk key i → Right lt ltk key j → (∀ a, Holds i a ↔ Holds j a) → i = j := by
  have hc : ∀ (a : α) (q : κ × List α) (l : List (κ × List α)), Holds (q :: l) a ↔ a ∈ q.2 ∨ Holds l a := fun a q l => by simp [Holds]
  have some_of : ∀ l : List α, l ≠ [] → ∃ a, a ∈ l := fun l hl => by
    cases l with
    | nil => exact absurd rfl hl
    | cons a r => exact ⟨a, List.mem_cons_self⟩
  have above : ∀ (p : κ × List α) (r : List (κ × List α)), Right lt ltk key (p :: r) → ∀ a, Holds r a → ltk p.1 (key a) = true := fun p r h a ha => by
    obtain ⟨q, hq, ha⟩ := ha
    rw [(h.2 q (List.mem_cons_of_mem _ hq)).2.2 a ha]
    exact (List.pairwise_cons.1 h.1).1 q hq
  intro i
  induction i with
  | nil =>
    intro j _ hj h
    cases j with
    | nil => rfl
    | cons q s =>
      obtain ⟨a, ha⟩ := some_of q.2 (hj.2 q List.mem_cons_self).1
      obtain ⟨p, hp, _⟩ := (h a).2 ⟨q, List.mem_cons_self, ha⟩
      cases hp
  | cons p r ih =>
    intro j hi hj h
    cases j with
    | nil =>
      obtain ⟨a, ha⟩ := some_of p.2 (hi.2 p List.mem_cons_self).1
      obtain ⟨q, hq, _⟩ := (h a).1 ⟨p, List.mem_cons_self, ha⟩
      cases hq
    | cons q s =>
      obtain ⟨pn, pu, pk⟩ := hi.2 p List.mem_cons_self
      obtain ⟨qn, qu, qk⟩ := hj.2 q List.mem_cons_self
      have hkey : p.1 = q.1 := by
        obtain ⟨a, ha⟩ := some_of p.2 pn
        obtain ⟨b, hb⟩ := some_of q.2 qn
        rcases (hc a q s).1 ((h a).1 ((hc a p r).2 (.inl ha))) with ha2 | ha2
        · rw [← pk a ha, qk a ha2]
        · have h1 := above q s hj a ha2
          rw [pk a ha] at h1
          rcases (hc b p r).1 ((h b).2 ((hc b q s).2 (.inl hb))) with hb2 | hb2
          · rw [← pk b hb2, qk b hb]
          · have h2 := above p r hi b hb2
            rw [qk b hb] at h2
            rw [ok.asym h1] at h2
            cases h2
      have hsame : ∀ a, a ∈ p.2 ↔ a ∈ q.2 := fun a => by
        constructor
        · intro ha
          rcases (hc a q s).1 ((h a).1 ((hc a p r).2 (.inl ha))) with ha2 | ha2
          · exact ha2
          · have h1 := above q s hj a ha2
            rw [pk a ha, hkey, ok.irr] at h1
            cases h1
        · intro ha
          rcases (hc a p r).1 ((h a).2 ((hc a q s).2 (.inl ha))) with ha2 | ha2
          · exact ha2
          · have h1 := above p r hi a ha2
            rw [qk a ha, hkey, ok.irr] at h1
            cases h1
      have hrest : ∀ a, Holds r a ↔ Holds s a := fun a => by
        constructor
        · intro ha
          rcases (hc a q s).1 ((h a).1 ((hc a p r).2 (.inr ha))) with ha2 | ha2
          · have h1 := above p r hi a ha
            rw [qk a ha2, hkey, ok.irr] at h1
            cases h1
          · exact ha2
        · intro ha
          rcases (hc a p r).1 ((h a).2 ((hc a q s).2 (.inr ha))) with ha2 | ha2
          · have h1 := above q s hj a ha
            rw [pk a ha2, hkey, ok.irr] at h1
            cases h1
          · exact ha2
      have e1 : p = q := Prod.ext hkey (up_unique o p.2 q.2 pu qu hsame)
      rw [e1, ih s ⟨(List.pairwise_cons.1 hi.1).2, fun z hz => hi.2 z (List.mem_cons_of_mem _ hz)⟩ ⟨(List.pairwise_cons.1 hj.1).2, fun z hz => hj.2 z (List.mem_cons_of_mem _ hz)⟩ hrest]
/-- The index of some occurrences. -/
def idx (lt : α → α → Bool) (ltk : κ → κ → Bool) (key : α → κ) (l : List α) : List (κ × List α) := l.foldl (addP lt ltk key) []
theorem idx_from (o : Ord lt) (ok : Ord ltk) : ∀ (l : List α) (i : List (κ × List α)), Right lt ltk key i → Right lt ltk key (l.foldl (addP lt ltk key) i) ∧ ∀ a, Holds (l.foldl (addP lt ltk key) i) a ↔ a ∈ l ∨ Holds i a := by
  intro l
  induction l with
  | nil => intro i h; exact ⟨h, fun a => by simp⟩
  | cons x r ih =>
    intro i h
    obtain ⟨h1, h2⟩ := ih (addP lt ltk key i x) (add_right o ok x i h)
    refine ⟨h1, fun a => ?_⟩
    rw [List.foldl_cons, h2, add_holds o ok, List.mem_cons]
    constructor
    · rintro (h | h | h) <;> simp [h]
    · rintro ((h | h) | h) <;> simp [h]
theorem idx_right (o : Ord lt) (ok : Ord ltk) (l : List α) : Right lt ltk key (idx lt ltk key l) := (idx_from o ok l [] ⟨List.Pairwise.nil, fun p hp => by cases hp⟩).1
theorem idx_holds (o : Ord lt) (ok : Ord ltk) (l : List α) (a : α) : Holds (idx lt ltk key l) a ↔ a ∈ l := by
  rw [idx, (idx_from o ok l [] ⟨List.Pairwise.nil, fun p hp => by cases hp⟩).2]
  simp [Holds]
theorem idx_same (o : Ord lt) (ok : Ord ltk) (l m : List α) (h : ∀ a, a ∈ l ↔ a ∈ m) : idx lt ltk key l = idx lt ltk key m :=
  right_unique o ok _ _ (idx_right o ok l) (idx_right o ok m) fun a => by rw [idx_holds o ok, idx_holds o ok, h]
theorem idx_is (o : Ord lt) (ok : Ord ltk) (l : List α) (i : List (κ × List α)) (hi : Right lt ltk key i) (h : ∀ a, Holds i a ↔ a ∈ l) : i = idx lt ltk key l :=
  right_unique o ok _ _ hi (idx_right o ok l) fun a => by rw [idx_holds o ok, h]
end
end Go.Proofs.Ytlogobmimacpgaa.Idx
