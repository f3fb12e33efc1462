/- The law of a tree's features: they are increasing, contain those of the kids, and a pattern's needs are among them. Plain Lean. -/
import Derived.Test.YtlnoadnejefmoaaPureFingerprintTrees
set_option linter.unusedVariables false
set_option linter.unusedSimpArgs false
namespace Go.Proofs.Ytlnoadnejefmoaa.L20
open Go.RowKit Go.Maps Go.Proofs.YtlnoadnejefmoaaW.PrintWords
theorem rd_get (l : List Int) (j : Nat) (h : j < l.length) : rd l (j : Int) = l[j] := by
  unfold rd
  rw [Int.toNat_natCast, List.getD_eq_getElem?_getD, List.getElem?_eq_getElem h]
  rfl
theorem rising_ok (l : List Int) (hl : l.length ≤ 1000000000) (hs : l.Pairwise (· < ·)) : ∀ (m : List Int) (k j : Nat), l.drop (j + 1) = m → m.length < k → codesearchlaw20_rising.l0 k l ((j + 1 : Nat) : Int) = some true := by
  intro m
  induction m with
  | nil =>
    intro k j hd hk
    have hj : l.length ≤ j + 1 := List.drop_eq_nil_iff.1 hd
    cases k with
    | zero => omega
    | succ k => unfold codesearchlaw20_rising.l0; rw [if_neg (by omega)]
  | cons y r ih =>
    intro k j hd hk
    obtain ⟨h1, h2, hj⟩ := rd_at l (j + 1) y r hd
    rw [List.length_cons] at hk
    obtain ⟨k, rfl⟩ : ∃ q, k = q + 1 := ⟨k - 1, by omega⟩
    have hw : wrap64 (((j + 1 : Nat) : Int) - 1) = (j : Int) := by rw [wrap_small _ (by omega)]; omega
    have hlt := List.pairwise_iff_getElem.1 hs j (j + 1) (by omega) hj (by omega)
    unfold codesearchlaw20_rising.l0
    rw [if_pos (by omega), if_pos (by omega), hw, if_pos (by omega), if_pos (by omega), if_neg (by rw [rd_get l (j + 1) hj, rd_get l j (by omega)]; omega), wrap_nat (j + 1) (by omega)]
    exact ih k (j + 1) h2 (by omega)
theorem rising_f (k : Nat) (l : List Int) (hl : l.length ≤ 1000000000) (hs : l.Pairwise (· < ·)) (hk : l.length < k) : codesearchlaw20_rising.f k l = some true :=
  rising_ok l hl hs _ k 0 rfl (by rw [List.length_drop]; omega)
theorem isM_ne {n : Nd} (h0 : ¬ n.f0 = 25) (h1 : ¬ n.f0 = 26) : isM n = false := by
  unfold isM
  simp [h0, h1]
/-- Where the law finds no metavariables, a pattern needs all its features. -/
def GroundAt (q : Nat) : Prop := ∀ (k : Nat) (n : Nd) (l : List Int), featL q false n = some l → q * 1000 ≤ k → (∀ (c : Nd), c.f4.length ≤ 300 ∨ True) → l.length ≤ 400 → ∃ g, codesearchlaw20_ground.f k n.f0 n.f1 n.f2 n.f3 n.f4 = some g ∧ (g = true → isM n = false ∧ featL q true n = some l)
theorem flat_each : ∀ (ls : List (List Int)) (y : List Int), y ∈ ls → y.length ≤ ls.flatten.length := by
  intro ls
  induction ls with
  | nil => intro y h; cases h
  | cons a r ih =>
    intro y h
    rw [List.flatten_cons, List.length_append]
    rcases List.mem_cons.1 h with rfl | h
    · omega
    · have := ih y h; omega
theorem flat_count : ∀ (ls : List (List Int)), (∀ y ∈ ls, 1 ≤ y.length) → ls.length ≤ ls.flatten.length := by
  intro ls
  induction ls with
  | nil => intro _; simp
  | cons a r ih =>
    intro h
    have := ih fun y hy => h y (List.mem_cons_of_mem _ hy)
    have := h a List.mem_cons_self
    rw [List.flatten_cons, List.length_append, List.length_cons]
    omega
theorem mapM_len {α β : Type} {f : α → Option β} : ∀ {l : List α} {ls : List β}, l.mapM f = some ls → ls.length = l.length := by
  intro l
  induction l with
  | nil => intro ls h; cases h; rfl
  | cons x l ih =>
    intro ls h
    obtain ⟨y, r, _, h2, rfl⟩ := mapM_cons_some h
    rw [List.length_cons, List.length_cons, ih h2]
theorem kid_false (n c : Nd) : kidF false n c = [pairF n.f0 n.f1 c.f0 c.f1] := by unfold kidF; simp
theorem own_false (n : Nd) : ownF false n = [nodeF n.f0 n.f1] := by unfold ownF; simp
theorem ground_loop (q : Nat) (ih : GroundAt q) (n : Nd) (hn : isM n = false) (x0 : Int) (x1 : ByteArray) (x2 x3 : Int) (l : List Nd) (hl : l.length ≤ 400) : ∀ (m : List Nd) (k j : Nat) (ls : List (List Int)), l.drop j = m → q * 1000 + m.length < k → m.mapM (fun c => (featL q false c).map (kidF false n c ++ ·)) = some ls → ls.flatten.length ≤ 400 →
    ∃ g, codesearchlaw20_ground.l0 k (j : Int) x0 x1 x2 x3 l = some g ∧ (g = true → m.mapM (fun c => (featL q true c).map (kidF true n c ++ ·)) = some ls) := by
  intro m
  induction m with
  | nil =>
    intro k j ls hd hk h1 h2
    have hj : l.length ≤ j := List.drop_eq_nil_iff.1 hd
    cases k with
    | zero => omega
    | succ k =>
      refine ⟨true, ?_, fun _ => by cases h1; rfl⟩
      unfold codesearchlaw20_ground.l0
      rw [if_neg (by omega)]
  | cons y r ihm =>
    intro k j ls hd hk h1 h2
    obtain ⟨e1, e2, hj⟩ := rdT_at l j y r hd
    rw [List.length_cons] at hk
    obtain ⟨k, rfl⟩ : ∃ q, k = q + 1 := ⟨k - 1, by omega⟩
    obtain ⟨a, b, ha, hb, rfl⟩ := mapM_cons_some h1
    obtain ⟨ly, hly, rfl⟩ := Option.map_eq_some_iff.1 ha
    rw [List.flatten_cons, List.length_append, List.length_append] at h2
    obtain ⟨g, hg, g2⟩ := ih k y ly hly (by omega) (fun _ => .inr trivial) (by omega)
    unfold codesearchlaw20_ground.l0
    rw [if_pos (by omega), if_pos (by omega), e1, hg, Option.bind_some]
    cases g with
    | false => exact ⟨false, rfl, fun h => by cases h⟩
    | true =>
      obtain ⟨z, hz, z2⟩ := ihm k (j + 1) b e2 (by omega) hb (by omega)
      obtain ⟨m1, m2⟩ := g2 rfl
      refine ⟨z, by rw [if_pos rfl, wrap_nat j (by omega)]; exact hz, fun hzt => mapM_cons_of ?_ (z2 hzt)⟩
      rw [m2, Option.map_some, show kidF true n y = kidF false n y from by unfold kidF; rw [hn, m1]; simp]
theorem ground_ok : ∀ q, GroundAt q := by
  intro q
  induction q with
  | zero => intro k n l h; cases h
  | succ q ih =>
    intro k n l h hk _ hlen
    obtain ⟨h1, h2, ls, h3, rfl⟩ := featL_parts h
    obtain ⟨k, rfl⟩ : ∃ p, k = p + 2 := ⟨k - 2, by omega⟩
    unfold codesearchlaw20_ground.f
    by_cases e1 : n.f0 = 25
    · rw [if_pos e1]; exact ⟨false, rfl, fun h => by cases h⟩
    · rw [if_neg e1]
      by_cases e2 : n.f0 = 26
      · rw [show (n.f0 == 26) = true from by simp [e2]]; exact ⟨false, rfl, fun h => by cases h⟩
      · rw [show (n.f0 == 26) = false from by simp [e2]]
        have hM := isM_ne e1 e2
        rw [List.length_append] at hlen
        have hkids : n.f4.length ≤ 400 := by
          have a1 := mapM_len h3
          have a2 := flat_count ls fun y hy => by
            obtain ⟨c, _, e⟩ := (mapM_mem h3).1 y hy
            obtain ⟨z, _, rfl⟩ := Option.map_eq_some_iff.1 e
            rw [kid_false]
            simp
          omega
        obtain ⟨g, hg, g2⟩ := ground_loop q ih n hM n.f0 n.f1 n.f2 n.f3 n.f4 hkids n.f4 k 0 ls rfl (by omega) h3 (by omega)
        refine ⟨g, hg, fun hgt => ⟨hM, ?_⟩⟩
        rw [show ownF false n = ownF true n from by unfold ownF; rw [hM]; simp]
        exact featL_of h1 h2 (g2 hgt)
theorem sub_yes (a b : List Int) (h : ∀ x ∈ a, x ∈ b) : subB (insAll a) (insAll b) = true := by
  unfold subB
  rw [List.all_eq_true]
  intro x hx
  exact decide_eq_true ((mem_insAll b x).2 (h x ((mem_insAll a x).1 hx)))
theorem ins_wf {q : Nat} {skip : Bool} {n : Nd} {l : List Int} (h : featL q skip n = some l) : ∀ x ∈ insAll l, wfI x := fun x hx => featL_wf h x ((mem_insAll l x).1 hx)
theorem poss_yes {q p : Nat} {s t : Bool} {n m : Nd} {a b : List Int} (ha : featL q s n = some a) (hb : featL p t m = some b) (hl : b.length ≤ 400) (h : ∀ x ∈ a, x ∈ b) : fingerprint_Possible.f (insAll a) (insAll b) = some true := by
  have := insAll_len b
  rw [possible_f _ _ (ins_wf ha) (ins_wf hb) (by omega), sub_yes a b h]
theorem parts_loop (n : Nd) (L : List Int) (hL : featL 40 false n = some L) (hlen : L.length ≤ 400) : ∀ (m : List Nd) (k j : Nat), n.f4.drop j = m → m.length + 500 < k → n.f4.length ≤ 1000 → codesearchlaw20_FingerprintParts.l0 k (insAll L) (j : Int) n.f0 n.f1 n.f2 n.f3 n.f4 = some true := by
  intro m
  induction m with
  | nil =>
    intro k j hd hk hn
    have hj : n.f4.length ≤ j := List.drop_eq_nil_iff.1 hd
    cases k with
    | zero => omega
    | succ k => unfold codesearchlaw20_FingerprintParts.l0; rw [if_neg (by omega)]
  | cons y r ih =>
    intro k j hd hk hn
    obtain ⟨e1, e2, hj⟩ := rdT_at n.f4 j y r hd
    rw [List.length_cons] at hk
    obtain ⟨k, rfl⟩ : ∃ q, k = q + 1 := ⟨k - 1, by omega⟩
    have hy : y ∈ n.f4 := by
      have : y ∈ n.f4.drop j := by rw [hd]; exact List.mem_cons_self
      exact List.mem_of_mem_drop this
    have hil := insAll_len L
    obtain ⟨ly, hly⟩ := featL_kid hL y hy
    have hsub : ∀ x ∈ ly, x ∈ L := fun x hx => (featL_mem hL x).2 (.inr ⟨y, hy, .inr ⟨ly, hly, hx⟩⟩)
    have hlyl : ly.length ≤ 400 := by
      obtain ⟨_, _, ls, h3, rfl⟩ := featL_parts hL
      obtain ⟨z, hz, e⟩ := (mapM_mem h3).2 y hy
      rw [hly] at e
      obtain rfl := Option.some.inj e
      have := flat_each ls _ hz
      rw [List.length_append] at this hlen
      omega
    have hys : y.f1.size ≤ 1000000000 := featL_size hly
    have hns : n.f1.size ≤ 1000000000 := featL_size hL
    unfold codesearchlaw20_FingerprintParts.l0
    rw [if_pos (by omega), if_pos (by omega), e1, of_f (featL_mono hly) hlyl, Option.bind_some, poss_yes hly hL hlen hsub, Option.bind_some, if_pos rfl]
    unfold fingerprint_Pair.f pairD
    rw [if_pos ⟨hns, hys⟩, Option.bind_some, in_f _ _ _ (by omega) (by omega), Option.bind_some, if_pos (decide_eq_true ((mem_insAll L _).2 ((featL_mem hL _).2 (.inr ⟨y, hy, .inl (by rw [kid_false]; simp)⟩)))), wrap_nat j (by omega)]
    exact ih k (j + 1) e2 (by omega) hn
theorem small_says2 (k : Nat) (hk : 12400 ≤ k) (n : Nd) : (codesearchlaw20_small.f k n.f0 n.f1 n.f2 n.f3 n.f4 = some false) ∨ (codesearchlaw20_small.f k n.f0 n.f1 n.f2 n.f3 n.f4 = some true ∧ ∀ skip m, 30 ≤ m → ∃ l, featL m skip n = some l ∧ l.length ≤ 400) := by
  obtain ⟨r, hr, r1, r2, r3⟩ := size_ok 30 (by omega) k n (by omega)
  unfold codesearchlaw20_small.f
  rw [show (30 : Int) = ((30 : Nat) : Int) from rfl, hr, Option.bind_some]
  by_cases h : r ≤ 200
  · right
    rw [decide_eq_true h]
    refine ⟨rfl, fun skip m hm => ?_⟩
    obtain ⟨l, hl, hlen⟩ := r3 h skip m hm
    exact ⟨l, hl, by omega⟩
  · left
    rw [decide_eq_false h]
theorem parts_j0 (k : Nat) (n : Nd) (a b : List Int) (ha : featL 40 false n = some a) (la : a.length ≤ 400) (hb : featL 40 true n = some b) (hk : 60000 ≤ k) : codesearchlaw20_FingerprintParts.j0 (k + 2) (insAll a) (insAll b) false n.f0 n.f1 n.f2 n.f3 n.f4 = some true := by
  have hkids : n.f4.length ≤ 400 := by
    obtain ⟨_, _, ls, h3, rfl⟩ := featL_parts ha
    have a1 := mapM_len h3
    have a2 := flat_count ls fun y hy => by
      obtain ⟨c, _, e⟩ := (mapM_mem h3).1 y hy
      obtain ⟨z, _, rfl⟩ := Option.map_eq_some_iff.1 e
      rw [kid_false]
      simp
    rw [List.length_append] at la
    omega
  have hil := insAll_len a
  have hloop := parts_loop n a ha la n.f4 k 0 rfl (by omega) (by omega)
  obtain ⟨g, hg, g2⟩ := ground_ok 40 (k + 1) n a ha (by omega) (fun _ => .inr trivial) la
  show (if false = true then some false else (codesearchlaw20_ground.f (k + 1) n.f0 n.f1 n.f2 n.f3 n.f4).bind fun t206 => if t206 = true then (codesearchref05_Same.f (k + 1) (insAll a) (insAll b)).bind fun t207 => codesearchlaw20_FingerprintParts.j1 (k + 1) (insAll a) (!t207) n.f0 n.f1 n.f2 n.f3 n.f4
    else codesearchlaw20_FingerprintParts.j1 (k + 1) (insAll a) false n.f0 n.f1 n.f2 n.f3 n.f4) = some true
  rw [if_neg (by simp), hg, Option.bind_some]
  have hj1 : codesearchlaw20_FingerprintParts.j1 (k + 1) (insAll a) false n.f0 n.f1 n.f2 n.f3 n.f4 = some true := by
    show (if false = true then some false else codesearchlaw20_FingerprintParts.l0 k (insAll a) 0 n.f0 n.f1 n.f2 n.f3 n.f4) = some true
    rw [if_neg (by simp)]
    exact hloop
  cases g with
  | false => rw [if_neg (by simp)]; exact hj1
  | true =>
    obtain rfl : a = b := Option.some.inj ((g2 rfl).2.symm.trans hb)
    rw [if_pos rfl, same_f _ _ (by omega) (by omega), Option.bind_some]
    exact hj1
theorem law_parts_n (n : Nd) : codesearchlaw20_FingerprintParts.f 100000 n.f0 n.f1 n.f2 n.f3 n.f4 = some true := by
  unfold codesearchlaw20_FingerprintParts.f
  rw [alive_ok 99998, Option.bind_some, if_pos rfl]
  rcases small_says2 100000 (by omega) n with h | ⟨h, hs⟩
  · rw [h]; rfl
  · rw [h, Option.bind_some, if_pos rfl]
    obtain ⟨a, ha, la⟩ := hs false 40 (by omega)
    obtain ⟨b, hb, lb⟩ := hs true 40 (by omega)
    have := insAll_len a
    have := insAll_len b
    have hns : n.f1.size ≤ 1000000000 := featL_size ha
    rw [of_f ha la, need_f hb lb, Option.bind_some, Option.bind_some, rising_f _ _ (by omega) (insAll_sorted a) (by omega), Option.bind_some, if_pos rfl, rising_f _ _ (by omega) (insAll_sorted b) (by omega), Option.bind_some, if_pos rfl, poss_yes hb ha la (need_sub hb ha), Option.bind_some, if_pos rfl]
    unfold fingerprint_Node.f nodeD
    rw [if_pos hns, Option.bind_some, in_f _ _ _ (by omega) (by omega), Option.bind_some, decide_eq_true ((mem_insAll a _).2 ((featL_mem ha _).2 (.inl (by rw [own_false]; simp))))]
    exact parts_j0 99998 n a b ha la hb (by omega)
theorem law_parts (a0 : Int) (a1 : ByteArray) (a2 a3 : Int) (l : List Nd) : codesearchlaw20_FingerprintParts.f 100000 a0 a1 a2 a3 l = some true := law_parts_n ⟨a0, a1, a2, a3, l⟩
end Go.Proofs.Ytlnoadnejefmoaa.L20
