/- The laws of a tree's features: both sides give the same increasing list; the list's own laws. Plain Lean. -/
import Derived.Test.YtlnoadnejefmoaaL20x7
import Derived.Test.YtlnoadnejefmoaaL20x4
import Derived.Test.YtlnoadnejefmoaaPureFingerprintPossible
set_option linter.unusedVariables false
set_option linter.unusedSimpArgs false
namespace Go.Proofs.Ytlnoadnejefmoaa.L20
open Go.RowKit Go.Maps Go.Proofs.YtlnoadnejefmoaaW.PrintWords
theorem wrap_small (x : Int) (h : -2000000000 ≤ x ∧ x ≤ 2000000000) : wrap64 x = x := by unfold wrap64; omega
theorem rdT_at (l : List Nd) (j : Nat) (y : Nd) (r : List Nd) (h : l.drop j = y :: r) : rd_T42 l (j : Int) = y ∧ l.drop (j + 1) = r ∧ j < l.length := by
  have hj : j < l.length := by
    rcases Nat.lt_or_ge j l.length with h1 | h1
    · exact h1
    · rw [List.drop_eq_nil_of_le h1] at h; cases h
  have h1 := List.drop_eq_getElem_cons hj
  rw [h] at h1
  injection h1 with h2 h3
  refine ⟨?_, h3.symm, hj⟩
  unfold rd_T42
  rw [Int.toNat_natCast, List.getD_eq_getElem?_getD, List.getElem?_eq_getElem hj, h2]
  rfl
/-- What the number of nodes, as the law counts it, says of a tree: a small one has few features and few levels. -/
def SizeSays (lv : Nat) (n : Nd) (r : Int) : Prop := 1 ≤ r ∧ r ≤ 1000 * (lv + 2) ∧ (r ≤ 200 → ∀ skip m, lv ≤ m → ∃ l, featL m skip n = some l ∧ (l.length : Int) + 1 ≤ 2 * r)
def SizeAt (lv : Nat) : Prop := ∀ (k : Nat) (n : Nd), 400 * (lv + 1) ≤ k → ∃ r, codesearchlaw20_size.f k n.f0 n.f1 n.f2 n.f3 n.f4 (lv : Int) = some r ∧ SizeSays lv n r
theorem size_loop (lv : Nat) (hlv : lv ≤ 100) (ih : SizeAt lv) (x0 : Int) (x1 : ByteArray) (x2 x3 : Int) (l : List Nd) (hl : l.length ≤ 300) : ∀ (m : List Nd) (k j : Nat) (s : Int), l.drop j = m → 400 * (lv + 1) + m.length < k → 1 ≤ s → s ≤ 1000 * (lv + 3) →
    ∃ r, codesearchlaw20_size.l0 k ((lv : Int) + 1) s (j : Int) x0 x1 x2 x3 l = some r ∧ s ≤ r ∧ r ≤ 1000 * (lv + 3) ∧ (r ≤ 200 → ∀ skip (n : Nd) q, lv ≤ q → ∃ ls, m.mapM (fun c => (featL q skip c).map (kidF skip n c ++ ·)) = some ls ∧ (ls.flatten.length : Int) ≤ 2 * (r - s)) := by
  intro m
  induction m with
  | nil =>
    intro k j s hd hk h1 h2
    have hj : l.length ≤ j := List.drop_eq_nil_iff.1 hd
    cases k with
    | zero => omega
    | succ k =>
      refine ⟨s, ?_, by omega, h2, fun _ skip n q _ => ⟨[], rfl, by simp⟩⟩
      unfold codesearchlaw20_size.l0
      rw [if_neg (by omega)]
  | cons y r ihm =>
    intro k j s hd hk h1 h2
    obtain ⟨e1, e2, hj⟩ := rdT_at l j y r hd
    rw [List.length_cons] at hk
    obtain ⟨k, rfl⟩ : ∃ q, k = q + 1 := ⟨k - 1, by omega⟩
    by_cases hs : s < 1000
    · obtain ⟨t, ht, t1, t2, t3⟩ := ih k y (by omega)
      obtain ⟨z, hz, z1, z2, z3⟩ := ihm k (j + 1) (s + t) e2 (by omega) (by omega) (by omega)
      refine ⟨z, ?_, by omega, z2, fun hz2 skip n q hq => ?_⟩
      · unfold codesearchlaw20_size.l0
        rw [if_pos (by omega), if_pos hs, if_pos (by omega), e1, wrap_small ((lv : Int) + 1 - 1) (by omega), show (lv : Int) + 1 - 1 = (lv : Int) from by omega, ht, Option.bind_some, wrap_small (s + t) (by omega), wrap_nat j (by omega)]
        exact hz
      · obtain ⟨lt, hlt, c1⟩ := t3 (by omega) skip q hq
        obtain ⟨ls, hls, c2⟩ := z3 hz2 skip n q hq
        refine ⟨_, mapM_cons_of (by rw [hlt]; rfl) hls, ?_⟩
        have := kidF_len skip n y
        simp only [List.flatten_cons, List.length_append] at c2 ⊢
        omega
    · refine ⟨s, ?_, by omega, h2, fun hr => by omega⟩
      unfold codesearchlaw20_size.l0
      rw [if_pos (by omega), if_neg hs]
theorem size_ok : ∀ lv, lv ≤ 100 → SizeAt lv := by
  intro lv
  induction lv with
  | zero =>
    intro _ k n hk
    obtain ⟨k, rfl⟩ : ∃ q, k = q + 2 := ⟨k - 2, by omega⟩
    exact ⟨1000, rfl, by omega, by omega, fun h => by omega⟩
  | succ lv ih =>
    intro hlv k n hk
    obtain ⟨k, rfl⟩ : ∃ q, k = q + 2 := ⟨k - 2, by omega⟩
    have h0 : ((lv + 1 : Nat) : Int) = (lv : Int) + 1 := by omega
    rw [h0]
    unfold codesearchlaw20_size.f
    rw [if_neg (by omega)]
    by_cases h1 : (n.f1.size : Int) > 300
    · rw [if_pos h1]
      exact ⟨1000, rfl, by omega, by omega, fun h => by omega⟩
    · rw [if_neg h1]
      by_cases h2 : (n.f4.length : Int) > 300
      · rw [decide_eq_true h2]
        exact ⟨1000, rfl, by omega, by omega, fun h => by omega⟩
      · rw [decide_eq_false h2]
        obtain ⟨r, hr, r1, r2, r3⟩ := size_loop lv (by omega) (ih (by omega)) n.f0 n.f1 n.f2 n.f3 n.f4 (by omega) n.f4 k 0 1 rfl (by omega) (by omega) (by omega)
        refine ⟨r, hr, r1, by omega, fun hr2 skip m hm => ?_⟩
        obtain ⟨m, rfl⟩ : ∃ q, m = q + 1 := ⟨m - 1, by omega⟩
        obtain ⟨ls, hls, hlen⟩ := r3 hr2 skip n m (by omega)
        refine ⟨_, featL_of (by omega) (by unfold maxLen; omega) hls, ?_⟩
        have := ownF_len skip n
        rw [List.length_append]
        omega
theorem small_says (n : Nd) : (codesearchlaw20_small.f 20000 n.f0 n.f1 n.f2 n.f3 n.f4 = some false) ∨ (codesearchlaw20_small.f 20000 n.f0 n.f1 n.f2 n.f3 n.f4 = some true ∧ ∀ skip m, 30 ≤ m → ∃ l, featL m skip n = some l ∧ l.length ≤ 400) := by
  obtain ⟨r, hr, r1, r2, r3⟩ := size_ok 30 (by omega) 20000 n (by omega)
  unfold codesearchlaw20_small.f
  rw [show (30 : Int) = ((30 : Nat) : Int) from rfl, hr, Option.bind_some]
  by_cases h : r ≤ 200
  · right
    rw [decide_eq_true h]
    refine ⟨rfl, fun skip m hm => ?_⟩
    obtain ⟨l, hl, hlen⟩ := r3 h skip m hm
    exact ⟨l, hl, by omega⟩
  · left
    rw [decide_eq_false h]
theorem same_ok (l : List Int) (hl : l.length ≤ 1000000000) : ∀ (m : List Int) (k j : Nat), l.drop j = m → m.length < k → codesearchref05_Same.l0 k l l (j : Int) = some true := by
  intro m
  induction m with
  | nil =>
    intro k j hd hk
    have hj : l.length ≤ j := List.drop_eq_nil_iff.1 hd
    cases k with
    | zero => omega
    | succ k => unfold codesearchref05_Same.l0; rw [if_neg (by omega)]
  | cons y r ih =>
    intro k j hd hk
    obtain ⟨h1, h2, hj⟩ := rd_at l j y r hd
    rw [List.length_cons] at hk
    obtain ⟨k, rfl⟩ : ∃ q, k = q + 1 := ⟨k - 1, by omega⟩
    unfold codesearchref05_Same.l0
    rw [if_pos (by omega), if_pos (by omega), if_pos (by omega), if_pos rfl, wrap_nat j (by omega)]
    exact ih k (j + 1) h2 (by omega)
theorem same_f (k : Nat) (l : List Int) (hl : l.length ≤ 1000000000) (hk : l.length < k) : codesearchref05_Same.f k l l = some true := by
  unfold codesearchref05_Same.f
  rw [if_pos rfl]
  exact same_ok l hl l k 0 rfl hk
theorem insAll_len (l : List Int) : (insAll l).length ≤ l.length := by
  have := insF_len l []
  simpa [insAll] using this
theorem featD_of {n : Nd} {skip : Bool} {l : List Int} (h : featL 40 skip n = some l) (hl : l.length ≤ 400) : featD n.f0 n.f1 n.f2 n.f3 n.f4 skip = some (insAll l) := by
  unfold featD
  rw [show (⟨n.f0, n.f1, n.f2, n.f3, n.f4⟩ : Nd) = n from by cases n; rfl, h, Option.bind_some, if_pos (by omega)]
theorem of_f {n : Nd} {l : List Int} (h : featL 40 false n = some l) (hl : l.length ≤ 400) : fingerprint_Of.f n.f0 n.f1 n.f2 n.f3 n.f4 = some (insAll l) := by
  unfold fingerprint_Of.f fingerprint_features.f
  rw [featD_of h hl]
  rfl
theorem need_f {n : Nd} {l : List Int} (h : featL 40 true n = some l) (hl : l.length ≤ 400) : fingerprint_Need.f n.f0 n.f1 n.f2 n.f3 n.f4 = some (insAll l) := by
  unfold fingerprint_Need.f fingerprint_features.f
  rw [featD_of h hl]
  rfl
theorem law_trees_n (n : Nd) : codesearchlaw20_FingerprintTrees.f 20000 n.f0 n.f1 n.f2 n.f3 n.f4 = some true := by
  unfold codesearchlaw20_FingerprintTrees.f
  rw [alive_ok 19998, Option.bind_some, if_pos rfl]
  rcases small_says n with h | ⟨h, hs⟩
  · rw [h]; rfl
  · rw [h, Option.bind_some, if_pos rfl]
    obtain ⟨a, ha, la⟩ := hs false 40 (by omega)
    obtain ⟨b, hb, lb⟩ := hs true 40 (by omega)
    have := insAll_len a
    have := insAll_len b
    rw [of_f ha la, need_f hb lb, Option.bind_some]
    unfold codesearchref20_Of.f codesearchref20_Need.f
    rw [featD_of ha la, featD_of hb lb, Option.bind_some, same_f _ _ (by omega) (by omega), Option.bind_some, if_pos rfl, Option.bind_some, Option.bind_some, same_f _ _ (by omega) (by omega)]
    rfl
theorem law_trees (a0 : Int) (a1 : ByteArray) (a2 a3 : Int) (l : List Nd) : codesearchlaw20_FingerprintTrees.f 20000 a0 a1 a2 a3 l = some true := law_trees_n ⟨a0, a1, a2, a3, l⟩
end Go.Proofs.Ytlnoadnejefmoaa.L20
