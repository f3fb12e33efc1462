/- codesearchref05.Put puts a number in its place. For every list in memory of at most 1000000000 elements. -/
import Derived.Test.YtlnoadnejefmoaaFpPure
import Derived.Test.YtlnoadnejefmoaaL05x1
set_option linter.unusedVariables false
set_option linter.unusedSimpArgs false
namespace Go.Proofs.Ytlnoadnejefmoaa.L20
open Go.RowKit Go.Maps Go.Proofs.YtlnoadnejefmoaaW.PrintWords Go.Proofs.Ytlnoadnejefmoaa.L05
theorem rd_at (l : List Int) (j : Nat) (y : Int) (r : List Int) (h : l.drop j = y :: r) : rd l (j : Int) = y ∧ l.drop (j + 1) = r ∧ j < l.length := by
  have hj : j < l.length := by
    rcases Nat.lt_or_ge j l.length with h1 | h1
    · exact h1
    · rw [List.drop_eq_nil_of_le h1] at h; cases h
  have h1 := List.drop_eq_getElem_cons hj
  rw [h] at h1
  injection h1 with h2 h3
  refine ⟨?_, h3.symm, hj⟩
  unfold rd
  rw [Int.toNat_natCast, List.getD_eq_getElem?_getD, List.getElem?_eq_getElem hj, h2]
  rfl
theorem wrap_nat (j : Nat) (h : j ≤ 2000000000) : wrap64 ((j : Int) + 1) = ((j + 1 : Nat) : Int) := by
  rw [show ((j + 1 : Nat) : Int) = (j : Int) + 1 from by omega]
  unfold wrap64
  omega
theorem put_done (l : List Int) (x : Int) (hl : l.length ≤ 1000000000) : ∀ (m : List Int) (k j : Nat) (acc : List Int), l.drop j = m → 2 * m.length < k → acc.length + m.length ≤ 2000000000 → codesearchref05_Put.l0 k l x acc true (j : Int) = some (acc ++ m) := by
  intro m
  induction m with
  | nil =>
    intro k j acc hd hk ha
    have hj : l.length ≤ j := List.drop_eq_nil_iff.1 hd
    cases k with
    | zero => omega
    | succ k => unfold codesearchref05_Put.l0; rw [if_neg (by omega), if_pos rfl, List.append_nil]
  | cons y r ih =>
    intro k j acc hd hk ha
    obtain ⟨h1, h2, hj⟩ := rd_at l j y r hd
    rw [List.length_cons] at hk ha
    obtain ⟨k, rfl⟩ : ∃ q, k = q + 2 := ⟨k - 2, by omega⟩
    unfold codesearchref05_Put.l0
    rw [if_pos (by omega), if_pos rfl]
    unfold codesearchref05_Put.j1
    rw [if_neg (by simp), if_pos (by omega), if_pos (by omega), if_pos (by omega), h1, wrap_nat j (by omega), ih k (j + 1) (acc ++ [y]) h2 (by omega) (by rw [List.length_append]; simp; omega), List.append_assoc]
    rfl
theorem put_more (l : List Int) (x : Int) (hl : l.length ≤ 1000000000) : ∀ (m : List Int) (k j : Nat) (acc : List Int), l.drop j = m → 2 * m.length < k → acc.length + m.length ≤ 1500000000 → codesearchref05_Put.l0 k l x acc false (j : Int) = some (acc ++ insS m x) := by
  intro m
  induction m with
  | nil =>
    intro k j acc hd hk ha
    have hj : l.length ≤ j := List.drop_eq_nil_iff.1 hd
    cases k with
    | zero => omega
    | succ k => unfold codesearchref05_Put.l0; rw [if_neg (by omega), if_neg (by simp), if_pos (by simp at ha; omega)]; rfl
  | cons y r ih =>
    intro k j acc hd hk ha
    obtain ⟨h1, h2, hj⟩ := rd_at l j y r hd
    rw [List.length_cons] at hk ha
    obtain ⟨k, rfl⟩ : ∃ q, k = q + 2 := ⟨k - 2, by omega⟩
    unfold codesearchref05_Put.l0
    rw [if_pos (by omega), if_neg (by simp), if_pos (by omega), h1]
    unfold codesearchref05_Put.j1
    rw [h1]
    unfold insS
    by_cases hge : y ≥ x
    · rw [if_pos (by simpa using hge), if_pos (by omega), if_pos (by omega)]
      by_cases hgt : y > x
      · rw [if_pos hgt, if_pos (by omega), if_pos (by omega), Option.bind_some, if_pos (by rw [List.length_append]; simp; omega), wrap_nat j (by omega), put_done l x hl r k (j + 1) _ h2 (by omega) (by simp; omega)]
        simp
      · have : x = y := by omega
        rw [if_neg hgt, if_pos (by omega), if_neg (by omega), if_pos this, wrap_nat j (by omega), put_done l x hl r k (j + 1) _ h2 (by omega) (by simp; omega)]
        simp
    · rw [if_neg (by simpa using hge), if_pos (by omega), if_pos (by omega), if_pos (by omega), if_neg (by omega), if_neg (by omega), wrap_nat j (by omega), ih k (j + 1) (acc ++ [y]) h2 (by omega) (by rw [List.length_append]; simp; omega), List.append_assoc]
      rfl
theorem rf_put (B : Option Addr) (cb : Nat) (acc : List Int) (x : Int) (w : World) (hC : (Kd.int .i64).C w B acc.length acc) (hc : acc.length ≤ cb) (hl : acc.length ≤ 1000000000) :
    Calls Try.prog 81 #[.slice B acc.length cb, .int .i64 x] w fun e w' => ∃ v, e = .returned v ∧ (Kd.int .i64).R 3 w' w.heap.size (fun _ => True) v (insS acc x) ∧ Below w.heap.size w w' :=
  codesearchref05_Put.calls (2 * acc.length + 1) B cb acc x (insS acc x) w hC hc (put_more acc x hl acc _ 0 [] rfl (by omega) (by simp; omega))
end Go.Proofs.Ytlnoadnejefmoaa.L20
