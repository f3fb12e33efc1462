/- The law SymindexBuilds answers true. Plain Lean, over the printed words. -/
import Derived.Test.YtlogobmimacpgaaSyL3
import Derived.Test.YtlogobmimacpgaaL32x7
set_option linter.unusedVariables false
set_option linter.unusedSimpArgs false
namespace Go.Proofs.Ytlogobmimacpgaa.L32
open Go.RowKit Go.Proofs.YtlogobmimacpgaaW.PrintWords Go.Proofs.Ytlogobmimacpgaa.Idx
theorem builds_from (M : Nat) (hM : 5000000 ≤ M) (ds : List tD) (rs : List tR) (l2 l3 : List S145) (h0 : ds.length ≤ 60) (h1 : rs.length ≤ 60) : ∀ (d n k : Nat), n + d = ds.length → (∀ x ∈ ds.take n, x.f2.size ≤ 100) → d + M < k → codesearchlaw32_SymindexBuilds.l0 k (n : Int) ds rs l2 l3 = some true := by
  intro d
  induction d with
  | zero =>
    intro n k hn ha hk
    obtain ⟨k, rfl⟩ : ∃ q, k = q + 1 := ⟨k - 1, by omega⟩
    rw [List.take_of_length_le (by omega)] at ha
    have hok : okG ds rs := ⟨by omega, by omega, fun x hx => by have := ha x hx; omega⟩
    have hlen : (occG ds rs).length ≤ 120 := by
      have := List.length_filterMap_le (occR ds) rs
      simp only [occG, List.length_append, List.length_map]
      omega
    obtain ⟨p1, p2⟩ := posts_len (occG ds rs)
    unfold codesearchlaw32_SymindexBuilds.l0
    rw [if_neg (by omega), build_f ds rs l2 l3 hok k (by omega)]
    simp only [Option.bind_some]
    unfold codesearchref32_Build.f
    rw [if_pos ((okB_iff ds rs).2 hok)]
    simp only [Option.bind_some]
    rw [same_self _ (by omega) (fun p hp => by have := p2 p hp; omega) k (by omega)]
    rfl
  | succ d ih =>
    intro n k hn ha hk
    obtain ⟨k, rfl⟩ : ∃ q, k = q + 1 := ⟨k - 1, by omega⟩
    unfold codesearchlaw32_SymindexBuilds.l0
    rw [if_pos (by omega), if_pos (by omega), rdD ds n (by omega)]
    by_cases e : (ds[n].f2.size : Int) > 100
    · rw [if_pos e]
    · have h := ih (n + 1) k (by omega) (fun x hx => by
        rw [take_get ds n ds[n] (List.getElem?_eq_getElem (by omega))] at hx
        rcases List.mem_append.1 hx with hx | hx
        · exact ha x hx
        · obtain rfl : x = ds[n] := by simpa using hx
          omega) (by omega)
      rw [nsucc] at h
      rw [if_neg e, wrap_in _ (by omega) (by omega)]
      exact h
theorem law_builds (ds : List tD) (rs : List tR) (l2 l3 : List S145) : ∃ k, codesearchlaw32_SymindexBuilds.f k ds rs l2 l3 = some true := by
  obtain ⟨k, hk⟩ : ∃ k, 20000000 < k := ⟨20000001, by omega⟩
  refine ⟨k + 1, ?_⟩
  unfold codesearchlaw32_SymindexBuilds.f
  rw [alive_f (k + 1) (by omega)]
  simp only [Option.bind_some]
  rw [if_pos trivial]
  by_cases h0 : (ds.length : Int) > 60
  · rw [if_pos h0]
    unfold codesearchlaw32_SymindexBuilds.j0
    dsimp only
    rw [if_pos rfl]
  · rw [if_neg h0]
    unfold codesearchlaw32_SymindexBuilds.j0
    dsimp only
    by_cases h1 : (rs.length : Int) > 60
    · rw [if_pos (decide_eq_true h1)]
    · rw [if_neg (by simpa using h1)]
      exact builds_from 10000000 (by omega) ds rs l2 l3 (by omega) (by omega) ds.length 0 k (by omega) (fun x hx => by simp at hx) (by omega)
end Go.Proofs.Ytlogobmimacpgaa.L32
