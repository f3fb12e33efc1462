/- The plain law of TokenAgain: what a scan gives can be printed, and the printed text has the same tokens. For every string. -/
import Derived.Test.YtlnoadnejefmoaaL11x
import Derived.Test.YtlnoadnejefmoaaFgn11
import Derived.Test.YtlnoadnejefmoaaTkPlain
set_option linter.unusedVariables false
set_option linter.unusedSimpArgs false
namespace Go.Proofs.Ytlnoadnejefmoaa
theorem textO_in (k : Int) (l o : List UInt8) (h : textO k l = some o) : l.length ≤ 60 := by
  unfold textO at h
  split at h
  · split at h
    · rename_i hx; have := shortL_len _ hx; omega
    · simp at h
  split at h
  · split at h
    · rename_i hx; have := isKwL_len _ hx; omega
    · simp at h
  split at h
  · split at h
    · rename_i hx; have := intOk_len _ hx; omega
    · simp at h
  split at h
  · unfold quoteO at h
    split at h
    · simp at h
    · omega
  split at h
  · split at h
    · rename_i hx; have := isMarkL_len _ hx; omega
    · simp at h
  split at h
  · split at h
    · rename_i hx; have := shortL_len _ hx; omega
    · simp at h
  split at h
  · split at h
    · rename_i hx; have := shortL_len _ hx; omega
    · simp at h
  · simp at h
theorem outs_in : ∀ (xs : List Tok) (os : List (List UInt8)), outs xs = some os → (∀ x ∈ xs, x.text.size ≤ 60) ∧ (∀ o ∈ os, o.length ≤ 122) ∧ os.length = xs.length
  | [], os, h => by simp [outs] at h; subst h; simp
  | x :: t, os, h => by
    obtain ⟨o, os', rfl, h1, h2⟩ := outs_parts x t os h
    obtain ⟨i1, i2, i3⟩ := outs_in t os' h2
    have a := textO_in _ _ _ h1
    have b := textO_len _ _ _ h1
    rw [len_data] at a
    refine ⟨fun y hy => ?_, fun y hy => ?_, by simp [i3]⟩
    · rcases List.mem_cons.1 hy with rfl | hy
      · exact a
      · exact i1 y hy
    · rcases List.mem_cons.1 hy with rfl | hy
      · exact b
      · exact i2 y hy
end Go.Proofs.Ytlnoadnejefmoaa
namespace Go.Proofs.Ytlnoadnejefmoaa.L11
theorem short_S (L : List Tok) (os : List (List UInt8)) (h : outs L = some os) (hn : L.length ≤ 600) : shortT (L.map toS) := by
  refine ⟨by rw [List.length_map]; omega, fun x hx => ?_⟩
  obtain ⟨y, hy, rfl⟩ := List.mem_map.1 hx
  have := (outs_in L os h).1 y hy
  show y.text.size ≤ _
  omega
theorem print_S (L : List Tok) (os : List (List UInt8)) (h : outs L = some os) (hn : L.length ≤ 600) : token_Print.f (L.map toS) = some (tx (joinL os), 0) := by
  unfold token_Print.f
  rw [if_pos (short_S L os h hn), toT_toS]
  unfold printF printO
  rw [h]
  rfl
theorem join_size (L : List Tok) (os : List (List UInt8)) (h : outs L = some os) (hn : L.length ≤ 600) : (tx (joinL os)).size ≤ 1000000000 := by
  obtain ⟨_, h2, h3⟩ := outs_in L os h
  have := joinL_len 122 os h2
  have e : (tx (joinL os)).size = (joinL os).length := by rw [← len_data, tx_list]
  have : os.length * (122 + 1) ≤ 600 * 123 := Nat.mul_le_mul (by omega) (by omega)
  omega
theorem scanF_is {pat : Bool} {s : ByteArray} {L : List Tok} {off err : Int} (hs : s.size ≤ 1000000000) (h : scanR pat s.data.toList = ⟨L, off, err⟩) : scanF pat s = some (L.map toS, off, err) := by
  unfold scanF
  rw [if_pos hs, h]
end Go.Proofs.Ytlnoadnejefmoaa.L11
namespace Go.Proofs.Ytlnoadnejefmoaa.Pure
open Go.RowKit Go.Proofs.Ytlnoadnejefmoaa.L11 Go.Proofs.YtlnoadnejefmoaaW.PrintWords Go.Proofs.YtlnoadnejefmoaaW.PrintLast

theorem TokenAgain : codesearchlaw11_TokenAgain.Pure := by
  intro s _
  unfold codesearchlaw11_TokenAgain.f
  rw [show codesearchlaw11_alive.f = some true from rfl]
  simp only [Option.bind_some, if_true]
  by_cases hs : (s.size : Int) > 3000
  · rw [if_pos hs]
  · rw [if_neg hs]
    obtain ⟨L, off, err, h⟩ := scanR_parts true s.data.toList
    have e1 : token_ScanPattern.f s = some (L.map toS, off, err) := scanF_is (by omega) h
    rw [e1]
    simp only [Option.bind_some]
    by_cases he : err = 0
    · subst he
      rw [if_pos rfl]
      obtain ⟨h1, h2, rfl⟩ := scanR_inv true _ L off 0 h rfl
      obtain ⟨os, ts, h3, h4, h5⟩ := again true _ L 0 h rfl
      rw [print_S L os h3 h2]
      simp only [Option.bind_some]
      have e2 : token_ScanPattern.f (tx (joinL os)) = some (ts.map toS, 0, 0) := scanF_is (join_size L os h3 h2) (by rw [tx_list]; exact h4)
      rw [e2]
      simp only [Option.bind_some, if_true]
      unfold token_Same.f
      rw [toT_toS, toT_toS]
      simp only [Option.bind_some]
      congr 1
      unfold sameL
      rw [decide_eq_true_eq]
      exact h5.symm
    · rw [if_neg he]
      obtain ⟨rfl, h1, h2⟩ := scanR_bad true _ L off err h he
      rw [len_data] at h2
      rw [if_pos (by rfl), if_pos (by omega), decide_eq_true h2]
end Go.Proofs.Ytlnoadnejefmoaa.Pure
