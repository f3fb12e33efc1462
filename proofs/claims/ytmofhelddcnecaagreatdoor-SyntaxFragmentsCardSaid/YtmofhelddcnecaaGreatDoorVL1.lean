/- SyntaxModules and SyntaxFragments come to true. -/
import Derived.Test.YtmofhelddcnecaaGreatDoorVW
import Derived.Test.YtmofhelddcnecaaGreatDoorVLc
set_option linter.unusedVariables false
set_option linter.unusedSimpArgs false
set_option linter.unusedSectionVars false
set_option maxRecDepth 4000
namespace Go.Ev
open PV
section
variable {n : Nat} {sg : List (List PV)} {K : Res → Out}
/-- The tree that was read is no wider than n. -/
theorem wid_no {n : Nat} (h : 1000 ≤ n) : Wid n noTree := .mk _ _ _ _ _ (by simp; omega) fun _ h => (List.not_mem_nil h).elim
theorem out_wid {n : Nat} {r : PR Tree} (hn : 1000 ≤ n) (h : ∀ x m, r = .ok x m → Wid n x) : Wid n (outT r).1 := by
  cases r with
  | ok x m =>
    unfold outT
    dsimp only
    cases deepT 12 x with
    | some a => exact wid_no hn
    | none => exact h x m rfl
  | bad a m => exact wid_no hn
  | out => exact wid_no hn
theorem whole_wid {p : Ps Tree} [Fw p] (hp : WG wT p) {S : Src} (hS : S.T.length ≤ 600) (hn : 1000 ≤ n) : Wid n (outT (wholeP p S 0)).1 := by
  refine out_wid hn fun x m e => ?_
  obtain ⟨y, k, e1, e2⟩ := PR.bind_ok e
  unfold moreC at e2
  dsimp only at e2
  split at e2
  · cases e2
  · cases e2
    exact (hp S 0 x m (Nat.zero_le _) hS e1).mono hn
theorem resM_wid {s : ByteArray} (hn : 1000 ≤ n) (hs : s.size ≤ 1000000000) : Wid n (resM s).1 := by
  have h6 := (scan_fit false s.data.toList s.size (by rw [len_data]; exact hs)).2
  unfold resM outM
  split
  · exact wid_no hn
  · exact whole_wid WG.module_ h6 hn
theorem resG_wid {what : Int} {s : ByteArray} (hn : 1000 ≤ n) (hs : s.size ≤ 1000000000) : Wid n (resG what s).1 := by
  have h6 := (scan_fit true s.data.toList s.size (by rw [len_data]; exact hs)).2
  unfold resG outG
  split
  · exact wid_no hn
  · unfold outM
    split
    · exact wid_no hn
    · exact whole_wid WG.frag h6 hn
theorem beq_self' (a : Int) : (a == a) = true := by simp
theorem modules_spec {k d : Nat} {s : ByteArray} (hn : 2000010 ≤ n) (hL : n ≤ 4611686018427387904) (hd : Hgt d (resM s).1) (hk : dD 601 + eD 601 + d + 100 ≤ k) (h : ∀ e, K ⟨false, .bool true⟩ (sg ++ e)) : callW (En n) k 3 [.str s] sg K := by
  rw [callW_at (by omega) rfl, Law12_SyntaxModules.eq, cB]
  refine alive_spec hn hL (by omega) fun e1 => ?_
  show C n _ 3 _ (Law12_SyntaxModules.S0 s false) (sg ++ e1) _
  rw [C_eq, Law12_SyntaxModules.cut0]
  by_cases hb : s.size > 2000
  · exact yes (decide_eq_true (by omega)) (h e1)
  refine no (decide_eq_false (by omega)) ?_
  have hw : Wid n (resM s).1 := resM_wid (by omega) (by omega)
  have hm : ∀ (sg' : List (List PV)) (K : Res → Out), (∀ e, K ⟨false, outV (resM s)⟩ (sg' ++ e)) → callW (En n) (k - 1) 11 [.str s] sg' K := fun sg' K h => module_res hn hL (by omega) (by omega) (by omega) h
  have hr : ∀ (sg' : List (List PV)) (K : Res → Out), (∀ e, K ⟨false, outV (resM s)⟩ (sg' ++ e)) → callW (En n) (k - 1) 12 [.str s] sg' K := fun sg' K h => rmodule_res hn hL (by omega) (by omega) (by omega) h
  generalize resM s = r at hd hw hm hr
  obtain ⟨t, a, er⟩ := r
  rw [cP]
  refine hm _ _ fun e2 => ?_
  show C n _ 3 _ (Law12_SyntaxModules.S1 s t.kind t.text t.at_ t.end_ (kidRows t.kids) a er false _) (sg ++ e1 ++ e2) _
  rw [C_eq, Law12_SyntaxModules.cut1, cP]
  refine hr _ _ fun e3 => ?_
  show C n _ 3 _ (Law12_SyntaxModules.S2 s t.kind t.text t.at_ t.end_ (kidRows t.kids) a er t.kind t.text t.at_ t.end_ (kidRows t.kids) a er false _) (sg ++ e1 ++ e2 ++ e3) _
  rw [C_eq, Law12_SyntaxModules.cut2, beq_self', beq_self', bcond_t, bcond_t]
  show cB _ 13 [nodeV t, nodeV t] _ (pan K) _
  rw [cB_of _ (fun K => sameAll_spec hL d _ t t K hd (by omega) hw), same_self]
  have := h (e1 ++ e2 ++ e3)
  simp only [List.append_assoc] at this ⊢
  exact this
theorem fragments_spec {k d : Nat} {what : Int} {s : ByteArray} (hn : 2000010 ≤ n) (hL : n ≤ 4611686018427387904) (hd : Hgt d (resG what s).1) (hk : dD 601 + eD 601 + d + 100 ≤ k) (h : ∀ e, K ⟨false, .bool true⟩ (sg ++ e)) : callW (En n) k 4 [.int .i64 what, .str s] sg K := by
  rw [callW_at (by omega) rfl, Law12_SyntaxFragments.eq, cB]
  refine alive_spec hn hL (by omega) fun e1 => ?_
  show C n _ 4 _ (Law12_SyntaxFragments.S0 what s false) (sg ++ e1) _
  rw [C_eq, Law12_SyntaxFragments.cut0]
  by_cases hb : s.size > 2000
  · exact yes (decide_eq_true (by omega)) (h e1)
  refine no (decide_eq_false (by omega)) ?_
  have hw : Wid n (resG what s).1 := resG_wid (by omega) (by omega)
  have hm : ∀ (sg' : List (List PV)) (K : Res → Out), (∀ e, K ⟨false, outV (resG what s)⟩ (sg' ++ e)) → callW (En n) (k - 1) 14 [.int .i64 what, .str s] sg' K := fun sg' K h => fragment_res hn hL (by omega) (by omega) (by omega) h
  have hr : ∀ (sg' : List (List PV)) (K : Res → Out), (∀ e, K ⟨false, outV (resG what s)⟩ (sg' ++ e)) → callW (En n) (k - 1) 15 [.int .i64 what, .str s] sg' K := fun sg' K h => rfragment_res hn hL (by omega) (by omega) (by omega) h
  generalize resG what s = r at hd hw hm hr
  obtain ⟨t, a, er⟩ := r
  rw [cP]
  refine hm _ _ fun e2 => ?_
  show C n _ 4 _ (Law12_SyntaxFragments.S1 what s t.kind t.text t.at_ t.end_ (kidRows t.kids) a er false _) (sg ++ e1 ++ e2) _
  rw [C_eq, Law12_SyntaxFragments.cut1, cP]
  refine hr _ _ fun e3 => ?_
  show C n _ 4 _ (Law12_SyntaxFragments.S2 what s t.kind t.text t.at_ t.end_ (kidRows t.kids) a er t.kind t.text t.at_ t.end_ (kidRows t.kids) a er false _) (sg ++ e1 ++ e2 ++ e3) _
  rw [C_eq, Law12_SyntaxFragments.cut2, beq_self', beq_self', bcond_t, bcond_t]
  show cB _ 13 [nodeV t, nodeV t] _ (pan K) _
  rw [cB_of _ (fun K => sameAll_spec hL d _ t t K hd (by omega) hw), same_self]
  have := h (e1 ++ e2 ++ e3)
  simp only [List.append_assoc] at this ⊢
  exact this
end
end Go.Ev
