/- SyntaxNested comes to true. -/
import Derived.Test.YtmofhelddcnecaaGreatDoorNL1
import Derived.Test.YtmofhelddcnecaaGreatDoorNNE
import Derived.Test.YtmofhelddcnecaaGreatDoorN6
import Derived.Test.YtmofhelddcnecaaGreatDoorNLd
set_option linter.unusedVariables false
set_option linter.unusedSimpArgs false
set_option linter.unusedSectionVars false
set_option maxRecDepth 4000
namespace Go.Ev
open PV Go.RowKit
section
variable {n : Nat} {sg : List (List PV)}
theorem nest_loop {k : Nat} {K : Res → Out} {i0 i2 i3 i5 i7 i8 : Int} {t1 t6 : ByteArray} {r4 : List (List PV)} (hL : n ≤ 4611686018427387904) (l : List Tree)
    (ih : ∀ t ∈ l, ∀ K : Res → Out, callW (En n) k 16 [nodeV t] sg K = K ⟨false, .bool (nsT t)⟩ sg) (hn : l.length < n) :
    ∀ (r : List Tree) (i m : Nat) (a : Int) (p12 p13 : PV), l.drop i = r → i ≤ l.length → r.length < m →
    L n (callW (En n) k) 16 [1, 1, 0, 1, 0, 0] (Law12_nested.S0 i0 t1 i2 i3 r4 i5 t6 i7 i8 (kidRows l) a (i : Int) p12 p13) sg (Law12_nested.K0 (callW (En n) k) n K) m = K ⟨false, .bool (nsL a i8 r)⟩ sg
  | r, i, 0, _, _, _, _, _, hm => by omega
  | [], i, m + 1, a, p12, p13, hr, hi, hm => by
    have : i = l.length := by have := List.drop_eq_nil_iff.1 hr; omega
    subst this
    rw [L_succ, Law12_nested.loop0, kidRows_len, decide_eq_false (show ¬ ((l.length : Int) < (l.length : Int)) by omega), bcond_f, C_eq, Law12_nested.cut2, nsL]
  | y :: r, i, m + 1, a, p12, p13, hr, hi, hm => by
    obtain ⟨hil, hy, hr'⟩ := drop_some hr
    have hmem : y ∈ l := List.mem_of_mem_drop (by rw [hr]; exact List.mem_cons_self)
    have ew : IntKind.i64.wrap ((i : Int) + 1) = ((i + 1 : Nat) : Int) := wrap_id _ (by omega) (by omega)
    rw [L_succ, Law12_nested.loop0, kid_i l i hil, kidRows_len, decide_eq_true (show (i : Int) < (l.length : Int) by omega), bcond_t, kid_at l i hil, hy, nsL]
    show chk true (chk true (chk true (bcond (decide (y.at_ < a)) _ (chk true (chk true (chk true (chk true (chk true (chk true (chk true (chk true (cB _ 16 [nodeV y] sg (pan K) _)))))))))))) = _
    rw [chk_t, chk_t, chk_t, kk, show decide (a ≤ y.at_) = !decide (y.at_ < a) by rw [Bool.eq_iff_iff]; simp]
    cases decide (y.at_ < a) with
    | true => rfl
    | false =>
      rw [bcond_f, cB_of _ (fun K => ih y hmem K)]
      cases nsT y with
      | false => rfl
      | true =>
        rw [Bool.not_true, bcond_f, C_eq, Law12_nested.cut1, kid_i l i hil, kid_at l i hil, hy, ew]
        show chk true (chk true (chk true (L n _ 16 _ (Law12_nested.S0 i0 t1 i2 i3 r4 i5 t6 i7 i8 (kidRows l) y.end_ ((i + 1 : Nat) : Int) _ _) sg _ m))) = K ⟨false, .bool (true && (true && nsL y.end_ i8 r))⟩ sg
        rw [chk_t, chk_t, chk_t, Bool.true_and, Bool.true_and]
        exact nest_loop hL l ih hn r (i + 1) m y.end_ _ _ hr' (by omega) (by simp at hm; omega)
theorem nest_spec (hL : n ≤ 4611686018427387904) : ∀ (d k : Nat) (t : Tree) (K : Res → Out), Hgt d t → d ≤ k → Wid n t → callW (En n) k 16 [nodeV t] sg K = K ⟨false, .bool (nsT t)⟩ sg
  | 0, k, t, K, h1, hk, hw => by cases h1
  | d + 1, k, t, K, h1, hk, hw => by
    rw [callW_at (by omega) rfl, nsT_eq]
    show B n _ 16 sg [.agg [.int .i64 t.kind, .str t.text, .int .i64 t.at_, .int .i64 t.end_, .list false (kidRows t.kids)]] K = _
    rw [Law12_nested.eq]
    exact nest_loop hL t.kids (fun x hx K => nest_spec hL d (k - 1) x K (h1.kid hx) (by omega) (hw.kid hx)) hw.len t.kids 0 n _ _ _ rfl (by omega) hw.len
variable {K : Res → Out}
theorem nested_spec {k d : Nat} {what : Int} {s : ByteArray} (hn : 2000010 ≤ n) (hL : n ≤ 4611686018427387904) (hd : Hgt d (resM s).1) (hd' : Hgt d (resG what s).1) (hk : dD 601 + eD 601 + 6 * d + 100 ≤ k) (h : ∀ e, K ⟨false, .bool true⟩ (sg ++ e)) : callW (En n) k 5 [.int .i64 what, .str s] sg K := by
  rw [callW_at (by omega) rfl, Law12_SyntaxNested.eq, cB]
  refine alive_spec hn hL (by omega) fun e1 => ?_
  show C n _ 5 _ (Law12_SyntaxNested.S0 what s false) (sg ++ e1) _
  rw [C_eq, Law12_SyntaxNested.cut0]
  by_cases hb : s.size > 2000
  · exact yes (decide_eq_true (by omega)) (h e1)
  refine no (decide_eq_false (by omega)) ?_
  have hw : Wid n (resM s).1 := resM_wid (by omega) (by omega)
  have hw' : Wid n (resG what s).1 := resG_wid (by omega) (by omega)
  have hm : ∀ (sg' : List (List PV)) (K : Res → Out), (∀ e, K ⟨false, outV (resM s)⟩ (sg' ++ e)) → callW (En n) (k - 1) 11 [.str s] sg' K := fun sg' K h => module_res hn hL (by omega) (by omega) (by omega) h
  have hg : ∀ (sg' : List (List PV)) (K : Res → Out), (∀ e, K ⟨false, outV (resG what s)⟩ (sg' ++ e)) → callW (En n) (k - 1) 14 [.int .i64 what, .str s] sg' K := fun sg' K h => fragment_res hn hL (by omega) (by omega) (by omega) h
  have fm := resM_ok (s := s) (by omega)
  have fg := resG_ok (what := what) (s := s) (by omega)
  generalize resM s = r at hd hw hm fm
  generalize resG what s = r' at hd' hw' hg fg
  obtain ⟨t, a, er⟩ := r
  obtain ⟨t', a', er'⟩ := r'
  rw [cP]
  refine hm _ _ fun e2 => ?_
  show C n _ 5 _ (Law12_SyntaxNested.S1 what s t.kind t.text t.at_ t.end_ (kidRows t.kids) er false _) (sg ++ e1 ++ e2) _
  have rest : ∀ b, C n (callW (En n) (k - 1)) 5 [1, 1, 1, 1, 1] (Law12_SyntaxNested.S2 what s t.kind t.text t.at_ t.end_ (kidRows t.kids) er false (decide ((s.size : Int) > 2000)) b) (sg ++ e1 ++ e2) (Law12_SyntaxNested.K2 (callW (En n) (k - 1)) n K) := fun b => by
    rw [C_eq, Law12_SyntaxNested.cut2, cP]
    refine hg _ _ fun e3 => ?_
    show C n _ 5 _ (Law12_SyntaxNested.S3 what s t'.kind t'.text t'.at_ t'.end_ (kidRows t'.kids) er' false _ _) (sg ++ e1 ++ e2 ++ e3) _
    have fin : K ⟨false, .bool true⟩ (sg ++ e1 ++ e2 ++ e3) := by
      have := h (e1 ++ e2 ++ e3)
      simp only [List.append_assoc] at this ⊢
      exact this
    rw [C_eq, Law12_SyntaxNested.cut3]
    by_cases h0 : er' = 0
    · obtain ⟨g1, g2, g3⟩ := fg h0
      rw [show (er' != 0) = false by simp [h0], bcond_f, decide_eq_true (show t'.at_ ≥ 0 from g1), bcond_t, decide_eq_true (show t'.end_ ≤ (s.size : Int) from g2), bcond_t]
      show cB _ 16 [nodeV t'] _ (pan K) _
      rw [cB_of _ (fun K => nest_spec hL d _ t' K hd' (by omega) hw'), show nsT t' = true from g3]
      exact fin
    · rw [show (er' != 0) = true by simp [h0], bcond_t]
      exact fin
  rw [C_eq, Law12_SyntaxNested.cut1]
  by_cases h0 : er = 0
  · obtain ⟨g1, g2, g3, g4, g5⟩ := fm h0
    rw [show (er == 0) = true by simp [h0], bcond_t, decide_eq_false (show ¬ t.at_ < 0 by have : 0 ≤ t.at_ := g1; omega), bcond_f, decide_eq_false (show ¬ t.end_ > (s.size : Int) by have : t.end_ ≤ s.size := g2; omega), bcond_f]
    show cB _ 16 [nodeV t] _ (pan K) _
    rw [cB_of _ (fun K => nest_spec hL d _ t K hd (by omega) hw), show nsT t = true from g3, Bool.not_true, bcond_f]
    show cB _ 17 [nodeV t] _ (pan K) _
    rw [cB_of _ (fun K => right_spec hL t hd hw (g5.mono (by omega)) (by omega)), show rightT t = true from g4, Bool.not_true, bcond_f]
    exact rest _
  · rw [show (er == 0) = false by simp [h0], bcond_f]
    exact rest _
end
theorem nested_calls {W : World} (hT : ∀ c : Nat, c < 256 → W.cell? ⟨0, c, none⟩ = some (.int .u8 (if Lib.isSp (UInt8.ofNat c) then 1 else 0))) (x : Int) (s : ByteArray) :
    Calls Go.Proofs.Tryz.prog 5 #[.int .i64 x, .string s] W fun e W' => e = .returned (.bool true) ∧ Below W.heap.size W W' := by
  obtain ⟨d, hd⟩ := hgt_ex (resM s).1
  obtain ⟨d', hd'⟩ := hgt_ex (resG x s).1
  obtain ⟨n, hn⟩ : ∃ n : Nat, n = 2000010 := ⟨_, rfl⟩
  obtain ⟨k, hk⟩ : ∃ k : Nat, k = dD 601 + eD 601 + 6 * (d + d') + 100 := ⟨_, rfl⟩
  exact law_calls (n := n) (k := k) hT (fun K h => nested_spec (d := d + d') (by omega) (by omega) (hd.mono (by omega)) (hd'.mono (by omega)) (by omega) (fun e => h _)) (args2 (.int _ _) (.str s))
end Go.Ev
