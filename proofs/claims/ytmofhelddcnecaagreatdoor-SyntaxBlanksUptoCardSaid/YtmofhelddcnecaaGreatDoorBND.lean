/- The document's look at the shapes of trees. -/
import Derived.Test.YtmofhelddcnecaaGreatDoorBM
import Derived.Test.YtmofhelddcnecaaGreatDoorBZd
set_option linter.unusedVariables false
set_option linter.unusedSimpArgs false
set_option linter.unusedSectionVars false
set_option maxRecDepth 4000
namespace Go.Ev
open PV
section
variable {n : Nat} {sg : List (List PV)}
theorem psame_loop {k : Nat} {K : Res → Out} {i0 i2 i3 i5 i7 i8 i10 i12 i13 i15 i17 i18 : Int} {t1 t6 t11 t16 : ByteArray} {r4 r9 : List (List PV)} {b21 : Bool} (hL : n ≤ 4611686018427387904) (xs ys : List Tree) (hab : xs.length = ys.length)
    (ih : ∀ x ∈ xs, ∀ y ∈ ys, ∀ K : Res → Out, callW (En n) k 25 [nodeV x, nodeV y] sg K = K ⟨false, .bool (sameT false x y)⟩ sg) (hn : xs.length < n) :
    ∀ (r s : List Tree) (i m : Nat) (p20 p22 p23 : PV), xs.drop i = r → ys.drop i = s → i ≤ xs.length → r.length < m →
    L n (callW (En n) k) 25 [1, 1, 0, 1, 0, 0] (syntax_Same.S1 i0 t1 i2 i3 r4 i5 t6 i7 i8 r9 i10 t11 i12 i13 (kidRows xs) i15 t16 i17 i18 (kidRows ys) p20 b21 (xs.length : Int) (i : Int) p22 p23) sg (syntax_Same.K1 (callW (En n) k) n K) m = K ⟨false, .bool (sameL false r s)⟩ sg
  | r, s, i, 0, _, _, _, _, _, _, hm => by omega
  | [], s, i, m + 1, p20, p22, p23, hr, hs, hi, hm => by
    have : i = xs.length := by have := List.drop_eq_nil_iff.1 hr; omega
    subst this
    have e0 : decide ((xs.length : Int) < (xs.length : Int)) = false := decide_eq_false (by omega)
    rw [L_succ, syntax_Same.loop1, e0, bcond_f]
    simp [sameL]
  | x :: r, [], i, m + 1, p20, p22, p23, hr, hs, hi, hm => by
    obtain ⟨hil, _, _⟩ := drop_some hr
    have := List.drop_eq_nil_iff.1 hs
    omega
  | x :: r, y :: s, i, m + 1, p20, p22, p23, hr, hs, hi, hm => by
    obtain ⟨hil, hx, hr'⟩ := drop_some hr
    obtain ⟨hil2, hy, hs'⟩ := drop_some hs
    have hmx : x ∈ xs := List.mem_of_mem_drop (by rw [hr]; exact List.mem_cons_self)
    have hmy : y ∈ ys := List.mem_of_mem_drop (by rw [hs]; exact List.mem_cons_self)
    have ew : IntKind.i64.wrap ((i : Int) + 1) = ((i + 1 : Nat) : Int) := wrap_id _ (by omega) (by omega)
    have e1 : decide ((i : Int) < (xs.length : Int)) = true := decide_eq_true (by omega)
    rw [L_succ, syntax_Same.loop1, kid_chk xs i hil, kid_chk ys i hil2, e1, bcond_t, kid_at xs i hil, kid_at ys i hil2, hx, hy]
    show chk true (chk true (chk true (chk true (chk true (chk true (chk true (chk true (chk true (chk true (chk true (chk true (chk true (chk true (chk true (chk true (cB (callW (En n) k) 25 [nodeV x, nodeV y] sg (pan K) _)))))))))))))))) = _
    simp only [chk_t]
    rw [cB_of _ (fun K => ih x hmx y hmy K), ew, sameL]
    cases sameT false x y with
    | false => rfl
    | true =>
      rw [Bool.not_true, bcond_f, Bool.true_and]
      exact psame_loop hL xs ys hab ih hn r s (i + 1) m _ _ _ hr' hs' (by omega) (by simp at hm; omega)
theorem psame_spec (hL : n ≤ 4611686018427387904) : ∀ (d k : Nat) (a b : Tree) (K : Res → Out), Hgt d a → d ≤ k → Wid n a → callW (En n) k 25 [nodeV a, nodeV b] sg K = K ⟨false, .bool (sameT false a b)⟩ sg
  | 0, k, a, b, K, h, hk, hw => by cases h
  | d + 1, k, a, b, K, h, hk, hw => by
    rw [callW_at (by omega) rfl, sameT_eq]
    show B n _ 25 sg [.agg [.int .i64 a.kind, .str a.text, .int .i64 a.at_, .int .i64 a.end_, .list false (kidRows a.kids)], .agg [.int .i64 b.kind, .str b.text, .int .i64 b.at_, .int .i64 b.end_, .list false (kidRows b.kids)]] K = _
    rw [syntax_Same.eq, kidRows_len, kidRows_len]
    have el : ((a.kids.length : Int) != (b.kids.length : Int)) = !(a.kids.length == b.kids.length) := by
      by_cases h : a.kids.length = b.kids.length
      · rw [h]; simp
      · have h1 : ((a.kids.length : Int) == (b.kids.length : Int)) = false := by simp only [beq_eq_false_iff_ne]; omega
        have h2 : (a.kids.length == b.kids.length) = false := by simp only [beq_eq_false_iff_ne]; exact h
        simp only [bne, h1, h2]
    rw [el]
    show bcond (!(a.kind == b.kind)) _ _ = _
    cases (a.kind == b.kind) with
    | false => rfl
    | true =>
      rw [Bool.not_true, bcond_f]
      cases (a.text.toList == b.text.toList) with
      | false => rfl
      | true =>
        rw [Bool.not_true, bcond_f]
        cases hlen : (a.kids.length == b.kids.length) with
        | false => rfl
        | true =>
          have hlen : a.kids.length = b.kids.length := by simpa using hlen
          rw [Bool.not_true, bcond_f, C_eq, syntax_Same.cut0, kidRows_len]
          exact (psame_loop hL a.kids b.kids hlen (fun x hx y hy K => psame_spec hL d (k - 1) x y K (h.kid hx) (by omega) (hw.kid hx)) hw.len a.kids b.kids 0 n _ _ _ rfl rfl (by omega) hw.len).trans (by simp)
end
end Go.Ev
