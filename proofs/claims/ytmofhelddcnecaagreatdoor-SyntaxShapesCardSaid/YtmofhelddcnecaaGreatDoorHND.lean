/- The document's look at the shapes of trees. -/
import Derived.Test.YtmofhelddcnecaaGreatDoorHM
import Derived.Test.YtmofhelddcnecaaGreatDoorHZd
import Derived.Test.YtmofhelddcnecaaGreatDoorHN
import Derived.Test.YtmofhelddcnecaaGreatDoorHK
import Derived.Test.YtmofhelddcnecaaGreatDoorHR
import Derived.Test.YtmofhelddcnecaaGreatDoorHZc
set_option linter.unusedVariables false
set_option linter.unusedSimpArgs false
set_option linter.unusedSectionVars false
set_option maxRecDepth 4000
namespace Go.Ev
open PV
section
variable {n : Nat} {sg : List (List PV)}
theorem rsize_loop {k : Nat} {K : Res → Out} {i0 i2 i3 i5 i7 i8 : Int} {t1 t6 : ByteArray} {r4 : List (List PV)} (hL : n ≤ 4611686018427387904) (ks : List Tree)
    (ih : ∀ t ∈ ks, ∀ K : Res → Out, callW (En n) k 18 [nodeV t] sg K = K ⟨false, .int .i64 (sizeT t)⟩ sg) (hn : ks.length < n) :
    ∀ (r : List Tree) (i m : Nat) (acc : Int) (p15 : PV), ks.drop i = r → i ≤ ks.length → r.length < m →
    L n (callW (En n) k) 18 [1, 1, 0, 1, 0, 0] (R12_Size.S0 i0 t1 i2 i3 r4 i5 t6 i7 i8 (kidRows ks) acc (i : Int) p15) sg (R12_Size.K0 (callW (En n) k) n K) m = K ⟨false, .int .i64 (sizeL acc r)⟩ sg
  | r, i, 0, _, _, _, _, hm => by omega
  | [], i, m + 1, acc, p15, hr, hi, hm => by
    have : i = ks.length := by have := List.drop_eq_nil_iff.1 hr; omega
    subst this
    rw [L_succ, R12_Size.loop0, kidRows_len, decide_eq_false (show ¬ ((ks.length : Int) < (ks.length : Int)) by omega), bcond_f]
    rfl
  | y :: r, i, m + 1, acc, p15, hr, hi, hm => by
    obtain ⟨hil, hy, hr'⟩ := drop_some hr
    have hmem : y ∈ ks := List.mem_of_mem_drop (by rw [hr]; exact List.mem_cons_self)
    have ew : IntKind.i64.wrap ((i : Int) + 1) = ((i + 1 : Nat) : Int) := wrap_id _ (by omega) (by omega)
    rw [L_succ, R12_Size.loop0, kid_chk ks i hil, kidRows_len, decide_eq_true (show (i : Int) < (ks.length : Int) by omega), bcond_t, kid_at ks i hil, hy]
    show chk true (chk true (chk true (chk true (chk true (chk true (chk true (chk true (cI (callW (En n) k) 18 [nodeV y] sg (pan K) _)))))))) = _
    simp only [chk_t]
    rw [cI_of _ (fun K => ih y hmem K), ew, sizeL]
    exact rsize_loop hL ks ih hn r (i + 1) m _ _ hr' (by omega) (by simp at hm; omega)
theorem rsize_spec (hL : n ≤ 4611686018427387904) : ∀ (d k : Nat) (t : Tree) (K : Res → Out), Hgt d t → d ≤ k → Wid n t → callW (En n) k 18 [nodeV t] sg K = K ⟨false, .int .i64 (sizeT t)⟩ sg
  | 0, k, t, K, h, hk, hw => by cases h
  | d + 1, k, t, K, h, hk, hw => by
    rw [callW_at (by omega) rfl, sizeT_eq]
    show B n _ 18 sg [.agg [.int .i64 t.kind, .str t.text, .int .i64 t.at_, .int .i64 t.end_, .list false (kidRows t.kids)]] K = _
    rw [R12_Size.eq]
    exact rsize_loop hL t.kids (fun x hx K => rsize_spec hL d (k - 1) x K (h.kid hx) (by omega) (hw.kid hx)) hw.len t.kids 0 n 1 _ rfl (by omega) hw.len
theorem rdepth_loop {k : Nat} {K : Res → Out} {i0 i2 i3 i5 i7 i8 : Int} {t1 t6 : ByteArray} {r4 : List (List PV)} (hL : n ≤ 4611686018427387904) (ks : List Tree)
    (ih : ∀ t ∈ ks, ∀ K : Res → Out, callW (En n) k 29 [nodeV t] sg K = K ⟨false, .int .i64 (depthT t)⟩ sg) (hn : ks.length < n) :
    ∀ (r : List Tree) (i m : Nat) (acc : Int) (p15 : PV), ks.drop i = r → i ≤ ks.length → r.length < m →
    L n (callW (En n) k) 29 [1, 1, 0, 1, 0, 0] (R12_Depth.S0 i0 t1 i2 i3 r4 i5 t6 i7 i8 (kidRows ks) acc (i : Int) p15) sg (R12_Depth.K0 (callW (En n) k) n K) m = K ⟨false, .int .i64 (IntKind.i64.wrap (depthL acc r + 1))⟩ sg
  | r, i, 0, _, _, _, _, hm => by omega
  | [], i, m + 1, acc, p15, hr, hi, hm => by
    have : i = ks.length := by have := List.drop_eq_nil_iff.1 hr; omega
    subst this
    rw [L_succ, R12_Depth.loop0, kidRows_len, decide_eq_false (show ¬ ((ks.length : Int) < (ks.length : Int)) by omega), bcond_f]
    rfl
  | y :: r, i, m + 1, acc, p15, hr, hi, hm => by
    obtain ⟨hil, hy, hr'⟩ := drop_some hr
    have hmem : y ∈ ks := List.mem_of_mem_drop (by rw [hr]; exact List.mem_cons_self)
    have ew : IntKind.i64.wrap ((i : Int) + 1) = ((i + 1 : Nat) : Int) := wrap_id _ (by omega) (by omega)
    rw [L_succ, R12_Depth.loop0, kid_chk ks i hil, kidRows_len, decide_eq_true (show (i : Int) < (ks.length : Int) by omega), bcond_t, kid_at ks i hil, hy]
    show chk true (chk true (chk true (chk true (chk true (chk true (chk true (chk true (cI (callW (En n) k) 29 [nodeV y] sg (pan K) _)))))))) = _
    simp only [chk_t]
    rw [cI_of _ (fun K => ih y hmem K), ew, depthL]
    exact rdepth_loop hL ks ih hn r (i + 1) m _ _ hr' (by omega) (by simp at hm; omega)
theorem rdepth_spec (hL : n ≤ 4611686018427387904) : ∀ (d k : Nat) (t : Tree) (K : Res → Out), Hgt d t → d ≤ k → Wid n t → callW (En n) k 29 [nodeV t] sg K = K ⟨false, .int .i64 (depthT t)⟩ sg
  | 0, k, t, K, h, hk, hw => by cases h
  | d + 1, k, t, K, h, hk, hw => by
    rw [callW_at (by omega) rfl, depthT_eq]
    show B n _ 29 sg [.agg [.int .i64 t.kind, .str t.text, .int .i64 t.at_, .int .i64 t.end_, .list false (kidRows t.kids)]] K = _
    rw [R12_Depth.eq]
    exact rdepth_loop hL t.kids (fun x hx K => rdepth_spec hL d (k - 1) x K (h.kid hx) (by omega) (hw.kid hx)) hw.len t.kids 0 n 0 _ rfl (by omega) hw.len
theorem rsame_loop {k : Nat} {K : Res → Out} {i0 i2 i3 i5 i7 i8 i10 i12 i13 i15 i17 i18 : Int} {t1 t6 t11 t16 : ByteArray} {r4 r9 : List (List PV)} {b21 : Bool} (hL : n ≤ 4611686018427387904) (xs ys : List Tree) (hab : xs.length = ys.length)
    (ih : ∀ x ∈ xs, ∀ y ∈ ys, ∀ K : Res → Out, callW (En n) k 26 [nodeV x, nodeV y] sg K = K ⟨false, .bool (sameT false x y)⟩ sg) (hn : xs.length < n) :
    ∀ (r s : List Tree) (i m : Nat) (p20 p22 p23 : PV), xs.drop i = r → ys.drop i = s → i ≤ xs.length → r.length < m →
    L n (callW (En n) k) 26 [1, 1, 0, 1, 0, 0] (R12_Same.S1 i0 t1 i2 i3 r4 i5 t6 i7 i8 r9 i10 t11 i12 i13 (kidRows xs) i15 t16 i17 i18 (kidRows ys) (i : Int) b21 p22 p23) sg (R12_Same.K1 (callW (En n) k) n K) m = K ⟨false, .bool (sameL false r s)⟩ sg
  | r, s, i, 0, _, _, _, _, _, _, hm => by omega
  | [], s, i, m + 1, p20, p22, p23, hr, hs, hi, hm => by
    have : i = xs.length := by have := List.drop_eq_nil_iff.1 hr; omega
    subst this
    have e0 : decide ((xs.length : Int) < (xs.length : Int)) = false := decide_eq_false (by omega)
    rw [L_succ, R12_Same.loop1, kidRows_len, e0, bcond_f]
    simp [sameL]
  | x :: r, [], i, m + 1, p20, p22, p23, hr, hs, hi, hm => by
    obtain ⟨hil, _, _⟩ := drop_some hr
    have := List.drop_eq_nil_iff.1 hs
    omega
  | x :: r, y :: s, i, m + 1, p20, p22, p23, hr, hs, hi, hm => by
    obtain ⟨hil, hx, hr'⟩ := drop_some hr
    obtain ⟨hil2, hy, hs'⟩ := drop_some hs
    have hmx : x ∈ xs := List.mem_of_mem_drop (by rw [hr]; exact List.mem_cons_self)
    have hmy : y ∈ ys := List.mem_of_mem_drop (by rw [hs]; exact List.mem_cons_self)
    have ew : IntKind.i64.wrap ((i : Int) + 1) = ((i + 1 : Nat) : Int) := wrap_id _ (by omega) (by omega)
    have e1 : decide ((i : Int) < ((kidRows xs).length : Int)) = true := decide_eq_true (by rw [kidRows_len]; omega)
    rw [L_succ, R12_Same.loop1, kid_chk xs i hil, kid_chk ys i hil2, e1, bcond_t, kid_at xs i hil, kid_at ys i hil2, hx, hy]
    show chk true (chk true (chk true (chk true (chk true (chk true (chk true (chk true (chk true (chk true (chk true (chk true (chk true (chk true (chk true (chk true (cB (callW (En n) k) 26 [nodeV x, nodeV y] sg (pan K) _)))))))))))))))) = _
    simp only [chk_t]
    rw [cB_of _ (fun K => ih x hmx y hmy K), ew, sameL]
    cases sameT false x y with
    | false => rfl
    | true =>
      rw [Bool.not_true, bcond_f, Bool.true_and]
      exact rsame_loop hL xs ys hab ih hn r s (i + 1) m .skip _ _ hr' hs' (by omega) (by simp at hm; omega)
theorem rsame_spec (hL : n ≤ 4611686018427387904) : ∀ (d k : Nat) (a b : Tree) (K : Res → Out), Hgt d a → d ≤ k → Wid n a → callW (En n) k 26 [nodeV a, nodeV b] sg K = K ⟨false, .bool (sameT false a b)⟩ sg
  | 0, k, a, b, K, h, hk, hw => by cases h
  | d + 1, k, a, b, K, h, hk, hw => by
    rw [callW_at (by omega) rfl, sameT_eq]
    show B n _ 26 sg [.agg [.int .i64 a.kind, .str a.text, .int .i64 a.at_, .int .i64 a.end_, .list false (kidRows a.kids)], .agg [.int .i64 b.kind, .str b.text, .int .i64 b.at_, .int .i64 b.end_, .list false (kidRows b.kids)]] K = _
    rw [R12_Same.eq, kidRows_len, kidRows_len]
    have el : ((a.kids.length : Int) != (b.kids.length : Int)) = !(a.kids.length == b.kids.length) := by
      by_cases h : a.kids.length = b.kids.length
      · rw [h]; simp
      · have h1 : ((a.kids.length : Int) == (b.kids.length : Int)) = false := by simp only [beq_eq_false_iff_ne]; omega
        have h2 : (a.kids.length == b.kids.length) = false := by simp only [beq_eq_false_iff_ne]; exact h
        simp only [bne, h1, h2]
    rw [el]
    show bcond (!(a.kind == b.kind)) _ _ = _
    cases (a.kind == b.kind) with
    | false => rfl
    | true =>
      rw [Bool.not_true, bcond_f]
      cases (a.text.toList == b.text.toList) with
      | false => rfl
      | true =>
        rw [Bool.not_true, bcond_f]
        cases hlen : (a.kids.length == b.kids.length) with
        | false => rfl
        | true =>
          have hlen : a.kids.length = b.kids.length := by simpa using hlen
          rw [Bool.not_true, bcond_f, C_eq, R12_Same.cut0]
          exact (rsame_loop hL a.kids b.kids hlen (fun x hx y hy K => rsame_spec hL d (k - 1) x y K (h.kid hx) (by omega) (hw.kid hx)) hw.len a.kids b.kids 0 n .skip _ _ rfl rfl (by omega) hw.len).trans (by simp)
theorem psame_loop {k : Nat} {K : Res → Out} {i0 i2 i3 i5 i7 i8 i10 i12 i13 i15 i17 i18 : Int} {t1 t6 t11 t16 : ByteArray} {r4 r9 : List (List PV)} {b21 : Bool} (hL : n ≤ 4611686018427387904) (xs ys : List Tree) (hab : xs.length = ys.length)
    (ih : ∀ x ∈ xs, ∀ y ∈ ys, ∀ K : Res → Out, callW (En n) k 25 [nodeV x, nodeV y] sg K = K ⟨false, .bool (sameT false x y)⟩ sg) (hn : xs.length < n) :
    ∀ (r s : List Tree) (i m : Nat) (p20 p22 p23 : PV), xs.drop i = r → ys.drop i = s → i ≤ xs.length → r.length < m →
    L n (callW (En n) k) 25 [1, 1, 0, 1, 0, 0] (syntax_Same.S1 i0 t1 i2 i3 r4 i5 t6 i7 i8 r9 i10 t11 i12 i13 (kidRows xs) i15 t16 i17 i18 (kidRows ys) p20 b21 (xs.length : Int) (i : Int) p22 p23) sg (syntax_Same.K1 (callW (En n) k) n K) m = K ⟨false, .bool (sameL false r s)⟩ sg
  | r, s, i, 0, _, _, _, _, _, _, hm => by omega
  | [], s, i, m + 1, p20, p22, p23, hr, hs, hi, hm => by
    have : i = xs.length := by have := List.drop_eq_nil_iff.1 hr; omega
    subst this
    have e0 : decide ((xs.length : Int) < (xs.length : Int)) = false := decide_eq_false (by omega)
    rw [L_succ, syntax_Same.loop1, e0, bcond_f]
    simp [sameL]
  | x :: r, [], i, m + 1, p20, p22, p23, hr, hs, hi, hm => by
    obtain ⟨hil, _, _⟩ := drop_some hr
    have := List.drop_eq_nil_iff.1 hs
    omega
  | x :: r, y :: s, i, m + 1, p20, p22, p23, hr, hs, hi, hm => by
    obtain ⟨hil, hx, hr'⟩ := drop_some hr
    obtain ⟨hil2, hy, hs'⟩ := drop_some hs
    have hmx : x ∈ xs := List.mem_of_mem_drop (by rw [hr]; exact List.mem_cons_self)
    have hmy : y ∈ ys := List.mem_of_mem_drop (by rw [hs]; exact List.mem_cons_self)
    have ew : IntKind.i64.wrap ((i : Int) + 1) = ((i + 1 : Nat) : Int) := wrap_id _ (by omega) (by omega)
    have e1 : decide ((i : Int) < (xs.length : Int)) = true := decide_eq_true (by omega)
    rw [L_succ, syntax_Same.loop1, kid_chk xs i hil, kid_chk ys i hil2, e1, bcond_t, kid_at xs i hil, kid_at ys i hil2, hx, hy]
    show chk true (chk true (chk true (chk true (chk true (chk true (chk true (chk true (chk true (chk true (chk true (chk true (chk true (chk true (chk true (chk true (cB (callW (En n) k) 25 [nodeV x, nodeV y] sg (pan K) _)))))))))))))))) = _
    simp only [chk_t]
    rw [cB_of _ (fun K => ih x hmx y hmy K), ew, sameL]
    cases sameT false x y with
    | false => rfl
    | true =>
      rw [Bool.not_true, bcond_f, Bool.true_and]
      exact psame_loop hL xs ys hab ih hn r s (i + 1) m _ _ _ hr' hs' (by omega) (by simp at hm; omega)
theorem psame_spec (hL : n ≤ 4611686018427387904) : ∀ (d k : Nat) (a b : Tree) (K : Res → Out), Hgt d a → d ≤ k → Wid n a → callW (En n) k 25 [nodeV a, nodeV b] sg K = K ⟨false, .bool (sameT false a b)⟩ sg
  | 0, k, a, b, K, h, hk, hw => by cases h
  | d + 1, k, a, b, K, h, hk, hw => by
    rw [callW_at (by omega) rfl, sameT_eq]
    show B n _ 25 sg [.agg [.int .i64 a.kind, .str a.text, .int .i64 a.at_, .int .i64 a.end_, .list false (kidRows a.kids)], .agg [.int .i64 b.kind, .str b.text, .int .i64 b.at_, .int .i64 b.end_, .list false (kidRows b.kids)]] K = _
    rw [syntax_Same.eq, kidRows_len, kidRows_len]
    have el : ((a.kids.length : Int) != (b.kids.length : Int)) = !(a.kids.length == b.kids.length) := by
      by_cases h : a.kids.length = b.kids.length
      · rw [h]; simp
      · have h1 : ((a.kids.length : Int) == (b.kids.length : Int)) = false := by simp only [beq_eq_false_iff_ne]; omega
        have h2 : (a.kids.length == b.kids.length) = false := by simp only [beq_eq_false_iff_ne]; exact h
        simp only [bne, h1, h2]
    rw [el]
    show bcond (!(a.kind == b.kind)) _ _ = _
    cases (a.kind == b.kind) with
    | false => rfl
    | true =>
      rw [Bool.not_true, bcond_f]
      cases (a.text.toList == b.text.toList) with
      | false => rfl
      | true =>
        rw [Bool.not_true, bcond_f]
        cases hlen : (a.kids.length == b.kids.length) with
        | false => rfl
        | true =>
          have hlen : a.kids.length = b.kids.length := by simpa using hlen
          rw [Bool.not_true, bcond_f, C_eq, syntax_Same.cut0, kidRows_len]
          exact (psame_loop hL a.kids b.kids hlen (fun x hx y hy K => psame_spec hL d (k - 1) x y K (h.kid hx) (by omega) (hw.kid hx)) hw.len a.kids b.kids 0 n _ _ _ rfl rfl (by omega) hw.len).trans (by simp)
end
end Go.Ev
set_option maxRecDepth 4000
namespace Go.Ev
open PV
def isWordI (c : Int) : Bool := isLetterI c || isDigitI c
theorem word_if (c : Int) (A : PV → Prop) (F : Prop) : bcond (decide (c ≥ 97)) (bcond (decide (c ≤ 122)) (A (.bool false)) (bcond (decide (c ≥ 65)) (bcond (decide (c ≤ 90)) (A (.bool false)) (bcond (decide (c ≥ 48)) (bcond (decide (c ≤ 57)) (A (.bool false)) (bcond (!(c == 95)) F (A (.bool (!(c == 95)))))) (bcond (!(c == 95)) F (A (.bool (!(c == 95)))))))
      (bcond (decide (c ≥ 48)) (bcond (decide (c ≤ 57)) (A (.bool false)) (bcond (!(c == 95)) F (A (.bool (!(c == 95)))))) (bcond (!(c == 95)) F (A (.bool (!(c == 95))))))))
    (bcond (decide (c ≥ 65)) (bcond (decide (c ≤ 90)) (A (.bool false)) (bcond (decide (c ≥ 48)) (bcond (decide (c ≤ 57)) (A (.bool false)) (bcond (!(c == 95)) F (A (.bool (!(c == 95)))))) (bcond (!(c == 95)) F (A (.bool (!(c == 95)))))))
      (bcond (decide (c ≥ 48)) (bcond (decide (c ≤ 57)) (A (.bool false)) (bcond (!(c == 95)) F (A (.bool (!(c == 95)))))) (bcond (!(c == 95)) F (A (.bool (!(c == 95))))))) = bcond (isWordI c) (A (.bool false)) F := by
  have e : isWordI c = (((decide (c ≥ 97) && decide (c ≤ 122)) || (decide (c ≥ 65) && decide (c ≤ 90)) || c == 95) || (decide (c ≥ 48) && decide (c ≤ 57))) := by
    unfold isWordI isLetterI isDigitI
    rw [Bool.eq_iff_iff]
  rw [e]
  generalize decide (c ≥ 97) = a
  generalize decide (c ≤ 122) = b
  generalize decide (c ≥ 65) = d
  generalize decide (c ≤ 90) = f
  generalize (c == 95) = g
  generalize decide (c ≥ 48) = h
  generalize decide (c ≤ 57) = i
  cases a <;> cases b <;> cases d <;> cases f <;> cases g <;> cases h <;> cases i <;> rfl
section
variable {n : Nat} {sg : List (List PV)} {K : Res → Out}
theorem rname_loop {k : Nat} {s : ByteArray} (hn : s.size < n) (hL : n ≤ 4611686018427387904) : ∀ (l : List UInt8) (p m : Nat) (p2 : PV) (b3 : Bool) (p4 p5 : PV), s.data.toList.drop p = l → p ≤ s.size → l.length < m →
    L n (callW (En n) k) 49 [1, 1, 0, 1, 0, 0] (R12_nameOk.S1 s (p : Int) p2 b3 p4 p5) sg (R12_nameOk.K1 (callW (En n) k) n K) m = K ⟨false, .bool (l.all isWordB)⟩ sg
  | l, p, 0, p2, b3, p4, p5, hl, hp, hm => by omega
  | [], p, m + 1, p2, b3, p4, p5, hl, hp, hm => by
    obtain rfl := at_end hl hp
    rw [L_succ, R12_nameOk.loop1, decide_eq_false (show ¬ ((s.size : Int) < (s.size : Int)) by omega), bcond_f]
    rfl
  | c :: t, p, m + 1, p2, b3, p4, p5, hl, hp, hm => by
    obtain ⟨h1, h2, h3⟩ := at_cons hl
    have ew : IntKind.i64.wrap ((p : Int) + 1) = ((p + 1 : Nat) : Int) := wrap_id _ (by omega) (by omega)
    have ht : t.length < m := by simp at hm; omega
    rw [L_succ, R12_nameOk.loop1, h2, decide_eq_true (show ((p : Int) < (s.size : Int)) by omega), decide_eq_true (show (0 : Int) ≤ (p : Int) by omega), bcond_t, Bool.and_self, chk_t, ew]
    refine (word_if (c.toNat : Int) (fun x => L n (callW (En n) k) 49 [1, 1, 0, 1, 0, 0] (R12_nameOk.S1 s ((p + 1 : Nat) : Int) (.int .u8 (c.toNat : Int)) b3 (.bool true) x) sg (R12_nameOk.K1 (callW (En n) k) n K) m) (K ⟨false, .bool false⟩ sg)).trans ?_
    show bcond (isWordI c.toNat) (L n (callW (En n) k) 49 [1, 1, 0, 1, 0, 0] (R12_nameOk.S1 s ((p + 1 : Nat) : Int) (.int .u8 (c.toNat : Int)) b3 (.bool true) (.bool false)) sg (R12_nameOk.K1 (callW (En n) k) n K) m) _ = _
    rw [List.all_cons, show isWordB c = isWordI c.toNat from rfl]
    cases isWordI c.toNat with
    | false => rfl
    | true => rw [bcond_t, rname_loop hn hL t (p + 1) m _ _ _ _ h3 (by omega) ht, Bool.true_and]
theorem rname_spec {k : Nat} {s : ByteArray} (hk : 2 ≤ k) (hn : s.size < n) (h30 : 30 ≤ n) (hL : n ≤ 4611686018427387904) : callW (En n) k 49 [.str s] sg K = K ⟨false, .bool (plainB s)⟩ sg := by
  rw [callW_at (by omega) rfl, R12_nameOk.eq, plainB_eq]
  have go : ∀ b, C n (callW (En n) (k - 1)) 49 [1, 1] (R12_nameOk.S0 s b) sg (R12_nameOk.K0 (callW (En n) (k - 1)) n K) = K ⟨false, .bool (s.data.toList.all isWordB)⟩ sg := fun b => by
    rw [C_eq, R12_nameOk.cut0]
    exact rname_loop hn hL s.data.toList 0 n _ _ _ _ rfl (by omega) (by rw [len_data]; omega)
  have e24 : decide ((s.size : Int) > 24) = !decide (s.size ≤ 24) := by rw [Bool.eq_iff_iff]; simp; omega
  rw [e24]
  cases hl : s.data.toList with
  | nil =>
    have h0 : s.size = 0 := by rw [← len_data, hl]; rfl
    rw [h0]
    rfl
  | cons c t =>
    have hz : s.size = t.length + 1 := by rw [← len_data, hl]; rfl
    have hb : byteAt s 0 = (c.toNat : Int) := (at_cons (p := 0) hl).2.1
    rw [decide_eq_false (show ¬ ((s.size : Int) < 1) by omega), bcond_f, decide_eq_true (show (0 : Int) < (s.size : Int) by omega), hb]
    show _ = K ⟨false, .bool ((c :: t).all isWordB && (isLetterI c.toNat && (true && (decide (s.size ≤ 24) && !isKwL (c :: t)))))⟩ sg
    cases decide (s.size ≤ 24) with
    | false =>
      cases (c :: t).all isWordB <;> cases isLetterI c.toNat <;> rfl
    | true =>
      rw [Bool.not_true, bcond_f, cB_of _ (fun K => rkw_spec (by omega) h30 s), hl]
      cases isKwL (c :: t) with
      | true => cases (c :: t).all isWordB <;> cases isLetterI c.toNat <;> rfl
      | false =>
        rw [bcond_f, chk_t, chk_t, go, go, hl, List.all_cons]
        have ed : isWordB c = (isLetterI c.toNat || (decide ((c.toNat : Int) ≥ 48) && decide ((c.toNat : Int) ≤ 57))) := by
          unfold isWordB isDigitI
          rw [Bool.eq_iff_iff]
        have dn : (decide ((c.toNat : Int) ≥ 48) && decide ((c.toNat : Int) ≤ 57)) = true → isLetterI c.toNat = false := by
          unfold isLetterI
          intro h
          simp only [Bool.and_eq_true, decide_eq_true_eq] at h
          simp only [Bool.or_eq_false_iff, Bool.and_eq_false_iff, decide_eq_false_iff_not, beq_eq_false_iff_ne]
          omega
        rw [ed]
        revert dn
        generalize decide ((c.toNat : Int) ≥ 48) = a
        generalize decide ((c.toNat : Int) ≤ 57) = b
        generalize isLetterI c.toNat = d
        cases a <;> cases b <;> cases d <;> intro dn <;> first | rfl | (exact absurd (dn rfl) (by decide)) | (cases t.all isWordB <;> rfl)
theorem rdigits_loop {k : Nat} {s : ByteArray} (hn : s.size < n) (hL : n ≤ 4611686018427387904) : ∀ (l : List UInt8) (p m : Nat) (b2 : Bool) (p3 p4 : PV), s.data.toList.drop p = l → p ≤ s.size → l.length < m →
    L n (callW (En n) k) 167 [1, 1, 0, 1, 0, 0] (R12_intOk.S1 s (p : Int) b2 p3 p4) sg (R12_intOk.K1 (callW (En n) k) n K) m = K ⟨false, .bool (l.all isDigitB)⟩ sg
  | l, p, 0, b2, p3, p4, hl, hp, hm => by omega
  | [], p, m + 1, b2, p3, p4, hl, hp, hm => by
    obtain rfl := at_end hl hp
    rw [L_succ, R12_intOk.loop1, decide_eq_false (show ¬ ((s.size : Int) < (s.size : Int)) by omega), bcond_f]
    rfl
  | c :: t, p, m + 1, b2, p3, p4, hl, hp, hm => by
    obtain ⟨h1, h2, h3⟩ := at_cons hl
    have ew : IntKind.i64.wrap ((p : Int) + 1) = ((p + 1 : Nat) : Int) := wrap_id _ (by omega) (by omega)
    rw [L_succ, R12_intOk.loop1, h2, decide_eq_true (show ((p : Int) < (s.size : Int)) by omega), decide_eq_true (show (0 : Int) ≤ (p : Int) by omega), bcond_t, Bool.and_self, chk_t, chk_t, ew, List.all_cons]
    have ed : isDigitB c = (!decide ((c.toNat : Int) < 48) && !decide ((c.toNat : Int) > 57)) := by
      unfold isDigitB isDigitI
      rw [Bool.eq_iff_iff]; simp
    rw [ed]
    cases decide ((c.toNat : Int) < 48) with
    | true => rfl
    | false =>
      rw [bcond_f]
      cases decide ((c.toNat : Int) > 57) with
      | true => rfl
      | false =>
        rw [bcond_f, rdigits_loop hn hL t (p + 1) m _ _ _ h3 (by omega) (by simp at hm; omega)]
        rfl
theorem rdigits_spec {k : Nat} {s : ByteArray} (hk : 1 ≤ k) (hn : s.size < n) (hL : n ≤ 4611686018427387904) : callW (En n) k 167 [.str s] sg K = K ⟨false, .bool (digitsB s)⟩ sg := by
  rw [callW_at (by omega) rfl, R12_intOk.eq]
  have go : ∀ b, C n (callW (En n) (k - 1)) 167 [1, 1] (R12_intOk.S0 s b) sg (R12_intOk.K0 (callW (En n) (k - 1)) n K) = K ⟨false, .bool (s.data.toList.all isDigitB)⟩ sg := fun b => by
    rw [C_eq, R12_intOk.cut0]
    exact rdigits_loop hn hL s.data.toList 0 n _ _ _ rfl (by omega) (by rw [len_data]; omega)
  rw [go, go]
  unfold digitsB
  have e9 : decide ((s.size : Int) > 9) = !decide (s.size ≤ 9) := by rw [Bool.eq_iff_iff]; simp; omega
  rw [e9]
  cases hl : s.data.toList with
  | nil =>
    have h0 : s.size = 0 := by rw [← len_data, hl]; rfl
    rw [h0]
    rfl
  | cons c t =>
    have hz : s.size = t.length + 1 := by rw [← len_data, hl]; rfl
    have hb : byteAt s 0 = (c.toNat : Int) := (at_cons (p := 0) hl).2.1
    rw [decide_eq_false (show ¬ ((s.size : Int) < 1) by omega), bcond_f, decide_eq_true (show (0 : Int) < (s.size : Int) by omega), chk_t, hb, decide_eq_true (show 0 < s.size by omega)]
    have h48 : ((c :: t).head? == some 48) = ((c.toNat : Int) == 48) := by
      have hc48 : (c = 48) ↔ ((c.toNat : Int) = 48) := by
        constructor
        · intro h; subst h; rfl
        · intro h; exact UInt8.toNat_inj.1 (by show c.toNat = 48; omega)
      rw [Bool.eq_iff_iff]
      simp only [List.head?_cons, beq_iff_eq, Option.some.injEq]
      exact hc48
    have e1 : decide ((s.size : Int) > 1) = !(s.size == 1) := by rw [Bool.eq_iff_iff]; simp; omega
    rw [h48, e1]
    generalize (c :: t).all isDigitB = a
    generalize decide (s.size ≤ 9) = b
    generalize (s.size == 1) = d
    generalize ((c.toNat : Int) == 48) = e
    cases a <;> cases b <;> cases d <;> cases e <;> rfl
theorem rtext_loop {k : Nat} {s : ByteArray} (hn : s.size < n) (hL : n ≤ 4611686018427387904) : ∀ (l : List UInt8) (p m : Nat) (b2 : Bool) (p3 p4 : PV), s.data.toList.drop p = l → p ≤ s.size → l.length < m →
    L n (callW (En n) k) 168 [1, 1, 0, 1, 0, 0] (R12_textOk.S0 s (p : Int) b2 p3 p4) sg (R12_textOk.K0 (callW (En n) k) n K) m = K ⟨false, .bool (l.all inText)⟩ sg
  | l, p, 0, b2, p3, p4, hl, hp, hm => by omega
  | [], p, m + 1, b2, p3, p4, hl, hp, hm => by
    obtain rfl := at_end hl hp
    rw [L_succ, R12_textOk.loop0, decide_eq_false (show ¬ ((s.size : Int) < (s.size : Int)) by omega), bcond_f]
    rfl
  | c :: t, p, m + 1, b2, p3, p4, hl, hp, hm => by
    obtain ⟨h1, h2, h3⟩ := at_cons hl
    have ew : IntKind.i64.wrap ((p : Int) + 1) = ((p + 1 : Nat) : Int) := wrap_id _ (by omega) (by omega)
    rw [L_succ, R12_textOk.loop0, h2, decide_eq_true (show ((p : Int) < (s.size : Int)) by omega), decide_eq_true (show (0 : Int) ≤ (p : Int) by omega), bcond_t, Bool.and_self, chk_t, chk_t, chk_t, ew, List.all_cons]
    have ed : inText c = (!((c.toNat : Int) != 10) || (!decide ((c.toNat : Int) < 32) && !decide ((c.toNat : Int) > 126))) := by
      unfold inText
      rw [Bool.eq_iff_iff]; simp; omega
    rw [ed, rtext_loop hn hL t (p + 1) m _ _ _ h3 (by omega) (by simp at hm; omega), rtext_loop hn hL t (p + 1) m _ _ _ h3 (by omega) (by simp at hm; omega)]
    cases ((c.toNat : Int) != 10) with
    | false => rfl
    | true =>
      rw [bcond_t]
      cases decide ((c.toNat : Int) < 32) with
      | true => rfl
      | false =>
        rw [bcond_f]
        cases decide ((c.toNat : Int) > 126) with
        | true => rfl
        | false => rfl
theorem rtext_spec {k : Nat} {s : ByteArray} (hk : 1 ≤ k) (hn : s.size < n) (hL : n ≤ 4611686018427387904) : callW (En n) k 168 [.str s] sg K = K ⟨false, .bool (textB s)⟩ sg := by
  have hl : L n (callW (En n) (k - 1)) 168 [1, 1, 0, 1, 0, 0] (R12_textOk.S0 s 0 (decide ((s.size : Int) > 60)) .skip .skip) sg (R12_textOk.K0 (callW (En n) (k - 1)) n K) n = K ⟨false, .bool (s.data.toList.all inText)⟩ sg :=
    rtext_loop hn hL s.data.toList 0 n _ _ _ rfl (by omega) (by rw [len_data]; omega)
  rw [callW_at (by omega) rfl, R12_textOk.eq, hl]
  unfold textB
  have e : decide ((s.size : Int) > 60) = !decide (s.size ≤ 60) := by rw [Bool.eq_iff_iff]; simp; omega
  rw [e]
  generalize s.data.toList.all inText = a
  generalize decide (s.size ≤ 60) = b
  cases a <;> cases b <;> rfl
theorem rconst_spec {k : Nat} {s : ByteArray} (hk : 1 ≤ k) : callW (En n) k 161 [.str s] sg K = K ⟨false, .bool (constB s)⟩ sg := by
  rw [callW_at (by omega) rfl, R12_constant.eq, or_if1, or_if1, or_if1]
  unfold constB
  simp only [List.any_cons, List.any_nil, Bool.or_false]
  rfl
theorem tw_at {a : List UInt8} {c : UInt8} {t : List UInt8} (ha : a.any isDotB = false) (hc : isDotB c = true) :
    (a ++ c :: t).any isDotB = true ∧ (a ++ c :: t).takeWhile (fun c => !isDotB c) = a ∧ (a ++ c :: t).dropWhile (fun c => !isDotB c) = c :: t := by
  induction a with
  | nil => simp [hc]
  | cons x a ih =>
    rw [List.any_cons, Bool.or_eq_false_iff] at ha
    obtain ⟨i1, i2, i3⟩ := ih ha.2
    refine ⟨by rw [List.cons_append, List.any_cons, i1, Bool.or_true], ?_, ?_⟩
    · rw [List.cons_append, List.takeWhile_cons, ha.1, i2]; rfl
    · rw [List.cons_append, List.dropWhile_cons, ha.1, i3]; rfl
theorem rtype_loop {k : Nat} {s : ByteArray} (hk : 2 ≤ k) (hn : s.size < n) (h30 : 30 ≤ n) (hL : n ≤ 4611686018427387904) : ∀ (l : List UInt8) (p m : Nat) (p2 p3 : PV), s.data.toList.drop p = l → p ≤ s.size → l.length < m → (s.data.toList.take p).any isDotB = false →
    L n (callW (En n) k) 133 [1, 0, 1, 0, 0] (R12_typeOk.S0 s (p : Int) p2 p3) sg (R12_typeOk.K0 (callW (En n) k) n K) m = K ⟨false, .bool (typeB s)⟩ sg
  | l, p, 0, p2, p3, hl, hp, hm, _ => by omega
  | [], p, m + 1, p2, p3, hl, hp, hm, hd => by
    obtain rfl := at_end hl hp
    rw [List.take_of_length_le (by rw [len_data]; omega)] at hd
    rw [L_succ, R12_typeOk.loop0, decide_eq_false (show ¬ ((s.size : Int) < (s.size : Int)) by omega), bcond_f, cB_of _ (fun K => rname_spec hk hn h30 hL)]
    unfold typeB typeL
    rw [hd, tw_all _ hd, tx_data]
    cases plainB s <;> rfl
  | c :: t, p, m + 1, p2, p3, hl, hp, hm, hd => by
    obtain ⟨h1, h2, h3⟩ := at_cons hl
    have ew : IntKind.i64.wrap ((p : Int) + 1) = ((p + 1 : Nat) : Int) := wrap_id _ (by omega) (by omega)
    rw [L_succ, R12_typeOk.loop0, h2, decide_eq_true (show ((p : Int) < (s.size : Int)) by omega), decide_eq_true (show (0 : Int) ≤ (p : Int) by omega), decide_eq_true (show ((p : Int) ≤ (s.size : Int)) by omega), bcond_t, Bool.and_self, chk_t, chk_t, ew]
    have hfull : s.data.toList = s.data.toList.take p ++ c :: t := by rw [← hl, List.take_append_drop]
    have hdc : ((c.toNat : Int) == 46) = isDotB c := by
      unfold isDotB
      rw [Bool.eq_iff_iff, beq_iff_eq, beq_iff_eq]
      constructor
      · intro h; exact UInt8.toNat_inj.1 (by show c.toNat = 46; omega)
      · intro h; subst h; rfl
    rw [hdc]
    cases hc : isDotB c with
    | true =>
      obtain ⟨e1, e2, e3⟩ := tw_at (t := t) hd hc
      rw [← hfull] at e1 e2 e3
      have e4 : s.extract (p + 1) s.size = tx t := by
        refine ba_ext ?_
        rw [extE_list, tx_list, h3]
      have lt : (s.data.toList.take p).length ≤ s.size := by rw [← len_data]; exact (List.take_sublist _ _).length_le
      have lt2 : t.length ≤ s.size := by rw [← h3, ← len_data]; exact (List.drop_sublist _ _).length_le
      rw [bcond_t, decide_eq_true (show (0 : Int) ≤ ((p + 1 : Nat) : Int) by omega), decide_eq_true (show ((p + 1 : Nat) : Int) ≤ (s.size : Int) by omega), decide_eq_true (show (s.size : Int) ≤ (s.size : Int) by omega), Bool.and_self, Bool.and_self, Int.toNat_natCast, ext0_tx,
        cB_of _ (fun K => rname_spec (s := tx (s.data.toList.take p)) hk (by rw [tx_size]; omega) h30 hL)]
      unfold typeB typeL
      rw [e1, e2, e3]
      show _ = K ⟨false, .bool (_ && (false || plainB (tx t)))⟩ sg
      cases plainB (tx (s.data.toList.take p)) with
      | false => rfl
      | true =>
        rw [bcond_t, chk_t, Int.toNat_natCast, Int.toNat_natCast, e4, cB_of _ (fun K => rname_spec (s := tx t) hk (by rw [tx_size]; omega) h30 hL)]
        rfl
    | false =>
      rw [bcond_f]
      refine rtype_loop hk hn h30 hL t (p + 1) m _ _ h3 (by omega) (by simp at hm; omega) ?_
      have : s.data.toList.take (p + 1) = s.data.toList.take p ++ [c] := by
        have hg : s.data.toList[p]? = some c := by rw [← List.head?_drop, hl]; rfl
        rw [List.take_add_one, hg]; rfl
      rw [this, List.any_append, hd]
      simp [hc]
theorem rtype_spec {k : Nat} {s : ByteArray} (hk : 3 ≤ k) (hn : s.size < n) (h30 : 30 ≤ n) (hL : n ≤ 4611686018427387904) : callW (En n) k 133 [.str s] sg K = K ⟨false, .bool (typeB s)⟩ sg := by
  rw [callW_at (by omega) rfl, R12_typeOk.eq]
  exact rtype_loop (by omega) hn h30 hL s.data.toList 0 n _ _ rfl (by omega) (by rw [len_data]; omega) rfl
theorem rop_inner {k m0 : Nat} {s : ByteArray} {i1 : Int} {b4 : Bool} {R : Prop} (ls : List ByteArray) (hls : ls.length ≤ 100) (hR : ∀ p2 p3 p4 p5 p6, L n (callW (En n) k) 169 [1, 0, 1, 0, 0] (R12_opOk.S0 s (IntKind.i64.wrap (i1 + 1)) p2 p3 p4 p5 p6) sg (R12_opOk.K0 (callW (En n) k) n K) m0 = R) :
    ∀ (r : List ByteArray) (i m : Nat) (p5 p6 : PV), ls.drop i = r → i ≤ ls.length → r.length < m →
    L n (callW (En n) k) 169 [1, 0, 1, 0, 0, 1, 0, 0, 1, 1, 0, 0] (R12_opOk.S2 s i1 (.list true (strRows ls)) (i : Int) b4 p5 p6) sg (R12_opOk.K2 (callW (En n) k) n m0 K) m = bcond (r.any (eqB s)) (K ⟨false, .bool true⟩ sg) R
  | r, i, 0, p5, p6, _, _, hm => by omega
  | [], i, m + 1, p5, p6, hr, hi, hm => by
    have : i = ls.length := by have := List.drop_eq_nil_iff.1 hr; omega
    subst this
    have e2 : (((PV.list true (strRows ls)).strip).strip).rows = strRows ls := rfl
    rw [L_succ, R12_opOk.loop2, e2, strRows_len, decide_eq_false (show ¬ ((ls.length : Int) < (ls.length : Int)) by omega), bcond_f]
    show chk true _ = _
    rw [chk_t, hR]
    rfl
  | o :: r, i, m + 1, p5, p6, hr, hi, hm => by
    have hil : i < ls.length := by
      rcases Nat.lt_or_ge i ls.length with h | h
      · exact h
      · rw [List.drop_eq_nil_iff.2 h] at hr; cases hr
    have ho : ls.getD i ⟨#[]⟩ = o := by
      have : ls[i]? = some o := by rw [← List.head?_drop, hr]; rfl
      rw [List.getD_eq_getElem?_getD, this]; rfl
    have hr' : ls.drop (i + 1) = r := by rw [← List.drop_drop, hr]; rfl
    have e1 : decide ((i : Int) < (ls.length : Int)) = true := decide_eq_true (by omega)
    have e2 : (((PV.list true (strRows ls)).strip).strip).rows = strRows ls := rfl
    have e4 : decide ((0 : Int) ≤ (i : Int)) = true := decide_eq_true (by omega)
    have e5 : IntKind.i64.wrap ((i : Int) + 1) = ((i + 1 : Nat) : Int) := wrap_id _ (by omega) (by omega)
    rw [L_succ, R12_opOk.loop2, e2, strRows_len, e1, strRows_ok, e4, strRows_at ls i hil, ho, e5]
    show chk true (bcond true _ _) = _
    rw [chk_t, bcond_t]
    show chk true (chk true (chk true (bcond (o.toList == s.toList) _ _))) = _
    rw [chk_t, chk_t, chk_t, List.any_cons, show (o.toList == s.toList) = eqB s o from Bool.beq_comm ..]
    cases eqB s o with
    | true => rfl
    | false =>
      rw [bcond_f, Bool.false_or]
      exact rop_inner ls hls hR r (i + 1) m _ _ hr' (by omega) (by simp at hm; omega)
theorem rop_level {k m0 : Nat} {s : ByteArray} {R : Prop} (lv : Nat) (hlv : lv < 6) (hk : 1 ≤ k) (hn : 30 ≤ n) (hR : ∀ p2 p3 p4 p5 p6, L n (callW (En n) k) 169 [1, 0, 1, 0, 0] (R12_opOk.S0 s ((lv + 1 : Nat) : Int) p2 p3 p4 p5 p6) sg (R12_opOk.K0 (callW (En n) k) n K) m0 = R) (p2 p3 p4 p5 p6 : PV) :
    L n (callW (En n) k) 169 [1, 0, 1, 0, 0] (R12_opOk.S0 s (lv : Int) p2 p3 p4 p5 p6) sg (R12_opOk.K0 (callW (En n) k) n K) (m0 + 1) = bcond ((levels.getD lv []).any (eqB s)) (K ⟨false, .bool true⟩ sg) R := by
  have ew : IntKind.i64.wrap ((lv : Int) + 1) = ((lv + 1 : Nat) : Int) := wrap_id _ (by omega) (by omega)
  have hl : (levels.getD lv []).length ≤ 3 := by
    have : lv = 0 ∨ lv = 1 ∨ lv = 2 ∨ lv = 3 ∨ lv = 4 ∨ lv = 5 := by omega
    rcases this with rfl | rfl | rfl | rfl | rfl | rfl <;> decide
  rw [L_succ, R12_opOk.loop0, decide_eq_true (show (lv : Int) < 6 by omega), bcond_t, cP, rops _ _ hk lv hlv]
  show C n _ 169 _ (R12_opOk.S1 s (lv : Int) (.list true (strRows (levels.getD lv []))) p3 true p5 p6) sg _ = _
  rw [C_eq, R12_opOk.cut1]
  exact rop_inner _ (by omega) (fun p2 p3 p4 p5 p6 => by rw [ew]; exact hR p2 p3 p4 p5 p6) _ 0 n _ _ rfl (by omega) (by omega)
theorem roper_spec {k : Nat} {s : ByteArray} (hk : 2 ≤ k) (hn : 30 ≤ n) : callW (En n) k 169 [.str s] sg K = K ⟨false, .bool (operB s)⟩ sg := by
  rw [callW_at (by omega) rfl, R12_opOk.eq]
  obtain ⟨m, rfl⟩ : ∃ m, n = m + 7 := ⟨n - 7, by omega⟩
  have l6 : ∀ p2 p3 p4 p5 p6, L (m + 7) (callW (En (m + 7)) (k - 1)) 169 [1, 0, 1, 0, 0] (R12_opOk.S0 s ((5 + 1 : Nat) : Int) p2 p3 p4 p5 p6) sg (R12_opOk.K0 (callW (En (m + 7)) (k - 1)) (m + 7) K) (m + 1) = K ⟨false, .bool false⟩ sg := fun p2 p3 p4 p5 p6 => by
    rw [L_succ, R12_opOk.loop0]
    rfl
  have l5 := rop_level (s := s) (sg := sg) (K := K) (k := k - 1) (n := m + 7) 5 (by omega) (by omega) hn l6
  have l4 := rop_level (s := s) (sg := sg) (K := K) (k := k - 1) (n := m + 7) 4 (by omega) (by omega) hn l5
  have l3 := rop_level (s := s) (sg := sg) (K := K) (k := k - 1) (n := m + 7) 3 (by omega) (by omega) hn l4
  have l2 := rop_level (s := s) (sg := sg) (K := K) (k := k - 1) (n := m + 7) 2 (by omega) (by omega) hn l3
  have l1 := rop_level (s := s) (sg := sg) (K := K) (k := k - 1) (n := m + 7) 1 (by omega) (by omega) hn l2
  have l0 := rop_level (s := s) (sg := sg) (K := K) (k := k - 1) (n := m + 7) 0 (by omega) (by omega) hn l1
  refine (l0 _ _ _ _ _).trans ?_
  rw [or_if1, or_if1, or_if1, or_if1, or_if1, or_if1]
  have e : operB s = (levels.getD 0 [] ++ (levels.getD 1 [] ++ (levels.getD 2 [] ++ (levels.getD 3 [] ++ (levels.getD 4 [] ++ levels.getD 5 []))))).any (eqB s) := rfl
  rw [e]
  simp only [List.any_append, Bool.or_false]
end
end Go.Ev
set_option maxRecDepth 4000
namespace Go.Ev
open PV
/-- What the document's numbers mean. -/
def wOf : Nat → W
  | 0 => .ex
  | 1 => .ex
  | 2 => .ty
  | 3 => .ty
  | 4 => .pa
  | 5 => .st
  | 6 => .bl
  | 7 => .de
  | 8 => .me
  | _ => .si
section
variable {n : Nat} {sg : List (List PV)} {K : Res → Out}
def FtS (n d : Nat) : Prop := ∀ (c k : Nat) (t : Tree) (sg : List (List PV)) (K : Res → Out), c ≤ 9 → Hgt d t → Wid n t → Txt n t → 6 * d + 6 ≤ k →
  callW (En n) k 102 [nodeV t, .int .i64 (c : Int), .bool false] sg K = K ⟨false, .bool (fitT (wOf c) t)⟩ sg
theorem reach_loop {k c : Nat} (hL : n ≤ 4611686018427387904) (l : List Tree)
    (ih : ∀ t ∈ l, ∀ K : Res → Out, callW (En n) k 102 [nodeV t, .int .i64 (c : Int), .bool false] sg K = K ⟨false, .bool (fitT (wOf c) t)⟩ sg) (hn : l.length < n) :
    ∀ (r : List Tree) (i m : Nat) (p4 p5 : PV), l.drop i = r → i ≤ l.length → r.length < m →
    L n (callW (En n) k) 50 [1, 0, 1, 0, 0] (R12_each.S0 (kidRows l) (c : Int) false (i : Int) p4 p5) sg (R12_each.K0 (callW (En n) k) n K) m = K ⟨false, .bool (r.all (fitT (wOf c)))⟩ sg
  | r, i, 0, _, _, _, _, hm => by omega
  | [], i, m + 1, p4, p5, hr, hi, hm => by
    have : i = l.length := by have := List.drop_eq_nil_iff.1 hr; omega
    subst this
    rw [L_succ, R12_each.loop0, kidRows_len, decide_eq_false (show ¬ ((l.length : Int) < (l.length : Int)) by omega), bcond_f]
    rfl
  | y :: r, i, m + 1, p4, p5, hr, hi, hm => by
    obtain ⟨hil, hy, hr'⟩ := drop_some hr
    have hmem : y ∈ l := List.mem_of_mem_drop (by rw [hr]; exact List.mem_cons_self)
    have ew : IntKind.i64.wrap ((i : Int) + 1) = ((i + 1 : Nat) : Int) := wrap_id _ (by omega) (by omega)
    rw [L_succ, R12_each.loop0, kid_i l i hil, kidRows_len, decide_eq_true (show (i : Int) < (l.length : Int) by omega), bcond_t, kid_at l i hil, hy, ew]
    show chk true (chk true (chk true (chk true (chk true (chk true (chk true (chk true (cB _ 102 [nodeV y, .int .i64 (c : Int), .bool false] sg (pan K) _)))))))) = _
    rw [kk, cB_of _ (fun K => ih y hmem K), List.all_cons]
    cases fitT (wOf c) y with
    | false => rfl
    | true =>
      rw [Bool.not_true, bcond_f, Bool.true_and]
      exact reach_loop hL l ih hn r (i + 1) m _ _ hr' (by omega) (by simp at hm; omega)
theorem reach_spec {k c : Nat} (hL : n ≤ 4611686018427387904) (l : List Tree) (hk : 1 ≤ k)
    (ih : ∀ t ∈ l, ∀ K : Res → Out, callW (En n) (k - 1) 102 [nodeV t, .int .i64 (c : Int), .bool false] sg K = K ⟨false, .bool (fitT (wOf c) t)⟩ sg) (hn : l.length < n) :
    callW (En n) k 50 [.list false (kidRows l), .int .i64 (c : Int), .bool false] sg K = K ⟨false, .bool (l.all (fitT (wOf c)))⟩ sg := by
  rw [callW_at hk rfl, R12_each.eq]
  exact reach_loop hL l ih hn l 0 n _ _ rfl (by omega) hn
theorem ft_kids {d c k : Nat} (h : FtS n d) (hc : c ≤ 9) (l : List Tree) (h1 : ∀ x ∈ l, Hgt d x) (h2 : ∀ x ∈ l, Wid n x) (h3 : ∀ x ∈ l, Txt n x) (hk : 6 * d + 6 ≤ k) :
    ∀ t ∈ l, ∀ K : Res → Out, callW (En n) k 102 [nodeV t, .int .i64 (c : Int), .bool false] sg K = K ⟨false, .bool (fitT (wOf c) t)⟩ sg :=
  fun t ht K => h c k t sg K hc (h1 t ht) (h2 t ht) (h3 t ht) hk
theorem rall_spec {d c k : Nat} (hs : FtS n d) (hc : c ≤ 9) (hL : n ≤ 4611686018427387904) (t : Tree) (lo : Nat) (hi : Option Nat) (h1 : Hgt (d + 1) t) (h2 : Wid n t) (h3 : Txt n t) (hk : 6 * d + 8 ≤ k) :
    callW (En n) k 170 [nodeV t, .int .i64 (c : Int), .int .i64 lo, .int .i64 (hiI hi), .bool false] sg K = K ⟨false, .bool (fitT (.row (wOf c) lo hi) t)⟩ sg := by
  have he : ∀ K : Res → Out, callW (En n) (k - 1) 50 [.list false (kidRows t.kids), .int .i64 (c : Int), .bool false] sg K = K ⟨false, .bool (t.kids.all (fitT (wOf c)))⟩ sg := fun K =>
    reach_spec hL t.kids (by omega) (ft_kids hs hc t.kids (fun x hx => h1.kid hx) (fun x hx => h2.kid hx) (fun x hx => h3.kid hx) (by omega)) h2.len
  rw [callW_at (by omega) rfl, fit_row]
  show B n _ 170 sg [.agg [.int .i64 t.kind, .str t.text, .int .i64 t.at_, .int .i64 t.end_, .list false (kidRows t.kids)], _, _, _, _] K = _
  rw [R12_all.eq, kidRows_len, show decide ((t.kids.length : Int) ≥ (lo : Int)) = decide (lo ≤ t.kids.length) by rw [Bool.eq_iff_iff, decide_eq_true_iff, decide_eq_true_iff]; omega]
  show bcond (t.kind == 24) (bcond (noB t.text) _ _) _ = _
  cases (t.kind == 24) with
  | false => rfl
  | true =>
    rw [bcond_t]
    cases noB t.text with
    | false => rfl
    | true =>
      rw [bcond_t, cB_of _ he]
      cases t.kids.all (fitT (wOf c)) with
      | false => rw [Bool.and_false]; rfl
      | true =>
        rw [bcond_t, Bool.and_true]
        cases decide (lo ≤ t.kids.length) with
        | false => rfl
        | true =>
          rw [bcond_t]
          cases hi with
          | none => rfl
          | some m =>
            show bcond (decide ((m : Int) < 0)) _ (K ⟨false, .bool (decide ((t.kids.length : Int) ≤ (m : Int)))⟩ sg) = _
            rw [decide_eq_false (show ¬ ((m : Int) < 0) by omega), bcond_f, show decide ((t.kids.length : Int) ≤ (m : Int)) = atMost t.kids.length (some m) by unfold atMost; rw [Bool.eq_iff_iff, decide_eq_true_iff, decide_eq_true_iff]; omega]
            rfl
theorem rex_S (hL : n ≤ 4611686018427387904) (h30 : 30 ≤ n) {d k : Nat} (ih : FtS n d) (t : Tree) (h1 : Hgt (d + 1) t) (h2 : Wid n t) (h3 : Txt n t) (hk : 6 * d + 10 ≤ k) :
    callW (En n) k 132 [nodeV t, .bool false] sg K = K ⟨false, .bool (fitT .ex t)⟩ sg := by
  have he : ∀ K : Res → Out, callW (En n) (k - 1) 50 [.list false (kidRows t.kids), .int .i64 0, .bool false] sg K = K ⟨false, .bool (t.kids.all (fitT .ex))⟩ sg := fun K =>
    reach_spec (c := 0) hL t.kids (by omega) (ft_kids ih (by omega) t.kids (fun x hx => h1.kid hx) (fun x hx => h2.kid hx) (fun x hx => h3.kid hx) (by omega)) h2.len
  have he1 : ∀ l : List Tree, (∀ x ∈ l, x ∈ t.kids) → l.length ≤ t.kids.length → ∀ K : Res → Out, callW (En n) (k - 1) 50 [.list false (kidRows l), .int .i64 1, .bool false] sg K = K ⟨false, .bool (l.all (fitT .ex))⟩ sg := fun l hl hz K =>
    reach_spec (c := 1) hL l (by omega) (ft_kids ih (by omega) l (fun x hx => h1.kid (hl x hx)) (fun x hx => h2.kid (hl x hx)) (fun x hx => h3.kid (hl x hx)) (by omega)) (by have := h2.len; omega)
  have hx : ∀ x ∈ t.kids, ∀ K : Res → Out, callW (En n) (k - 1) 102 [nodeV x, .int .i64 0, .bool false] sg K = K ⟨false, .bool (fitT .ex x)⟩ sg := fun x hm K =>
    ih 0 _ x sg K (by omega) (h1.kid hm) (h2.kid hm) (h3.kid hm) (by omega)
  have hp : ∀ K : Res → Out, callW (En n) (k - 1) 49 [.str t.text] sg K = K ⟨false, .bool (plainB t.text)⟩ sg := fun K => rname_spec (by omega) h3.here h30 hL
  rw [callW_at (by omega) rfl, fit_M]
  show B n _ 132 sg [.agg [.int .i64 t.kind, .str t.text, .int .i64 t.at_, .int .i64 t.end_, .list false (kidRows t.kids)], .bool false] K = K ⟨false, .bool (fitM (needEx t.kind t.text t.kids.length) t.kids)⟩ sg
  rw [R12_expression.eq, kidRows_len, len_z, len_1, len_2]
  unfold needEx
  by_cases e15 : t.kind = 15
  · rw [kb e15, if_pos e15, bcond_t, fitM_nil]
    exact b_then _ fun _ => c_last hp
  rw [kn e15, if_neg e15, bcond_f]
  by_cases e16 : t.kind = 16
  · rw [kb e16, if_pos e16, bcond_t, fitM_nil]
    exact b_then _ fun _ => c_last fun K => rdigits_spec (by omega) h3.here hL
  rw [kn e16, if_neg e16, bcond_f]
  by_cases e17 : t.kind = 17
  · rw [kb e17, if_pos e17, bcond_t, fitM_nil]
    exact b_then _ fun _ => c_last fun K => rtext_spec (by omega) h3.here hL
  rw [kn e17, if_neg e17, bcond_f]
  by_cases e18 : t.kind = 18
  · rw [kb e18, if_pos e18, bcond_t, fitM_nil]
    exact b_then _ fun _ => c_last fun K => rconst_spec (by omega)
  rw [kn e18, if_neg e18, bcond_f]
  by_cases e19 : t.kind = 19
  · rw [kb e19, if_pos e19, bcond_t, fitM_ok, Bool.and_assoc]
    refine b_then _ fun hl => c_then hp fun _ => ?_
    obtain ⟨x, hx1⟩ := len1 hl
    have hm : x ∈ t.kids := by rw [hx1]; simp
    rw [hx1, all_of_sing]
    rw [kidc' _ 0 (by simp), kid0]
    show chk true (chk true (chk true (chk true (chk true (chk true (chk true (chk true (cB _ 102 [nodeV x, .int .i64 0, .bool false] sg (pan K) _)))))))) = _
    rw [kk]
    exact c_last (hx x hm)
  rw [kn e19, if_neg e19, bcond_f]
  by_cases e20 : t.kind = 20
  · rw [kb e20, if_pos e20, bcond_t, fitM_all, Bool.and_assoc, show decide ((t.kids.length : Int) > 0) = !(t.kids.length == 0) by rw [Bool.eq_iff_iff, decide_eq_true_iff, Bool.not_eq_true', beq_eq_false_iff_ne]; omega]
    refine b_then _ fun hl => ?_
    show bcond (noB t.text) _ _ = _
    refine b_then _ fun _ => ?_
    cases hk0 : t.kids with
    | nil => rw [hk0] at hl; simp at hl
    | cons x r =>
      have hm : x ∈ t.kids := by rw [hk0]; simp
      have hr : ∀ y ∈ r, y ∈ t.kids := fun y hy => by rw [hk0]; exact List.mem_cons_of_mem _ hy
      have hz : r.length ≤ t.kids.length := by rw [hk0]; simp
      rw [show (rowsOk 5 (kidRows (x :: r)) && !((x :: r).length == 0)) = true by rw [kidRows_ok]; rfl, kid0, List.all_cons]
      show chk true (chk true (chk true (chk true (chk true (chk true (chk true (chk true (cB _ 102 [nodeV x, .int .i64 0, .bool false] sg (pan K) _)))))))) = _
      rw [kk]
      refine c_then (hx x hm) fun _ => ?_
      have e1 : ((kidRows (x :: r)).drop 1).take (((x :: r).length : Int).toNat - 1) = kidRows r := by
        rw [kidRows_map, kidRows_map, Int.toNat_natCast]
        show (r.map nodeRow).take (r.length + 1 - 1) = r.map nodeRow
        rw [Nat.add_sub_cancel]
        exact List.take_of_length_le (by simp)
      rw [e1, kidRows_ok, decide_eq_true (show (1 : Int) ≤ ((x :: r).length : Int) by simp; omega), decide_eq_true (show ((x :: r).length : Int) ≤ ((x :: r).length : Int) by omega), Bool.and_self, Bool.and_self, chk_t]
      exact c_last (he1 r hr hz)
  rw [kn e20, if_neg e20, bcond_f]
  by_cases e21 : t.kind = 21
  · rw [kb e21, if_pos e21, bcond_t, fitM_all]
    exact c_then (fun K => rtype_spec (by omega) h3.here h30 hL) fun _ => c_last (he1 t.kids (fun _ h => h) (Nat.le_refl _))
  rw [kn e21, if_neg e21, bcond_f]
  by_cases e22 : t.kind = 22
  · rw [kb e22, if_pos e22, bcond_t, fitM_ok, Bool.and_assoc]
    refine b_then _ fun hl => ?_
    obtain ⟨x, hx1⟩ := len1 hl
    have hm : x ∈ t.kids := by rw [hx1]; simp
    rw [hx1, all_of_sing]
    rw [kidc' _ 0 (by simp), kid0]
    have go : chk true (chk true (chk true (chk true (chk true (chk true (chk true (chk true (cB (callW (En n) (k - 1)) 102 [nodeV x, .int .i64 0, .bool false] sg (pan K) (fun b s => K ⟨false, .bool b⟩ s))))))))) = K ⟨false, .bool (fitT .ex x)⟩ sg := by
      rw [kk]; exact c_last (hx x hm)
    show bcond (eqB t.text ⟨#[33]⟩) _ (bcond (eqB t.text ⟨#[45]⟩) _ _) = _
    cases eqB t.text ⟨#[33]⟩ with
    | true => exact go
    | false =>
      rw [bcond_f, Bool.false_or]
      exact b_then _ fun _ => go
  rw [kn e22, if_neg e22, bcond_f]
  by_cases e23 : t.kind = 23
  · rw [kb e23, if_pos e23, bcond_t, fitM_ok, Bool.and_assoc]
    refine b_then _ fun hl => ?_
    have e2 : fitS [.ex, .ex] t.kids = t.kids.all (fitT .ex) := by
      rw [← fitS_rep, show t.kids.length = 2 by simpa using hl]; rfl
    rw [e2]
    exact c_then (fun K => roper_spec (by omega) h30) fun _ => c_last he
  rw [kn e23, if_neg e23, bcond_f]
  rfl
/-- What a declaration's kids must be, the name being one. -/
def deBody (c : Int) (t : Tree) : Bool :=
  if t.kind = 6 then (c != 9 && (t.kids.length == 2 && fitS [.ty, .row .ex 0 (some 1)] t.kids))
  else if t.kind = 5 then (t.kids.length == 3 && fitS [.row .pa 0 none, .row .ty 0 (some 1), .row .bl (!(c == 9)).toNat (some (!(c == 9)).toNat)] t.kids)
  else if t.kind = 3 then (c == 7 && (t.kids.length == 3 && fitS [.row .ty 0 (some 1), .row .ty 0 none, .row .me 0 none] t.kids))
  else if t.kind = 4 then (c == 7 && (t.kids.length == 2 && fitS [.row .ty 0 none, .row .si 0 none] t.kids))
  else false
theorem de_7 (t : Tree) : fitT .de t = (plainB t.text && deBody 7 t) := by
  rw [fit_M]
  show fitM (needDe t.kind t.text t.kids.length) t.kids = _
  unfold needDe needMe needVa needFu deBody
  by_cases e3 : t.kind = 3
  · rw [if_pos e3, if_neg (by omega), if_neg (by omega), if_pos e3, fitM_ok, Bool.and_assoc]; rfl
  rw [if_neg e3]
  by_cases e4 : t.kind = 4
  · rw [if_pos e4, if_neg (by omega), if_neg (by omega), if_neg e3, if_pos e4, fitM_ok, Bool.and_assoc]; rfl
  rw [if_neg e4]
  by_cases e6 : t.kind = 6
  · rw [if_pos e6, if_pos e6, fitM_ok, kb e6, Bool.true_and, Bool.and_assoc]; rfl
  rw [if_neg e6, if_neg e6]
  by_cases e5 : t.kind = 5
  · rw [if_pos e5, fitM_ok, kb e5, Bool.true_and, Bool.and_assoc]; rfl
  rw [if_neg e5, if_neg e3, if_neg e4, fitM_ok, kn e5, Bool.and_false]; rfl
theorem de_8 (t : Tree) : fitT .me t = (plainB t.text && deBody 8 t) := by
  rw [fit_M]
  show fitM (needMe t.kind t.text t.kids.length) t.kids = _
  unfold needMe needVa needFu deBody
  by_cases e6 : t.kind = 6
  · rw [if_pos e6, if_pos e6, fitM_ok, kb e6, Bool.true_and, Bool.and_assoc]; rfl
  rw [if_neg e6, if_neg e6]
  by_cases e5 : t.kind = 5
  · rw [if_pos e5, fitM_ok, kb e5, Bool.true_and, Bool.and_assoc]; rfl
  rw [if_neg e5, fitM_ok, kn e5]
  by_cases e3 : t.kind = 3
  · rw [if_pos e3]; show false = (_ && false); rw [Bool.and_false]
  by_cases e4 : t.kind = 4
  · rw [if_neg e3, if_pos e4]; show false = (_ && false); rw [Bool.and_false]
  rw [if_neg e3, if_neg e4, Bool.and_false]; rfl
theorem de_9 (t : Tree) : fitT .si t = (plainB t.text && deBody 9 t) := by
  rw [fit_M]
  show fitM (needFu false t.kind t.text t.kids.length) t.kids = _
  unfold needFu deBody
  by_cases e6 : t.kind = 6
  · rw [if_pos e6, fitM_ok, kn (show ¬ t.kind = 5 by omega)]; show false = (_ && false); rw [Bool.and_false]
  rw [if_neg e6]
  by_cases e5 : t.kind = 5
  · rw [if_pos e5, fitM_ok, kb e5, Bool.true_and, Bool.and_assoc]; rfl
  rw [if_neg e5, fitM_ok, kn e5]
  by_cases e3 : t.kind = 3
  · rw [if_pos e3]; show false = (_ && false); rw [Bool.and_false]
  by_cases e4 : t.kind = 4
  · rw [if_neg e3, if_pos e4]; show false = (_ && false); rw [Bool.and_false]
  rw [if_neg e3, if_neg e4, Bool.and_false]; rfl
theorem rde_cut {k c : Nat} (hL : n ≤ 4611686018427387904) (h30 : 30 ≤ n) {d : Nat} (ih : FtS n d) (t : Tree) (h1 : Hgt (d + 1) t) (h2 : Wid n t) (h3 : Txt n t) (hk : 6 * d + 8 ≤ k) {i5 i2 i3 : Int} {t1 : ByteArray} {r4 : List (List PV)} {b13 : Bool} {i0 : Int} (hc : i5 = (c : Int)) :
    C n (callW (En n) k) 135 [1, 1, 1] (R12_declaration.S0 i0 t1 i2 i3 r4 i5 false t.kind t.text t.at_ t.end_ (kidRows t.kids) (kidRows t.kids) b13) sg (R12_declaration.K0 (callW (En n) k) n K) = K ⟨false, .bool (deBody i5 t)⟩ sg := by
  obtain ⟨d', hd'⟩ : ∃ d', ∀ x ∈ t.kids, d = d' + 1 := by
    cases hk0 : t.kids with
    | nil => exact ⟨0, fun x hx => by cases hx⟩
    | cons x r =>
      have := h1.kid (show x ∈ t.kids by rw [hk0]; simp)
      cases this
      exact ⟨_, fun _ _ => rfl⟩
  have hx : ∀ c : Nat, c ≤ 9 → ∀ x ∈ t.kids, ∀ K : Res → Out, callW (En n) k 102 [nodeV x, .int .i64 (c : Int), .bool false] sg K = K ⟨false, .bool (fitT (wOf c) x)⟩ sg := fun c hc x hm K =>
    ih c _ x sg K hc (h1.kid hm) (h2.kid hm) (h3.kid hm) (by omega)
  have ha : ∀ c : Nat, c ≤ 9 → ∀ (lo : Nat) (hi : Option Nat), ∀ x ∈ t.kids, ∀ K : Res → Out, callW (En n) k 170 [nodeV x, .int .i64 (c : Int), .int .i64 lo, .int .i64 (hiI hi), .bool false] sg K = K ⟨false, .bool (fitT (.row (wOf c) lo hi) x)⟩ sg := fun c hc lo hi x hm K =>
    rall_spec ih hc hL x lo hi ((h1.kid hm).mono (by omega)) (h2.kid hm) (h3.kid hm) (by omega)
  rw [C_eq, R12_declaration.cut0, kidRows_len, len_2, len_3]
  unfold deBody
  by_cases e6 : t.kind = 6
  · rw [kb e6, if_pos e6, bcond_t]
    refine b_then _ fun _ => b_then _ fun hl => ?_
    obtain ⟨x, y, hk3⟩ := len2 hl
    rw [hk3, fit_two, kidc' _ 0 (by simp), kid0, kidc' _ 1 (by simp), kid1]
    show chk true (chk true (chk true (chk true (chk true (chk true (chk true (chk true (cB _ 102 [nodeV x, .int .i64 (2 : Nat), .bool false] sg (pan K) _)))))))) = _
    rw [kk]
    refine c_then (hx 2 (by omega) x (by rw [hk3]; simp)) fun _ => ?_
    show chk true (chk true (chk true (chk true (chk true (chk true (chk true (chk true (cB _ 170 [nodeV y, .int .i64 (0 : Nat), .int .i64 (0 : Nat), .int .i64 (hiI (some 1)), .bool false] sg (pan K) _)))))))) = _
    rw [kk]
    exact c_last (ha 0 (by omega) 0 (some 1) y (by rw [hk3]; simp))
  rw [kn e6, if_neg e6, bcond_f]
  by_cases e5 : t.kind = 5
  · rw [kb e5, if_pos e5, bcond_t]
    have fu : ∀ (b b16 b17 b18 : Bool) (i15 : Int), C n (callW (En n) k) 135 [1, 1, 1, 0, 1, 0, 1, 1, 1, 0, 1, 1] (R12_declaration.S1 i0 t1 i2 i3 r4 i5 false t.kind t.text t.at_ t.end_ (kidRows t.kids) (kidRows t.kids) ((b.toNat : Nat) : Int) b13 i15 b16 b17 b18) sg (R12_declaration.K1 (callW (En n) k) n K) =
        K ⟨false, .bool (t.kids.length == 3 && fitS [.row .pa 0 none, .row .ty 0 (some 1), .row .bl b.toNat (some b.toNat)] t.kids)⟩ sg := fun b b16 b17 b18 i15 => by
      rw [C_eq, R12_declaration.cut1, kidRows_len, len_3]
      refine b_then _ fun hl => ?_
      obtain ⟨x, y, z, hk3⟩ := len3 hl
      rw [hk3, fit_three, kidc' _ 0 (by simp), kid0, kidc' _ 1 (by simp), kid1, kidc' _ 2 (by simp), kid2]
      show chk true (chk true (chk true (chk true (chk true (chk true (chk true (chk true (cB _ 170 [nodeV x, .int .i64 (4 : Nat), .int .i64 (0 : Nat), .int .i64 (hiI none), .bool false] sg (pan K) _)))))))) = _
      rw [kk]
      refine c_then (ha 4 (by omega) 0 none x (by rw [hk3]; simp)) fun _ => ?_
      show chk true (chk true (chk true (chk true (chk true (chk true (chk true (chk true (cB _ 170 [nodeV y, .int .i64 (2 : Nat), .int .i64 (0 : Nat), .int .i64 (hiI (some 1)), .bool false] sg (pan K) _)))))))) = _
      rw [kk]
      refine c_then (ha 2 (by omega) 0 (some 1) y (by rw [hk3]; simp)) fun _ => ?_
      show chk true (chk true (chk true (chk true (chk true (chk true (chk true (chk true (cB _ 170 [nodeV z, .int .i64 (6 : Nat), .int .i64 (b.toNat : Nat), .int .i64 (hiI (some b.toNat)), .bool false] sg (pan K) _)))))))) = _
      rw [kk]
      exact c_last (ha 6 (by omega) b.toNat (some b.toNat) z (by rw [hk3]; simp))
    cases h9 : (i5 == 9) with
    | true => rw [bcond_t]; exact fu false _ _ _ _
    | false => rw [bcond_f]; exact fu true _ _ _ _
  rw [kn e5, if_neg e5, bcond_f]
  by_cases e3 : t.kind = 3
  · rw [kb e3, if_pos e3, bcond_t]
    refine b_then _ fun _ => b_then _ fun hl => ?_
    obtain ⟨x, y, z, hk3⟩ := len3 hl
    rw [hk3, fit_three, kidc' _ 0 (by simp), kid0, kidc' _ 1 (by simp), kid1, kidc' _ 2 (by simp), kid2]
    show chk true (chk true (chk true (chk true (chk true (chk true (chk true (chk true (cB _ 170 [nodeV x, .int .i64 (2 : Nat), .int .i64 (0 : Nat), .int .i64 (hiI (some 1)), .bool false] sg (pan K) _)))))))) = _
    rw [kk]
    refine c_then (ha 2 (by omega) 0 (some 1) x (by rw [hk3]; simp)) fun _ => ?_
    show chk true (chk true (chk true (chk true (chk true (chk true (chk true (chk true (cB _ 170 [nodeV y, .int .i64 (3 : Nat), .int .i64 (0 : Nat), .int .i64 (hiI none), .bool false] sg (pan K) _)))))))) = _
    rw [kk]
    refine c_then (ha 3 (by omega) 0 none y (by rw [hk3]; simp)) fun _ => ?_
    show chk true (chk true (chk true (chk true (chk true (chk true (chk true (chk true (cB _ 170 [nodeV z, .int .i64 (8 : Nat), .int .i64 (0 : Nat), .int .i64 (hiI none), .bool false] sg (pan K) _)))))))) = _
    rw [kk]
    exact c_last (ha 8 (by omega) 0 none z (by rw [hk3]; simp))
  rw [kn e3, if_neg e3, bcond_f]
  by_cases e4 : t.kind = 4
  · rw [kb e4, if_pos e4, bcond_t]
    refine b_then _ fun _ => b_then _ fun hl => ?_
    obtain ⟨x, y, hk3⟩ := len2 hl
    rw [hk3, fit_two, kidc' _ 0 (by simp), kid0, kidc' _ 1 (by simp), kid1]
    show chk true (chk true (chk true (chk true (chk true (chk true (chk true (chk true (cB _ 170 [nodeV x, .int .i64 (3 : Nat), .int .i64 (0 : Nat), .int .i64 (hiI none), .bool false] sg (pan K) _)))))))) = _
    rw [kk]
    refine c_then (ha 3 (by omega) 0 none x (by rw [hk3]; simp)) fun _ => ?_
    show chk true (chk true (chk true (chk true (chk true (chk true (chk true (chk true (cB _ 170 [nodeV y, .int .i64 (9 : Nat), .int .i64 (0 : Nat), .int .i64 (hiI none), .bool false] sg (pan K) _)))))))) = _
    rw [kk]
    exact c_last (ha 9 (by omega) 0 none y (by rw [hk3]; simp))
  rw [kn e4, if_neg e4, bcond_f]
theorem rde_spec {k c : Nat} (hc : c = 7 ∨ c = 8 ∨ c = 9) (hL : n ≤ 4611686018427387904) (h30 : 30 ≤ n) {d : Nat} (ih : FtS n d) (t : Tree) (h1 : Hgt (d + 1) t) (h2 : Wid n t) (h3 : Txt n t) (hk : 6 * d + 9 ≤ k) :
    callW (En n) k 135 [nodeV t, .int .i64 (c : Int), .bool false] sg K = K ⟨false, .bool (fitT (wOf c) t)⟩ sg := by
  have e : fitT (wOf c) t = (plainB t.text && deBody (c : Int) t) := by
    rcases hc with rfl | rfl | rfl
    · exact de_7 t
    · exact de_8 t
    · exact de_9 t
  rw [callW_at (by omega) rfl, e]
  show B n _ 135 sg [.agg [.int .i64 t.kind, .str t.text, .int .i64 t.at_, .int .i64 t.end_, .list false (kidRows t.kids)], _, _] K = _
  rw [R12_declaration.eq, cB_of _ (fun K => rname_spec (by omega) h3.here h30 hL)]
  cases plainB t.text with
  | false => rfl
  | true =>
    rw [Bool.not_true, bcond_f, Bool.true_and]
    exact rde_cut hL h30 ih t h1 h2 h3 (by omega) rfl
theorem fit_meta (t : Tree) (h : t.kind = 25 ∨ t.kind = 26) : ∀ c : Nat, c ≤ 9 → fitT (wOf c) t = false := by
  intro c hc
  rw [fit_M]
  have : c = 0 ∨ c = 1 ∨ c = 2 ∨ c = 3 ∨ c = 4 ∨ c = 5 ∨ c = 6 ∨ c = 7 ∨ c = 8 ∨ c = 9 := by omega
  rcases h with h | h <;> rw [h] <;> rcases this with rfl | rfl | rfl | rfl | rfl | rfl | rfl | rfl | rfl | rfl <;>
    first
    | rfl
    | (show fitM (needSt _ t.text t.kids.length) t.kids = false
       unfold needSt
       cases noB t.text <;> rfl)
/-- A block, whatever is asked of it by its number. -/
theorem rfits_bl {k : Nat} (hL : n ≤ 4611686018427387904) {d : Nat} (ih : FtS n d) (t : Tree) (h1 : Hgt (d + 1) t) (h2 : Wid n t) (h3 : Txt n t) (hk : 6 * d + 9 ≤ k) :
    callW (En n) k 102 [nodeV t, .int .i64 6, .bool false] sg K = K ⟨false, .bool (fitT .bl t)⟩ sg := by
  rw [callW_at (by omega) rfl]
  show B n _ 102 sg [.agg [.int .i64 t.kind, .str t.text, .int .i64 t.at_, .int .i64 t.end_, .list false (kidRows t.kids)], .int .i64 6, .bool false] K = _
  rw [R12_fits.eq, bcond_f]
  by_cases e25 : t.kind = 25
  · rw [kb e25, bcond_t, show fitT .bl t = false from fit_meta t (.inl e25) 6 (by omega)]
  rw [kn e25, bcond_f]
  by_cases e26 : t.kind = 26
  · rw [kb e26, bcond_t, show fitT .bl t = false from fit_meta t (.inr e26) 6 (by omega)]
  rw [kn e26, bcond_f, C_eq, R12_fits.cut0]
  simp only [Int.reduceBEq, bcond_t, bcond_f]
  rw [fit_bl, Bool.and_assoc]
  refine b_then _ fun _ => ?_
  show bcond (noB t.text) _ _ = _
  refine b_then _ fun _ => c_last fun K => ?_
  exact reach_spec (c := 5) hL t.kids (by omega) (ft_kids ih (by omega) t.kids (fun x hx => h1.kid hx) (fun x hx => h2.kid hx) (fun x hx => h3.kid hx) (by omega)) h2.len
theorem rst_spec {k : Nat} (hL : n ≤ 4611686018427387904) (h30 : 30 ≤ n) {d : Nat} (ih : FtS n d) (t : Tree) (h1 : Hgt (d + 1) t) (h2 : Wid n t) (h3 : Txt n t) (hk : 6 * d + 10 ≤ k) :
    callW (En n) k 134 [nodeV t, .bool false] sg K = K ⟨false, .bool (fitT .st t)⟩ sg := by
  have hx : ∀ c : Nat, c ≤ 9 → ∀ x ∈ t.kids, ∀ K : Res → Out, callW (En n) (k - 1) 102 [nodeV x, .int .i64 (c : Int), .bool false] sg K = K ⟨false, .bool (fitT (wOf c) x)⟩ sg := fun c hc x hm K =>
    ih c _ x sg K hc (h1.kid hm) (h2.kid hm) (h3.kid hm) (by omega)
  have he : ∀ K : Res → Out, callW (En n) (k - 1) 50 [.list false (kidRows t.kids), .int .i64 0, .bool false] sg K = K ⟨false, .bool (t.kids.all (fitT .ex))⟩ sg := fun K =>
    reach_spec (c := 0) hL t.kids (by omega) (ft_kids ih (by omega) t.kids (fun x hx => h1.kid hx) (fun x hx => h2.kid hx) (fun x hx => h3.kid hx) (by omega)) h2.len
  rw [callW_at (by omega) rfl, fit_M]
  show B n _ 134 sg [.agg [.int .i64 t.kind, .str t.text, .int .i64 t.at_, .int .i64 t.end_, .list false (kidRows t.kids)], _] K = K ⟨false, .bool (fitM (needSt t.kind t.text t.kids.length) t.kids)⟩ sg
  rw [R12_statement.eq]
  unfold needSt
  by_cases e6 : t.kind = 6
  · rw [kb e6, if_pos e6, bcond_t]
    have e : fitM (needVa t.kind t.text t.kids.length) t.kids = fitT .de t := by
      rw [fit_M]
      show _ = fitM (needDe t.kind t.text t.kids.length) t.kids
      unfold needDe needMe
      rw [if_neg (by omega), if_neg (by omega), if_pos e6]
    rw [e]
    exact c_last fun K => rde_spec (c := 7) (.inl rfl) hL h30 ih t h1 h2 h3 (by omega)
  rw [kn e6, if_neg e6, bcond_f, C_eq, R12_statement.cut0, kidRows_len, len_1, len_2, len_3]
  show bcond (!noB t.text) _ _ = _
  cases hn : noB t.text with
  | false => rfl
  | true =>
    rw [if_neg (by simp), Bool.not_true, bcond_f]
    by_cases e9 : t.kind = 9
    · rw [kb e9, if_pos e9, bcond_t]
      have := fit_M .bl t
      rw [show needW .bl t.kind t.text t.kids.length = needBl t.kind t.text t.kids.length from rfl] at this
      rw [← this]
      exact c_last fun K => rfits_bl hL ih t h1 h2 h3 (by omega)
    rw [kn e9, if_neg e9, bcond_f]
    by_cases e10 : t.kind = 10
    · rw [kb e10, if_pos e10, bcond_t, fitM_all, show decide ((t.kids.length : Int) ≤ 1) = decide (t.kids.length ≤ 1) by rw [Bool.eq_iff_iff, decide_eq_true_iff, decide_eq_true_iff]; omega]
      exact b_then _ fun _ => c_last he
    rw [kn e10, if_neg e10, bcond_f]
    by_cases e11 : t.kind = 11
    · rw [kb e11, if_pos e11, bcond_t, fitM_ok]
      refine b_then _ fun hl => ?_
      obtain ⟨x, y, z, hk3⟩ := len3 hl
      have hz : z ∈ t.kids := by rw [hk3]; simp
      have ha : ∀ K : Res → Out, callW (En n) (k - 1) 170 [nodeV z, .int .i64 (6 : Nat), .int .i64 (0 : Nat), .int .i64 (hiI (some 1)), .bool false] sg K = K ⟨false, .bool (fitT (.row .bl 0 (some 1)) z)⟩ sg := fun K =>
        rall_spec (c := 6) ih (by omega) hL z 0 (some 1) ((h1.kid hz).mono (by omega)) (h2.kid hz) (h3.kid hz) (by omega)
      rw [hk3, fit_three, kidc' _ 0 (by simp), kid0, kidc' _ 1 (by simp), kid1, kidc' _ 2 (by simp), kid2]
      show chk true (chk true (chk true (chk true (chk true (chk true (chk true (chk true (cB _ 102 [nodeV x, .int .i64 (0 : Nat), .bool false] sg (pan K) _)))))))) = _
      rw [kk]
      refine c_then (hx 0 (by omega) x (by rw [hk3]; simp)) fun _ => ?_
      show chk true (chk true (chk true (chk true (chk true (chk true (chk true (chk true (cB _ 102 [nodeV y, .int .i64 (6 : Nat), .bool false] sg (pan K) _)))))))) = _
      rw [kk]
      refine c_then (hx 6 (by omega) y (by rw [hk3]; simp)) fun _ => ?_
      show chk true (chk true (chk true (chk true (chk true (chk true (chk true (chk true (cB _ 170 [nodeV z, .int .i64 (6 : Nat), .int .i64 (0 : Nat), .int .i64 (hiI (some 1)), .bool false] sg (pan K) _)))))))) = _
      rw [kk]
      exact c_last ha
    rw [kn e11, if_neg e11, bcond_f]
    by_cases e12 : t.kind = 12
    · rw [kb e12, if_pos e12, bcond_t, fitM_ok]
      refine b_then _ fun hl => ?_
      obtain ⟨x, y, hk3⟩ := len2 hl
      rw [hk3, fit_two, kidc' _ 0 (by simp), kid0, kidc' _ 1 (by simp), kid1]
      show chk true (chk true (chk true (chk true (chk true (chk true (chk true (chk true (cB _ 102 [nodeV x, .int .i64 (0 : Nat), .bool false] sg (pan K) _)))))))) = _
      rw [kk]
      refine c_then (hx 0 (by omega) x (by rw [hk3]; simp)) fun _ => ?_
      show chk true (chk true (chk true (chk true (chk true (chk true (chk true (chk true (cB _ 102 [nodeV y, .int .i64 (6 : Nat), .bool false] sg (pan K) _)))))))) = _
      rw [kk]
      exact c_last (hx 6 (by omega) y (by rw [hk3]; simp))
    rw [kn e12, if_neg e12, bcond_f]
    by_cases e13 : t.kind = 13
    · rw [kb e13, if_pos e13, bcond_t, fitM_ok]
      refine b_then _ fun hl => ?_
      have e2 : fitS [.ex, .ex] t.kids = t.kids.all (fitT .ex) := by
        rw [← fitS_rep, show t.kids.length = 2 by simpa using hl]; rfl
      rw [e2]
      exact c_last he
    rw [kn e13, if_neg e13, bcond_f]
    by_cases e14 : t.kind = 14
    · rw [kb e14, if_pos e14, bcond_t, fitM_ok]
      refine b_then _ fun hl => ?_
      obtain ⟨x, hk1⟩ := len1 hl
      have hm : x ∈ t.kids := by rw [hk1]; simp
      rw [hk1, all_of_sing, kidc' _ 0 (by simp), kid0]
      show chk true (chk true (chk true (bcond (x.kind != 25) (chk true (chk true (chk true (chk true (chk true (chk true (chk true (chk true (cB _ 102 [nodeV x, .int .i64 (0 : Nat), .bool false] sg (pan K) _)))))))) ) _))) = _
      rw [chk_t, chk_t, chk_t, kk]
      by_cases e25 : x.kind = 25
      · rw [show (x.kind != 25) = false by simp [e25], bcond_f, show fitT .ex x = false from fit_meta x (.inl e25) 0 (by omega)]
      · rw [show (x.kind != 25) = true by simp [e25], bcond_t]
        exact c_last (hx 0 (by omega) x hm)
    rw [kn e14, if_neg e14, bcond_f]
    rfl
theorem rfits_S (hL : n ≤ 4611686018427387904) (h30 : 30 ≤ n) : ∀ d, FtS n d
  | 0 => fun c k t sg K hc h1 h2 h3 hk => by cases h1
  | d + 1 => fun c k t sg K hc h1 h2 h3 hk => by
    have ih := rfits_S hL h30 d
    by_cases e25 : t.kind = 25
    · rw [callW_at (by omega) rfl, fit_meta t (.inl e25) c hc]
      show B n _ 102 sg [.agg [.int .i64 t.kind, .str t.text, .int .i64 t.at_, .int .i64 t.end_, .list false (kidRows t.kids)], .int .i64 (c : Int), .bool false] K = _
      rw [R12_fits.eq, kb e25, bcond_t]
      rfl
    by_cases e26 : t.kind = 26
    · rw [callW_at (by omega) rfl, fit_meta t (.inr e26) c hc]
      show B n _ 102 sg [.agg [.int .i64 t.kind, .str t.text, .int .i64 t.at_, .int .i64 t.end_, .list false (kidRows t.kids)], .int .i64 (c : Int), .bool false] K = _
      rw [R12_fits.eq, kn e25, bcond_f, kb e26, bcond_t]
      rfl
    have hty : ∀ K : Res → Out, callW (En n) (k - 1) 133 [.str t.text] sg K = K ⟨false, .bool (typeB t.text)⟩ sg := fun K => rtype_spec (by omega) h3.here h30 hL
    have hex : ∀ K : Res → Out, callW (En n) (k - 1) 132 [nodeV t, .bool false] sg K = K ⟨false, .bool (fitT .ex t)⟩ sg := fun K => rex_S hL h30 ih t h1 h2 h3 (by omega)
    have hde : ∀ c : Nat, c = 7 ∨ c = 8 ∨ c = 9 → ∀ K : Res → Out, callW (En n) (k - 1) 135 [nodeV t, .int .i64 (c : Int), .bool false] sg K = K ⟨false, .bool (fitT (wOf c) t)⟩ sg := fun c hc K => rde_spec hc hL h30 ih t h1 h2 h3 (by omega)
    have start : ∀ c : Int, callW (En n) k 102 [nodeV t, .int .i64 c, .bool false] sg K = T n (callW (En n) (k - 1)) 102 [1, 1] (R12_fits.S0 t.kind t.text t.at_ t.end_ (kidRows t.kids) c false t.kind t.text t.at_ t.end_ (kidRows t.kids) false) sg (R12_fits.K0 (callW (En n) (k - 1)) n K) := fun c => by
      rw [callW_at (by omega) rfl]
      show B n _ 102 sg [.agg [.int .i64 t.kind, .str t.text, .int .i64 t.at_, .int .i64 t.end_, .list false (kidRows t.kids)], .int .i64 c, .bool false] K = _
      rw [R12_fits.eq, kn e25, bcond_f, kn e26, bcond_f, C_eq]
    have hc' : c = 0 ∨ c = 1 ∨ c = 2 ∨ c = 3 ∨ c = 4 ∨ c = 5 ∨ c = 6 ∨ c = 7 ∨ c = 8 ∨ c = 9 := by omega
    have ty : bcond (t.kind == 8) (bcond (((kidRows t.kids).length : Int) == 0) (cB (callW (En n) (k - 1)) 133 [.str t.text] sg (pan K) fun b s => K ⟨false, .bool b⟩ s) (K ⟨false, .bool false⟩ sg)) (K ⟨false, .bool false⟩ sg) = K ⟨false, .bool (fitT .ty t)⟩ sg := by
      rw [kidRows_len, len_z, fit_ty]
      exact b_then _ fun _ => b_then _ fun _ => c_last hty
    have de : ∀ c : Nat, c = 7 ∨ c = 8 ∨ c = 9 → ∀ (i13 : Int) (b14 b15 b16 b17 b18 : Bool), C n (callW (En n) (k - 1)) 102 [1, 1, 1] (R12_fits.S1 t.kind t.text t.at_ t.end_ (kidRows t.kids) (c : Int) false t.kind t.text t.at_ t.end_ (kidRows t.kids) false i13 b14 b15 b16 b17 b18) sg (R12_fits.K1 (callW (En n) (k - 1)) n K) = K ⟨false, .bool (fitT (wOf c) t)⟩ sg := fun c hc i13 b14 b15 b16 b17 b18 => by
      rw [C_eq, R12_fits.cut1]
      exact c_last (hde c hc)
    rcases hc' with rfl | rfl | rfl | rfl | rfl | rfl | rfl | rfl | rfl | rfl
    · refine (start 0).trans ?_
      rw [R12_fits.cut0]
      simp only [Int.reduceBEq, bcond_t, bcond_f]
      exact c_last hex
    · refine (start 1).trans ?_
      rw [R12_fits.cut0]
      simp only [Int.reduceBEq, bcond_t, bcond_f]
      exact c_last hex
    · refine (start 2).trans ?_
      rw [R12_fits.cut0]
      simp only [Int.reduceBEq, bcond_t, bcond_f]
      exact ty
    · refine (start 3).trans ?_
      rw [R12_fits.cut0]
      simp only [Int.reduceBEq, bcond_t, bcond_f]
      exact ty
    · refine (start 4).trans ?_
      rw [R12_fits.cut0]
      simp only [Int.reduceBEq, bcond_t, bcond_f]
      show _ = K ⟨false, .bool (fitT .pa t)⟩ sg
      rw [fit_pa, Bool.and_assoc, Bool.and_assoc, kidRows_len, len_1]
      refine b_then _ fun _ => c_then (fun K => rname_spec (by omega) h3.here h30 hL) fun _ => b_then _ fun hl => ?_
      obtain ⟨x, hk1⟩ := len1 hl
      have hm : x ∈ t.kids := by rw [hk1]; simp
      rw [hk1, all_of_sing, kidc' _ 0 (by simp), kid0]
      show chk true (chk true (chk true (chk true (chk true (chk true (chk true (chk true (cB _ 102 [nodeV x, .int .i64 (2 : Nat), .bool false] sg (pan K) _)))))))) = _
      rw [kk]
      exact c_last fun K => ih 2 _ x sg K (by omega) (h1.kid hm) (h2.kid hm) (h3.kid hm) (by omega)
    · refine (start 5).trans ?_
      rw [R12_fits.cut0]
      simp only [Int.reduceBEq, bcond_t, bcond_f]
      exact c_last fun K => rst_spec hL h30 ih t h1 h2 h3 (by omega)
    · exact rfits_bl hL ih t h1 h2 h3 (by omega)
    · refine (start 7).trans ?_
      rw [R12_fits.cut0]
      simp only [Int.reduceBEq, bcond_t, bcond_f]
      exact de 7 (by omega) _ _ _ _ _ _
    · refine (start 8).trans ?_
      rw [R12_fits.cut0]
      simp only [Int.reduceBEq, bcond_t, bcond_f]
      exact de 8 (by omega) _ _ _ _ _ _
    · refine (start 9).trans ?_
      rw [R12_fits.cut0]
      simp only [Int.reduceBEq, bcond_t, bcond_f]
      exact de 9 (by omega) _ _ _ _ _ _
end
end Go.Ev
set_option maxRecDepth 4000
namespace Go.Ev
open PV
section
variable {n : Nat} {sg : List (List PV)} {K : Res → Out}
theorem rright_loop {k : Nat} {i0 i2 i3 i5 i7 i8 : Int} {t1 t6 : ByteArray} {r4 : List (List PV)} {b11 : Bool} (hL : n ≤ 4611686018427387904) (h30 : 30 ≤ n) (l : List Tree) (hk : 2 ≤ k) (hn : l.length < n) (ht : ∀ x ∈ l, Txt n x)
    (he : ∀ (i : Nat), i ≤ l.length → ∀ K : Res → Out, callW (En n) k 50 [.list false (kidRows (l.drop i)), .int .i64 7, .bool false] sg K = K ⟨false, .bool ((l.drop i).all (fitT .de))⟩ sg) :
    ∀ (r : List Tree) (i m : Nat) (p12 : PV), l.drop i = r → i ≤ l.length → r.length < m →
    L n (callW (En n) k) 24 [1, 1, 1, 0, 0, 0] (R12_Right.S1 i0 t1 i2 i3 r4 i5 t6 i7 i8 (kidRows l) (i : Int) b11 p12) sg (R12_Right.K1 (callW (En n) k) n K) m = K ⟨false, .bool ((r.dropWhile isImp).all (fitT .de))⟩ sg := by
  have rest : ∀ (i : Nat) (b12 : Bool), i ≤ l.length → C n (callW (En n) k) 24 [1, 1, 1, 1] (R12_Right.S2 i0 t1 i2 i3 r4 i5 t6 i7 i8 (kidRows l) (i : Int) b11 b12) sg (R12_Right.K2 (callW (En n) k) n K) = K ⟨false, .bool ((l.drop i).all (fitT .de))⟩ sg := by
    intro i b12 hi
    have e1 : ((kidRows l).drop i).take (l.length - i) = kidRows (l.drop i) := by
      rw [kidRows_map, kidRows_map, ← List.map_drop, List.take_of_length_le (by simp)]
    rw [C_eq, R12_Right.cut2, kidRows_ok, kidRows_len, decide_eq_true (show (0 : Int) ≤ (i : Int) by omega), decide_eq_true (show (i : Int) ≤ (l.length : Int) by omega), decide_eq_true (show (l.length : Int) ≤ (l.length : Int) by omega), Bool.and_self, Bool.and_self, Bool.and_self, chk_t, Int.toNat_natCast, Int.toNat_natCast, e1]
    exact c_last (he i hi)
  intro r
  induction r with
  | nil =>
    intro i m p12 hr hi hm
    obtain ⟨m, rfl⟩ : ∃ m', m = m' + 1 := ⟨m - 1, by simp at hm; omega⟩
    have : i = l.length := by have := List.drop_eq_nil_iff.1 hr; omega
    rw [L_succ, R12_Right.loop1, kidRows_len, decide_eq_false (show ¬ ((i : Int) < (l.length : Int)) by omega), bcond_f, rest i _ hi, hr]
    rfl
  | cons y r ih =>
    intro i m p12 hr hi hm
    obtain ⟨m, rfl⟩ : ∃ m', m = m' + 1 := ⟨m - 1, by simp at hm; omega⟩
    obtain ⟨hil, hy, hr'⟩ := drop_some hr
    have hmem : y ∈ l := List.mem_of_mem_drop (by rw [hr]; exact List.mem_cons_self)
    have ew : IntKind.i64.wrap ((i : Int) + 1) = ((i + 1 : Nat) : Int) := wrap_id _ (by omega) (by omega)
    rw [L_succ, R12_Right.loop1, kid_i l i hil, kidRows_len, decide_eq_true (show ((i : Int) < (l.length : Int)) by omega), bcond_t, kid_at l i hil, hy]
    rw [List.dropWhile_cons]
    have hd : isImp y = false → ∀ b12 : Bool, C n (callW (En n) k) 24 [1, 1, 1, 1] (R12_Right.S2 i0 t1 i2 i3 r4 i5 t6 i7 i8 (kidRows l) (i : Int) b11 b12) sg (R12_Right.K2 (callW (En n) k) n K) = K ⟨false, .bool ((if isImp y = true then r.dropWhile isImp else y :: r).all (fitT .de))⟩ sg := by
      intro h b12
      rw [if_neg (by simp [h]), rest i b12 hi, hr]
    show chk true (chk true (chk true (bcond (y.kind == 2) (chk true (chk true (chk true (bcond ((((kidRows y.kids).length : Int)) == 0) (chk true (chk true (chk true (cB _ 49 [.str y.text] sg (pan K) _)))) (C n _ 24 _ (R12_Right.S2 i0 t1 i2 i3 r4 i5 t6 i7 i8 (kidRows l) (i : Int) b11 false) sg _))))) (C n _ 24 _ (R12_Right.S2 i0 t1 i2 i3 r4 i5 t6 i7 i8 (kidRows l) (i : Int) b11 false) sg _)))) = _
    rw [chk_t, chk_t, chk_t, chk_t, chk_t, chk_t, chk_t, chk_t, chk_t, kidRows_len, len_z]
    by_cases h2 : y.kind = 2
    · rw [kb h2, bcond_t]
      cases h0 : (y.kids.length == 0) with
      | false =>
        rw [bcond_f]
        exact hd (by unfold isImp; rw [h0]; simp) _
      | true =>
        rw [bcond_t, cB_of _ (fun K => rname_spec (by omega) (ht y hmem).here h30 hL)]
        cases hp : plainB y.text with
        | false =>
          rw [bcond_f]
          exact hd (by unfold isImp; rw [hp]; simp) _
        | true =>
          rw [bcond_t, ew, if_pos (by unfold isImp; rw [hp, h0, h2]; rfl)]
          exact ih (i + 1) m _ hr' (by omega) (by simp at hm; omega)
    · rw [kn h2, bcond_f]
      exact hd (by unfold isImp; rw [kn h2]; rfl) _
theorem rright_spec (hL : n ≤ 4611686018427387904) (h30 : 30 ≤ n) {d k : Nat} (t : Tree) (h1 : Hgt d t) (h2 : Wid n t) (h3 : Txt n t) (hk : 6 * d + 10 ≤ k) : callW (En n) k 24 [nodeV t] sg K = K ⟨false, .bool (rightT t)⟩ sg := by
  rw [callW_at (by omega) rfl]
  show B n _ 24 sg [.agg [.int .i64 t.kind, .str t.text, .int .i64 t.at_, .int .i64 t.end_, .list false (kidRows t.kids)]] K = _
  rw [R12_Right.eq]
  unfold rightT
  show bcond (!(t.kind == 1)) _ (bcond (!noB t.text) _ _) = _
  cases (t.kind == 1) with
  | false => rfl
  | true =>
    rw [Bool.not_true, bcond_f]
    cases noB t.text with
    | false => rfl
    | true =>
      rw [Bool.not_true, bcond_f]
      show cI _ 29 [nodeV t] sg (pan K) _ = _
      rw [cI_of _ (fun K => rdepth_spec hL d (k - 1) t K h1 (by omega) h2)]
      have e : decide (depthT t > 12) = !decide (depthT t ≤ 12) := by
        rw [Bool.eq_iff_iff]; simp
      rw [e]
      cases decide (depthT t ≤ 12) with
      | false => rfl
      | true =>
        rw [Bool.not_true, bcond_f, C_eq, R12_Right.cut0]
        obtain ⟨d', rfl⟩ : ∃ d', d = d' + 1 := by cases h1; exact ⟨_, rfl⟩
        refine (rright_loop hL h30 t.kids (by omega) h2.len (fun x hx => h3.kid hx) (fun i hi K => ?_) t.kids 0 n _ rfl (by omega) h2.len).trans ?_
        · have hm : ∀ x ∈ t.kids.drop i, x ∈ t.kids := fun x hx => List.mem_of_mem_drop hx
          exact reach_spec (c := 7) hL _ (by omega) (ft_kids (rfits_S hL h30 d') (by omega) _ (fun x hx => h1.kid (hm x hx)) (fun x hx => h2.kid (hm x hx)) (fun x hx => h3.kid (hm x hx)) (by omega)) (by have := h2.len; simp; omega)
        · simp
end
end Go.Ev
