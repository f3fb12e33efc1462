/- The document's look at the shapes of trees. -/
import Derived.Test.YtmofhelddcnecaaGreatDoorUM
import Derived.Test.YtmofhelddcnecaaGreatDoorUZd
import Derived.Test.YtmofhelddcnecaaGreatDoorUN
import Derived.Test.YtmofhelddcnecaaGreatDoorUK
import Derived.Test.YtmofhelddcnecaaGreatDoorUR
import Derived.Test.YtmofhelddcnecaaGreatDoorUZc
set_option linter.unusedVariables false
set_option linter.unusedSimpArgs false
set_option linter.unusedSectionVars false
set_option maxRecDepth 4000
namespace Go.Ev
open PV
section
variable {n : Nat} {sg : List (List PV)}
theorem rsize_loop {k : Nat} {K : Res → Out} {i0 i2 i3 i5 i7 i8 : Int} {t1 t6 : ByteArray} {r4 : List (List PV)} (hL : n ≤ 4611686018427387904) (ks : List Tree)
    (ih : ∀ t ∈ ks, ∀ K : Res → Out, callW (En n) k 18 [nodeV t] sg K = K ⟨false, .int .i64 (sizeT t)⟩ sg) (hn : ks.length < n) :
    ∀ (r : List Tree) (i m : Nat) (acc : Int) (p15 : PV), ks.drop i = r → i ≤ ks.length → r.length < m →
    L n (callW (En n) k) 18 [1, 1, 0, 1, 0, 0] (R12_Size.S0 i0 t1 i2 i3 r4 i5 t6 i7 i8 (kidRows ks) acc (i : Int) p15) sg (R12_Size.K0 (callW (En n) k) n K) m = K ⟨false, .int .i64 (sizeL acc r)⟩ sg
  | r, i, 0, _, _, _, _, hm => by omega
  | [], i, m + 1, acc, p15, hr, hi, hm => by
    have : i = ks.length := by have := List.drop_eq_nil_iff.1 hr; omega
    subst this
    rw [L_succ, R12_Size.loop0, kidRows_len, decide_eq_false (show ¬ ((ks.length : Int) < (ks.length : Int)) by omega), bcond_f]
    rfl
  | y :: r, i, m + 1, acc, p15, hr, hi, hm => by
    obtain ⟨hil, hy, hr'⟩ := drop_some hr
    have hmem : y ∈ ks := List.mem_of_mem_drop (by rw [hr]; exact List.mem_cons_self)
    have ew : IntKind.i64.wrap ((i : Int) + 1) = ((i + 1 : Nat) : Int) := wrap_id _ (by omega) (by omega)
    rw [L_succ, R12_Size.loop0, kid_chk ks i hil, kidRows_len, decide_eq_true (show (i : Int) < (ks.length : Int) by omega), bcond_t, kid_at ks i hil, hy]
    show chk true (chk true (chk true (chk true (chk true (chk true (chk true (chk true (cI (callW (En n) k) 18 [nodeV y] sg (pan K) _)))))))) = _
    simp only [chk_t]
    rw [cI_of _ (fun K => ih y hmem K), ew, sizeL]
    exact rsize_loop hL ks ih hn r (i + 1) m _ _ hr' (by omega) (by simp at hm; omega)
theorem rsize_spec (hL : n ≤ 4611686018427387904) : ∀ (d k : Nat) (t : Tree) (K : Res → Out), Hgt d t → d ≤ k → Wid n t → callW (En n) k 18 [nodeV t] sg K = K ⟨false, .int .i64 (sizeT t)⟩ sg
  | 0, k, t, K, h, hk, hw => by cases h
  | d + 1, k, t, K, h, hk, hw => by
    rw [callW_at (by omega) rfl, sizeT_eq]
    show B n _ 18 sg [.agg [.int .i64 t.kind, .str t.text, .int .i64 t.at_, .int .i64 t.end_, .list false (kidRows t.kids)]] K = _
    rw [R12_Size.eq]
    exact rsize_loop hL t.kids (fun x hx K => rsize_spec hL d (k - 1) x K (h.kid hx) (by omega) (hw.kid hx)) hw.len t.kids 0 n 1 _ rfl (by omega) hw.len
end
end Go.Ev
set_option maxRecDepth 4000
namespace Go.Ev
open PV
section
variable {n : Nat} {sg : List (List PV)} {K : Res → Out}
end
end Go.Ev
set_option maxRecDepth 4000
namespace Go.Ev
open PV
section
variable {n : Nat} {sg : List (List PV)} {K : Res → Out}
end
end Go.Ev
set_option maxRecDepth 4000
namespace Go.Ev
open PV
section
variable {n : Nat} {sg : List (List PV)} {K : Res → Out}
end
end Go.Ev
