/- Nodes and Around; SyntaxLooks comes to true. -/
import Derived.Test.YtmofhelddcnecaaGreatDoorUN
import Derived.Test.YtmofhelddcnecaaGreatDoorUND
import Derived.Test.YtmofhelddcnecaaGreatDoorULd
import Derived.Test.YtmofhelddcnecaaGreatDoorUL2
import Derived.Test.YtmofhelddcnecaaGreatDoorRows
import Derived.Test.YtmofhelddcnecaaGreatDoorUW
set_option linter.unusedVariables false
set_option linter.unusedSimpArgs false
set_option linter.unusedSectionVars false
set_option maxRecDepth 4000
namespace Go.Ev
open PV
mutual
/-- A node and all below it. -/
def nodesT : Tree → List Tree
  | .mk kd t a e ks => .mk kd t a e ks :: nodesL ks
def nodesL : List Tree → List Tree
  | [] => []
  | x :: r => nodesT x ++ nodesL r
end
def cntT (t : Tree) : Nat := (nodesT t).length
theorem nodesT_eq (t : Tree) : nodesT t = t :: nodesL t.kids := by cases t; rw [nodesT]; rfl
theorem nodesL_cons (x : Tree) (r : List Tree) : nodesL (x :: r) = nodesT x ++ nodesL r := by rw [nodesL]
theorem nodesL_mem : ∀ {l : List Tree} {x : Tree}, x ∈ l → cntT x ≤ (nodesL l).length
  | y :: r, x, h => by
    rw [nodesL_cons, List.length_append]
    rcases List.mem_cons.1 h with rfl | h
    · exact Nat.le_add_right _ _
    · exact Nat.le_trans (nodesL_mem h) (Nat.le_add_left _ _)
theorem cnt_kid {t x : Tree} (h : x ∈ t.kids) : cntT x < cntT t := by
  have := nodesL_mem h
  have e : cntT t = (nodesL t.kids).length + 1 := by unfold cntT; rw [nodesT_eq]; rfl
  omega
theorem hgt_cnt : ∀ (c : Nat) (t : Tree), cntT t ≤ c → Hgt c t
  | 0, t, h => by unfold cntT at h; rw [nodesT_eq] at h; simp at h
  | c + 1, .mk kd tx a e ks, h => .mk c kd tx a e ks fun x hx => hgt_cnt c x (by have := cnt_kid (t := .mk kd tx a e ks) hx; omega)
/-- What lies below is no higher and no wider. -/
theorem nodes_below {n : Nat} : ∀ (d : Nat) (t : Tree), Hgt d t → Wid n t → ∀ x ∈ nodesT t, Hgt d x ∧ Wid n x
  | 0, t, h, hw => by cases h
  | d + 1, t, h, hw => by
    have hl : ∀ l : List Tree, (∀ y ∈ l, y ∈ t.kids) → ∀ x ∈ nodesL l, Hgt (d + 1) x ∧ Wid n x := by
      intro l
      induction l with
      | nil => intro _ x hx; rw [nodesL] at hx; cases hx
      | cons y r ih =>
        intro hs x hx
        rw [nodesL_cons] at hx
        rcases List.mem_append.1 hx with hx | hx
        · have hy := hs y List.mem_cons_self
          obtain ⟨a, b⟩ := nodes_below d y (h.kid hy) (hw.kid hy) x hx
          exact ⟨a.mono (by omega), b⟩
        · exact ih (fun z hz => hs z (List.mem_cons_of_mem _ hz)) x hx
    intro x hx
    rw [nodesT_eq] at hx
    rcases List.mem_cons.1 hx with rfl | hx
    · exact ⟨h, hw⟩
    · exact hl t.kids (fun _ h => h) x hx
theorem aroundT_eq (off : Int) (t : Tree) : aroundT off t = if off < t.at_ ∨ t.end_ ≤ off then [] else t :: aroundL off t.kids := by cases t; rw [aroundT]; rfl
theorem around_below {n : Nat} (off : Int) : ∀ (d : Nat) (t : Tree), Hgt d t → Wid n t → ∀ x ∈ aroundT off t, Hgt d x ∧ Wid n x
  | 0, t, h, hw => by cases h
  | d + 1, t, h, hw => by
    have hl : ∀ l : List Tree, (∀ y ∈ l, y ∈ t.kids) → ∀ x ∈ aroundL off l, Hgt (d + 1) x ∧ Wid n x := by
      intro l
      induction l with
      | nil => intro _ x hx; rw [aroundL] at hx; cases hx
      | cons y r ih =>
        intro hs x hx
        rw [aroundL] at hx
        split at hx
        · exact ih (fun z hz => hs z (List.mem_cons_of_mem _ hz)) x hx
        · have hy := hs y List.mem_cons_self
          obtain ⟨a, b⟩ := around_below off d y (h.kid hy) (hw.kid hy) x hx
          exact ⟨a.mono (by omega), b⟩
    intro x hx
    rw [aroundT_eq] at hx
    split at hx
    · cases hx
    · rcases List.mem_cons.1 hx with rfl | hx
      · exact ⟨h, hw⟩
      · exact hl t.kids (fun _ h => h) x hx
theorem kidRows_append (a b : List Tree) : kidRows (a ++ b) = kidRows a ++ kidRows b := by rw [kidRows_map, kidRows_map, kidRows_map, List.map_append]
section
variable {n : Nat} {sg : List (List PV)}
theorem pnodes_loop {k : Nat} {K : Res → Out} {i0 i2 i3 i5 i7 i8 : Int} {t1 t6 : ByteArray} {r4 r9 : List (List PV)} (hL : n ≤ 4611686018427387904) (ks : List Tree)
    (ih : ∀ t ∈ ks, ∀ K : Res → Out, callW (En n) k 20 [nodeV t] sg K = K ⟨false, .list false (kidRows (nodesT t))⟩ sg) (hn : ks.length < n) :
    ∀ (r : List Tree) (i m : Nat) (acc : List Tree) (p11 p15 : PV), ks.drop i = r → i ≤ ks.length → r.length < m → acc.length + (nodesL r).length ≤ mostL → NB p11 →
    L n (callW (En n) k) 20 [1, 1, 0, 1, 0, 0] (syntax_Nodes.S0 i0 t1 i2 i3 r4 i5 t6 i7 i8 r9 (kidRows acc) p11 (kidRows ks) (ks.length : Int) (i : Int) p15) sg (syntax_Nodes.K0 (callW (En n) k) n K) m = K ⟨false, .list false (kidRows (acc ++ nodesL r))⟩ sg
  | r, i, 0, _, _, _, _, _, hm, _, _ => by omega
  | [], i, m + 1, acc, p11, p15, hr, hi, hm, hc, _ => by
    have : i = ks.length := by have := List.drop_eq_nil_iff.1 hr; omega
    subst this
    rw [L_succ, syntax_Nodes.loop0, decide_eq_false (show ¬ ((ks.length : Int) < (ks.length : Int)) by omega), bcond_f, nodesL, List.append_nil]
  | y :: r, i, m + 1, acc, p11, p15, hr, hi, hm, hc, h11 => by
    obtain ⟨hil, hy, hr'⟩ := drop_some hr
    have hmem : y ∈ ks := List.mem_of_mem_drop (by rw [hr]; exact List.mem_cons_self)
    have ew : IntKind.i64.wrap ((i : Int) + 1) = ((i + 1 : Nat) : Int) := wrap_id _ (by omega) (by omega)
    rw [nodesL_cons, List.length_append] at hc
    rw [L_succ, syntax_Nodes.loop0, decide_eq_true (show (i : Int) < (ks.length : Int) by omega), bcond_t, kid_chk ks i hil, kid_at ks i hil, hy, h11 5]
    show chk true (chk true (chk true (chk true (chk true (chk true (chk true (chk true (chk true (cP (callW (En n) k) 20 [nodeV y] sg (pan K) _))))))))) = _
    simp only [chk_t]
    rw [cP, ih y hmem]
    show chk (true && (rowsOk 5 (kidRows acc) && (rowsOk 5 (kidRows (nodesT y)) && decide ((kidRows acc).length + (kidRows (nodesT y)).length ≤ mostL)))) (L n _ 20 _ (syntax_Nodes.S0 i0 t1 i2 i3 r4 i5 t6 i7 i8 r9 (kidRows acc ++ kidRows (nodesT y)) _ _ _ _ _) sg _ m) = _
    rw [kidRows_ok, kidRows_ok, kidRows_len, kidRows_len, decide_eq_true (show acc.length + (nodesT y).length ≤ mostL by omega), Bool.and_self, Bool.and_self, Bool.and_self, chk_t, ← kidRows_append, ew, nodesL_cons, ← List.append_assoc]
    exact pnodes_loop hL ks ih hn r (i + 1) m (acc ++ nodesT y) _ _ hr' (by omega) (by simp at hm; omega) (by rw [List.length_append]; omega) (fun _ => rfl)
theorem pnodes_spec (hL : n ≤ 4611686018427387904) : ∀ (d k : Nat) (t : Tree) (K : Res → Out), Hgt d t → d ≤ k → Wid n t → cntT t ≤ mostL → callW (En n) k 20 [nodeV t] sg K = K ⟨false, .list false (kidRows (nodesT t))⟩ sg
  | 0, k, t, K, h, hk, hw, hc => by cases h
  | d + 1, k, t, K, h, hk, hw, hc => by
    rw [callW_at (by omega) rfl]
    show B n _ 20 sg [.agg [.int .i64 t.kind, .str t.text, .int .i64 t.at_, .int .i64 t.end_, .list false (kidRows t.kids)]] K = _
    have e : cntT t = (nodesL t.kids).length + 1 := by unfold cntT; rw [nodesT_eq]; rfl
    rw [syntax_Nodes.eq, nodesT_eq, kidRows_len, show [[PV.int .i64 t.kind, .str t.text, .int .i64 t.at_, .int .i64 t.end_, .list false (kidRows t.kids)]] = kidRows [t] by rw [kidRows_map [t]]; show _ = [nodeRow t]; rw [nodeRow_eq]]
    exact pnodes_loop hL t.kids (fun x hx K => pnodes_spec hL d (k - 1) x K (h.kid hx) (by omega) (hw.kid hx) (by have := cnt_kid hx; omega)) hw.len t.kids 0 n [t] _ _ rfl (by omega) hw.len (by show 1 + _ ≤ _; omega) (fun _ => rfl)
/-- A list's end is put behind another's. -/
theorem rnodes_inner {k m0 : Nat} {K : Res → Out} {i0 i2 i3 i5 i7 i8 i11 : Int} {t1 t6 : ByteArray} {r4 r9 : List (List PV)} {b14 : Bool} {R : Prop} (hL : n ≤ 4611686018427387904) (l : List Tree) (o : Bool) (hn : l.length < n) :
    ∀ (r : List Tree) (j m : Nat) (acc : List Tree) (p15 : PV), l.drop j = r → j ≤ l.length → r.length < m → acc.length + r.length ≤ mostL →
    (∀ p12 p13 p14 p15, L n (callW (En n) k) 21 [1, 1, 0, 1, 0, 0] (R12_Nodes.S0 i0 t1 i2 i3 r4 i5 t6 i7 i8 r9 (kidRows (acc ++ r)) (IntKind.i64.wrap (i11 + 1)) p12 p13 p14 p15) sg (R12_Nodes.K0 (callW (En n) k) n K) m0 = R) →
    L n (callW (En n) k) 21 [1, 1, 0, 1, 0, 0, 1, 0, 0, 1, 1, 0, 0] (R12_Nodes.S2 i0 t1 i2 i3 r4 i5 t6 i7 i8 r9 (kidRows acc) i11 (.list o (kidRows l)) (j : Int) b14 p15) sg (R12_Nodes.K2 (callW (En n) k) n m0 K) m = R
  | r, j, 0, _, _, _, _, hm, _, _ => by omega
  | [], j, m + 1, acc, p15, hr, hj, hm, hc, H => by
    have : j = l.length := by have := List.drop_eq_nil_iff.1 hr; omega
    subst this
    have e2 : (((PV.list o (kidRows l)).strip).strip).rows = kidRows l := rfl
    rw [L_succ, R12_Nodes.loop2, e2, kidRows_len, decide_eq_false (show ¬ ((l.length : Int) < (l.length : Int)) by omega), bcond_f]
    show chk true _ = _
    rw [chk_t]
    rw [List.append_nil] at H
    exact H _ _ _ _
  | y :: r, j, m + 1, acc, p15, hr, hj, hm, hc, H => by
    obtain ⟨hjl, hy, hr'⟩ := drop_some hr
    have ew : IntKind.i64.wrap ((j : Int) + 1) = ((j + 1 : Nat) : Int) := wrap_id _ (by omega) (by omega)
    have e2 : (((PV.list o (kidRows l)).strip).strip).rows = kidRows l := rfl
    simp only [List.length_cons] at hc hm
    rw [L_succ, R12_Nodes.loop2, e2, kid_chk l j hjl, kidRows_len, decide_eq_true (show (j : Int) < (l.length : Int) by omega), bcond_t, kid_at l j hjl, hy, kidRows_ok, kidRows_len, decide_eq_true (show acc.length + 1 ≤ mostL by omega), ew]
    show chk true (chk true (chk true (chk true (chk true (chk true (chk true (chk true (chk true (chk true (L n _ 21 _ (R12_Nodes.S2 i0 t1 i2 i3 r4 i5 t6 i7 i8 r9 (kidRows acc ++ [[.int .i64 y.kind, .str y.text, .int .i64 y.at_, .int .i64 y.end_, .list false (kidRows y.kids)]]) i11 _ _ _ _) sg _ m)))))))))) = _
    simp only [chk_t]
    rw [← nodeRow_eq, kidRows_app]
    exact rnodes_inner hL l o hn r (j + 1) m (acc ++ [y]) _ hr' (by omega) (by omega) (by simp; omega) (by rw [List.append_assoc]; exact H)
theorem rnodes_loop {k : Nat} {K : Res → Out} {i0 i2 i3 i5 i7 i8 : Int} {t1 t6 : ByteArray} {r4 : List (List PV)} (hL : n ≤ 4611686018427387904) (ks : List Tree)
    (ih : ∀ t ∈ ks, ∀ K : Res → Out, callW (En n) k 21 [nodeV t] sg K = K ⟨false, .list false (kidRows (nodesT t))⟩ sg) (hn : ks.length < n) :
    ∀ (r : List Tree) (i m : Nat) (acc : List Tree) (p12 p13 p14 p15 : PV), ks.drop i = r → i ≤ ks.length → r.length < m → acc.length + (nodesL r).length ≤ mostL → (nodesL r).length < n →
    L n (callW (En n) k) 21 [1, 1, 0, 1, 0, 0] (R12_Nodes.S0 i0 t1 i2 i3 r4 i5 t6 i7 i8 (kidRows ks) (kidRows acc) (i : Int) p12 p13 p14 p15) sg (R12_Nodes.K0 (callW (En n) k) n K) m = K ⟨false, .list false (kidRows (acc ++ nodesL r))⟩ sg
  | r, i, 0, _, _, _, _, _, _, _, hm, _, _ => by omega
  | [], i, m + 1, acc, p12, p13, p14, p15, hr, hi, hm, hc, _ => by
    have : i = ks.length := by have := List.drop_eq_nil_iff.1 hr; omega
    subst this
    rw [L_succ, R12_Nodes.loop0, kidRows_len, decide_eq_false (show ¬ ((ks.length : Int) < (ks.length : Int)) by omega), bcond_f, nodesL, List.append_nil]
  | y :: r, i, m + 1, acc, p12, p13, p14, p15, hr, hi, hm, hc, hz => by
    obtain ⟨hil, hy, hr'⟩ := drop_some hr
    have hmem : y ∈ ks := List.mem_of_mem_drop (by rw [hr]; exact List.mem_cons_self)
    have ew : IntKind.i64.wrap ((i : Int) + 1) = ((i + 1 : Nat) : Int) := wrap_id _ (by omega) (by omega)
    rw [nodesL_cons, List.length_append] at hc hz
    rw [L_succ, R12_Nodes.loop0, kid_i ks i hil, kidRows_len, decide_eq_true (show (i : Int) < (ks.length : Int) by omega), bcond_t, kid_at ks i hil, hy]
    show chk true (chk true (chk true (chk true (chk true (chk true (chk true (chk true (cP (callW (En n) k) 21 [nodeV y] sg (pan K) _)))))))) = _
    rw [kk, cP, ih y hmem]
    show C n _ 21 _ (R12_Nodes.S1 i0 t1 i2 i3 r4 i5 t6 i7 i8 (kidRows ks) (kidRows acc) (i : Int) (.list false (kidRows (nodesT y))) p13 true p15) sg _ = _
    rw [C_eq, R12_Nodes.cut1]
    refine rnodes_inner hL (nodesT y) false (by omega) (nodesT y) 0 n acc _ rfl (by omega) (by omega) (by omega) fun p12 p13 p14 p15 => ?_
    rw [ew, nodesL_cons, ← List.append_assoc]
    exact rnodes_loop hL ks ih hn r (i + 1) m (acc ++ nodesT y) _ _ _ _ hr' (by omega) (by simp at hm; omega) (by rw [List.length_append]; omega) (by omega)
theorem rnodes_spec (hL : n ≤ 4611686018427387904) : ∀ (d k : Nat) (t : Tree) (K : Res → Out), Hgt d t → d ≤ k → Wid n t → cntT t ≤ mostL → cntT t < n → callW (En n) k 21 [nodeV t] sg K = K ⟨false, .list false (kidRows (nodesT t))⟩ sg
  | 0, k, t, K, h, hk, hw, hc, hz => by cases h
  | d + 1, k, t, K, h, hk, hw, hc, hz => by
    rw [callW_at (by omega) rfl]
    show B n _ 21 sg [.agg [.int .i64 t.kind, .str t.text, .int .i64 t.at_, .int .i64 t.end_, .list false (kidRows t.kids)]] K = _
    have e : cntT t = (nodesL t.kids).length + 1 := by unfold cntT; rw [nodesT_eq]; rfl
    rw [R12_Nodes.eq, nodesT_eq, show [[PV.int .i64 t.kind, .str t.text, .int .i64 t.at_, .int .i64 t.end_, .list false (kidRows t.kids)]] = kidRows [t] by rw [kidRows_map [t]]; show _ = [nodeRow t]; rw [nodeRow_eq]]
    exact rnodes_loop hL t.kids (fun x hx K => rnodes_spec hL d (k - 1) x K (h.kid hx) (by omega) (hw.kid hx) (by have := cnt_kid hx; omega) (by have := cnt_kid hx; omega)) hw.len t.kids 0 n [t] _ _ _ _ rfl (by omega) hw.len (by show 1 + _ ≤ _; omega) (by omega)
theorem raround_inner {k m1 : Nat} {K : Res → Out} {i0 i2 i3 i5 i6 i8 i9 i12 : Int} {t1 t7 : ByteArray} {r4 r10 : List (List PV)} {b15 b16 b17 : Bool} {p13 : PV} (hL : n ≤ 4611686018427387904) (l : List Tree) (hn : l.length < n) (h13 : p13.strip.strip.rows = kidRows l) (hi13 : p13.strip.strip.isL = true) :
    ∀ (r : List Tree) (j m : Nat) (acc : List Tree) (p18 : PV), l.drop j = r → j ≤ l.length → r.length < m → acc.length + r.length ≤ mostL →
    L n (callW (En n) k) 23 [1, 1, 1, 0, 1, 0, 0, 1, 0, 0, 1, 1, 0, 0, 1, 0, 0] (R12_Around.S3 i0 t1 i2 i3 r4 i5 i6 t7 i8 i9 r10 (kidRows acc) i12 p13 (j : Int) b15 b16 b17 p18) sg (R12_Around.K3 (callW (En n) k) n m1 K) m = K ⟨false, .list false (kidRows (acc ++ r))⟩ sg
  | r, j, 0, _, _, _, _, hm, _ => by omega
  | [], j, m + 1, acc, p18, hr, hj, hm, hc => by
    have : j = l.length := by have := List.drop_eq_nil_iff.1 hr; omega
    subst this
    rw [L_succ, R12_Around.loop3, h13, hi13, kidRows_len, decide_eq_false (show ¬ ((l.length : Int) < (l.length : Int)) by omega), bcond_f, chk_t, List.append_nil]
  | y :: r, j, m + 1, acc, p18, hr, hj, hm, hc => by
    obtain ⟨hjl, hy, hr'⟩ := drop_some hr
    have ew : IntKind.i64.wrap ((j : Int) + 1) = ((j + 1 : Nat) : Int) := wrap_id _ (by omega) (by omega)
    simp only [List.length_cons] at hc hm
    rw [L_succ, R12_Around.loop3, h13, hi13, kid_chk l j hjl, kidRows_len, decide_eq_true (show (j : Int) < (l.length : Int) by omega), bcond_t, kid_at l j hjl, hy, kidRows_ok, kidRows_len, decide_eq_true (show acc.length + 1 ≤ mostL by omega), ew]
    show chk true (chk true (chk true (chk true (chk true (chk true (chk true (chk true (chk true (chk true (L n _ 23 _ (R12_Around.S3 i0 t1 i2 i3 r4 i5 i6 t7 i8 i9 r10 (kidRows acc ++ [[.int .i64 y.kind, .str y.text, .int .i64 y.at_, .int .i64 y.end_, .list false (kidRows y.kids)]]) i12 _ _ _ _ _ _) sg _ m)))))))))) = _
    simp only [chk_t]
    rw [← nodeRow_eq, kidRows_app, raround_inner hL l hn h13 hi13 r (j + 1) m (acc ++ [y]) _ hr' (by omega) (by omega) (by simp; omega), List.append_assoc]
    rfl
theorem raround_loop {k d : Nat} {K : Res → Out} {i0 i2 i3 off i6 i8 i9 : Int} {t1 t7 : ByteArray} {r4 : List (List PV)} {b14 : Bool} (hd : d ≤ 1000000) (hz : d < n) (hL : n ≤ 4611686018427387904) (x : Tree) (ks : List Tree) (hh : ∀ t ∈ ks, Hgt d t)
    (ih : ∀ t ∈ ks, ∀ K : Res → Out, callW (En n) k 23 [nodeV t, .int .i64 off] sg K = K ⟨false, .list (aroundT off t).isEmpty (kidRows (aroundT off t))⟩ sg) (hn : ks.length < n) :
    ∀ (r : List Tree) (i m : Nat) (p13 p15 p16 : PV), ks.drop i = r → i ≤ ks.length → r.length < m →
    L n (callW (En n) k) 23 [1, 1, 1, 0, 1, 0, 0] (R12_Around.S1 i0 t1 i2 i3 r4 off i6 t7 i8 i9 (kidRows ks) (kidRows [x]) (i : Int) p13 b14 p15 p16) sg (R12_Around.K1 (callW (En n) k) n K) m = K ⟨false, .list false (kidRows (x :: aroundL off r))⟩ sg
  | r, i, 0, _, _, _, _, _, hm => by omega
  | [], i, m + 1, p13, p15, p16, hr, hi, hm => by
    have : i = ks.length := by have := List.drop_eq_nil_iff.1 hr; omega
    subst this
    rw [L_succ, R12_Around.loop1, kidRows_len, decide_eq_false (show ¬ ((ks.length : Int) < (ks.length : Int)) by omega), bcond_f, aroundL]
  | y :: r, i, m + 1, p13, p15, p16, hr, hi, hm => by
    obtain ⟨hil, hy, hr'⟩ := drop_some hr
    have hmem : y ∈ ks := List.mem_of_mem_drop (by rw [hr]; exact List.mem_cons_self)
    have ew : IntKind.i64.wrap ((i : Int) + 1) = ((i + 1 : Nat) : Int) := wrap_id _ (by omega) (by omega)
    rw [L_succ, R12_Around.loop1, kid_i ks i hil, kidRows_len, decide_eq_true (show (i : Int) < (ks.length : Int) by omega), bcond_t, kid_at ks i hil, hy]
    show chk true (chk true (chk true (chk true (chk true (chk true (chk true (chk true (cP (callW (En n) k) 23 [nodeV y, .int .i64 off] sg (pan K) _)))))))) = _
    rw [kk, cP, ih y hmem]
    have hal := around_len off d y (hh y hmem)
    rw [aroundL]
    generalize aroundT off y = l at hal
    show C n _ 23 _ (R12_Around.S2 i0 t1 i2 i3 r4 off i6 t7 i8 i9 (kidRows ks) (kidRows [x]) (i : Int) (mval (.list l.isEmpty (kidRows l))) b14 true p16) sg _ = _
    have h13 : (mval (.list l.isEmpty (kidRows l))).strip.strip.rows = kidRows l := by cases l <;> rfl
    have hi13 : (mval (.list l.isEmpty (kidRows l))).strip.strip.isL = true := by cases l <;> rfl
    rw [C_eq, R12_Around.cut2, h13, hi13, chk_t, kidRows_len]
    cases l with
    | nil =>
      rw [decide_eq_false (show ¬ ((([] : List Tree).length : Int) > 0) by simp), bcond_f, ew, if_pos (show ([] : List Tree).isEmpty = true from rfl)]
      exact raround_loop hd hz hL x ks hh ih hn r (i + 1) m _ _ _ hr' (by omega) (by simp at hm; omega)
    | cons z w =>
      rw [decide_eq_true (show (((z :: w).length : Int) > 0) by simp), bcond_t, if_neg (by simp)]
      exact (raround_inner hL (z :: w) (by omega) h13 hi13 (z :: w) 0 n [x] _ rfl (by omega) (by omega) (by unfold mostL; simp only [List.length_cons, List.length_nil] at hal ⊢; omega))
theorem raround_spec (hL : n ≤ 4611686018427387904) (off : Int) : ∀ (d k : Nat) (t : Tree) (K : Res → Out), d ≤ 1000000 → d < n → Hgt d t → d ≤ k → Wid n t → callW (En n) k 23 [nodeV t, .int .i64 off] sg K = K ⟨false, .list (aroundT off t).isEmpty (kidRows (aroundT off t))⟩ sg
  | 0, k, t, K, hd, hz, h, hk, hw => by cases h
  | d + 1, k, t, K, hd, hz, h, hk, hw => by
    rw [callW_at (by omega) rfl]
    show B n _ 23 sg [.agg [.int .i64 t.kind, .str t.text, .int .i64 t.at_, .int .i64 t.end_, .list false (kidRows t.kids)], .int .i64 off] K = _
    rw [R12_Around.eq, aroundT_eq]
    by_cases h1 : off < t.at_
    · rw [decide_eq_true h1, bcond_t, if_pos (.inl h1)]; rfl
    rw [decide_eq_false h1, bcond_f]
    by_cases h2 : off ≥ t.end_
    · rw [decide_eq_true h2, bcond_t, if_pos (.inr h2)]; rfl
    rw [decide_eq_false h2, bcond_f, if_neg (by omega), C_eq, R12_Around.cut0, show [[PV.int .i64 t.kind, .str t.text, .int .i64 t.at_, .int .i64 t.end_, .list false (kidRows t.kids)]] = kidRows [t] by rw [kidRows_map [t]]; show _ = [nodeRow t]; rw [nodeRow_eq]]
    exact raround_loop (by omega) (by omega) hL t t.kids (fun x hx => h.kid hx) (fun x hx K => raround_spec hL off d (k - 1) x K (by omega) (by omega) (h.kid hx) (by omega) (hw.kid hx)) hw.len t.kids 0 n _ _ _ rfl (by omega) hw.len
/-- Lists that are the same. -/
theorem lsame_loop {k d : Nat} {K : Res → Out} {b3 : Bool} (hL : n ≤ 4611686018427387904) (l : List Tree) (hh : ∀ x ∈ l, Hgt d x ∧ Wid n x) (hk : d ≤ k) (hn : l.length < n) : ∀ (r : List Tree) (i m : Nat) (p4 p5 : PV), l.drop i = r → i ≤ l.length → r.length < m →
    L n (callW (En n) k) 19 [1, 1, 0, 1, 0, 0] (Law12_same.S0 (kidRows l) (kidRows l) (i : Int) b3 p4 p5) sg (Law12_same.K0 (callW (En n) k) n K) m = K ⟨false, .bool true⟩ sg
  | r, i, 0, _, _, _, _, hm => by omega
  | [], i, m + 1, p4, p5, hr, hi, hm => by
    have : i = l.length := by have := List.drop_eq_nil_iff.1 hr; omega
    subst this
    rw [L_succ, Law12_same.loop0, kidRows_len, decide_eq_false (show ¬ ((l.length : Int) < (l.length : Int)) by omega), bcond_f]
  | y :: r, i, m + 1, p4, p5, hr, hi, hm => by
    obtain ⟨hil, hy, hr'⟩ := drop_some hr
    have hmem : y ∈ l := List.mem_of_mem_drop (by rw [hr]; exact List.mem_cons_self)
    have ew : IntKind.i64.wrap ((i : Int) + 1) = ((i + 1 : Nat) : Int) := wrap_id _ (by omega) (by omega)
    obtain ⟨hg, hw⟩ := hh y hmem
    rw [L_succ, Law12_same.loop0, kid_i l i hil, kidRows_len, decide_eq_true (show (i : Int) < (l.length : Int) by omega), bcond_t, kid_at l i hil, hy, ew]
    show chk true (chk true (chk true (chk true (chk true (chk true (chk true (chk true (chk true (chk true (chk true (chk true (chk true (chk true (chk true (chk true (cB (callW (En n) k) 13 [nodeV y, nodeV y] sg (pan K) _)))))))))))))))) = _
    simp only [chk_t]
    rw [cB_of _ (fun K => sameAll_spec hL d k y y K hg hk hw), same_self, Bool.not_true, bcond_f]
    exact lsame_loop hL l hh hk hn r (i + 1) m _ _ hr' (by omega) (by simp at hm; omega)
theorem lsame_spec {k d : Nat} {K : Res → Out} (hL : n ≤ 4611686018427387904) (l : List Tree) (hh : ∀ x ∈ l, Hgt d x ∧ Wid n x) (hk : d + 1 ≤ k) (hn : l.length < n) : callW (En n) k 19 [.list false (kidRows l), .list false (kidRows l)] sg K = K ⟨false, .bool true⟩ sg := by
  rw [callW_at (by omega) rfl, Law12_same.eq, show (((kidRows l).length : Int) != ((kidRows l).length : Int)) = false by simp, bcond_f]
  exact lsame_loop hL l hh (by omega) hn l 0 n _ _ rfl (by omega) hn
end
end Go.Ev
namespace Go.Ev
open PV Go.RowKit Go.Proofs
open Go.Proofs.YtmofhelddcnecaaGreatDoor.Rows (uptoBulk uptoBulkAll)
theorem bulk_one {H : Type} (d : DataW H) : 1 ≤ uptoBulk d := by
  cases d with
  | lit l => cases l <;> simp [uptoBulk]
  | nil => simp [uptoBulk]
  | ptr d => simp [uptoBulk]
  | slice elems spare => simp [uptoBulk]
  | agg parts => simp [uptoBulk]
  | iface t d => simp [uptoBulk]
  | map entries => simp [uptoBulk]
  | held h => simp [uptoBulk]
theorem bulk_sum {H : Type} : ∀ (ts : List Tree) (es : List (DataW H)), ts.length = es.length → (∀ (i : Nat) (t : Tree) (e : DataW H), ts[i]? = some t → es[i]? = some e → 2 * cntT t ≤ uptoBulk e) → 2 * (nodesL ts).length ≤ uptoBulkAll es
  | [], es, hl, h => by rw [nodesL]; simp
  | t :: ts, [], hl, h => by simp at hl
  | t :: ts, e :: es, hl, h => by
    have h0 := h 0 t e rfl rfl
    have ih := bulk_sum ts es (by simpa using hl) fun i t e h1 h2 => h (i + 1) t e (by simpa using h1) (by simpa using h2)
    rw [nodesL_cons, List.length_append]
    simp only [uptoBulkAll]
    unfold cntT at h0
    omega
set_option maxRecDepth 100000 in
theorem opens_bulk {W : World} {H : Type} {enc : TypeId × Value → H} {base : Nat} {spare : Nat → Bool} {held : Bool} : ∀ (n : Nat) (cs : List Value) (x : DataW H × List MemPlace), DataW.trod enc Tryz.prog W base spare held n 25 cs = some x → Fits Tryz.prog 25 x.1 → ∃ t, NodeAt W t cs ∧ Sized t ∧ 2 * cntT t ≤ uptoBulk x.1 := by
  intro n
  induction n using Nat.strongRecOn with
  | _ n ih =>
  intro cs x h hw
  obtain ⟨xs, m, rfl, hx, hlen, hxs, hf⟩ := DataW.trod_struct Tryz.underlying25 h
  have hcs : cs.length = 5 := hlen.trans (by kernel_rfl)
  have hxl : xs.length = 5 := hxs
  match cs, hcs, xs, hxl, hf with
  | [c0, c1, c2, c3, c4], _, [y0, y1, y2, y3, y4], _, hf =>
    have hw : ∀ n, n ∈ DataW.weightsEach Tryz.prog [3, 9, 3, 3, 23] [y0.1, y1.1, y2.1, y3.1, y4.1] → n ≤ reachBytes := fun n hn => hw n (by
      rw [hx]
      have e : DataW.weights Tryz.prog 25 (DataW.agg [y0.1, y1.1, y2.1, y3.1, y4.1]) = DataW.weightsEach Tryz.prog [3, 9, 3, 3, 23] [y0.1, y1.1, y2.1, y3.1, y4.1] := by rw [DataW.weights, Tryz.underlying25]; rfl
      exact e ▸ hn)
    have g0 : DataW.trod enc Tryz.prog W base spare held m 3 (([c0, c1, c2, c3, c4].drop 0).take (Tryz.prog.cellsOf 3)) = some y0 := hf 0 _ rfl
    rw [show Tryz.prog.cellsOf 3 = 1 from by kernel_rfl] at g0
    obtain ⟨a0, e0, _, w0⟩ := DataW.trod_int Tryz.underlying3 g0
    have q0 : c0 = .int .i64 a0 := by simpa using e0
    have g1 : DataW.trod enc Tryz.prog W base spare held m 9 (([c0, c1, c2, c3, c4].drop 1).take (Tryz.prog.cellsOf 9)) = some y1 := hf 1 _ rfl
    rw [show Tryz.prog.cellsOf 9 = 1 from by kernel_rfl] at g1
    obtain ⟨a1, e1, f1, w1⟩ := DataW.trod_string Tryz.underlying9 g1
    have z1 : a1.size ≤ reachBytes := by
      have := hw a1.data.toList.length (DataW.weights_mem_each (j := 1) (t := 9) (d := y1.1) rfl rfl _ (by rw [f1]; simp [DataW.weights]))
      rw [len_data] at this; exact this
    have q1 : c1 = .string a1 := by simpa using e1
    have g2 : DataW.trod enc Tryz.prog W base spare held m 3 (([c0, c1, c2, c3, c4].drop 2).take (Tryz.prog.cellsOf 3)) = some y2 := hf 2 _ rfl
    rw [show Tryz.prog.cellsOf 3 = 1 from by kernel_rfl] at g2
    obtain ⟨a2, e2, _, w2⟩ := DataW.trod_int Tryz.underlying3 g2
    have q2 : c2 = .int .i64 a2 := by simpa using e2
    have g3 : DataW.trod enc Tryz.prog W base spare held m 3 (([c0, c1, c2, c3, c4].drop 3).take (Tryz.prog.cellsOf 3)) = some y3 := hf 3 _ rfl
    rw [show Tryz.prog.cellsOf 3 = 1 from by kernel_rfl] at g3
    obtain ⟨a3, e3, _, w3⟩ := DataW.trod_int Tryz.underlying3 g3
    have q3 : c3 = .int .i64 a3 := by simpa using e3
    have g4 : DataW.trod enc Tryz.prog W base spare held m 23 (([c0, c1, c2, c3, c4].drop 4).take (Tryz.prog.cellsOf 23)) = some y4 := hf 4 _ rfl
    rw [show Tryz.prog.cellsOf 23 = 1 from by kernel_rfl] at g4
    subst q0 q1 q2 q3
    have fin : ∀ (ks : List Tree), (∀ t ∈ ks, Sized t) → ks.length ≤ reachBytes → Rep (γ0 W).I [] (.list false (kidRows ks)) c4 → 2 * (nodesL ks).length ≤ uptoBulk y4.1 → ∃ t, NodeAt W t [.int .i64 a0, .string a1, .int .i64 a2, .int .i64 a3, c4] ∧ Sized t ∧ 2 * cntT t ≤ uptoBulk x.1 := by
      intro ks hk hl hr hb
      refine ⟨.mk a0 a1 a2 a3 ks, ⟨rfl, fun j hj => ?_⟩, ⟨.mk _ _ _ _ _ (by omega) fun x hx => (hk x hx).1, .mk _ _ _ _ _ (by omega) fun x hx => (hk x hx).2⟩, ?_⟩
      · have : j = 0 ∨ j = 1 ∨ j = 2 ∨ j = 3 ∨ j = 4 := by omega
        rcases this with rfl | rfl | rfl | rfl | rfl
        · exact .int _ _
        · exact .str _
        · exact .int _ _
        · exact .int _ _
        · exact hr
      · have e : cntT (.mk a0 a1 a2 a3 ks) = (nodesL ks).length + 1 := by unfold cntT; rw [nodesT_eq]; rfl
        have b0 := bulk_one y0.1
        have b1 := bulk_one y1.1
        have b2 := bulk_one y2.1
        have b3 := bulk_one y3.1
        rw [e, hx]
        show _ ≤ uptoBulk (DataW.agg [y0.1, y1.1, y2.1, y3.1, y4.1])
        simp only [uptoBulk, uptoBulkAll]
        omega
    rcases DataW.trod_slice Tryz.underlying23 g4 with ⟨e4, _⟩ | ⟨a, len, cap, elems, rest, m', rfl, e4, hy4, hb, hl, hm, hle, hel, _, _⟩
    · have q4 : c4 = .slice none 0 0 := by simpa using e4
      subst q4
      exact fin [] (fun _ h => by cases h) (Nat.zero_le _) .nil (by rw [nodesL]; simp)
    · have q4 : c4 = .slice (some a) len cap := by simpa using e4
      subst q4
      have hsz : Tryz.prog.cellsOf 25 = 5 := by kernel_rfl
      have h4 : ∀ n, n ∈ DataW.weights Tryz.prog 23 y4.1 → n ≤ reachBytes := fun n hn => hw n (DataW.weights_mem_each (j := 4) (t := 23) (d := y4.1) rfl rfl n hn)
      rw [hy4, DataW.weights, Tryz.underlying23] at h4
      have hby : Tryz.prog.bytesOf 25 = 64 := by kernel_rfl
      have hlr : len ≤ reachBytes := by
        have := h4 _ (List.mem_cons_self)
        rw [hby, List.length_map, hle] at this
        have := Nat.le_trans (Nat.mul_le_mul (Nat.le_add_right _ _) (show 1 ≤ 64 by omega)) this
        omega
      have hel4 : ∀ y ∈ elems, Fits Tryz.prog 25 y.1 := fun y hy n hn => h4 n (List.mem_cons_of_mem _ (List.mem_append_left _ (weights_all (List.mem_map_of_mem hy) n hn)))
      obtain ⟨ts, h1, h2⟩ := pickT (n := len) (p := fun i t => ∃ c : List Value, W.cells? base (a.add (i * 5)) 5 = some c ∧ NodeAt W t c ∧ Sized t ∧ ∀ e, (elems.map (·.1))[i]? = some e → 2 * cntT t ≤ uptoBulk e) (fun i hi => by
        have h1 := hel i hi
        rw [List.getElem?_eq_getElem (by omega)] at h1
        obtain ⟨c, h2, h3⟩ := Option.bind_eq_some_iff.1 h1
        rw [hsz] at h2
        obtain ⟨t, ht⟩ := ih _ (by omega) c _ h3 (hel4 _ (List.getElem_mem _))
        exact ⟨t, c, h2, ht.1, ht.2.1, fun e he => by
          rw [List.getElem?_map, List.getElem?_eq_getElem (by omega)] at he
          cases he
          exact ht.2.2⟩)
      subst h1
      refine fin ts (fun t ht => ?_) hlr ?_ ?_
      · obtain ⟨i, hi⟩ := List.getElem?_of_mem ht
        obtain ⟨c, _, _, hs, _⟩ := h2 i t hi
        exact hs
      · have hsp : ts ≠ [] → a.spot = none := fun hne => by
          have h0 : 0 < ts.length := List.length_pos_iff.2 hne
          obtain ⟨c, hc, _⟩ := h2 0 ts[0] (List.getElem?_eq_getElem h0)
          obtain ⟨_, hcl, hcc⟩ := World.cells?_some hc
          have h3 := hcc 0 (by omega)
          rw [List.getElem?_eq_getElem (by omega)] at h3
          have e : (a.add (0 * 5)).add 0 = a := rfl
          rw [e] at h3
          unfold World.cell? at h3
          cases hs : a.spot with
          | none => rfl
          | some _ => rw [hs] at h3; split at h3 <;> simp at h3
        have hr := RowsAt.rep (γ := γ0 W) (A := a) (k := 5) (c := cap) (rows := kidRows ts) ⟨fun r hr => ?_, fun i j hi hj => ?_⟩ (fun h => hsp (by rintro rfl; exact h rfl)) (by rw [kidRows_len]; exact hl)
        · rw [kidRows_len] at hr; exact hr
        · rw [kidRows_map] at hr
          obtain ⟨y, _, rfl⟩ := List.mem_map.1 hr
          cases y; rfl
        · rw [kidRows_len] at hi
          obtain ⟨c, hc, hn, _⟩ := h2 i ts[i] (List.getElem?_eq_getElem hi)
          obtain ⟨_, hcl, hcc⟩ := World.cells?_some hc
          have h3 := hcc j hj
          have hsp := hsp (by rintro rfl; simp at hi)
          rw [List.getElem?_eq_getElem (by omega), addr_add a _ hsp, addr_add _ _ rfl] at h3
          have hrep := hn.2 j hj
          have e1 : c.getD j Go.undef = c[j]'(by omega) := by rw [List.getD_eq_getElem?_getD, List.getElem?_eq_getElem (by omega)]; rfl
          have e2 : (kidRows ts).getD i [] = nodeRow ts[i] := by rw [kidRows_map, List.getD_eq_getElem?_getD, List.getElem?_map, List.getElem?_eq_getElem hi]; rfl
          rw [e1] at hrep
          rw [e2]
          refine ⟨_, ?_, hrep.cell ?_, hrep⟩
          · show W.cell? ⟨a.block, a.off + (i * 5 + j), none⟩ = _
            rw [← Nat.add_assoc]; exact h3
          · exact node_cell _ hj
      · rw [hy4]
        have := bulk_sum ts (elems.map (·.1)) (by rw [List.length_map]; exact hle.symm) fun i t e h1 h3 => by
          obtain ⟨_, _, _, _, h4⟩ := h2 i t h1
          exact h4 e h3
        show _ ≤ uptoBulk (DataW.slice (elems.map (·.1)) (rest.map (·.1)))
        simp only [uptoBulk]
        omega
end Go.Ev
set_option maxRecDepth 4000
namespace Go.Ev
open PV
section
variable {n : Nat} {sg : List (List PV)} {K : Res → Out}
theorem cP_to {c : Caller} {f : Nat} {args : List PV} {sg sg' : List (List PV)} {X Y : PV → Out} (v : PV) (h : ∀ K : Res → Out, c f args sg K = K ⟨false, v⟩ sg') : cP c f args sg X Y = Y v sg' := by rw [cP, h]; rfl
theorem looks_spec {k d : Nat} {t : Tree} {off : Int} (hn : 2000010 ≤ n) (hL : n ≤ 4611686018427387904) (hd : Hgt d t) (hw : Wid n t) (h6 : d ≤ 1000000) (hc : cntT t ≤ 1048576) (hk : dD 601 + eD 601 + 6 * d + 100 ≤ k) (h : ∀ e, K ⟨false, .bool true⟩ (sg ++ e)) : callW (En n) k 6 [nodeV t, .int .i64 off] sg K := by
  have hm : cntT t ≤ mostL := by unfold mostL; omega
  rw [callW_at (by omega) rfl]
  show B n _ 6 sg [.agg [.int .i64 t.kind, .str t.text, .int .i64 t.at_, .int .i64 t.end_, .list false (kidRows t.kids)], .int .i64 off] K
  rw [Law12_SyntaxLooks.eq, cB]
  refine alive_spec hn hL (by omega) fun e1 => ?_
  show C n _ 6 _ (Law12_SyntaxLooks.S0 t.kind t.text t.at_ t.end_ (kidRows t.kids) off t.kind t.text t.at_ t.end_ (kidRows t.kids) false) (sg ++ e1) _
  rw [C_eq, Law12_SyntaxLooks.cut0]
  show cI _ 18 [nodeV t] _ (pan K) _
  rw [cI_of _ (fun K => rsize_spec hL d _ t K hd (by omega) hw)]
  by_cases hs : sizeT t > 300
  · exact yes (decide_eq_true hs) (h e1)
  refine no (decide_eq_false hs) ?_
  rw [C_eq, Law12_SyntaxLooks.cut1]
  show cP _ 20 [nodeV t] _ (pan K) _
  rw [cP_to _ (fun K => pnodes_spec hL d _ t K hd (by omega) hw hm)]
  show cP _ 21 [nodeV t] _ (pan K) _
  rw [cP_to _ (fun K => rnodes_spec hL d _ t K hd (by omega) hw hm (by omega))]
  show cB _ 19 [.list false (kidRows (nodesT t)), .list false (kidRows (nodesT t))] _ (pan K) _
  rw [cB_of _ (fun K => lsame_spec (d := d) hL (nodesT t) (nodes_below d t hd hw) (by omega) (by unfold cntT at hc; omega)), bcond_t]
  show cP _ 22 [nodeV t, .int .i64 off] _ (pan K) _
  rw [cP_to _ (fun K => around_spec hL off d _ t K h6 hd (by omega) hw)]
  show cP _ 23 [nodeV t, .int .i64 off] _ (pan K) _
  rw [cP_to _ (fun K => raround_spec hL off d _ t K h6 (by omega) hd (by omega) hw)]
  have e2 : (PV.list (aroundT off t).isEmpty (kidRows (aroundT off t))).strip = .list false (kidRows (aroundT off t)) := by cases aroundT off t <;> rfl
  show cB _ 19 [.list false (kidRows (aroundT off t)), (PV.list (aroundT off t).isEmpty (kidRows (aroundT off t))).strip] _ (pan K) _
  have hl := around_len off d t hd
  rw [e2, cB_of _ (fun K => lsame_spec (d := d) hL (aroundT off t) (around_below off d t hd hw) (by omega) (by omega))]
  exact h e1
end
end Go.Ev
namespace Go.Ev
open PV Go.RowKit
theorem looks_calls {W : World} (hT : ∀ c : Nat, c < 256 → W.cell? ⟨0, c, none⟩ = some (.int .u8 (if Lib.isSp (UInt8.ofNat c) then 1 else 0))) {t : Tree} {ca : Array Value} (ha : NodeAt W t ca.toList) (sa : Sized t) (hc : 2 * cntT t ≤ 1048576) (off : Int) :
    Calls Go.Proofs.Tryz.prog 6 #[.agg ca, .int .i64 off] W fun e W' => e = .returned (.bool true) ∧ Below W.heap.size W W' := by
  have hd := hgt_cnt (cntT t) t (Nat.le_refl _)
  obtain ⟨n, hn⟩ : ∃ n : Nat, n = reachBytes + 2000010 := ⟨_, rfl⟩
  have h1 : reachBytes = 140737488351232 := rfl
  have h2 : 2000010 ≤ n := by omega
  have h3 : n ≤ 4611686018427387904 := by omega
  have h4 : reachBytes + 1 ≤ n := by omega
  generalize hcd : cntT t = d at hd hc
  obtain ⟨k, hk⟩ : ∃ k : Nat, k = dD 601 + eD 601 + 6 * d + 100 := ⟨_, rfl⟩
  exact law_calls (n := n) (k := k) hT (fun K h => looks_spec h2 h3 hd (sa.1.mono h4) (by omega) (by omega) (by omega) (fun e => h _)) (args2 (rep_node ha) (.int _ _))
end Go.Ev
