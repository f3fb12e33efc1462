/- Module and Fragment of both give the same; Size, Depth, SameAll, Around. -/
import Derived.Test.YtmofhelddcnecaaGreatDoorBS
import Derived.Test.YtmofhelddcnecaaGreatDoorBR
import Derived.Test.YtmofhelddcnecaaGreatDoorBXc
import Derived.Test.YtmofhelddcnecaaGreatDoorB3
import Derived.Test.YtmofhelddcnecaaGreatDoorBZa
set_option linter.unusedVariables false
set_option linter.unusedSimpArgs false
set_option linter.unusedSectionVars false
set_option maxRecDepth 4000
namespace Go.Ev
open PV
/-- No node has n kids or more. -/
inductive Wid (n : Nat) : Tree → Prop
  | mk (kd : Int) (t : ByteArray) (a e : Int) (ks : List Tree) (h : ks.length < n) (hk : ∀ x ∈ ks, Wid n x) : Wid n (.mk kd t a e ks)
theorem Wid.len {n : Nat} {t : Tree} (h : Wid n t) : t.kids.length < n := by cases h; assumption
theorem Wid.kid {n : Nat} {t x : Tree} (h : Wid n t) (hx : x ∈ t.kids) : Wid n x := by
  cases h with
  | mk kd tx a e ks h hk => exact hk x hx
theorem Wid.mono {n m : Nat} (hm : n ≤ m) {t : Tree} (h : Wid n t) : Wid m t := by
  induction h with
  | mk kd t a e ks h hk ih => exact .mk kd t a e ks (by omega) ih
mutual
theorem wid_ex : ∀ t : Tree, ∃ n, Wid n t
  | .mk kd t a e ks => by
    obtain ⟨n, h⟩ := wid_exL ks
    exact ⟨max n (ks.length + 1), .mk kd t a e ks (by omega) fun x hx => (h x hx).mono (by omega)⟩
theorem wid_exL : ∀ l : List Tree, ∃ n, ∀ x ∈ l, Wid n x
  | [] => ⟨0, fun x h => by cases h⟩
  | t :: r => by
    obtain ⟨n, h⟩ := wid_ex t
    obtain ⟨m, h'⟩ := wid_exL r
    exact ⟨max n m, fun x hx => by
      rcases List.mem_cons.1 hx with rfl | hx
      · exact h.mono (by omega)
      · exact (h' x hx).mono (by omega)⟩
end
/-- Where the first node begins that is so many levels below. -/
def deepT : Nat → Tree → Option Int
  | 0, t => some t.at_
  | l + 1, t => t.kids.findSome? (deepT l)
section
variable {n : Nat} {sg : List (List PV)}
/-- The value of a kid that a loop reads. -/
theorem kid_chk (l : List Tree) (i : Nat) (h : i < l.length) : (rowsOk 5 (kidRows l) && (decide ((0 : Int) ≤ (i : Int)) && decide ((i : Int) < ((kidRows l).length : Int)))) = true := by
  rw [kidRows_ok, kidRows_len, decide_eq_true (show (0 : Int) ≤ (i : Int) by omega), decide_eq_true (show (i : Int) < (l.length : Int) by omega)]; rfl
theorem below_loop {k l : Nat} {K : Res → Out} {i0 i2 i3 i6 i8 i9 : Int} {t1 t7 : ByteArray} {r4 r10 : List (List PV)} {b14 : Bool} (hk : 1 ≤ k) (hl : l ≤ 12) (hL : n ≤ 4611686018427387904)
    (ih : ∀ (t : Tree) (K : Res → Out), Wid n t → callW (En n) k 57 [nodeV t, .int .i64 l] sg K = K ⟨false, .tup [.int .i64 ((deepT l t).getD 0), .bool (deepT l t).isSome]⟩ sg) (ks : List Tree) (hks : ∀ x ∈ ks, Wid n x) (hn : ks.length < n) :
    ∀ (r : List Tree) (i m : Nat) (p11 p12 p13 p18 p19 : PV), ks.drop i = r → i ≤ ks.length → r.length < m → NB p11 → NB p12 → NB p13 → NB p19 →
    L n (callW (En n) k) 57 [1, 1, 0, 1, 0, 0] (syntax_below.S0 i0 t1 i2 i3 r4 ((l + 1 : Nat) : Int) i6 t7 i8 i9 r10 p11 p12 p13 b14 (kidRows ks) (ks.length : Int) (i : Int) p18 p19) sg (syntax_below.K0 (callW (En n) k) n K) m =
      K ⟨false, .tup [.int .i64 ((r.findSome? (deepT l)).getD 0), .bool (r.findSome? (deepT l)).isSome]⟩ sg
  | r, i, 0, _, _, _, _, _, _, _, hm, _, _, _, _ => by omega
  | [], i, m + 1, p11, p12, p13, p18, p19, hr, hi, hm, _, _, _, _ => by
    have : i = ks.length := by have := List.drop_eq_nil_iff.1 hr; omega
    subst this
    rw [L_succ, syntax_below.loop0, decide_eq_false (show ¬ ((ks.length : Int) < (ks.length : Int)) by omega), bcond_f]
    rfl
  | y :: r, i, m + 1, p11, p12, p13, p18, p19, hr, hi, hm, h11, h12, h13, h19 => by
    obtain ⟨hil, hy, hr'⟩ := drop_some hr
    have hlm : ks.length ≤ n := by omega
    have hmem : y ∈ ks := List.mem_of_mem_drop (by rw [hr]; exact List.mem_cons_self)
    have e5 : IntKind.i64.wrap (((l + 1 : Nat) : Int) - 1) = (l : Int) := by rw [wrap_id _ (by omega) (by omega)]; omega
    rw [L_succ, syntax_below.loop0, decide_eq_true (show (i : Int) < (ks.length : Int) by omega), bcond_t, kid_chk ks i hil, kid_at ks i hil, hy, e5, h11 7, h12 7, h13 7, h19 7]
    show chk true (chk true (chk true (chk true (chk true (chk true (chk true (chk true (chk true (cP (callW (En n) k) 57 [nodeV y, .int .i64 l] sg (pan K) _))))))))) = _
    simp only [chk_t]
    rw [cP, ih y _ (hks y hmem)]
    show C n _ 57 _ _ _ _ = _
    rw [C_eq, syntax_below.cut1, List.findSome?_cons]
    have ew : IntKind.i64.wrap ((i : Int) + 1) = ((i + 1 : Nat) : Int) := wrap_id _ (by omega) (by omega)
    cases hd : deepT l y with
    | some a => rfl
    | none =>
      show bcond false _ (L n _ 57 _ _ _ _ _) = _
      rw [bcond_f, ew]
      exact below_loop hk hl hL ih ks hks hn r (i + 1) m _ _ _ _ _ hr' (by omega) (by simp at hm; omega) (fun _ => rfl) (fun _ => rfl) (fun _ => rfl) (fun _ => rfl)
theorem below_spec (hL : n ≤ 4611686018427387904) : ∀ (l k : Nat) (t : Tree) (K : Res → Out), l ≤ 12 → l + 1 ≤ k → Wid n t → callW (En n) k 57 [nodeV t, .int .i64 l] sg K = K ⟨false, .tup [.int .i64 ((deepT l t).getD 0), .bool (deepT l t).isSome]⟩ sg
  | 0, k, t, K, hl, hk, h => by
    rw [callW_at (by omega) rfl]
    show B n _ 57 sg [.agg [.int .i64 t.kind, .str t.text, .int .i64 t.at_, .int .i64 t.end_, .list false (kidRows t.kids)], .int .i64 0] K = _
    rw [syntax_below.eq]; rfl
  | l + 1, k, t, K, hl, hk, h => by
    rw [callW_at (by omega) rfl]
    show B n _ 57 sg [.agg [.int .i64 t.kind, .str t.text, .int .i64 t.at_, .int .i64 t.end_, .list false (kidRows t.kids)], .int .i64 ((l + 1 : Nat) : Int)] K = _
    have e : (((l + 1 : Nat) : Int) == 0) = false := by simp; omega
    rw [syntax_below.eq, e, bcond_f, kidRows_len]
    exact below_loop (by omega) (by omega) hL (fun t K h => below_spec hL l (k - 1) t K (by omega) (by omega) h) t.kids (fun x hx => h.kid hx) h.len t.kids 0 n _ _ _ _ _ rfl (by omega) h.len (fun _ => rfl) (fun _ => rfl) (fun _ => rfl) (fun _ => rfl)
end
def noTree : Tree := .mk 0 ⟨#[]⟩ 0 0 []
/-- What reading a whole text gives: the tree, and an offset and an error. -/
def outT (r : PR Tree) : Tree × Int × Int := match r with
  | .ok x _ => match deepT 12 x with
    | some a => (noTree, a, 4)
    | none => (x, 0, 0)
  | .bad a _ => (noTree, a, 11)
  | .out => (noTree, 0, 0)
def outV (o : Tree × Int × Int) : PV := .tup [nodeV o.1, .int .i64 o.2.1, .int .i64 o.2.2]
section
variable {n : Nat} {S : Src}
/-- The objects below the program's parser. -/
def pre3 (sg : List (List PV)) (c : List PV) (x y : Int) : List (List PV) := sg ++ [c, [.int .i64 x], [.int .i64 y]]
theorem pre3_len (sg : List (List PV)) (c : List PV) (x y : Int) : (pre3 sg c x y).length = sg.length + 3 := by simp [pre3]
theorem pre3_set0 (sg : List (List PV)) (c c' : List PV) (x y : Int) (post : List (List PV)) (K : List (List PV) → Prop) (hc : c.length = 5) (h : c'.length = 5) : objSet (pre3 sg c x y ++ post) sg.length 0 c' K = K (pre3 sg c' x y ++ post) := by
  have : pre3 sg c x y ++ post = sg ++ c :: ([.int .i64 x] :: [.int .i64 y] :: post) := by simp [pre3]
  rw [this, objSet_at, hc, h]
  have hs : splice c 0 c' = c' := by
    unfold splice; rw [h, List.take_zero, List.nil_append, List.drop_of_length_le (by omega), List.append_nil]
  rw [hs]
  show chk true _ = _
  rw [chk_t]; simp [pre3]
theorem pre3_get0 (sg : List (List PV)) (c : List PV) (x y : Int) (post : List (List PV)) (K : List PV → Prop) : objGet (pre3 sg c x y ++ post) sg.length K = K c := by
  have : pre3 sg c x y ++ post = sg ++ c :: ([.int .i64 x] :: [.int .i64 y] :: post) := by simp [pre3]
  rw [this, objGet_at]
theorem pre3_set1 (sg : List (List PV)) (c : List PV) (x y z : Int) (post : List (List PV)) (K : List (List PV) → Prop) : objSet (pre3 sg c x y ++ post) (sg.length + 1) 0 [.int .i64 z] K = K (pre3 sg c z y ++ post) := by
  have : pre3 sg c x y ++ post = (sg ++ [c]) ++ [.int .i64 x] :: ([.int .i64 y] :: post) := by simp [pre3]
  have hl : sg.length + 1 = (sg ++ [c]).length := by simp
  rw [this, hl, objSet_at]
  show chk true _ = _
  rw [chk_t]; simp [pre3, splice]
theorem pre3_set2 (sg : List (List PV)) (c : List PV) (x y z : Int) (post : List (List PV)) (K : List (List PV) → Prop) : objSet (pre3 sg c x y ++ post) (sg.length + 2) 0 [.int .i64 z] K = K (pre3 sg c x z ++ post) := by
  have : pre3 sg c x y ++ post = (sg ++ [c, [.int .i64 x]]) ++ [.int .i64 y] :: post := by simp [pre3]
  have hl : sg.length + 2 = (sg ++ [c, [.int .i64 x]]).length := by simp
  rw [this, hl, objSet_at]
  show chk true _ = _
  rw [chk_t]; simp [pre3, splice]
theorem pre3_int1 (sg : List (List PV)) (c : List PV) (x y : Int) (post : List (List PV)) (K : Int → Prop) : oI (pre3 sg c x y ++ post) (sg.length + 1) 0 K = K x := by
  have : pre3 sg c x y ++ post = (sg ++ [c]) ++ [.int .i64 x] :: ([.int .i64 y] :: post) := by simp [pre3]
  have hl : sg.length + 1 = (sg ++ [c]).length := by simp
  rw [this, hl]; exact oI_at _ _ _ 0 _ _ rfl
theorem pre3_int2 (sg : List (List PV)) (c : List PV) (x y : Int) (post : List (List PV)) (K : Int → Prop) : oI (pre3 sg c x y ++ post) (sg.length + 2) 0 K = K y := by
  have : pre3 sg c x y ++ post = (sg ++ [c, [.int .i64 x]]) ++ [.int .i64 y] :: post := by simp [pre3]
  have hl : sg.length + 2 = (sg ++ [c, [.int .i64 x]]).length := by simp
  rw [this, hl]; exact oI_at _ _ _ 0 _ _ rfl
end
end Go.Ev
set_option maxRecDepth 4000
namespace Go.Ev
open PV
def fieldsOf (t : Tree) : List PV := [.int .i64 t.kind, .str t.text, .int .i64 t.at_, .int .i64 t.end_, .list false (kidRows t.kids)]
theorem allF_C (n : Nat) (q : Caller) (sl : List PV) (sg : List (List PV)) (K : Res → Out) : CW (allE n) q 33 [1, 1] sl sg (fK (allE n) 33 K) = C n q 33 [1, 1] sl sg (fK (En n) 33 K) := by kernel_rfl
theorem pre3_recov (sg : List (List PV)) (c : List PV) (x y a : Int) (post : List (List PV)) (K : List (List PV) → Prop) (hc : c.length = 5) : recovAt sg.length a K (pre3 sg c x y ++ post) = K (sg ++ ([zeroC, [.int .i64 a], [.int .i64 11]] ++ post)) := by
  unfold recovAt
  rw [pre3_set0 _ _ _ _ _ _ _ hc rfl, pre3_set1, pre3_set2]
  simp [pre3]
theorem whole_ok {S : Src} {p : Ps Tree} {x : Tree} {m : Nat} (e : p S 0 = .ok x m) : wholeP p S 0 = if m < S.T.length then .bad (peekT S.T S.sz m).at_ m else .ok x m := by
  unfold wholeP; rw [Ps.bind_ap, e]; rfl
theorem whole_bad {S : Src} {p : Ps Tree} {a : Int} {m : Nat} (e : p S 0 = .bad a m) : wholeP p S 0 = .bad a m := by
  unfold wholeP; rw [Ps.bind_ap, e]; rfl
theorem whole_out {S : Src} {p : Ps Tree} (e : p S 0 = .out) : wholeP p S 0 = .out := by
  unfold wholeP; rw [Ps.bind_ap, e]; rfl
section
variable {n : Nat} {S : Src}
theorem all_spec {k d f : Nat} {first caps : List PV} {p : Ps Tree} [Fw p] {sg : List (List PV)} {K : Res → Out} (hL : n ≤ 4611686018427387904) (hone : ∀ pre post, OneF pre post n S d p f (first ++ [.ptr pre.length 0] ++ caps)) (hs : Fit S 0) (hto : wholeP p S 0 ≠ .out) (hw : ∀ x m, p S 0 = .ok x m → Wid n x)
    (h : ∀ e, K ⟨false, outV (outT (wholeP p S 0))⟩ (sg ++ e)) (hk : 20 ≤ k) (hd : d + 1 ≤ k) : callW (En n) k 33 [.list false (S.T.map tokRow), .int .i64 S.sz, .fn f first caps] sg K := by
  rw [callW_foreign (by omega) rfl]
  refine ⟨_, _, _, _, _, rfl, ?_⟩
  rw [allF_C]
  show C n _ 33 [1, 1] (syntax_all.S0 (S.T.map tokRow) S.sz f first caps sg.length (sg.length + 1) (sg.length + 2)) (pre3 sg zeroC 0 0) (syntax_all.K0 (callW (En n) (k - 1)) n (recov sg.length K))
  rw [C_eq, syntax_all.cut0]
  refine hone (pre3 sg zeroC 0 0) [] (k - 1) 0 _ _ (by omega) hs ?_
  unfold Rn
  cases e : p S 0 with
  | out => exact absurd (whole_out e) hto
  | bad a m =>
    rw [whole_bad e] at h
    show recovAt sg.length a (K ⟨false, _⟩) (psg (pre3 sg zeroC 0 0) [] S m)
    unfold psg
    rw [pre3_recov _ _ _ _ _ _ _ rfl]
    exact h _
  | ok x m =>
    have hm : m ≤ S.T.length := ((inferInstance : Fw p).fw S 0 x m (Nat.zero_le _) e).2
    have hsm := hs.mv hm
    rw [whole_ok e] at h hto
    have wx := hw x m e
    show chk _ (objSet (psg (pre3 sg zeroC 0 0) [] S m) sg.length 0 (fieldsOf x) _)
    rw [nodeV_d1, chk_t]
    unfold psg
    rw [pre3_set0 _ _ _ _ _ _ _ rfl rfl]
    have hl : (pre3 sg zeroC 0 0).length = (pre3 sg (fieldsOf x) 0 0).length := by rw [pre3_len, pre3_len]
    rw [hl]
    show C n _ 33 _ _ (psg (pre3 sg (fieldsOf x) 0 0) [] S m) _
    rw [C_eq, syntax_all.cut1, psg_nx, List.length_map]
    by_cases hc : m < S.T.length
    · rw [if_pos hc] at h
      rw [decide_eq_true (show (m : Int) < (S.T.length : Int) by omega), bcond_t, cP_pan (fun K => fail_spec (by omega) hsm)]
      show recovAt sg.length (peekT S.T S.sz m).at_ (K ⟨false, _⟩) (psg (pre3 sg (fieldsOf x) 0 0) [] S m)
      unfold psg
      rw [pre3_recov _ _ _ _ _ _ _ rfl]
      exact h _
    · rw [if_neg hc] at h
      rw [decide_eq_false (show ¬ (m : Int) < (S.T.length : Int) by omega), bcond_f, C_eq, syntax_all.cut2]
      unfold psg
      rw [pre3_get0]
      show chk true (chk true (chk true (chk true (chk true (chk true (chk true (cP (callW (En n) (k - 1)) 57 [nodeV x, .int .i64 ((12 : Nat) : Int)] _ _ _)))))))
      simp only [chk_t]
      rw [cP, below_spec hL 12 _ x _ (by omega) (by omega) wx]
      show C n _ 33 _ _ _ _
      rw [C_eq, syntax_all.cut3]
      cases hd : deepT 12 x with
      | some a =>
        have ho : outT (.ok x m) = (noTree, a, 4) := by unfold outT; dsimp only; rw [hd]
        rw [ho] at h
        show bcond true _ _
        rw [bcond_t]
        rw [pre3_set0 _ _ _ _ _ _ _ rfl rfl, pre3_set1, pre3_set2, pre3_get0]
        show chk true (chk true (chk true (chk true (chk true (chk true (chk true _))))))
        simp only [chk_t]
        rw [pre3_int1, pre3_int2]
        have := h ([zeroC, [.int .i64 a], [.int .i64 4]] ++ [[.list false (S.T.map tokRow), .int .i64 m, .int .i64 S.sz]])
        rw [← List.append_assoc] at this
        exact this
      | none =>
        have ho : outT (.ok x m) = (x, 0, 0) := by unfold outT; dsimp only; rw [hd]
        rw [ho] at h
        show bcond false _ _
        rw [bcond_f]
        rw [pre3_get0]
        show chk true (chk true (chk true (chk true (chk true (chk true (chk true (objSet _ _ _ (fieldsOf x) _)))))))
        simp only [chk_t]
        rw [pre3_set0 _ _ _ _ _ _ _ rfl rfl, pre3_set1, pre3_set2, pre3_get0]
        show chk true (chk true (chk true (chk true (chk true (chk true (chk true _))))))
        simp only [chk_t]
        rw [pre3_int1, pre3_int2]
        have := h ([fieldsOf x, [.int .i64 0], [.int .i64 0]] ++ [[.list false (S.T.map tokRow), .int .i64 m, .int .i64 S.sz]])
        rw [← List.append_assoc] at this
        exact this
theorem callF_34 (q : Caller) (args : List PV) (sg : List (List PV)) (X Y : PV → Out) : callF Go.Proofs.Tryz.prog q 34 args sg X Y = cNd q 34 args sg X fun i t a e r s => Y (.agg [.int .i64 i, .str t, .int .i64 a, .int .i64 e, .list false r]) s := by kernel_rfl
theorem callF_38 (q : Caller) (args : List PV) (sg : List (List PV)) (X Y : PV → Out) : callF Go.Proofs.Tryz.prog q 38 args sg X Y = cNd q 38 args sg X fun i t a e r s => Y (.agg [.int .i64 i, .str t, .int .i64 a, .int .i64 e, .list false r]) s := by kernel_rfl
/-- What a reader makes of a text. -/
def outM (r : SR) (sz : Int) (p : Ps Tree) : Tree × Int × Int := if r.err ≠ 0 then (noTree, r.at_, r.err) else outT (wholeP p ⟨r.toks, sz⟩ 0)
theorem module_out {k g : Nat} {s : ByteArray} {r : SR} {sg : List (List PV)} {K : Res → Out} (hg : g ≤ n) (hn : 101 ≤ n) (hL : n ≤ 4611686018427387904) (hscan : ∀ K : Res → Out, K ⟨false, scanV r⟩ sg → callW (En n) (k - 1) 32 [.str s] sg K)
    (hs : Fit ⟨r.toks, s.size⟩ 0) (hto : wholeP (moduleP g) ⟨r.toks, s.size⟩ 0 ≠ .out) (hw : ∀ x m, moduleP g ⟨r.toks, s.size⟩ 0 = .ok x m → Wid n x) (h : ∀ e, K ⟨false, outV (outM r s.size (moduleP g))⟩ (sg ++ e)) (hk : dD g + 40 ≤ k) :
    callW (En n) k 11 [.str s] sg K := by
  rw [callW_at (by omega) rfl, syntax_Module.eq, cP]
  refine hscan _ ?_
  show C n _ 11 _ (syntax_Module.S0 s (r.toks.map tokRow) r.at_ r.err) _ _
  rw [C_eq, syntax_Module.cut0]
  unfold outM at h
  by_cases he : r.err = 0
  · rw [if_neg (by simpa using he)] at h
    have : (r.err != 0) = false := by simp [he]
    rw [this, bcond_f, cP]
    exact all_spec (S := ⟨r.toks, s.size⟩) (d := dD g + 13) hL (fun pre post k nx X Y hk hs h => by rw [callF_34]; exact w_nd (fun K h => module_spec hg hn k _ K (by omega) hs h) hs h fun x m _ hs h => h) hs hto hw h (by omega) (by omega)
  · rw [if_pos (by simpa using he)] at h
    have : (r.err != 0) = true := by simp [he]
    rw [this, bcond_t]
    have := h []
    rw [List.append_nil] at this
    exact this
/-- The reader of a fragment. -/
def fragP (g : Nat) (what : Int) : Ps Tree := if what = 1 then exprP g else if what = 2 then stmtP g else declP g
instance (g : Nat) (what : Int) : Fw (fragP g what) := by unfold fragP; infer_instance
theorem frag_one {g : Nat} {what : Int} (hg : g ≤ n) (hn : 101 ≤ n) (pre post : List (List PV)) : OneF pre post n S (dD g + 13) (fragP g what) 38 ([] ++ [.ptr pre.length 0] ++ [.eaddr [.int .i64 what] 0]) := fun k nx X Y hk hs h => by
  have hd : dD g = dX g + dS g g + 40 := rfl
  rw [callF_38]
  refine w_nd (fun K h => ?_) hs h fun x m _ hs h => h
  rw [callW_at (by omega) rfl]
  show B n _ 38 _ [.ptr pre.length 0, .eaddr [.int .i64 what] 0] _
  rw [syntax_Fragment_1.eq]
  show chk true (chk true (bcond (what == 1) _ (bcond (what == 2) _ _)))
  rw [chk_t, chk_t]
  unfold fragP at h
  refine w_kindC h (fun _ h => ?_) fun _ h => w_kindC h (fun _ h => ?_) fun _ h => ?_
  · exact w_nd (fun K h => exprX hg hn (by omega) hs h) hs h fun x m _ hs h => h
  · exact w_nd (fun K h => stmt_spec hg hn _ _ K (by omega) hs h) hs h fun x m _ hs h => h
  · exact w_nd (fun K h => decl_spec hg hn _ _ K (by omega) hs h) hs h fun x m _ hs h => h
/-- What Fragment gives. -/
def outG (what : Int) (r : SR) (sz : Int) (g : Nat) : Tree × Int × Int := if what < 1 ∨ 3 < what then (noTree, 0, 1) else outM r sz (fragP g what)
theorem fragment_out {k g : Nat} {what : Int} {s : ByteArray} {r : SR} {sg : List (List PV)} {K : Res → Out} (hg : g ≤ n) (hn : 101 ≤ n) (hL : n ≤ 4611686018427387904) (hscan : ∀ K : Res → Out, K ⟨false, scanV r⟩ sg → callW (En n) (k - 1) 37 [.str s] sg K)
    (hs : Fit ⟨r.toks, s.size⟩ 0) (hto : wholeP (fragP g what) ⟨r.toks, s.size⟩ 0 ≠ .out) (hw : ∀ x m, fragP g what ⟨r.toks, s.size⟩ 0 = .ok x m → Wid n x) (h : ∀ e, K ⟨false, outV (outG what r s.size g)⟩ (sg ++ e)) (hk : dD g + 40 ≤ k) :
    callW (En n) k 14 [.int .i64 what, .str s] sg K := by
  rw [callW_at (by omega) rfl, syntax_Fragment.eq]
  have h0 : ∀ K : Prop, (K ↔ K) := fun _ => Iff.rfl
  unfold outG at h
  by_cases h1 : what < 1
  · rw [if_pos (.inl h1)] at h
    rw [decide_eq_true h1, bcond_t]
    have := h []
    rw [List.append_nil] at this
    exact this
  rw [decide_eq_false h1, bcond_f]
  by_cases h3 : what > 3
  · rw [if_pos (.inr h3)] at h
    rw [decide_eq_true h3, bcond_t]
    have := h []
    rw [List.append_nil] at this
    exact this
  rw [if_neg (by omega)] at h
  rw [decide_eq_false h3, bcond_f, C_eq, syntax_Fragment.cut0, cP]
  refine hscan _ ?_
  show C n _ 14 _ (syntax_Fragment.S1 _ s what (r.toks.map tokRow) r.at_ r.err _) _ _
  rw [C_eq, syntax_Fragment.cut1]
  unfold outM at h
  by_cases he : r.err = 0
  · rw [if_neg (by simpa using he)] at h
    have : (r.err != 0) = false := by simp [he]
    rw [this, bcond_f, cP]
    exact all_spec (S := ⟨r.toks, s.size⟩) (d := dD g + 13) hL (fun pre post => frag_one hg hn pre post) hs hto hw h (by omega) (by omega)
  · rw [if_pos (by simpa using he)] at h
    have : (r.err != 0) = true := by simp [he]
    rw [this, bcond_t]
    have := h []
    rw [List.append_nil] at this
    exact this
end
end Go.Ev
set_option maxRecDepth 4000
namespace Go.Ev
open PV
/-- No higher than d. -/
inductive Hgt : Nat → Tree → Prop
  | mk (d : Nat) (kd : Int) (t : ByteArray) (a e : Int) (ks : List Tree) (hk : ∀ x ∈ ks, Hgt d x) : Hgt (d + 1) (.mk kd t a e ks)
theorem Hgt.kid {d : Nat} {t x : Tree} (h : Hgt (d + 1) t) (hx : x ∈ t.kids) : Hgt d x := by
  cases h with
  | mk d kd tx a e ks hk => exact hk x hx
theorem Hgt.mono {d m : Nat} (hm : d ≤ m) {t : Tree} (h : Hgt d t) : Hgt m t := by
  induction h generalizing m with
  | mk d kd t a e ks hk ih =>
    obtain ⟨j, rfl⟩ : ∃ j, m = j + 1 := ⟨m - 1, by omega⟩
    exact .mk j kd t a e ks fun x hx => ih x hx (by omega)
mutual
theorem hgt_ex : ∀ t : Tree, ∃ d, Hgt d t
  | .mk kd t a e ks => by
    obtain ⟨d, h⟩ := hgt_exL ks
    exact ⟨d + 1, .mk d kd t a e ks h⟩
theorem hgt_exL : ∀ l : List Tree, ∃ d, ∀ x ∈ l, Hgt d x
  | [] => ⟨0, fun x h => by cases h⟩
  | t :: r => by
    obtain ⟨n, h⟩ := hgt_ex t
    obtain ⟨m, h'⟩ := hgt_exL r
    exact ⟨max n m, fun x hx => by
      rcases List.mem_cons.1 hx with rfl | hx
      · exact h.mono (by omega)
      · exact (h' x hx).mono (by omega)⟩
end
mutual
def sizeT : Tree → Int
  | .mk _ _ _ _ ks => sizeL 1 ks
def sizeL (acc : Int) : List Tree → Int
  | [] => acc
  | x :: r => sizeL (IntKind.i64.wrap (acc + sizeT x)) r
end
mutual
def depthT : Tree → Int
  | .mk _ _ _ _ ks => IntKind.i64.wrap (depthL 0 ks + 1)
def depthL (acc : Int) : List Tree → Int
  | [] => acc
  | x :: r => depthL (bcond (decide (depthT x > acc)) (depthT x) acc) r
end
mutual
def sameT (all : Bool) : Tree → Tree → Bool
  | .mk k1 t1 a1 e1 l1, .mk k2 t2 a2 e2 l2 => (k1 == k2 && t1.toList == t2.toList) && ((!all || (a1 == a2 && e1 == e2)) && (l1.length == l2.length && sameL all l1 l2))
def sameL (all : Bool) : List Tree → List Tree → Bool
  | x :: r, y :: s => sameT all x y && sameL all r s
  | _, _ => true
end
mutual
theorem same_self (all : Bool) : ∀ t, sameT all t t = true
  | .mk k t a e l => by simp [sameT, sameL_self all l]
theorem sameL_self (all : Bool) : ∀ l, sameL all l l = true
  | [] => rfl
  | x :: r => by simp [sameL, same_self all x, sameL_self all r]
end
mutual
/-- The nodes around an offset. -/
def aroundT (off : Int) : Tree → List Tree
  | .mk kd t a e ks => if off < a ∨ e ≤ off then [] else .mk kd t a e ks :: aroundL off ks
def aroundL (off : Int) : List Tree → List Tree
  | [] => []
  | x :: r => if (aroundT off x).isEmpty = true then aroundL off r else aroundT off x
end
theorem sizeT_eq (t : Tree) : sizeT t = sizeL 1 t.kids := by cases t; simp [sizeT, Tree.kids]
theorem depthT_eq (t : Tree) : depthT t = IntKind.i64.wrap (depthL 0 t.kids + 1) := by cases t; simp [depthT, Tree.kids]
theorem sameT_eq (all : Bool) (a b : Tree) : sameT all a b = ((a.kind == b.kind && a.text.toList == b.text.toList) && ((!all || (a.at_ == b.at_ && a.end_ == b.end_)) && (a.kids.length == b.kids.length && sameL all a.kids b.kids))) := by
  cases a; cases b; simp [sameT, Tree.kind, Tree.text, Tree.at_, Tree.end_, Tree.kids]
section
variable {n : Nat} {sg : List (List PV)}
theorem size_loop {k : Nat} {K : Res → Out} {i0 i2 i3 i5 i7 i8 : Int} {t1 t6 : ByteArray} {r4 r9 : List (List PV)} (hL : n ≤ 4611686018427387904) (ks : List Tree)
    (ih : ∀ t ∈ ks, ∀ K : Res → Out, callW (En n) k 27 [nodeV t] sg K = K ⟨false, .int .i64 (sizeT t)⟩ sg) (hn : ks.length < n) :
    ∀ (r : List Tree) (i m : Nat) (acc : Int) (p11 p15 : PV), ks.drop i = r → i ≤ ks.length → r.length < m → NB p11 →
    L n (callW (En n) k) 27 [1, 1, 0, 1, 0, 0] (syntax_Size.S0 i0 t1 i2 i3 r4 i5 t6 i7 i8 r9 acc p11 (kidRows ks) (ks.length : Int) (i : Int) p15) sg (syntax_Size.K0 (callW (En n) k) n K) m = K ⟨false, .int .i64 (sizeL acc r)⟩ sg
  | r, i, 0, _, _, _, _, _, hm, _ => by omega
  | [], i, m + 1, acc, p11, p15, hr, hi, hm, _ => by
    have : i = ks.length := by have := List.drop_eq_nil_iff.1 hr; omega
    subst this
    rw [L_succ, syntax_Size.loop0, decide_eq_false (show ¬ ((ks.length : Int) < (ks.length : Int)) by omega), bcond_f]
    rfl
  | y :: r, i, m + 1, acc, p11, p15, hr, hi, hm, h11 => by
    obtain ⟨hil, hy, hr'⟩ := drop_some hr
    have hmem : y ∈ ks := List.mem_of_mem_drop (by rw [hr]; exact List.mem_cons_self)
    have ew : IntKind.i64.wrap ((i : Int) + 1) = ((i + 1 : Nat) : Int) := wrap_id _ (by omega) (by omega)
    rw [L_succ, syntax_Size.loop0, decide_eq_true (show (i : Int) < (ks.length : Int) by omega), bcond_t, kid_chk ks i hil, kid_at ks i hil, hy, h11 5]
    show chk true (chk true (chk true (chk true (chk true (chk true (chk true (chk true (chk true (cI (callW (En n) k) 27 [nodeV y] sg (pan K) _))))))))) = _
    simp only [chk_t]
    rw [cI_of _ (fun K => ih y hmem K), ew, sizeL]
    exact size_loop hL ks ih hn r (i + 1) m _ _ _ hr' (by omega) (by simp at hm; omega) (fun _ => rfl)
theorem size_spec (hL : n ≤ 4611686018427387904) : ∀ (d k : Nat) (t : Tree) (K : Res → Out), Hgt d t → d ≤ k → Wid n t → callW (En n) k 27 [nodeV t] sg K = K ⟨false, .int .i64 (sizeT t)⟩ sg
  | 0, k, t, K, h, hk, hw => by cases h
  | d + 1, k, t, K, h, hk, hw => by
    rw [callW_at (by omega) rfl, sizeT_eq]
    show B n _ 27 sg [.agg [.int .i64 t.kind, .str t.text, .int .i64 t.at_, .int .i64 t.end_, .list false (kidRows t.kids)]] K = _
    rw [syntax_Size.eq, kidRows_len]
    exact size_loop hL t.kids (fun x hx K => size_spec hL d (k - 1) x K (h.kid hx) (by omega) (hw.kid hx)) hw.len t.kids 0 n 1 _ _ rfl (by omega) hw.len (fun _ => rfl)
theorem depth_loop {k : Nat} {K : Res → Out} {i0 i2 i3 i5 i7 i8 : Int} {t1 t6 : ByteArray} {r4 r9 : List (List PV)} (hL : n ≤ 4611686018427387904) (ks : List Tree)
    (ih : ∀ t ∈ ks, ∀ K : Res → Out, callW (En n) k 28 [nodeV t] sg K = K ⟨false, .int .i64 (depthT t)⟩ sg) (hn : ks.length < n) :
    ∀ (r : List Tree) (i m : Nat) (acc : Int) (p11 p15 : PV), ks.drop i = r → i ≤ ks.length → r.length < m → NB p11 →
    L n (callW (En n) k) 28 [1, 1, 0, 1, 0, 0] (syntax_Depth.S0 i0 t1 i2 i3 r4 i5 t6 i7 i8 r9 acc p11 (kidRows ks) (ks.length : Int) (i : Int) p15) sg (syntax_Depth.K0 (callW (En n) k) n K) m = K ⟨false, .int .i64 (IntKind.i64.wrap (depthL acc r + 1))⟩ sg
  | r, i, 0, _, _, _, _, _, hm, _ => by omega
  | [], i, m + 1, acc, p11, p15, hr, hi, hm, _ => by
    have : i = ks.length := by have := List.drop_eq_nil_iff.1 hr; omega
    subst this
    rw [L_succ, syntax_Depth.loop0, decide_eq_false (show ¬ ((ks.length : Int) < (ks.length : Int)) by omega), bcond_f]
    rfl
  | y :: r, i, m + 1, acc, p11, p15, hr, hi, hm, h11 => by
    obtain ⟨hil, hy, hr'⟩ := drop_some hr
    have hmem : y ∈ ks := List.mem_of_mem_drop (by rw [hr]; exact List.mem_cons_self)
    have ew : IntKind.i64.wrap ((i : Int) + 1) = ((i + 1 : Nat) : Int) := wrap_id _ (by omega) (by omega)
    rw [L_succ, syntax_Depth.loop0, decide_eq_true (show (i : Int) < (ks.length : Int) by omega), bcond_t, kid_chk ks i hil, kid_at ks i hil, hy, h11 5]
    show chk true (chk true (chk true (chk true (chk true (chk true (chk true (chk true (chk true (cI (callW (En n) k) 28 [nodeV y] sg (pan K) _))))))))) = _
    simp only [chk_t]
    rw [cI_of _ (fun K => ih y hmem K), ew, depthL]
    exact depth_loop hL ks ih hn r (i + 1) m _ _ _ hr' (by omega) (by simp at hm; omega) (fun _ => rfl)
theorem depth_spec (hL : n ≤ 4611686018427387904) : ∀ (d k : Nat) (t : Tree) (K : Res → Out), Hgt d t → d ≤ k → Wid n t → callW (En n) k 28 [nodeV t] sg K = K ⟨false, .int .i64 (depthT t)⟩ sg
  | 0, k, t, K, h, hk, hw => by cases h
  | d + 1, k, t, K, h, hk, hw => by
    rw [callW_at (by omega) rfl, depthT_eq]
    show B n _ 28 sg [.agg [.int .i64 t.kind, .str t.text, .int .i64 t.at_, .int .i64 t.end_, .list false (kidRows t.kids)]] K = _
    rw [syntax_Depth.eq, kidRows_len]
    exact depth_loop hL t.kids (fun x hx K => depth_spec hL d (k - 1) x K (h.kid hx) (by omega) (hw.kid hx)) hw.len t.kids 0 n 0 _ _ rfl (by omega) hw.len (fun _ => rfl)
theorem around_len (off : Int) : ∀ (d : Nat) (t : Tree), Hgt d t → (aroundT off t).length ≤ d
  | 0, t, h => by cases h
  | d + 1, .mk kd tx a e ks, h => by
    have hl : ∀ l : List Tree, (∀ x ∈ l, Hgt d x) → (aroundL off l).length ≤ d := by
      intro l
      induction l with
      | nil => intro _; simp [aroundL]
      | cons x r ih =>
        intro h
        rw [aroundL]
        split
        · exact ih fun y hy => h y (List.mem_cons_of_mem _ hy)
        · exact around_len off d x (h x List.mem_cons_self)
    rw [aroundT]
    split
    · simp
    · have := hl ks (fun x hx => h.kid hx)
      simp; omega
theorem around_loop {k d : Nat} {K : Res → Out} {i0 i2 i3 off : Int} {t1 : ByteArray} {r4 : List (List PV)} {b13 : Bool} (hd : d ≤ 1000000) (hL : n ≤ 4611686018427387904) (x : Tree) (ks : List Tree) (hh : ∀ t ∈ ks, Hgt d t)
    (ih : ∀ t ∈ ks, ∀ K : Res → Out, callW (En n) k 22 [nodeV t, .int .i64 off] sg K = K ⟨false, .list true (kidRows (aroundT off t))⟩ sg) (hn : ks.length < n) :
    ∀ (r : List Tree) (i m : Nat) (p11 p12 p17 p18 : PV), ks.drop i = r → i ≤ ks.length → r.length < m → NB p11 → NB p12 → NB p18 →
    L n (callW (En n) k) 22 [1, 1, 0, 1, 0, 0] (syntax_Around.S1 i0 t1 i2 i3 r4 off x.kind x.text x.at_ x.end_ (kidRows x.kids) p11 p12 b13 (kidRows ks) (ks.length : Int) (i : Int) p17 p18) sg (syntax_Around.K1 (callW (En n) k) n K) m = K ⟨false, .list true (kidRows (x :: aroundL off r))⟩ sg
  | r, i, 0, _, _, _, _, _, _, hm, _, _, _ => by omega
  | [], i, m + 1, p11, p12, p17, p18, hr, hi, hm, _, _, _ => by
    have : i = ks.length := by have := List.drop_eq_nil_iff.1 hr; omega
    subst this
    rw [L_succ, syntax_Around.loop1, decide_eq_false (show ¬ ((ks.length : Int) < (ks.length : Int)) by omega), bcond_f, aroundL, kidRows_one]
  | y :: r, i, m + 1, p11, p12, p17, p18, hr, hi, hm, h11, h12, h18 => by
    obtain ⟨hil, hy, hr'⟩ := drop_some hr
    have hmem : y ∈ ks := List.mem_of_mem_drop (by rw [hr]; exact List.mem_cons_self)
    have ew : IntKind.i64.wrap ((i : Int) + 1) = ((i + 1 : Nat) : Int) := wrap_id _ (by omega) (by omega)
    rw [L_succ, syntax_Around.loop1, decide_eq_true (show (i : Int) < (ks.length : Int) by omega), bcond_t, kid_chk ks i hil, kid_at ks i hil, hy, h11 6, h12 6, h18 6]
    show chk true (chk true (chk true (chk true (chk true (chk true (chk true (chk true (chk true (cP (callW (En n) k) 22 [nodeV y, .int .i64 off] sg (pan K) _))))))))) = _
    simp only [chk_t]
    rw [cP, ih y hmem]
    show C n _ 22 _ _ _ _ = _
    rw [C_eq, syntax_Around.cut2]
    have hal := around_len off d y (hh y hmem)
    rw [aroundL]
    cases ha : aroundT off y with
    | nil =>
      show chk true (bcond false _ (L n _ 22 _ _ _ _ _)) = _
      rw [chk_t, bcond_f, ew, if_pos (show ([] : List Tree).isEmpty = true from rfl)]
      exact around_loop hd hL x ks hh ih hn r (i + 1) m _ _ _ _ hr' (by omega) (by simp at hm; omega) (fun _ => rfl) (fun _ => rfl) (fun _ => rfl)
    | cons z w =>
      rw [ha] at hal
      have e1 : decide (((kidRows (z :: w)).length : Int) > 0) = true := by rw [kidRows_len]; exact decide_eq_true (by show (0 : Int) < ((w.length + 1 : Nat) : Int); omega)
      show chk true (bcond (decide (((kidRows (z :: w)).length : Int) > 0)) (chk (true && (rowsOk 5 (kidRows (z :: w)) && decide (1 + (kidRows (z :: w)).length ≤ mostL))) (K ⟨false, .list true ([[.int .i64 x.kind, .str x.text, .int .i64 x.at_, .int .i64 x.end_, .list false (kidRows x.kids)]] ++ kidRows (z :: w))⟩ sg)) _) = _
      have e2 : 1 + (z :: w).length ≤ mostL := by unfold mostL; omega
      rw [chk_t, e1, bcond_t, kidRows_ok, kidRows_len, decide_eq_true e2, Bool.and_self, Bool.and_self, chk_t, if_neg (by simp), kidRows_one]
      rfl
theorem around_spec (hL : n ≤ 4611686018427387904) (off : Int) : ∀ (d k : Nat) (t : Tree) (K : Res → Out), d ≤ 1000000 → Hgt d t → d ≤ k → Wid n t → callW (En n) k 22 [nodeV t, .int .i64 off] sg K = K ⟨false, .list true (kidRows (aroundT off t))⟩ sg
  | 0, k, t, K, hd, h, hk, hw => by cases h
  | d + 1, k, t, K, hd, h, hk, hw => by
    rw [callW_at (by omega) rfl]
    show B n _ 22 sg [.agg [.int .i64 t.kind, .str t.text, .int .i64 t.at_, .int .i64 t.end_, .list false (kidRows t.kids)], .int .i64 off] K = _
    have ea : aroundT off t = if off < t.at_ ∨ t.end_ ≤ off then [] else t :: aroundL off t.kids := by cases t; rw [aroundT]; rfl
    rw [syntax_Around.eq, ea]
    by_cases h1 : off < t.at_
    · rw [decide_eq_true h1, bcond_t, if_pos (.inl h1)]; rfl
    rw [decide_eq_false h1, bcond_f]
    by_cases h2 : off ≥ t.end_
    · rw [decide_eq_true h2, bcond_t, if_pos (.inr h2)]; rfl
    rw [decide_eq_false h2, bcond_f, if_neg (by omega), C_eq, syntax_Around.cut0, kidRows_len]
    exact around_loop (by omega) hL t t.kids (fun x hx => h.kid hx) (fun x hx K => around_spec hL off d (k - 1) x K (by omega) (h.kid hx) (by omega) (hw.kid hx)) hw.len t.kids 0 n _ _ _ _ rfl (by omega) hw.len (fun _ => rfl) (fun _ => rfl) (fun _ => rfl)
end
end Go.Ev
