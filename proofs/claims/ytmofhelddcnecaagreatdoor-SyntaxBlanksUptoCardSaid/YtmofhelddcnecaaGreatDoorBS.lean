/- The program's parser gives what the plain one gives. -/
import Derived.Test.YtmofhelddcnecaaGreatDoorBXa
import Derived.Test.YtmofhelddcnecaaGreatDoorBXb
import Derived.Test.YtmofhelddcnecaaGreatDoorB3
set_option linter.unusedVariables false
set_option linter.unusedSimpArgs false
namespace Go.Ev
open PV
def Rn {α : Type} (p : Ps α) (S : Src) (nx : Nat) (F : α → Nat → Prop) (G : Int → Nat → Prop) : Prop := match p S nx with
  | .ok x m => F x m
  | .bad a m => G a m
  | .out => False
section
variable {α β : Type} {S : Src} {nx : Nat} {F : α → Nat → Prop} {G : Int → Nat → Prop}
theorem Rn_bind (p : Ps β) (f : β → Ps α) : Rn (p >>= f) S nx F G = Rn p S nx (fun x m => Rn (f x) S m F G) G := by
  unfold Rn; rw [Ps.bind_ap]; cases p S nx <;> rfl
theorem Rn_peek {F : Tok → Nat → Prop} : Rn peekP S nx F G = F (peekT S.T S.sz nx) nx := rfl
theorem Rn_end {F : Int → Nat → Prop} : Rn endP S nx F G = F (endT S.T nx) nx := rfl
theorem Rn_pure (x : α) : Rn (pure x) S nx F G = F x nx := rfl
theorem Rn_fw {p : Ps α} [hp : Fw p] (hn : nx ≤ S.T.length) (h : Rn p S nx F G) : Rn p S nx (fun x m => p S nx = .ok x m ∧ nx ≤ m ∧ m ≤ S.T.length ∧ F x m) G := by
  unfold Rn at *
  cases e : p S nx with
  | ok x m => rw [e] at h; have := hp.fw S nx x m hn e; exact ⟨rfl, this.1, this.2, h⟩
  | bad a m => rw [e] at h; exact h
  | out => rw [e] at h; exact h
theorem Rn_sp {p : Ps α} [hp : Sp p] (hn : nx ≤ S.T.length) (h : Rn p S nx F G) : Rn p S nx (fun x m => nx + 1 ≤ m ∧ F x m) G := by
  unfold Rn at *
  cases e : p S nx with
  | ok x m => rw [e] at h; have := hp.sp S nx x m hn e; exact ⟨this.1, h⟩
  | bad a m => rw [e] at h; exact h
  | out => rw [e] at h; exact h
theorem Rn_mono {p : Ps α} {F' : α → Nat → Prop} {G' : Int → Nat → Prop} (h : Rn p S nx F G) (hF : ∀ x m, F x m → F' x m) (hG : ∀ a m, G a m → G' a m) : Rn p S nx F' G' := by
  unfold Rn at *
  cases e : p S nx with
  | ok x m => rw [e] at h; exact hF _ _ h
  | bad a m => rw [e] at h; exact hG _ _ h
  | out => rw [e] at h; exact h
end
/-- A tree as a value. -/
def nodeV (t : Tree) : PV := .agg [.int .i64 t.kind, .str t.text, .int .i64 t.at_, .int .i64 t.end_, .list false (kidRows t.kids)]
/-- The parser's object. -/
def psg (pre post : List (List PV)) (S : Src) (nx : Nat) : List (List PV) := pre ++ [.list false (S.T.map tokRow), .int .i64 nx, .int .i64 S.sz] :: post
/-- Its first byte is a small letter. -/
def wordy (t : ByteArray) : Bool := match t.data.toList with
  | [] => false
  | b :: _ => decide (97 ≤ b.toNat) && decide (b.toNat ≤ 122)
structure Fit (S : Src) (nx : Nat) : Prop where
  len : S.T.length ≤ 1000000
  le : nx ≤ S.T.length
  small : ∀ t ∈ S.T, t.text.size ≤ 1000000000
  sane : ∀ t ∈ S.T, (t.kind = 2 → wordy t.text = true) ∧ (t.kind = 5 → wordy t.text = false)
theorem Fit.mv {S : Src} {nx m : Nat} (h : Fit S nx) (hm : m ≤ S.T.length) : Fit S m := ⟨h.len, hm, h.small, h.sane⟩
theorem listT_ne {l : List Tree} (h : l ≠ []) (a b : Int) : listT a l = listT b l := by
  cases l with
  | nil => exact absurd rfl h
  | cons x r => rfl
def stopV (at_ : Int) : PV := .iface 61 (.agg [.int .i64 at_])
theorem kidRows_snoc (acc : List Tree) (x : Tree) : kidRows acc ++ [[.int .i64 x.kind, .str x.text, .int .i64 x.at_, .int .i64 x.end_, .list false (kidRows x.kids)]] = kidRows (acc ++ [x]) := by rw [← nodeRow_eq, kidRows_app]
theorem kidRows_one (x : Tree) : [[.int .i64 x.kind, .str x.text, .int .i64 x.at_, .int .i64 x.end_, .list false (kidRows x.kids)]] = kidRows [x] := by rw [← nodeRow_eq]; rfl
theorem kidRows_len (l : List Tree) : (kidRows l).length = l.length := by simp [kidRows_map]
theorem app_ok (acc : List Tree) (hl : acc.length ≤ 1000000) (Y : Prop) : chk (rowsOk 5 (kidRows acc) && decide ((kidRows acc).length + 1 ≤ mostL)) Y = Y := by
  rw [kidRows_ok, kidRows_len]
  have : acc.length + 1 ≤ mostL := by unfold mostL; omega
  simp only [this, decide_true, Bool.and_self, chk_t]
theorem kid_at (l : List Tree) (i : Nat) (h : i < l.length) : rowAt (kidRows l) (i : Int) = [.int .i64 (l.getD i default).kind, .str (l.getD i default).text, .int .i64 (l.getD i default).at_, .int .i64 (l.getD i default).end_, .list false (kidRows (l.getD i default).kids)] := by
  rw [kidRows_map, rowAt_map nodeRow _ _ default (by omega) (by omega), nodeRow_eq]; rfl
section
variable {pre post : List (List PV)} {S : Src} {nx n k : Nat} {X : PV → List (List PV) → Prop}
theorem psg_nx (K : Int → Prop) : oI (psg pre post S nx) pre.length 1 K = K nx := oI_at _ _ _ 1 _ _ rfl
theorem psg_sz (K : Int → Prop) : oI (psg pre post S nx) pre.length 2 K = K S.sz := oI_at _ _ _ 2 _ _ rfl
theorem psg_T (K : List (List PV) → Prop) : oL (psg pre post S nx) pre.length 0 K = K (S.T.map tokRow) := oL_at _ _ _ 0 _ _ rfl
theorem psg_set (m : Nat) (K : List (List PV) → Prop) : objSet (psg pre post S nx) pre.length 1 [.int .i64 m] K = K (psg pre post S m) := by
  rw [psg, objSet_at]; rfl
theorem w_inc (hs : Fit S nx) {Kc : Out} (h : Kc (psg pre post S (nx + 1))) : oI (psg pre post S nx) pre.length 1 fun i => objSet (psg pre post S nx) pre.length 1 [.int .i64 (IntKind.i64.wrap (i + 1))] Kc := by
  have hw : IntKind.i64.wrap ((nx : Int) + 1) = ((nx + 1 : Nat) : Int) := wrap_id _ (by omega) (by have := hs.le; have := hs.len; omega)
  rw [psg_nx, hw, psg_set]; exact h
theorem w_inc2 (hs : Fit S nx) {Kc : Out} (h : Kc (psg pre post S (nx + 2))) : oI (psg pre post S nx) pre.length 1 fun i => objSet (psg pre post S nx) pre.length 1 [.int .i64 (IntKind.i64.wrap (i + 2))] Kc := by
  have hw : IntKind.i64.wrap ((nx : Int) + 2) = ((nx + 2 : Nat) : Int) := wrap_id _ (by omega) (by have := hs.le; have := hs.len; omega)
  rw [psg_nx, hw, psg_set]; exact h
theorem peek_spec {K : Res → Out} (hk : 1 ≤ k) (hs : Fit S nx) (a : Nat) (ha : a ≤ 4) : callW (En n) k 59 [.ptr pre.length 0, .int .i64 a] (psg pre post S nx) K = K ⟨false, .agg (tokRow (peekT S.T S.sz (nx + a)))⟩ (psg pre post S nx) := by
  have h1 := hs.len; have h2 := hs.le
  rw [callW_at (by omega) rfl, syntax_parser_peek.eq]
  have hw : IntKind.i64.wrap ((nx : Int) + a) = (nx : Int) + a := wrap_id _ (by omega) (by omega)
  simp only [psg_nx, psg_T, psg_sz, hw]
  by_cases h : nx + a < S.T.length
  · have h1 : ((nx : Int) + a) < ((S.T.map tokRow).length : Int) := by simp; omega
    have h2 : rowAt (S.T.map tokRow) ((nx : Int) + a) = tokRow (S.T.getD (nx + a) default) := by
      rw [rowAt_map tokRow S.T _ default (by omega) (by omega)]; congr 2
    have h3 : (0 : Int) ≤ (nx : Int) + a := by omega
    simp only [h1, decide_true, bcond_t, h2, rowsOk_map tokRow 4 tokRow_len, Bool.true_and, h3, chk_t, peekT, h, if_true]
    rfl
  · have h1 : ¬ ((nx : Int) + a) < ((S.T.map tokRow).length : Int) := by simp; omega
    simp only [h1, decide_false, bcond_f, peekT, h, if_false]
    rfl
theorem peek0 {K : Res → Out} (hk : 1 ≤ k) (hs : Fit S nx) : callW (En n) k 59 [.ptr pre.length 0, .int .i64 0] (psg pre post S nx) K = K ⟨false, .agg (tokRow (peekT S.T S.sz nx))⟩ (psg pre post S nx) := peek_spec hk hs 0 (by omega)
theorem peek1 {K : Res → Out} (hk : 1 ≤ k) (hs : Fit S nx) : callW (En n) k 59 [.ptr pre.length 0, .int .i64 1] (psg pre post S nx) K = K ⟨false, .agg (tokRow (peekT S.T S.sz (nx + 1)))⟩ (psg pre post S nx) := peek_spec hk hs 1 (by omega)
theorem cTok_of {c : Caller} {f : Nat} {args : List PV} {sg sg' : List (List PV)} {K : Int → ByteArray → Int → Int → Out} (t : Tok)
    (h : ∀ K, c f args sg K = K ⟨false, .agg (tokRow t)⟩ sg') : cTok c f args sg X K = K t.kind t.text t.at_ t.end_ sg' := by
  rw [cTok, h]; rfl
theorem cB_of {c : Caller} {f : Nat} {args : List PV} {sg sg' : List (List PV)} {K : Bool → Out} (t : Bool)
    (h : ∀ K, c f args sg K = K ⟨false, .bool t⟩ sg') : cB c f args sg X K = K t sg' := by
  rw [cB, h]; rfl
theorem cI_of {c : Caller} {f : Nat} {args : List PV} {sg sg' : List (List PV)} {K : Int → Out} (t : Int)
    (h : ∀ K, c f args sg K = K ⟨false, .int .i64 t⟩ sg') : cI c f args sg X K = K t sg' := by
  rw [cI, h]; rfl
theorem cP_pan {c : Caller} {f : Nat} {args : List PV} {sg sg' : List (List PV)} {K : PV → Out} {v : PV} (h : ∀ K, c f args sg K = K ⟨true, v⟩ sg') : cP c f args sg X K = X v sg' := by
  rw [cP, h]; rfl
theorem cNd_of {c : Caller} {f : Nat} {args : List PV} {sg sg' : List (List PV)} {K : Int → ByteArray → Int → Int → List (List PV) → Out} (t : Tree)
    (h : ∀ K, c f args sg K = K ⟨false, nodeV t⟩ sg') : cNd c f args sg X K = K t.kind t.text t.at_ t.end_ (kidRows t.kids) sg' := by
  rw [cNd, h]; rfl
theorem is_spec {K : Res → Out} (hk : 2 ≤ k) (hs : Fit S nx) (t : ByteArray) : callW (En n) k 58 [.ptr pre.length 0, .str t] (psg pre post S nx) K = K ⟨false, .bool (isT S.T nx t)⟩ (psg pre post S nx) := by
  rw [callW_at (by omega) rfl, syntax_parser_is.eq, cTok_of _ (fun K => peek0 (by omega) hs), C_eq, syntax_parser_is.cut0]
  rw [(peek_same (a := S.sz) (b := 0)).1, (peek_same (a := S.sz) (b := 0)).2]
  unfold isT
  cases (peekT S.T 0 nx).kind == 5 <;> cases (peekT S.T 0 nx).kind == 2 <;> rfl
theorem take_spec {K : Res → Out} (hk : 3 ≤ k) (hs : Fit S nx) (t : ByteArray) : callW (En n) k 75 [.ptr pre.length 0, .str t] (psg pre post S nx) K = K ⟨false, .bool (isT S.T nx t)⟩ (psg pre post S (if isT S.T nx t then nx + 1 else nx)) := by
  rw [callW_at (by omega) rfl, syntax_parser_take.eq, cB_of _ (fun K => is_spec (by omega) hs t)]
  cases h : isT S.T nx t with
  | false => rfl
  | true =>
    simp only [Bool.not_true, bcond_f, if_true]
    rw [C_eq, syntax_parser_take.cut0]
    exact propext ⟨fun h => by
      have hw : IntKind.i64.wrap ((nx : Int) + 1) = ((nx + 1 : Nat) : Int) := wrap_id _ (by omega) (by have := hs.le; have := hs.len; omega)
      rw [psg_nx, hw, psg_set] at h; exact h, fun h => w_inc hs h⟩
theorem fail_spec {K : Res → Out} (hk : 2 ≤ k) (hs : Fit S nx) : callW (En n) k 56 [.ptr pre.length 0] (psg pre post S nx) K = K ⟨true, stopV (peekT S.T S.sz nx).at_⟩ (psg pre post S nx) := by
  rw [callW_at (by omega) rfl, syntax_parser_fail.eq, cTok_of _ (fun K => peek0 (by omega) hs)]
  rfl
theorem end_spec {K : Res → Out} (hk : 1 ≤ k) (hs : Fit S nx) : callW (En n) k 111 [.ptr pre.length 0] (psg pre post S nx) K = K ⟨false, .int .i64 (endT S.T nx)⟩ (psg pre post S nx) := by
  have hl := hs.len; have hle := hs.le
  rw [callW_at (by omega) rfl, syntax_parser_end.eq]
  simp only [psg_nx, psg_T]
  cases nx with
  | zero => rfl
  | succ m =>
    have h0 : (((m + 1 : Nat) : Int) == 0) = false := by simp; omega
    have hw : IntKind.i64.wrap (((m + 1 : Nat) : Int) - 1) = m := by
      rw [wrap_id _ (by omega) (by omega)]; omega
    have h2 : rowAt (S.T.map tokRow) (m : Int) = tokRow (S.T.getD m default) := by
      rw [rowAt_map tokRow S.T _ default (by omega) (by omega)]; congr 2
    have h1 : ((m : Int)) < ((S.T.map tokRow).length : Int) := by simp; omega
    have h3 : (0 : Int) ≤ (m : Int) := by omega
    simp only [h0, bcond_f, hw, h2, rowsOk_map tokRow 4 tokRow_len, h1, h3, decide_true, Bool.and_true, chk_t]
    rfl
theorem node_spec {K : Res → Out} (hk : 2 ≤ k) (hs : Fit S nx) (kd : Int) (t : ByteArray) (a : Int) (ks : List Tree) : callW (En n) k 62 [.ptr pre.length 0, .int .i64 kd, .str t, .int .i64 a, .list false (kidRows ks)] (psg pre post S nx) K =
    K ⟨false, nodeV (.mk kd t a (endT S.T nx) ks)⟩ (psg pre post S nx) := by
  rw [callW_at (by omega) rfl, syntax_parser_node.eq, cI_of _ (fun K => end_spec (by omega) hs)]; rfl
theorem list_spec {K : Res → Out} (hk : 2 ≤ k) (hs : Fit S nx) (ks : List Tree) (hl : ks.length ≤ 1000000) : callW (En n) k 77 [.ptr pre.length 0, .list false (kidRows ks)] (psg pre post S nx) K = K ⟨false, nodeV (listT (endT S.T nx) ks)⟩ (psg pre post S nx) := by
  rw [callW_at (by omega) rfl, syntax_parser_list1.eq]
  cases ks with
  | nil =>
    show bcond true _ _ = _
    rw [bcond_t, cI_of _ (fun K => end_spec (by omega) hs), cI_of _ (fun K => end_spec (by omega) hs)]; rfl
  | cons x r =>
    have h0 : (((kidRows (x :: r)).length : Int) == 0) = false := by rw [kidRows_len]; simp; omega
    rw [h0, bcond_f, C_eq, syntax_parser_list1.cut0, kidRows_ok, kidRows_len]
    have hl' : r.length + 1 ≤ 1000000 := hl
    have hw : IntKind.i64.wrap (((x :: r).length : Int) - 1) = (r.length : Int) := by
      have e : ((x :: r).length : Int) = (r.length : Int) + 1 := rfl
      rw [wrap_id _ (by omega) (by omega)]; omega
    have e0 : rowAt (kidRows (x :: r)) 0 = nodeRow x := rfl
    have e1 : rowAt (kidRows (x :: r)) (r.length : Int) = nodeRow ((x :: r).getD r.length default) := by
      rw [kidRows_map, rowAt_map nodeRow _ _ default (by omega) (by show (r.length : Int) < ((r.length + 1 : Nat) : Int); omega)]; rfl
    have p1 : (0 : Int) < ((x :: r).length : Int) := by show (0 : Int) < ((r.length + 1 : Nat) : Int); omega
    have p2 : (0 : Int) ≤ (r.length : Int) := by omega
    have p3 : (r.length : Int) < ((x :: r).length : Int) := by show (r.length : Int) < ((r.length + 1 : Nat) : Int); omega
    rw [hw, e0, e1]
    simp only [p1, p2, p3, decide_true, Bool.and_self, chk_t, nodeRow_eq]
    rfl
/- The steps. -/
variable {α : Type} {G : Int → Nat → Prop}
theorem w_peek {F : Tok → Nat → Prop} {Kc : Int → ByteArray → Int → Int → Out} (hs : Fit S nx) (h : Rn peekP S nx F G) (h1 : ∀ t, t = peekT S.T S.sz nx → F t nx → Kc t.kind t.text t.at_ t.end_ (psg pre post S nx)) (hk : 1 ≤ k := by omega) :
    cTok (callW (En n) k) 59 [.ptr pre.length 0, .int .i64 0] (psg pre post S nx) X Kc := by
  rw [cTok_of _ (fun K => peek0 hk hs)]; exact h1 _ rfl h
theorem w_take {F : α → Nat → Prop} {t : ByteArray} {p q : Ps α} {A B : Bool → Out} (hs : Fit S nx) (h : Rn (takeC t p q) S nx F G) (h1 : Fit S (nx + 1) → Rn p S (nx + 1) F G → A true (psg pre post S (nx + 1))) (h2 : Rn q S nx F G → B false (psg pre post S nx)) (hk : 3 ≤ k := by omega) :
    cB (callW (En n) k) 75 [.ptr pre.length 0, .str t] (psg pre post S nx) X (fun b s => bcond b (A b s) (B b s)) := by
  rw [cB_of _ (fun K => take_spec hk hs t)]
  unfold Rn takeC at h
  cases e : isT S.T nx t <;> rw [e] at h
  · exact h2 h
  · exact h1 (hs.mv (isT_lt e)) h
theorem w_takeN {F : α → Nat → Prop} {t : ByteArray} {p q : Ps α} {A B : Bool → Out} (hs : Fit S nx) (h : Rn (takeC t p q) S nx F G) (h1 : Fit S (nx + 1) → Rn p S (nx + 1) F G → B true (psg pre post S (nx + 1))) (h2 : Rn q S nx F G → A false (psg pre post S nx)) (hk : 3 ≤ k := by omega) :
    cB (callW (En n) k) 75 [.ptr pre.length 0, .str t] (psg pre post S nx) X (fun b s => bcond (!b) (A b s) (B b s)) := by
  rw [cB_of _ (fun K => take_spec hk hs t)]
  unfold Rn takeC at h
  cases e : isT S.T nx t <;> rw [e] at h
  · exact h2 h
  · exact h1 (hs.mv (isT_lt e)) h
theorem w_is {F : α → Nat → Prop} {t : ByteArray} {p q : Ps α} {A B : Bool → Out} (hs : Fit S nx) (h : Rn (isC t p q) S nx F G) (h1 : isT S.T nx t = true → Rn p S nx F G → A true (psg pre post S nx)) (h2 : isT S.T nx t = false → Rn q S nx F G → B false (psg pre post S nx)) (hk : 2 ≤ k := by omega) :
    cB (callW (En n) k) 58 [.ptr pre.length 0, .str t] (psg pre post S nx) X (fun b s => bcond b (A b s) (B b s)) := by
  rw [cB_of _ (fun K => is_spec hk hs t)]
  unfold Rn isC at h
  cases e : isT S.T nx t <;> rw [e] at h
  · exact h2 e h
  · exact h1 e h
theorem w_isN {F : α → Nat → Prop} {t : ByteArray} {p q : Ps α} {A B : Bool → Out} (hs : Fit S nx) (h : Rn (isC t p q) S nx F G) (h1 : isT S.T nx t = true → Rn p S nx F G → B true (psg pre post S nx)) (h2 : isT S.T nx t = false → Rn q S nx F G → A false (psg pre post S nx)) (hk : 2 ≤ k := by omega) :
    cB (callW (En n) k) 58 [.ptr pre.length 0, .str t] (psg pre post S nx) X (fun b s => bcond (!b) (A b s) (B b s)) := by
  rw [cB_of _ (fun K => is_spec hk hs t)]
  unfold Rn isC at h
  cases e : isT S.T nx t <;> rw [e] at h
  · exact h2 e h
  · exact h1 e h
/-- A mark that is asked for first, and then taken. -/
theorem w_isT {F : α → Nat → Prop} {t : ByteArray} {p q : Ps α} {A B : Bool → Out} (hs : Fit S nx) (h : Rn (takeC t p q) S nx F G) (h1 : Fit S (nx + 1) → Rn p S (nx + 1) F G → A true (psg pre post S nx)) (h2 : Rn q S nx F G → B false (psg pre post S nx)) (hk : 2 ≤ k := by omega) :
    cB (callW (En n) k) 58 [.ptr pre.length 0, .str t] (psg pre post S nx) X (fun b s => bcond b (A b s) (B b s)) := by
  rw [cB_of _ (fun K => is_spec hk hs t)]
  unfold Rn takeC at h
  cases e : isT S.T nx t <;> rw [e] at h
  · exact h2 h
  · exact h1 (hs.mv (isT_lt e)) h
theorem w_kindC {F : α → Nat → Prop} {x y : Int} {p q : Ps α} {A B : Prop} (h : Rn (if x = y then p else q) S nx F G) (h1 : x = y → Rn p S nx F G → A) (h2 : x ≠ y → Rn q S nx F G → B) : bcond (x == y) A B := by
  by_cases e : x = y
  · rw [if_pos e] at h; simp only [e, BEq.rfl, bcond_t]; exact h1 e h
  · rw [if_neg e] at h; have : (x == y) = false := by simp [e]
    rw [this, bcond_f]; exact h2 e h
theorem w_need {F : Unit → Nat → Prop} {t : ByteArray} {Kc : PV → Out} (hs : Fit S nx) (h : Rn (needP t) S nx F G) (h1 : Fit S (nx + 1) → F () (nx + 1) → Kc (.tup []) (psg pre post S (nx + 1))) (hX : ∀ a m, G a m → X (stopV a) (psg pre post S m) := by exact fun _ _ h => h) (hk : 4 ≤ k := by omega) :
    cP (callW (En n) k) 61 [.ptr pre.length 0, .str t] (psg pre post S nx) X Kc := by
  unfold Rn needP at h
  rw [cP, callW_at (by omega) rfl, syntax_parser_need.eq, cB_of _ (fun K => take_spec (by omega) hs t)]
  cases e : isT S.T nx t <;> rw [e] at h
  · simp only [Bool.not_false, bcond_t, Bool.false_eq_true, if_false] at h ⊢
    rw [cP_pan (fun K => fail_spec (by omega) hs)]
    exact hX _ _ h
  · simp only [Bool.not_true, bcond_f, if_true] at h ⊢
    exact h1 (hs.mv (isT_lt e)) h
theorem w_kind {F : Tok → Nat → Prop} {kd : Int} {Kc : Int → ByteArray → Int → Int → Out} (hs : Fit S nx) (h : Rn (kindP kd) S nx F G) (h1 : ∀ t, t = peekT S.T S.sz nx → t.text.size ≤ 1000000000 → Fit S (nx + 1) → F t (nx + 1) → Kc t.kind t.text t.at_ t.end_ (psg pre post S (nx + 1))) (hX : ∀ a m, G a m → X (stopV a) (psg pre post S m) := by exact fun _ _ h => h) (hd : kd ≠ 0 := by decide) (hk : 3 ≤ k := by omega) :
    cTok (callW (En n) k) 60 [.ptr pre.length 0, .int .i64 kd] (psg pre post S nx) X Kc := by
  unfold Rn kindP at h
  rw [cTok, callW_at (by omega) rfl, syntax_parser_kind.eq, cTok_of _ (fun K => peek0 (by omega) hs), C_eq, syntax_parser_kind.cut0]
  by_cases e : (peekT S.T S.sz nx).kind = kd
  · have hl : nx < S.T.length := peekT_lt (by rw [e]; exact hd)
    have hz : (peekT S.T S.sz nx).text.size ≤ 1000000000 := hs.small _ (by unfold peekT; rw [if_pos hl, List.getD_eq_getElem?_getD, List.getElem?_eq_getElem hl]; exact List.getElem_mem hl)
    have h2 : ((peekT S.T S.sz nx).kind != kd) = false := by simp [e]
    rw [if_pos ⟨hl, e⟩] at h
    rw [h2, bcond_f, C_eq, syntax_parser_kind.cut1]
    refine w_inc hs ?_
    exact h1 _ rfl hz (hs.mv hl) h
  · have h2 : ((peekT S.T S.sz nx).kind != kd) = true := by simp [e]
    rw [if_neg (fun h => e h.2)] at h
    rw [h2, bcond_t, cP_pan (fun K => fail_spec (by omega) hs)]
    exact hX _ _ h
/-- A kind that is known to come. -/
theorem w_known {F : Tok → Nat → Prop} {kd : Int} (hs : Fit S nx) (h : Rn (kindP kd) S nx F G) (e : (peekT S.T S.sz nx).kind = kd) (hd : kd ≠ 0 := by decide) : Fit S (nx + 1) ∧ F (peekT S.T S.sz nx) (nx + 1) := by
  have hl : nx < S.T.length := peekT_lt (by rw [e]; exact hd)
  unfold Rn kindP at h
  rw [if_pos ⟨hl, e⟩] at h
  exact ⟨hs.mv hl, h⟩
theorem w_knownT {F : Unit → Nat → Prop} {t : ByteArray} (hs : Fit S nx) (h : Rn (needP t) S nx F G) (e : isT S.T nx t = true) : Fit S (nx + 1) ∧ F () (nx + 1) := by
  unfold Rn needP at h
  rw [if_pos e] at h
  exact ⟨hs.mv (isT_lt e), h⟩
theorem w_node {F : Tree → Nat → Prop} {kd a : Int} {t : ByteArray} {ks : List Tree} {r : List (List PV)} {Kc : Int → ByteArray → Int → Int → List (List PV) → Out} (hs : Fit S nx) (h : Rn (nodeP kd t a ks) S nx F G) (h1 : ∀ x, x = .mk kd t a (endT S.T nx) ks → F x nx → Kc x.kind x.text x.at_ x.end_ (kidRows x.kids) (psg pre post S nx)) (hr : r = kidRows ks := by first | rfl | (simp only [kidRows, nodeRow_eq]; done) | (simp only [kidRows, nodeRow_eq]; rfl)) (hk : 2 ≤ k := by omega) :
    cNd (callW (En n) k) 62 [.ptr pre.length 0, .int .i64 kd, .str t, .int .i64 a, .list false r] (psg pre post S nx) X Kc := by
  subst hr
  rw [cNd_of _ (fun K => node_spec hk hs kd t a ks)]; exact h1 _ rfl h
theorem w_list {ks : List Tree} {r : List (List PV)} {Kc : Int → ByteArray → Int → Int → List (List PV) → Out} (hs : Fit S nx) (h1 : Kc (listT (endT S.T nx) ks).kind (listT (endT S.T nx) ks).text (listT (endT S.T nx) ks).at_ (listT (endT S.T nx) ks).end_ (kidRows (listT (endT S.T nx) ks).kids) (psg pre post S nx)) (hl : ks.length ≤ 1000000 := by first | assumption | exact Nat.zero_le _ | (show 1 ≤ 1000000; omega)) (hr : r = kidRows ks := by first | rfl | simp only [kidRows, nodeRow_eq]) (hk : 2 ≤ k := by omega) :
    cNd (callW (En n) k) 77 [.ptr pre.length 0, .list false r] (psg pre post S nx) X Kc := by
  subst hr
  rw [cNd_of _ (fun K => list_spec hk hs ks hl)]; exact h1
/-- A part of the parser that gives a tree. -/
theorem w_nd {p : Ps Tree} [Fw p] {F : Tree → Nat → Prop} {c : Caller} {f : Nat} {args : List PV} {Kc : Int → ByteArray → Int → Int → List (List PV) → Out}
    (hc : ∀ K : Res → Out, Rn p S nx (fun t m => K ⟨false, nodeV t⟩ (psg pre post S m)) (fun a m => K ⟨true, stopV a⟩ (psg pre post S m)) → c f args (psg pre post S nx) K)
    (hs : Fit S nx) (h : Rn p S nx F G) (h1 : ∀ x m, nx ≤ m → Fit S m → F x m → Kc x.kind x.text x.at_ x.end_ (kidRows x.kids) (psg pre post S m)) (hX : ∀ a m, G a m → X (stopV a) (psg pre post S m) := by exact fun _ _ h => h) :
    cNd c f args (psg pre post S nx) X Kc := by
  rw [cNd]
  refine hc _ (Rn_mono (Rn_fw hs.le h) (fun x m hx => ?_) fun a m ha => hX a m ha)
  obtain ⟨hx1, hx2, hx3, hx4⟩ := hx
  exact h1 x m hx2 (hs.mv hx3) hx4
/-- A part that gives a list. -/
theorem w_ls {p : Ps (List Tree)} [Fw p] {F : List Tree → Nat → Prop} {c : Caller} {f : Nat} {args : List PV} {Kc : PV → Out}
    (hc : ∀ K : Res → Out, Rn p S nx (fun t m => K ⟨false, .list false (kidRows t)⟩ (psg pre post S m)) (fun a m => K ⟨true, stopV a⟩ (psg pre post S m)) → c f args (psg pre post S nx) K)
    (hs : Fit S nx) (h : Rn p S nx F G) (h1 : ∀ x m, p S nx = .ok x m → nx ≤ m → Fit S m → F x m → Kc (.list false (kidRows x)) (psg pre post S m)) (hX : ∀ a m, G a m → X (stopV a) (psg pre post S m) := by exact fun _ _ h => h) :
    cP c f args (psg pre post S nx) X Kc := by
  rw [cP]
  refine hc _ (Rn_mono (Rn_fw hs.le h) (fun x m hx => ?_) fun a m ha => hX a m ha)
  obtain ⟨hx1, hx2, hx3, hx4⟩ := hx
  exact h1 x m hx1 hx2 (hs.mv hx3) hx4
end
end Go.Ev
set_option maxRecDepth 4000
namespace Go.Ev
open PV
abbrev RT (pre post : List (List PV)) (p : Ps Tree) (S : Src) (nx : Nat) (K : Res → Out) : Prop := Rn p S nx (fun t m => K ⟨false, nodeV t⟩ (psg pre post S m)) (fun a m => K ⟨true, stopV a⟩ (psg pre post S m))
abbrev RL (pre post : List (List PV)) (p : Ps (List Tree)) (S : Src) (nx : Nat) (K : Res → Out) : Prop := Rn p S nx (fun t m => K ⟨false, .list false (kidRows t)⟩ (psg pre post S m)) (fun a m => K ⟨true, stopV a⟩ (psg pre post S m))
section
variable {pre post : List (List PV)} {S : Src} {n : Nat}
theorem meta_spec {nx k : Nat} {K : Res → Out} {tk kd : Int} (hs : Fit S nx) (h : RT pre post (metaP tk kd) S nx K) (hd : tk ≠ 0 := by decide) (hk : 4 ≤ k := by omega) : callW (En n) k 158 [.ptr pre.length 0, .int .i64 tk, .int .i64 kd] (psg pre post S nx) K := by
  simp only [RT, metaP, Rn_bind, Rn_peek] at h
  rw [callW_at (by omega) rfl, syntax_parser_meta.eq]
  refine w_kind hs h (fun t e _ hs h => ?_) (hd := hd)
  subst e
  rw [C_eq, syntax_parser_meta.cut0]
  exact w_node hs h fun x _ h => h
theorem name_spec {nx k : Nat} {K : Res → Out} (hs : Fit S nx) (h : RT pre post nameP S nx K) (hk : 4 ≤ k := by omega) : callW (En n) k 159 [.ptr pre.length 0] (psg pre post S nx) K := by
  simp only [RT, nameP, nameS, Rn_bind, Rn_peek] at h
  rw [callW_at (by omega) rfl, syntax_parser_name.eq]
  refine w_kind hs h fun t e hz hs h => ?_
  rw [C_eq, syntax_parser_name.cut0]
  refine w_take hs h (fun hs h => ?_) fun h => ?_
  · simp only [Rn_bind, Rn_pure] at h
    refine w_kind hs h fun u _ hu hs h => ?_
    have h1 : sumOk ⟨#[46]⟩ u.text = true := by rw [sumOk_eq]; have : (⟨#[46]⟩ : ByteArray).size = 1 := rfl; simp only [this, show IntKind.i64.max = 9223372036854775807 from rfl]; exact decide_eq_true (by omega)
    have h2 : sumOk t.text (cat ⟨#[46]⟩ u.text) = true := by
      rw [cat_eq, sumOk_eq]; have : (⟨#[46]⟩ : ByteArray).size = 1 := rfl
      simp only [ByteArray.size_append, this, show IntKind.i64.max = 9223372036854775807 from rfl]; exact decide_eq_true (by omega)
    rw [h1, h2, chk_t, chk_t, cat_eq, cat_eq, C_eq, syntax_parser_name.cut1]
    subst e
    exact w_node hs h fun x _ h => h
  · simp only [Rn_pure] at h
    rw [C_eq, syntax_parser_name.cut1]
    subst e
    exact w_node hs h fun x _ h => h
/-- A type's name, of which the text alone is wanted. -/
theorem w_name {F : ByteArray → Nat → Prop} {G : Int → Nat → Prop} {X : PV → Out} {nx k : Nat} {Kc : Int → ByteArray → Int → Int → List (List PV) → Out} (hs : Fit S nx) (h : Rn nameS S nx F G) (h1 : ∀ (x : Tree) m, Fit S m → F x.text m → Kc x.kind x.text x.at_ x.end_ (kidRows x.kids) (psg pre post S m)) (hX : ∀ a m, G a m → X (stopV a) (psg pre post S m) := by exact fun _ _ h => h) (hk : 4 ≤ k := by omega) :
    cNd (callW (En n) k) 159 [.ptr pre.length 0] (psg pre post S nx) X Kc := by
  have h : Rn nameP S nx (fun x m => F x.text m) G := by
    simp only [nameP, Rn_bind, Rn_peek]; exact h
  exact w_nd (fun K h => name_spec hs h) hs h (fun x m _ hs h => h1 x m hs h) hX
theorem row_ne {one : Ps Tree} : ∀ {g : Nat} {acc l : List Tree} {nx m : Nat}, rowP one g acc S nx = .ok l m → l ≠ []
  | 0, acc, l, nx, m, e => by cases e
  | g + 1, acc, l, nx, m, e => by
    unfold rowP at e
    obtain ⟨x, m1, e1, e2⟩ := PR.bind_ok e
    unfold takeC at e2
    dsimp only at e2
    split at e2
    · exact row_ne e2
    · cases e2; simp
theorem typ_spec {nx k : Nat} {K : Res → Out} (hs : Fit S nx) (h : RT pre post typP S nx K) (hk : 5 ≤ k := by omega) : callW (En n) k 115 [.ptr pre.length 0] (psg pre post S nx) K := by
  simp only [RT, typP, Rn_bind] at h
  rw [callW_at (by omega) rfl, syntax_parser_typ.eq]
  refine w_peek hs h fun t _ h => ?_
  refine w_kindC h (fun _ h => ?_) fun _ h => ?_
  · exact w_nd (fun K h => meta_spec hs h) hs h fun x m _ hs h => h
  · exact w_nd (fun K h => name_spec hs h) hs h fun x m _ hs h => h
theorem param_spec {nx k : Nat} {K : Res → Out} (hs : Fit S nx) (h : RT pre post paramP S nx K) (hk : 6 ≤ k := by omega) : callW (En n) k 120 [.ptr pre.length 0] (psg pre post S nx) K := by
  simp only [RT, paramP, Rn_bind, Rn_peek] at h
  rw [callW_at (by omega) rfl, syntax_parser_param.eq]
  refine w_kind hs h fun t e hz hs h => ?_
  subst e
  rw [C_eq, syntax_parser_param.cut0]
  refine w_need hs h fun hs h => ?_
  rw [C_eq, syntax_parser_param.cut1]
  refine w_nd (fun K h => typ_spec hs h) hs h fun x m _ hs h => ?_
  rw [C_eq, syntax_parser_param.cut2]
  exact w_node hs h fun x _ h => h
/-- What a function value does. -/
def OneF (pre post : List (List PV)) (n : Nat) (S : Src) (d : Nat) (one : Ps Tree) (f : Nat) (args : List PV) : Prop := ∀ k nx (X Y : PV → Out), d ≤ k → Fit S nx → Rn one S nx (fun t m => Y (nodeV t) (psg pre post S m)) (fun a m => X (stopV a) (psg pre post S m)) → callF Go.Proofs.Tryz.prog (callW (En n) k) f args (psg pre post S nx) X Y
theorem nodeV_c1 (x : Tree) : (((nodeV x).strip).isAgg && (((((nodeV x).strip).aggC).length == 5) && ((((nodeV x).strip).aggC).all isCell))) = true := rfl
theorem nodeV_c2 (x : Tree) : decide (0 + (((nodeV x).strip).aggC).length ≤ 5) = true := rfl
theorem nodeV_c3 (x : Tree) : ((splice ([.int .i64 0, .str (⟨#[]⟩ : ByteArray), .int .i64 0, .int .i64 0, .list true []]) 0 (((nodeV x).strip).aggC)).all isCell) = true := rfl
theorem nodeV_c4 (x : Tree) : ((((splice ([.int .i64 0, .str (⟨#[]⟩ : ByteArray), .int .i64 0, .int .i64 0, .list true []]) 0 (((nodeV x).strip).aggC)).drop 0).take 5).map cstrip) = [.int .i64 x.kind, .str x.text, .int .i64 x.at_, .int .i64 x.end_, .list false (kidRows x.kids)] := rfl
theorem app_ok2 (acc : List Tree) (x : Tree) (hl : acc.length ≤ 1000000) (Y : Prop) : chk (rowsOk 5 (kidRows acc) && (rowsOk 5 [[.int .i64 x.kind, .str x.text, .int .i64 x.at_, .int .i64 x.end_, .list false (kidRows x.kids)]] && decide ((kidRows acc).length + ([[.int .i64 x.kind, .str x.text, .int .i64 x.at_, .int .i64 x.end_, .list false (kidRows x.kids)]] : List (List PV)).length ≤ mostL))) Y = Y := by
  rw [kidRows_ok, kidRows_len, rowsOk_one]
  have : acc.length + 1 ≤ mostL := by unfold mostL; omega
  simp only [List.length_cons, List.length_nil, this, decide_true, Bool.and_self, chk_t, BEq.rfl]
theorem row_loop {k d a1 : Nat} {c2 c3 : List PV} {K : Res → Out} {one : Ps Tree} [Sp one] (hk : 6 ≤ k) (hd : d ≤ k) (hone : OneF pre post n S d one a1 (c2 ++ [] ++ c3)) : ∀ (g m nx : Nat) (acc : List Tree) (p5 p6 : PV), g ≤ m → acc.length ≤ nx → Fit S nx → RL pre post (rowP one g acc) S nx K →
    L n (callW (En n) k) 116 [1, 1, 0, 0] (syntax_parser_row.S0 pre.length a1 c2 c3 (kidRows acc) p5 p6) (psg pre post S nx) (syntax_parser_row.K0 (callW (En n) k) n K) m
  | 0, m, nx, acc, p5, p6, _, _, _, h => h.elim
  | g + 1, 0, nx, acc, p5, p6, hm, _, _, h => by omega
  | g + 1, m + 1, nx, acc, p5, p6, hm, hl, hs, h => by
    simp only [RL, rowP, manyOr, Rn_bind] at h
    rw [L_succ, syntax_parser_row.loop0]
    have hl' : acc.length ≤ 1000000 := by have := hs.le; have := hs.len; omega
    refine w_peek hs h fun t _ h => ?_
    refine w_kindC h (fun _ h => ?_) fun _ h => ?_
    · have i : Sp (metaP 7 26) := inferInstance
      have h := Rn_sp (p := metaP 7 26) hs.le h
      refine w_nd (fun K h => meta_spec hs h) hs h fun x m2 _ hs2 h => ?_
      rw [app_ok acc hl', kidRows_snoc, C_eq, syntax_parser_row.cut1]
      refine w_takeN hs2 h.2 (fun hs h' => ?_) fun h' => h'
      exact row_loop hk hd hone g m _ _ _ _ (by omega) (by simp; have := h.1; omega) hs h'
    · have h := Rn_sp (p := one) hs.le h
      refine hone _ _ _ _ (by omega) hs (Rn_mono (Rn_fw (hp := Sp.fw') hs.le h) (fun x m2 hx => ?_) fun a m h => h)
      obtain ⟨_, _, hs2, h⟩ := hx
      have hs2 := hs.mv hs2
      rw [nodeV_c1, nodeV_c2, nodeV_c3, nodeV_c4, chk_t, chk_t, chk_t, app_ok2 acc x hl', kidRows_snoc, C_eq, syntax_parser_row.cut1]
      refine w_takeN hs2 h.2 (fun hs h' => ?_) fun h' => h'
      exact row_loop hk hd hone g m _ _ _ _ (by omega) (by simp; have := h.1; omega) hs h'
theorem row_spec {k d a1 g nx : Nat} {c2 c3 : List PV} {K : Res → Out} {one : Ps Tree} [Sp one] (hone : OneF pre post n S d one a1 (c2 ++ [] ++ c3)) (hs : Fit S nx) (h : RL pre post (rowP one g []) S nx K) (hg : g ≤ n := by omega) (hk : 7 ≤ k := by omega) (hd : d + 1 ≤ k := by omega) :
    callW (En n) k 116 [.ptr pre.length 0, .fn a1 c2 c3] (psg pre post S nx) K := by
  rw [callW_at (by omega) rfl, syntax_parser_row.eq]
  exact row_loop (by omega) (by omega) hone g n nx [] _ _ hg (Nat.zero_le _) hs h
variable (q : Caller) (args : List PV) (sg : List (List PV)) (X Y : PV → Out)
theorem callF_115 : callF Go.Proofs.Tryz.prog q 115 args sg X Y = cNd q 115 args sg X fun i t a e r s => Y (.agg [.int .i64 i, .str t, .int .i64 a, .int .i64 e, .list false r]) s := by kernel_rfl
theorem callF_120 : callF Go.Proofs.Tryz.prog q 120 args sg X Y = cNd q 120 args sg X fun i t a e r s => Y (.agg [.int .i64 i, .str t, .int .i64 a, .int .i64 e, .list false r]) s := by kernel_rfl
theorem callF_39 : callF Go.Proofs.Tryz.prog q 39 args sg X Y = cNd q 39 args sg X fun i t a e r s => Y (.agg [.int .i64 i, .str t, .int .i64 a, .int .i64 e, .list false r]) s := by kernel_rfl
theorem callF_118 : callF Go.Proofs.Tryz.prog q 118 args sg X Y = cNd q 118 args sg X fun i t a e r s => Y (.agg [.int .i64 i, .str t, .int .i64 a, .int .i64 e, .list false r]) s := by kernel_rfl
theorem callF_119 : callF Go.Proofs.Tryz.prog q 119 args sg X Y = cNd q 119 args sg X fun i t a e r s => Y (.agg [.int .i64 i, .str t, .int .i64 a, .int .i64 e, .list false r]) s := by kernel_rfl
theorem typ_one : OneF pre post n S 5 typP 115 ([.ptr pre.length 0] ++ [] ++ []) := fun k nx X Y hk hs h => by
  rw [callF_115]; exact w_nd (fun K h => typ_spec hs h) hs h fun x m _ hs h => h
theorem param_one : OneF pre post n S 6 paramP 120 ([.ptr pre.length 0] ++ [] ++ []) := fun k nx X Y hk hs h => by
  rw [callF_120]; exact w_nd (fun K h => param_spec hs h) hs h fun x m _ hs h => h
end
end Go.Ev
set_option maxRecDepth 4000
namespace Go.Ev
open PV
/-- What a function of the parser without arguments does, at a depth. -/
def SpF (pre post : List (List PV)) (n : Nat) (S : Src) (d f : Nat) (p : Ps Tree) : Prop := ∀ k nx (K : Res → Out), d ≤ k → Fit S nx → RT pre post p S nx K → callW (En n) k f [.ptr pre.length 0] (psg pre post S nx) K
theorem callW_foreign {n k f : Nat} {g : Foreign} {args : List PV} {sg : List (List PV)} {K : Res → Out} (hk : 1 ≤ k) (hf : foreignOf n f = some g) : callW (En n) k f args sg K = g (callW (En n) (k - 1)) args sg K := by
  obtain ⟨j, rfl⟩ : ∃ j, k = j + 1 := ⟨k - 1, by omega⟩
  show (match foreignOf n f with | some g => _ | none => _) = _
  rw [hf]; rfl
theorem args_ok (l : List Tree) (hl : l.length ≤ 1000000) (Y : Prop) : chk (((PV.list false (kidRows l)).strip).isL && ((rowsOk 5 (((PV.list false (kidRows l)).strip).rows)) && (decide ((1 + (((PV.list false (kidRows l)).strip).rows).length) ≤ mostL)))) Y = Y := by
  show chk (true && (rowsOk 5 (kidRows l) && decide (1 + (kidRows l).length ≤ mostL))) Y = Y
  rw [kidRows_ok, kidRows_len]
  have : 1 + l.length ≤ mostL := by unfold mostL; omega
  simp only [this, decide_true, Bool.and_self, chk_t]
theorem args_cons (x : Tree) (l : List Tree) : [[.int .i64 x.kind, .str x.text, .int .i64 x.at_, .int .i64 x.end_, .list false (kidRows x.kids)]] ++ ((PV.list false (kidRows l)).strip).rows = kidRows (x :: l) := by
  show [_] ++ kidRows l = _
  rw [← nodeRow_eq]; rfl
section
variable {pre post : List (List PV)} {S : Src} {n g d : Nat} {E : Ps Tree} [hE : Sp E]
local instance : Fw E := Sp.fw'
theorem expr_one (h : SpF pre post n S d 39 E) : OneF pre post n S d E 39 ([.ptr pre.length 0] ++ [] ++ []) := fun k nx X Y hk hs h' => by
  rw [callF_39]; exact w_nd (fun K h' => h _ _ K hk hs h') hs h' fun x m _ hs h => h
theorem args_spec {nx k : Nat} {K : Res → Out} (hE : SpF pre post n S d 39 E) (hg : g ≤ n) (hs : Fit S nx) (h : RL pre post (argsP g E) S nx K) (hk : 9 ≤ k) (hd : d + 3 ≤ k) : callW (En n) k 152 [.ptr pre.length 0] (psg pre post S nx) K := by
  simp only [RL, argsP, parensP, Rn_bind, Rn_pure] at h
  rw [callW_at (by omega) rfl, syntax_parser_args.eq]
  refine w_need hs h fun hs h => ?_
  rw [C_eq, syntax_parser_args.cut0]
  refine w_isN hs h (fun _ h => ?_) fun _ h => ?_
  · simp only [Rn_pure] at h
    exact w_need hs h fun hs h => h
  · refine w_ls (fun K h => row_spec (expr_one hE) hs h) hs h fun x m _ _ hs h => ?_
    exact w_need hs h fun hs h => h
theorem primary_spec {nx k : Nat} {K : Res → Out} (hE : SpF pre post n S d 39 E) (hg : g ≤ n) (hs : Fit S nx) (h : RT pre post (primaryP g E) S nx K) (hk : 10 ≤ k) (hd : d + 4 ≤ k) : callW (En n) k 151 [.ptr pre.length 0] (psg pre post S nx) K := by
  simp only [RT, primaryP, Rn_bind] at h
  rw [callW_at (by omega) rfl, syntax_parser_primary.eq]
  refine w_peek hs h fun t e h => ?_
  subst e
  rw [C_eq, syntax_parser_primary.cut0]
  refine w_kindC h (fun e h => ?_) fun _ h => w_kindC h (fun e h => ?_) fun _ h => w_kindC h (fun e h => ?_) fun _ h => w_kindC h (fun _ h => ?_) fun _ h => ?_
  · simp only [leafP, Rn_bind] at h
    have ⟨hs', h⟩ := w_known hs h e
    exact w_inc hs (w_node hs' h fun x _ h => h)
  · simp only [leafP, Rn_bind] at h
    have ⟨hs', h⟩ := w_known hs h e
    exact w_inc hs (w_node hs' h fun x _ h => h)
  · simp only [leafP, Rn_bind] at h
    have ⟨hs', h⟩ := w_known hs h e
    exact w_inc hs (w_node hs' h fun x _ h => h)
  · exact w_nd (fun K h => meta_spec hs h) hs h fun x m _ hs h => h
  · unfold restP at h
    rw [C_eq, syntax_parser_primary.cut1]
    refine w_take hs h (fun hs h => ?_) fun h => w_take hs h (fun hs h => ?_) fun h => w_take hs h (fun hs h => ?_) fun h => w_take hs h (fun hs h => ?_) fun h => w_take hs h (fun hs h => ?_) fun h => w_take hs h (fun hs h => ?_) fun h => ?_
    · rw [bcond_t]; exact w_node hs h fun x _ h => h
    · rw [bcond_t]; exact w_node hs h fun x _ h => h
    · rw [bcond_t]; exact w_node hs h fun x _ h => h
    · exact w_node hs h fun x _ h => h
    · simp only [newP, Rn_bind] at h
      refine w_name hs h fun x m hs h => ?_
      rw [C_eq, syntax_parser_primary.cut2]
      refine w_ls (fun K h => args_spec hE hg hs h (by omega) (by omega)) hs h fun l m _ _ hs h => ?_
      rw [C_eq, syntax_parser_primary.cut4]
      exact w_node hs h fun x _ h => h
    · simp only [innerP, Rn_bind, Rn_pure] at h
      refine w_nd (fun K h => hE _ _ K (by omega) hs h) hs h fun x m _ hs h => ?_
      rw [C_eq, syntax_parser_primary.cut3]
      refine w_need hs h fun hs h => ?_
      rw [C_eq, syntax_parser_primary.cut5, cI_of _ (fun K => end_spec (by omega) hs)]
      exact h
    · rw [cP_pan (fun K => fail_spec (by omega) hs)]
      exact h
theorem post_loop {k : Nat} {K : Res → Out} {i1 i3 i4 : Int} {t2 : ByteArray} (hE : SpF pre post n S d 39 E) (hg : g ≤ n) (hk : 10 ≤ k) (hd : d + 4 ≤ k) : ∀ (j m nx : Nat) (x : Tree) (p10 p11 p13 p14 : PV) (b12 : Bool), j ≤ m → isBaddr 6 p10 = false → isBaddr 6 p11 = false → isBaddr 6 p14 = false → Fit S nx → RT pre post (postP g E j x) S nx K →
    L n (callW (En n) k) 112 [1, 1, 1, 1, 0, 0] (syntax_parser_unary.S4 pre.length i1 t2 i3 i4 x.kind x.text x.at_ x.end_ (kidRows x.kids) p10 p11 b12 p13 p14) (psg pre post S nx) (syntax_parser_unary.K4 (callW (En n) k) n K) m
  | 0, m, nx, x, _, _, _, _, _, _, _, _, _, _, h => h.elim
  | j + 1, 0, nx, x, _, _, _, _, _, hm, _, _, _, _, h => by omega
  | j + 1, m + 1, nx, x, p10, p11, p13, p14, b12, hm, h10, h11, h14, hs, h => by
    simp only [RT, postP] at h
    rw [L_succ, syntax_parser_unary.loop4]
    refine w_take hs h (fun hs h => ?_) fun h => w_is hs h (fun _ h => ?_) fun _ h => h
    · simp only [Rn_bind] at h
      refine w_kind hs h fun t _ _ hs h => ?_
      simp only [h10, h11, h14, Bool.or_self, Bool.or_false, Bool.not_false, chk_t]
      rw [C_eq, syntax_parser_unary.cut5]
      refine w_node hs h fun y _ h => ?_
      exact post_loop hE hg hk hd j m _ _ _ _ _ _ _ (by omega) rfl h11 h14 hs h
    · simp only [Rn_bind] at h
      refine ⟨?_, ?_⟩
      all_goals
        refine w_ls (fun K h => args_spec hE hg hs h (by omega) (by omega)) hs h fun l m2 e _ hs2 h => ?_
        have hl := args_len hs.le e
        have hl' : l.length ≤ 1000000 := by have := hs2.le; have := hs2.len; omega
        rw [args_ok l hl', args_cons, C_eq, syntax_parser_unary.cut6]
        refine w_node hs2 h fun y _ h => ?_
        exact post_loop hE hg hk hd j m _ _ _ _ _ _ _ (by omega) h10 rfl rfl hs2 h
theorem unaryB_spec {nx k dU : Nat} {K : Res → Out} {U : Ps Tree} [Sp U] (hE : SpF pre post n S d 39 E) (hU : SpF pre post n S dU 112 U) (hg : g ≤ n) (hs : Fit S nx) (h : RT pre post (unaryB g E U) S nx K) (hk : 11 ≤ k) (hd : d + 5 ≤ k) (hdu : dU + 1 ≤ k) : callW (En n) k 112 [.ptr pre.length 0] (psg pre post S nx) K := by
  have : Fw U := Sp.fw'
  simp only [RT, unaryB, Rn_bind] at h
  rw [callW_at (by omega) rfl, syntax_parser_unary.eq]
  refine w_peek hs h fun t e h => ?_
  rw [C_eq, syntax_parser_unary.cut0]
  refine w_take hs h (fun hs h => ?_) fun h => w_take hs h (fun hs h => ?_) fun h => ?_
  · simp only [signP, Rn_bind] at h
    refine w_nd (fun K h => hU _ _ K (by omega) hs h) hs h fun x m _ hs h => ?_
    rw [C_eq, syntax_parser_unary.cut1]
    exact w_node hs h fun x _ h => h
  · simp only [signP, Rn_bind] at h
    refine w_nd (fun K h => hU _ _ K (by omega) hs h) hs h fun x m _ hs h => ?_
    rw [C_eq, syntax_parser_unary.cut1]
    exact w_node hs h fun x _ h => h
  · simp only [Rn_bind] at h
    rw [C_eq, syntax_parser_unary.cut2]
    refine w_nd (fun K h => primary_spec hE hg hs h (by omega) (by omega)) hs h fun x m _ hs h => ?_
    rw [C_eq, syntax_parser_unary.cut3]
    exact post_loop hE hg (by omega) (by omega) g n _ _ _ _ _ _ _ hg rfl rfl rfl hs h
theorem knotU_spec (hE : SpF pre post n S d 39 E) (hg : g ≤ n) : ∀ j, SpF pre post n S (d + 11 + j) 112 (knotU g E j)
  | 0 => fun k nx K _ _ h => h.elim
  | j + 1 => fun k nx K hk hs h => unaryB_spec hE (knotU_spec hE hg j) hg hs h (by omega) (by omega) (by omega)
theorem unary_spec (hE : SpF pre post n S d 39 E) (hg : g ≤ n) : SpF pre post n S (d + 12 + g) 112 (unaryP g E) := fun k nx K hk hs h =>
  unaryB_spec hE (knotU_spec hE hg g) hg hs h (by omega) (by omega) (by omega)
end
end Go.Ev
set_option maxRecDepth 4000
namespace Go.Ev
open PV
/-- No address of a variable. -/
def NB (p : PV) : Prop := ∀ d, isBaddr d p = false
theorem strRows_len (l : List ByteArray) : (strRows l).length = l.length := by simp [strRows]
theorem strRows_ok (l : List ByteArray) : rowsOk 1 (strRows l) = true := rowsOk_map _ 1 (fun _ => rfl) l
theorem strRows_at (l : List ByteArray) (i : Nat) (h : i < l.length) : rowAt (strRows l) (i : Int) = [.str (l.getD i ⟨#[]⟩)] := by
  unfold strRows; rw [rowAt_map _ l _ ⟨#[]⟩ (by omega) (by omega)]; rfl
theorem strRows_tail (s : ByteArray) (l : List ByteArray) : ((strRows (s :: l)).drop 1).take (((strRows (s :: l)).length : Int).toNat - 1) = strRows l := by
  have : ((strRows (s :: l)).length : Int).toNat - 1 = (strRows l).length := by simp [strRows]
  rw [this]; show (strRows l).take (strRows l).length = _
  exact List.take_length
/-- The loop over a level's operators. -/
theorem ops_loop {n k m3 a0 : Nat} {K : Res → Out} {r1 r6 : List (List PV)} {i2 i4 i5 i10 i11 kd : Int} {t3 tx : ByteArray} {p14 p20 : PV} {b15 : Bool} {sg : List (List PV)} (l : List ByteArray) (hl : l.length ≤ 100) (found : Bool) :
    ∀ (r : List ByteArray) (i m : Nat) (b12 : Bool) (p13 p19 : PV), l.drop i = r → i ≤ l.length → r.length < m → NB p13 → found = (b12 || (kd == 5 && r.any fun o => tx.toList == o.toList)) →
    (∀ (p13 p19 : PV) (m : Nat), NB p13 → 1 ≤ m → L n (callW (En n) k) 70 [1, 1, 1, 1, 0, 0, 0, 1, 1, 0, 1, 0, 0] (syntax_parser_binary.S5 a0 r1 i2 t3 i4 i5 r6 (.list false (strRows l)) kd tx i10 i11 found p13 p14 b15 (.list false (strRows l)) (l.length : Int) (l.length : Int) p19 p20) sg (syntax_parser_binary.K5 (callW (En n) k) n m3 K) m) →
    L n (callW (En n) k) 70 [1, 1, 1, 1, 0, 0, 0, 1, 1, 0, 1, 0, 0] (syntax_parser_binary.S5 a0 r1 i2 t3 i4 i5 r6 (.list false (strRows l)) kd tx i10 i11 b12 p13 p14 b15 (.list false (strRows l)) (l.length : Int) (i : Int) p19 p20) sg (syntax_parser_binary.K5 (callW (En n) k) n m3 K) m
  | r, i, 0, b12, p13, p19, _, _, hm, _, _, _ => by omega
  | [], i, m + 1, b12, p13, p19, hr, hi, hm, h13, hf, H => by
    have : i = l.length := by have := List.drop_eq_nil_iff.1 hr; omega
    subst this
    have e : found = b12 := by rw [hf]; simp
    rw [← e]
    exact H p13 p19 (m + 1) h13 (by omega)
  | o :: r, i, m + 1, b12, p13, p19, hr, hi, hm, h13, hf, H => by
    have hil : i < l.length := by
      rcases Nat.lt_or_ge i l.length with h | h
      · exact h
      · rw [List.drop_eq_nil_iff.2 h] at hr; cases hr
    have ho : l.getD i ⟨#[]⟩ = o := by
      have : l[i]? = some o := by rw [← List.head?_drop, hr]; rfl
      rw [List.getD_eq_getElem?_getD, this]; rfl
    have hr' : l.drop (i + 1) = r := by rw [← List.drop_drop, hr]; rfl
    have ih := fun b p13 p19 h13 hf => ops_loop l hl found r (i + 1) m b p13 p19 hr' (by omega) (by simp at hm; omega) h13 hf H
    rw [L_succ, syntax_parser_binary.loop5]
    have e1 : decide ((i : Int) < (l.length : Int)) = true := decide_eq_true (by omega)
    have e2 : ((PV.list false (strRows l)).strip).rows = strRows l := rfl
    have e3 : ((PV.list false (strRows l)).strip).isL = true := rfl
    have e4 : decide ((0 : Int) ≤ (i : Int)) = true := decide_eq_true (by omega)
    have e5 : IntKind.i64.wrap ((i : Int) + 1) = ((i + 1 : Nat) : Int) := wrap_id _ (by omega) (by omega)
    rw [e1, bcond_t, e2, e3, strRows_ok, strRows_len, e1, e4, strRows_at l i hil, ho, e5]
    show bcond b12 _ _
    cases b12 with
    | true => rw [bcond_t]; exact ih _ _ _ (fun _ => rfl) (by rw [hf]; simp)
    | false =>
      rw [bcond_f]
      by_cases h5 : kd = 5
      · subst h5
        show bcond true _ _
        rw [bcond_t]
        refine ih _ _ _ (fun _ => rfl) ?_
        rw [hf]; simp only [List.any_cons, Bool.false_or, show ((5 : Int) == 5) = true from rfl, Bool.true_and]; rfl
      · have : (kd == 5) = false := by simp [h5]
        rw [this, bcond_f]
        refine ih _ _ _ (fun _ => rfl) ?_
        rw [hf, this]; rfl
section
variable {pre post : List (List PV)} {S : Src} {n g d : Nat} {E : Ps Tree} [hE : Sp E]
local instance : Fw E := Sp.fw'
theorem bin_loop {k : Nat} {K : Res → Out} {sub : Ps Tree} [Sp sub] {s : ByteArray} {rl : List ByteArray} (l : List ByteArray) (hl : l.length ≤ 100) (hn : 101 ≤ n) (hk : 2 ≤ k)
    (hsub : ∀ nx (K : Res → Out), Fit S nx → RT pre post sub S nx K → callW (En n) k 70 [.ptr pre.length 0, .list false (strRows rl)] (psg pre post S nx) K) :
    ∀ (j m nx : Nat) (x : Tree) (p8 p9 p10 p11 p13 p14 p15 p16 p17 : PV) (b12 : Bool), j ≤ m → NB p8 → NB p9 → NB p10 → NB p11 → NB p13 → NB p14 → NB p15 → NB p16 → NB p17 → Fit S nx → RT pre post (binLoop l sub j x) S nx K →
    L n (callW (En n) k) 70 [1, 1, 1, 1, 0, 0] (syntax_parser_binary.S3 pre.length (strRows (s :: rl)) x.kind x.text x.at_ x.end_ (kidRows x.kids) (.list false (strRows l)) p8 p9 p10 p11 b12 p13 p14 p15 p16 p17) (psg pre post S nx) (syntax_parser_binary.K3 (callW (En n) k) n K) m
  | 0, m, nx, x, _, _, _, _, _, _, _, _, _, _, _, _, _, _, _, _, _, _, _, _, _, h => h.elim
  | j + 1, 0, nx, x, _, _, _, _, _, _, _, _, _, _, hm, _, _, _, _, _, _, _, _, _, _, h => by omega
  | j + 1, m + 1, nx, x, p8, p9, p10, p11, p13, p14, p15, p16, p17, b12, hm, h8, h9, h10, h11, h13, h14, h15, h16, h17, hs, h => by
    have : Fw sub := Sp.fw'
    simp only [RT, binLoop, Rn_bind] at h
    rw [L_succ, syntax_parser_binary.loop3]
    refine w_peek hs h fun t e h => ?_
    subst e
    have hq : isBaddr 7 (PV.list false (strRows l)) = false := rfl
    rw [hq, h8 7, h9 7, h10 7, h11 7, h13 7, h14 7, h15 7, h16 7, h17 7]
    show C n _ 70 _ _ _ _
    rw [C_eq, syntax_parser_binary.cut4]
    show L n _ 70 _ _ _ _ n
    have e2 : (((PV.list false (strRows l)).strip).strip).rows = strRows l := rfl
    rw [e2, strRows_len]
    refine ops_loop l hl _ l 0 n false _ _ rfl (by omega) (by omega) h10 rfl fun p13 p19 m5 h13 hm5 => ?_
    obtain ⟨m5, rfl⟩ : ∃ j, m5 = j + 1 := ⟨m5 - 1, by omega⟩
    rw [L_succ, syntax_parser_binary.loop5]
    have e1 : decide ((l.length : Int) < (l.length : Int)) = false := decide_eq_false (by omega)
    rw [e1, bcond_f]
    by_cases hc : (peekT S.T S.sz nx).kind = 5 ∧ (l.any fun o => (peekT S.T S.sz nx).text.toList == o.toList) = true
    · rw [if_pos hc] at h
      simp only [Rn_bind] at h
      obtain ⟨hs', h⟩ := w_known hs h hc.1
      have e3 : (false || ((peekT S.T S.sz nx).kind == 5 && l.any fun o => (peekT S.T S.sz nx).text.toList == o.toList)) = true := by rw [hc.1, hc.2]; rfl
      rw [e3, Bool.not_true, bcond_f]
      refine w_inc hs ?_
      rw [strRows_ok, strRows_tail]
      have e4 : decide (1 ≤ ((strRows (s :: rl)).length : Int)) = true := by rw [strRows_len]; exact decide_eq_true (by simp; omega)
      have e5 : decide (((strRows (s :: rl)).length : Int) ≤ ((strRows (s :: rl)).length : Int)) = true := decide_eq_true (by omega)
      rw [e4, e5]
      show chk true _
      rw [chk_t]
      refine w_nd (fun K h => hsub _ K hs' h) hs' h fun y m2 _ hs2 h => ?_
      have hq : isBaddr 11 (PV.list false (strRows l)) = false := rfl
      rw [hq, h13 11, h11 11]
      show C n _ 70 _ _ _ _
      rw [C_eq, syntax_parser_binary.cut6]
      refine w_node hs2 h fun z _ h => ?_
      exact bin_loop l hl hn hk hsub j m _ _ _ _ _ _ _ _ _ _ _ _ (by omega) (fun _ => rfl) (fun _ => rfl) h13 (fun _ => rfl) (fun _ => rfl) (fun _ => rfl) (fun _ => rfl) (fun _ => rfl) (fun _ => rfl) hs2 h
    · rw [if_neg hc] at h
      have e3 : (false || ((peekT S.T S.sz nx).kind == 5 && l.any fun o => (peekT S.T S.sz nx).text.toList == o.toList)) = false := by
        rcases Classical.em ((peekT S.T S.sz nx).kind = 5) with h5 | h5
        · have : ¬ (l.any fun o => (peekT S.T S.sz nx).text.toList == o.toList) = true := fun h => hc ⟨h5, h⟩
          rw [Bool.not_eq_true] at this
          rw [this]; simp
        · have : ((peekT S.T S.sz nx).kind == 5) = false := by simp [h5]
          rw [this]; rfl
      rw [e3]
      exact h
theorem fieldsT_len {p : ByteArray × List ByteArray} (h : p ∈ fieldsT) : p.2.length ≤ 100 := by
  revert p; decide
theorem bin_spec (hE : SpF pre post n S d 39 E) (hg : g ≤ n) (hn : 101 ≤ n) : ∀ (ps : List (ByteArray × List ByteArray)), (∀ p ∈ ps, p ∈ fieldsT) → ∀ k nx (K : Res → Out), d + 14 + g + ps.length ≤ k → Fit S nx → RT pre post (binP g E (ps.map Prod.snd)) S nx K →
    callW (En n) k 70 [.ptr pre.length 0, .list false (strRows (ps.map Prod.fst))] (psg pre post S nx) K
  | [], _, k, nx, K, hk, hs, h => by
    rw [callW_at (by omega) rfl, syntax_parser_binary.eq]
    show bcond true _ _
    rw [bcond_t]
    exact w_nd (fun K h => unary_spec hE hg _ _ K (by simp at hk; omega) hs h) hs h fun x m _ hs h => h
  | (s, l) :: ps, hp, k, nx, K, hk, hs, h => by
    have hp0 : (s, l) ∈ fieldsT := hp _ (by simp)
    have ih := fun nx K hs h => bin_spec hE hg hn ps (fun p h => hp p (by simp [h])) (k - 1) nx K (by simp at hk; omega) hs h
    simp only [RT, List.map_cons, binP, Rn_bind] at h
    rw [callW_at (by omega) rfl, syntax_parser_binary.eq, List.map_cons, strRows_len]
    have e0 : ((((s, l).1 :: ps.map Prod.fst).length : Int) == 0) = false := by simp; omega
    rw [e0, bcond_f, C_eq, syntax_parser_binary.cut0, strRows_ok, strRows_tail, strRows_len]
    have e1 : decide (1 ≤ (((s, l).1 :: ps.map Prod.fst).length : Int)) = true := decide_eq_true (by simp; omega)
    have e2 : decide ((((s, l).1 :: ps.map Prod.fst).length : Int) ≤ (((s, l).1 :: ps.map Prod.fst).length : Int)) = true := decide_eq_true (by omega)
    rw [e1, e2]
    show chk true _
    rw [chk_t]
    refine w_nd (fun K h => ih _ K hs h) hs h fun x m _ hs h => ?_
    rw [C_eq, syntax_parser_binary.cut1, strRows_ok]
    have e3 : decide (0 < ((strRows ((s, l).1 :: ps.map Prod.fst)).length : Int)) = true := by rw [strRows_len]; exact decide_eq_true (by simp)
    have eR : rowAt (strRows ((s, l).1 :: ps.map Prod.fst)) 0 = [.str s] := rfl
    rw [e3, eR]
    show chk true (chk true (chk true _))
    rw [chk_t, chk_t, chk_t]
    show cP _ 113 [.str s] _ _ _
    rw [cP, callW_foreign (by simp at hk; omega) rfl]
    refine ⟨s, l, hp0, rfl, ?_⟩
    show C n _ 70 _ _ _ _
    rw [C_eq, syntax_parser_binary.cut2]
    exact bin_loop l (fieldsT_len hp0) hn (by simp at hk; omega) (fun nx K hs h => ih nx K hs h) g n _ _ _ _ _ _ _ _ _ _ _ _ hg (fun _ => rfl) (fun _ => rfl) (fun _ => rfl) (fun _ => rfl) (fun _ => rfl) (fun _ => rfl) (fun _ => rfl) (fun _ => rfl) (fun _ => rfl) hs h
theorem exprB_spec (hE : SpF pre post n S d 39 E) (hg : g ≤ n) (hn : 101 ≤ n) : SpF pre post n S (d + 30 + g) 39 (exprB g E) := fun k nx K hk hs h => by
  rw [callW_at (by omega) rfl, syntax_parser_expr.eq, cP, callW_foreign (by omega) rfl]
  refine ⟨rfl, ?_⟩
  dsimp only
  rw [bcond_f]
  show cNd _ 70 [_, .list false (strRows (fieldsT.map Prod.fst))] _ _ _
  exact w_nd (fun K h => bin_spec hE hg hn fieldsT (fun _ h => h) _ _ K (by show _ + 6 ≤ _; omega) hs h) hs h fun x m _ hs h => h
end
/-- The depth of expressions. -/
def dE (g : Nat) : Nat → Nat
  | 0 => 0
  | j + 1 => dE g j + 30 + g
section
variable {pre post : List (List PV)} {S : Src} {n g : Nat}
theorem knotE_spec (hg : g ≤ n) (hn : 101 ≤ n) : ∀ j, SpF pre post n S (dE g j) 39 (knotE g j)
  | 0 => fun k nx K _ _ h => h.elim
  | j + 1 => exprB_spec (knotE_spec hg hn j) hg hn
theorem expr_spec (hg : g ≤ n) (hn : 101 ≤ n) : SpF pre post n S (dE g g + 30 + g) 39 (exprP g) := exprB_spec (knotE_spec hg hn g) hg hn
end
end Go.Ev
set_option maxRecDepth 4000
namespace Go.Ev
open PV
def dX (g : Nat) : Nat := dE g g + 30 + g
section
variable {pre post : List (List PV)} {S : Src} {n g : Nat}
theorem exprX (hg : g ≤ n) (hn : 101 ≤ n) {nx k : Nat} {K : Res → Out} (hk : dX g ≤ k) (hs : Fit S nx) (h : RT pre post (exprP g) S nx K) : callW (En n) k 39 [.ptr pre.length 0] (psg pre post S nx) K := expr_spec hg hn k nx K hk hs h
theorem variable_spec (hg : g ≤ n) (hn : 101 ≤ n) : SpF pre post n S (dX g + 10) 73 (variableP g) := fun k nx K hk hs h => by
  simp only [RT, variableP, Rn_bind, Rn_end] at h
  rw [callW_at (by omega) rfl, syntax_parser_variable.eq]
  refine w_peek hs h fun t _ h => ?_
  rw [C_eq, syntax_parser_variable.cut0]
  refine w_need hs h fun hs h => ?_
  rw [C_eq, syntax_parser_variable.cut1]
  refine w_kind hs h fun nm _ _ hs h => ?_
  rw [C_eq, syntax_parser_variable.cut2]
  refine w_need hs h fun hs h => ?_
  rw [C_eq, syntax_parser_variable.cut3]
  refine w_nd (fun K h => typ_spec hs h) hs h fun y m _ hs h => ?_
  rw [C_eq, syntax_parser_variable.cut4]
  refine w_take hs h (fun hs h => ?_) fun h => ?_
  · simp only [oneP, Rn_bind, Rn_pure] at h
    refine w_nd (fun K h => exprX hg hn (by omega) hs h) hs h fun x m _ hs h => ?_
    rw [C_eq, syntax_parser_variable.cut5]
    refine w_list hs ?_ (ks := [x])
    rw [C_eq, syntax_parser_variable.cut6]
    refine w_need hs h fun hs h => ?_
    rw [C_eq, syntax_parser_variable.cut7]
    exact w_node hs h fun x _ h => h
  · simp only [Rn_pure] at h
    rw [C_eq, syntax_parser_variable.cut5]
    refine w_list hs ?_ (ks := [])
    rw [C_eq, syntax_parser_variable.cut6]
    refine w_need hs h fun hs h => ?_
    rw [C_eq, syntax_parser_variable.cut7]
    exact w_node hs h fun x _ h => h
theorem cond_spec (hg : g ≤ n) (hn : 101 ≤ n) : SpF pre post n S (dX g + 10) 76 (condP g) := fun k nx K hk hs h => by
  simp only [RT, condP, Rn_bind, Rn_pure] at h
  rw [callW_at (by omega) rfl, syntax_parser_cond.eq]
  refine w_need hs h fun hs h => ?_
  rw [C_eq, syntax_parser_cond.cut0]
  refine w_nd (fun K h => exprX hg hn (by omega) hs h) hs h fun x m _ hs h => ?_
  exact w_need hs h fun hs h => h
theorem block_loop {R : Ps Tree} [Sp R] {k d : Nat} {a : Int} {K : Res → Out} (hR : SpF pre post n S d 40 R) (hk : 5 ≤ k) (hd : d ≤ k) : ∀ (j m nx : Nat) (acc : List Tree) (p3 : PV), j ≤ m → acc.length ≤ nx → Fit S nx →
    Rn (stmtsP R j acc) S nx (fun l m => Rn (needP ⟨#[125]⟩) S m (fun _ m => Rn (nodeP 9 ⟨#[]⟩ a l) S m (fun t m => K ⟨false, nodeV t⟩ (psg pre post S m)) (fun a m => K ⟨true, stopV a⟩ (psg pre post S m))) (fun a m => K ⟨true, stopV a⟩ (psg pre post S m))) (fun a m => K ⟨true, stopV a⟩ (psg pre post S m)) →
    L n (callW (En n) k) 74 [1, 1, 1, 1, 0, 0, 0] (syntax_parser_block.S2 pre.length a (kidRows acc) p3) (psg pre post S nx) (syntax_parser_block.K2 (callW (En n) k) n K) m
  | 0, m, nx, acc, p3, _, _, _, h => h.elim
  | j + 1, 0, nx, acc, p3, hm, _, _, h => by omega
  | j + 1, m + 1, nx, acc, p3, hm, hl, hs, h => by
    have hl' : acc.length ≤ 1000000 := by have := hs.le; have := hs.len; omega
    unfold stmtsP at h
    rw [L_succ, syntax_parser_block.loop2]
    refine w_isN hs h (fun _ h => ?_) fun _ h => ?_
    · simp only [Rn_pure] at h
      rw [C_eq, syntax_parser_block.cut4]
      refine w_need hs h fun hs h => ?_
      rw [C_eq, syntax_parser_block.cut5]
      exact w_node hs h fun x _ h => h
    · have : Fw R := Sp.fw'
      simp only [Rn_bind] at h
      rw [C_eq, syntax_parser_block.cut3]
      have h := Rn_sp (p := R) hs.le h
      refine w_nd (fun K h => hR _ _ K (by omega) hs h) hs h fun x m2 _ hs2 h => ?_
      rw [app_ok acc hl', kidRows_snoc]
      exact block_loop hR hk hd j m _ _ _ (by omega) (by simp; have := h.1; omega) hs2 h.2
theorem blockB_spec {R : Ps Tree} [Sp R] {d : Nat} (hR : SpF pre post n S d 40 R) (hg : g ≤ n) : SpF pre post n S (d + 6) 74 (blockB g R) := fun k nx K hk hs h => by
  simp only [RT, blockB, Rn_bind] at h
  rw [callW_at (by omega) rfl, syntax_parser_block.eq]
  refine w_peek hs h fun t _ h => ?_
  rw [C_eq, syntax_parser_block.cut0]
  refine w_need hs h fun hs h => ?_
  rw [C_eq, syntax_parser_block.cut1]
  exact block_loop hR (by omega) (by omega) g n _ [] _ hg (Nat.zero_le _) hs h
/-- A metavariable and a semicolon. -/
theorem w_part {α : Type} {F : α → Nat → Prop} {G : Int → Nat → Prop} {X : PV → Out} {p : Tree → Ps α} {q : Ps α} {Kc : PV → Out} {nx k : Nat} (hs : Fit S nx) (h : Rn (partC p q) S nx F G) (h1 : ∀ x m, nx + 1 ≤ m → Fit S m → Rn (p x) S m F G → Kc (.tup [nodeV x, .bool true]) (psg pre post S m))
    (h2 : Rn q S nx F G → Kc (.tup [nodeV (.mk 0 ⟨#[]⟩ 0 0 []), .bool false]) (psg pre post S nx)) (hX : ∀ a m, G a m → X (stopV a) (psg pre post S m) := by exact fun _ _ h => h) (hk : 5 ≤ k := by omega) : cP (callW (En n) k) 72 [.ptr pre.length 0] (psg pre post S nx) X Kc := by
  rw [cP, callW_at (by omega) rfl, syntax_parser_part.eq, cTok_of _ (fun K => peek0 (by omega) hs), C_eq, syntax_parser_part.cut0, cTok_of _ (fun K => peek1 (by omega) hs), C_eq, syntax_parser_part.cut1]
  have key : ∀ b9 : Bool, (b9 = true ↔ ((peekT S.T S.sz (nx + 1)).kind = 5 ∧ ((peekT S.T S.sz (nx + 1)).text.toList == (⟨#[59]⟩ : ByteArray).toList) = true)) → C n (callW (En n) (k - 1)) 72 [1, 1, 1, 1] (syntax_parser_part.S2 pre.length (peekT S.T S.sz nx).kind (peekT S.T S.sz nx).text (peekT S.T S.sz nx).at_ (peekT S.T S.sz nx).end_ (peekT S.T S.sz (nx + 1)).kind (peekT S.T S.sz (nx + 1)).text (peekT S.T S.sz (nx + 1)).at_ (peekT S.T S.sz (nx + 1)).end_ b9) (psg pre post S nx)
      (syntax_parser_part.K2 (callW (En n) (k - 1)) n fun r s => bcond r.pan (X r.v s) (Kc r.v s)) := by
    intro b9 hb
    rw [C_eq, syntax_parser_part.cut2]
    by_cases h7 : (peekT S.T S.sz nx).kind = 7
    · have e7 : ((peekT S.T S.sz nx).kind == 7) = true := by simp [h7]
      have h' : Rn (do let x ← partK 7 26; p x) S nx F G := by
        unfold Rn partC at h; rw [if_pos h7] at h; exact h
      simp only [partK, Rn_bind, Rn_peek] at h'
      obtain ⟨hs', h'⟩ := w_known hs h' h7
      rw [e7, bcond_t]
      refine w_inc hs ?_
      refine w_need hs' h' (fun hs2 h' => ?_) (fun a m h => hX a m h)
      rw [C_eq, syntax_parser_part.cut3]
      exact w_node hs2 h' fun x _ h => h1 x _ (by omega) hs2 h
    · have e7 : ((peekT S.T S.sz nx).kind == 7) = false := by simp [h7]
      rw [e7, bcond_f]
      by_cases h6 : (peekT S.T S.sz nx).kind = 6 ∧ (peekT S.T S.sz (nx + 1)).kind = 5 ∧ ((peekT S.T S.sz (nx + 1)).text.toList == (⟨#[59]⟩ : ByteArray).toList) = true
      · have e6 : ((peekT S.T S.sz nx).kind == 6) = true := by simp [h6.1]
        have h' : Rn (do let x ← partK 6 25; p x) S nx F G := by
          unfold Rn partC at h; rw [if_neg h7, if_pos h6] at h; exact h
        simp only [partK, Rn_bind, Rn_peek] at h'
        obtain ⟨hs', h'⟩ := w_known hs h' h6.1
        have hi : isT S.T (nx + 1) ⟨#[59]⟩ = true := by
          unfold isT; rw [(peek_same (a := 0) (b := S.sz)).1, (peek_same (a := 0) (b := S.sz)).2, h6.2.1, h6.2.2]; rfl
        obtain ⟨hs2, h'⟩ := w_knownT hs' h' hi
        rw [e6, bcond_t, hb.2 h6.2, bcond_t]
        refine w_inc2 hs ?_
        exact w_node hs2 h' fun x _ h => h1 x _ (by omega) hs2 h
      · have h' : Rn q S nx F G := by
          unfold Rn partC at h; rw [if_neg h7, if_neg h6] at h; exact h
        have h' := h2 h'
        by_cases e6 : (peekT S.T S.sz nx).kind = 6
        · have e6' : ((peekT S.T S.sz nx).kind == 6) = true := by simp [e6]
          have hb' : b9 = false := by
            cases b9 with
            | false => rfl
            | true => exact absurd ⟨e6, hb.1 rfl⟩ h6
          rw [e6', bcond_t, hb', bcond_f]
          exact h'
        · have e6' : ((peekT S.T S.sz nx).kind == 6) = false := by simp [e6]
          rw [e6', bcond_f]
          exact h'
  by_cases h5 : (peekT S.T S.sz (nx + 1)).kind = 5
  · have e5 : ((peekT S.T S.sz (nx + 1)).kind == 5) = true := by simp [h5]
    rw [e5, bcond_t]
    exact key _ ⟨fun h => ⟨h5, h⟩, fun h => h.2⟩
  · have e5 : ((peekT S.T S.sz (nx + 1)).kind == 5) = false := by simp [h5]
    rw [e5, bcond_f]
    exact key _ ⟨fun h => Bool.noConfusion h, fun h => absurd h.1 h5⟩
theorem stmtB_spec {R : Ps Tree} [Sp R] {d : Nat} (hR : SpF pre post n S d 40 R) (hg : g ≤ n) (hn : 101 ≤ n) : SpF pre post n S (dX g + d + 20) 40 (stmtB g R) := fun k nx K hk hs h => by
  have : Fw R := Sp.fw'
  have bl : ∀ {nx} {K : Res → Out}, Fit S nx → RT pre post (blockB g R) S nx K → callW (En n) (k - 1) 74 [.ptr pre.length 0] (psg pre post S nx) K := fun hs h => blockB_spec hR hg _ _ _ (by omega) hs h
  have ex : ∀ {nx} {K : Res → Out}, Fit S nx → RT pre post (exprP g) S nx K → callW (En n) (k - 1) 39 [.ptr pre.length 0] (psg pre post S nx) K := fun hs h => exprX hg hn (by omega) hs h
  have co : ∀ {nx} {K : Res → Out}, Fit S nx → RT pre post (condP g) S nx K → callW (En n) (k - 1) 76 [.ptr pre.length 0] (psg pre post S nx) K := fun hs h => cond_spec hg hn _ _ _ (by omega) hs h
  simp only [RT, stmtB, Rn_bind] at h
  rw [callW_at (by omega) rfl, syntax_parser_stmt.eq]
  refine w_peek hs h fun t _ h => ?_
  rw [C_eq, syntax_parser_stmt.cut0]
  refine w_part hs h (fun x m _ hs h => ?_) fun h => ?_
  · show C n _ 40 _ _ _ _
    rw [C_eq, syntax_parser_stmt.cut1]
    show bcond true _ _
    rw [bcond_t]
    exact h
  · show C n _ 40 _ _ _ _
    rw [C_eq, syntax_parser_stmt.cut1]
    show bcond false _ _
    rw [bcond_f]
    refine w_is hs h (fun _ h => ?_) fun _ h => w_is hs h (fun _ h => ?_) fun _ h => w_take hs h (fun hs h => ?_) fun h => w_take hs h (fun hs h => ?_) fun h => w_take hs h (fun hs h => ?_) fun h => ?_
    · exact w_nd (fun K h => variable_spec hg hn _ _ K (by omega) hs h) hs h fun x m _ hs h => h
    · exact w_nd (fun K h => bl hs h) hs h fun x m _ hs h => h
    · simp only [returnP, Rn_bind] at h
      refine w_isN hs h (fun _ h => ?_) fun _ h => ?_
      · simp only [Rn_pure] at h
        rw [C_eq, syntax_parser_stmt.cut2]
        refine w_need hs h fun hs h => ?_
        rw [C_eq, syntax_parser_stmt.cut6]
        exact w_node hs h fun x _ h => h
      · simp only [oneP, Rn_bind, Rn_pure] at h
        refine w_nd (fun K h => ex hs h) hs h fun x m _ hs h => ?_
        rw [C_eq, syntax_parser_stmt.cut2]
        refine w_need hs h fun hs h => ?_
        rw [C_eq, syntax_parser_stmt.cut6]
        exact w_node hs h fun x _ h => h
    · simp only [ifP, Rn_bind, Rn_end] at h
      refine w_nd (fun K h => co hs h) hs h fun x m _ hs h => ?_
      rw [C_eq, syntax_parser_stmt.cut3]
      refine w_nd (fun K h => bl hs h) hs h fun y m _ hs h => ?_
      rw [C_eq, syntax_parser_stmt.cut7]
      refine w_isT hs h (fun hs2 h => ?_) fun h => ?_
      · simp only [oneP, Rn_bind, Rn_pure] at h
        refine w_inc hs ?_
        refine w_nd (fun K h => bl hs2 h) hs2 h fun z m _ hs h => ?_
        rw [C_eq, syntax_parser_stmt.cut10]
        refine w_list hs ?_ (ks := [z])
        rw [C_eq, syntax_parser_stmt.cut13]
        exact w_node hs h fun x _ h => h
      · simp only [Rn_pure] at h
        rw [C_eq, syntax_parser_stmt.cut10]
        refine w_list hs ?_ (ks := [])
        rw [C_eq, syntax_parser_stmt.cut13]
        exact w_node hs h fun x _ h => h
    · simp only [whileP, Rn_bind] at h
      refine w_nd (fun K h => co hs h) hs h fun x m _ hs h => ?_
      rw [C_eq, syntax_parser_stmt.cut4]
      refine w_nd (fun K h => bl hs h) hs h fun y m _ hs h => ?_
      rw [C_eq, syntax_parser_stmt.cut8]
      exact w_node hs h fun x _ h => h
    · simp only [setP, Rn_bind] at h
      rw [C_eq, syntax_parser_stmt.cut5]
      refine w_nd (fun K h => ex hs h) hs h fun x m _ hs h => ?_
      rw [C_eq, syntax_parser_stmt.cut9]
      refine w_take hs h (fun hs h => ?_) fun h => ?_
      · simp only [Rn_bind] at h
        refine w_nd (fun K h => ex hs h) hs h fun y m _ hs h => ?_
        rw [C_eq, syntax_parser_stmt.cut11]
        refine w_need hs h fun hs h => ?_
        rw [C_eq, syntax_parser_stmt.cut14]
        exact w_node hs h fun x _ h => h
      · simp only [Rn_bind] at h
        rw [C_eq, syntax_parser_stmt.cut12]
        refine w_need hs h fun hs h => ?_
        rw [C_eq, syntax_parser_stmt.cut15]
        exact w_node hs h fun x _ h => h
end
/-- The depth of statements. -/
def dS (g : Nat) : Nat → Nat
  | 0 => 0
  | j + 1 => dX g + dS g j + 20
section
variable {pre post : List (List PV)} {S : Src} {n g : Nat}
theorem knotS_spec (hg : g ≤ n) (hn : 101 ≤ n) : ∀ j, SpF pre post n S (dS g j) 40 (knotS g j)
  | 0 => fun k nx K _ _ h => h.elim
  | j + 1 => stmtB_spec (knotS_spec hg hn j) hg hn
theorem stmt_spec (hg : g ≤ n) (hn : 101 ≤ n) : SpF pre post n S (dX g + dS g g + 20) 40 (stmtP g) := stmtB_spec (knotS_spec hg hn g) hg hn
theorem block_spec (hg : g ≤ n) (hn : 101 ≤ n) : SpF pre post n S (dS g g + 6) 74 (blockP g) := blockB_spec (knotS_spec hg hn g) hg
end
end Go.Ev
set_option maxRecDepth 4000
namespace Go.Ev
open PV
/-- The depth of declarations. -/
def dD (g : Nat) : Nat := dX g + dS g g + 40
section
variable {pre post : List (List PV)} {S : Src} {n g : Nat}
theorem fun_spec (hg : g ≤ n) (hn : 101 ≤ n) (whole : Bool) {k nx : Nat} {K : Res → Out} (hk : dD g ≤ k) (hs : Fit S nx) (h : RT pre post (funP g whole) S nx K) : callW (En n) k 80 [.ptr pre.length 0, .bool whole] (psg pre post S nx) K := by
  have hd : dD g = dX g + dS g g + 40 := rfl
  have bl : ∀ {nx} {K : Res → Out}, Fit S nx → RT pre post (blockP g) S nx K → callW (En n) (k - 1) 74 [.ptr pre.length 0] (psg pre post S nx) K := fun hs h => block_spec hg hn _ _ _ (by omega) hs h
  simp only [RT, funP, parensP, Rn_bind, Rn_end] at h
  rw [callW_at (by omega) rfl, syntax_parser_fun.eq]
  refine w_peek hs h fun t _ h => ?_
  rw [C_eq, syntax_parser_fun.cut0]
  refine w_need hs h fun hs h => ?_
  rw [C_eq, syntax_parser_fun.cut1]
  refine w_kind hs h fun nm _ _ hs h => ?_
  rw [C_eq, syntax_parser_fun.cut2]
  refine w_need hs h fun hs h => ?_
  rw [C_eq, syntax_parser_fun.cut3]
  have last : ∀ (l l2 : List Tree) (o b8 b15 : Bool) (a : Tree) (nx : Nat) (e2 : Int), l2.length ≤ 1000000 → listT (endT S.T nx) l2 = listT e2 l2 → Fit S nx →
      Rn (if whole = true then (do
          let x ← blockP g
          nodeP 5 nm.text t.at_ [a, listT e2 l2, listT (endT S.T nx) [x]]) else (do
          needP ⟨#[59]⟩
          nodeP 5 nm.text t.at_ [a, listT e2 l2, listT (endT S.T nx) []])) S nx (fun t m => K ⟨false, nodeV t⟩ (psg pre post S m)) (fun a m => K ⟨true, stopV a⟩ (psg pre post S m)) →
      C n (callW (En n) (k - 1)) 80 [1, 1, 1, 1, 1, 1, 1, 1, 1, 1] (syntax_parser_fun.S7 pre.length whole t.at_ nm.kind nm.text nm.at_ nm.end_ (.list o (kidRows l)) (kidRows l2) a.kind a.text a.at_ a.end_ (kidRows a.kids) b8 b15) (psg pre post S nx) (syntax_parser_fun.K7 (callW (En n) (k - 1)) n K) := by
    intro l l2 o b8 b15 a nx e2 hl2 he hs h
    rw [C_eq, syntax_parser_fun.cut7]
    rw [← he] at h
    refine w_list hs ?_ (hl := hl2)
    show C n _ 80 _ _ _ _
    rw [C_eq, syntax_parser_fun.cut8]
    cases whole with
    | true =>
      simp only [if_true, Rn_bind] at h
      rw [bcond_t]
      refine w_nd (fun K h => bl hs h) hs h fun x m _ hs h => ?_
      rw [C_eq, syntax_parser_fun.cut9]
      refine w_list hs ?_ (ks := [x])
      show C n _ 80 _ _ _ _
      rw [C_eq, syntax_parser_fun.cut10]
      show bcond false _ _
      rw [bcond_f, C_eq, syntax_parser_fun.cut11]
      exact w_node hs h fun x _ h => h
    | false =>
      simp only [Bool.false_eq_true, if_false, Rn_bind] at h
      rw [bcond_f, C_eq, syntax_parser_fun.cut9]
      refine w_list hs ?_ (ks := [])
      show C n _ 80 _ _ _ _
      rw [C_eq, syntax_parser_fun.cut10]
      show bcond true _ _
      rw [bcond_t]
      refine w_need hs h fun hs h => ?_
      rw [C_eq, syntax_parser_fun.cut11]
      exact w_node hs h fun x _ h => h
  have tail : ∀ (l : List Tree) (o b8 : Bool) (nx : Nat) (e : Int), l.length ≤ 1000000 → listT (endT S.T nx) l = listT e l → Fit S nx →
      Rn (needP ⟨#[41]⟩) S nx (fun _ m => Rn (takeC ⟨#[58]⟩ (oneP typP) (pure [])) S m (fun l2 m2 => Rn (if whole = true then (do
          let x ← blockP g
          nodeP 5 nm.text t.at_ [listT e l, listT (endT S.T m) l2, listT (endT S.T m2) [x]]) else (do
          needP ⟨#[59]⟩
          nodeP 5 nm.text t.at_ [listT e l, listT (endT S.T m) l2, listT (endT S.T m2) []])) S m2 (fun t m => K ⟨false, nodeV t⟩ (psg pre post S m)) (fun a m => K ⟨true, stopV a⟩ (psg pre post S m))) (fun a m => K ⟨true, stopV a⟩ (psg pre post S m))) (fun a m => K ⟨true, stopV a⟩ (psg pre post S m)) →
      C n (callW (En n) (k - 1)) 80 [1, 1, 1, 1, 1, 1, 1] (syntax_parser_fun.S4 pre.length whole t.at_ nm.kind nm.text nm.at_ nm.end_ (.list o (kidRows l)) b8) (psg pre post S nx) (syntax_parser_fun.K4 (callW (En n) (k - 1)) n K) := by
    intro l o b8 nx e hl he hs h
    rw [C_eq, syntax_parser_fun.cut4]
    show cNd _ 77 [_, .list false (kidRows l)] _ _ _
    rw [← he] at h
    refine w_list hs ?_ (hl := hl)
    show C n _ 80 _ _ _ _
    rw [C_eq, syntax_parser_fun.cut5]
    refine w_need hs h fun hs h => ?_
    rw [C_eq, syntax_parser_fun.cut6]
    refine w_take hs h (fun hs h => ?_) fun h => ?_
    · simp only [oneP, Rn_bind, Rn_pure] at h
      refine w_nd (fun K h => typ_spec hs h) hs h fun x m _ hs h => ?_
      rw [kidRows_one]
      exact last l [x] _ _ _ _ _ _ (by show 1 ≤ 1000000; omega) rfl hs h
    · simp only [Rn_pure] at h
      exact last l [] _ _ _ _ _ _ (Nat.zero_le _) rfl hs h
  refine w_isN hs h (fun _ h => ?_) fun _ h => ?_
  · simp only [Rn_pure] at h
    exact tail [] _ _ _ _ (Nat.zero_le _) rfl hs h
  · refine w_ls (fun K h => row_spec param_one hs h) hs h fun l m e _ hs2 h => ?_
    have hl := row_len hs.le (Nat.zero_le _) e
    exact tail l _ _ _ _ (by have := hs2.le; have := hs2.len; omega) (listT_ne (row_ne e) _ _) hs2 h
theorem nodeV_d1 (x : Tree) : ((mval' (nodeV x)).isAgg && ((((mval' (nodeV x)).aggC).length == 5) && (((mval' (nodeV x)).aggC).all isCell))) = true := rfl
theorem nodeV_d2 (x : Tree) : decide (((mval' (nodeV x)).aggC).length ≤ 5) = true := rfl
theorem nodeV_d3 (x : Tree) (a b c : Int) (t : ByteArray) (r : List (List PV)) : splice [.int .i64 a, .str t, .int .i64 b, .int .i64 c, .list false r] 0 ((mval' (nodeV x)).aggC) = [.int .i64 x.kind, .str x.text, .int .i64 x.at_, .int .i64 x.end_, .list false (kidRows x.kids)] := rfl
theorem members_loop {k d a1 : Nat} {c2 c3 : List PV} {K : Res → Out} {one : Ps Tree} [Sp one] (hk : 6 ≤ k) (hd : d ≤ k) (hone : OneF pre post n S d one a1 (c2 ++ [] ++ c3)) : ∀ (j m nx : Nat) (acc : List Tree) (p5 p6 p7 p8 p9 p10 : PV), j ≤ m → acc.length ≤ nx → NB p5 → NB p6 → NB p7 → NB p9 → NB p10 → Fit S nx → RL pre post (membersP one j acc) S nx K →
    L n (callW (En n) k) 117 [1, 1, 1, 0, 0, 0] (syntax_parser_members.S1 pre.length a1 c2 c3 (kidRows acc) p5 p6 p7 p8 p9 p10) (psg pre post S nx) (syntax_parser_members.K1 (callW (En n) k) n K) m
  | 0, m, nx, acc, _, _, _, _, _, _, _, _, _, _, _, _, _, _, h => h.elim
  | j + 1, 0, nx, acc, _, _, _, _, _, _, hm, _, _, _, _, _, _, _, h => by omega
  | j + 1, m + 1, nx, acc, p5, p6, p7, p8, p9, p10, hm, hl, h5, h6, h7, h9, h10, hs, h => by
    have hl' : acc.length ≤ 1000000 := by have := hs.le; have := hs.len; omega
    have : Fw one := Sp.fw'
    unfold membersP at h
    rw [L_succ, syntax_parser_members.loop1]
    refine w_isN hs h (fun _ h => h) fun _ h => ?_
    simp only [Rn_bind] at h
    rw [C_eq, syntax_parser_members.cut2]
    refine w_peek hs h fun t e h => ?_
    subst e
    rw [h5 6, h6 6, h7 6, h9 6, h10 6]
    show C n _ 117 _ _ _ _
    rw [C_eq, syntax_parser_members.cut3]
    refine w_kindC h (fun e h => ?_) fun _ h => ?_
    · simp only [partK, Rn_bind, Rn_peek] at h
      obtain ⟨hs', h⟩ := w_known hs h e
      refine w_inc hs ?_
      refine w_need hs' h fun hs2 h => ?_
      rw [C_eq, syntax_parser_members.cut4]
      refine w_node hs2 h fun x _ h => ?_
      rw [app_ok acc hl', kidRows_snoc]
      exact members_loop hk hd hone j m _ _ _ _ _ _ _ _ (by omega) (by simp; omega) (fun _ => rfl) h6 h7 (fun _ => rfl) h10 hs2 h
    · rw [C_eq, syntax_parser_members.cut5]
      refine w_part hs h (fun x m2 h1 hs2 h => ?_) fun h => ?_
      · show chk (!(isBaddr 7 p6 || (isBaddr 7 p7 || (false || (false || (isBaddr 7 p10 || false)))))) _
        rw [h6 7, h7 7, h10 7]
        show C n _ 117 _ _ _ _
        rw [C_eq, syntax_parser_members.cut6]
        show bcond false _ _
        rw [bcond_f, C_eq, syntax_parser_members.cut7]
        show chk (rowsOk 5 (kidRows acc) && decide ((kidRows acc).length + 1 ≤ mostL)) (L n _ 117 _ (syntax_parser_members.S1 _ _ _ _ (kidRows acc ++ [[.int .i64 x.kind, .str x.text, .int .i64 x.at_, .int .i64 x.end_, .list false (kidRows x.kids)]]) _ _ _ _ _ _) _ _ _)
        rw [app_ok acc hl', kidRows_snoc]
        exact members_loop hk hd hone j m _ _ _ _ _ _ _ _ (by omega) (by simp; omega) (fun _ => rfl) (fun _ => rfl) (fun _ => rfl) (fun _ => rfl) (fun _ => rfl) hs2 h
      · show chk (!(isBaddr 7 p6 || (isBaddr 7 p7 || (false || (false || (isBaddr 7 p10 || false)))))) _
        rw [h6 7, h7 7, h10 7]
        show C n _ 117 _ _ _ _
        rw [C_eq, syntax_parser_members.cut6]
        show bcond true _ _
        rw [bcond_t]
        simp only [Rn_bind] at h
        have h := Rn_sp (p := one) hs.le h
        refine hone _ _ _ _ (by omega) hs (Rn_mono (Rn_fw (hp := Sp.fw') hs.le h) (fun x m2 hx => ?_) fun a m h => h)
        obtain ⟨_, _, hs2, h⟩ := hx
        have hs2 := hs.mv hs2
        rw [nodeV_d1, nodeV_d2, nodeV_d3, chk_t, chk_t, C_eq, syntax_parser_members.cut7]
        show chk (rowsOk 5 (kidRows acc) && decide ((kidRows acc).length + 1 ≤ mostL)) (L n _ 117 _ (syntax_parser_members.S1 _ _ _ _ (kidRows acc ++ [[.int .i64 x.kind, .str x.text, .int .i64 x.at_, .int .i64 x.end_, .list false (kidRows x.kids)]]) _ _ _ _ _ _) _ _ _)
        rw [app_ok acc hl', kidRows_snoc]
        exact members_loop hk hd hone j m _ _ _ _ _ _ _ _ (by omega) (by simp; have := h.1; omega) (fun _ => rfl) (fun _ => rfl) (fun _ => rfl) (fun _ => rfl) (fun _ => rfl) hs2 h.2
theorem body_ne {one : Ps Tree} {j : Nat} {nx m : Nat} {l : List Tree} (e : membersP one j [] S nx = .ok l m) [Sp one] : listT (endT S.T m) l = listT (endT S.T nx) l := by
  cases l with
  | cons x r => rfl
  | nil =>
    have : ∀ (j : Nat) (acc : List Tree) (nx m : Nat), membersP one j acc S nx = .ok [] m → acc = [] ∧ nx = m := by
      intro j
      induction j with
      | zero => intro acc nx m e; cases e
      | succ j ih =>
        intro acc nx m e
        have hp : ∀ a b, Ps.seq (partK a b) (fun x => membersP one j (acc ++ [x])) S nx = .ok [] m → acc = [] ∧ nx = m := fun a b e => by
          obtain ⟨x, m1, e1, e2⟩ := PR.bind_ok e
          have := (ih _ _ _ e2).1; simp at this
        unfold membersP isC at e
        split at e
        · cases e; exact ⟨rfl, rfl⟩
        · obtain ⟨t, m1, e1, e2⟩ := PR.bind_ok e
          cases e1
          dsimp only at e2
          rw [Ps.ite_ap] at e2
          split at e2
          · exact hp 6 25 e2
          · unfold partC at e2
            split at e2
            · exact hp 7 26 e2
            · split at e2
              · exact hp 6 25 e2
              · obtain ⟨x, m1, e1, e3⟩ := PR.bind_ok e2
                have := (ih _ _ _ e3).1; simp at this
    rw [(this j [] nx m e).2]
/-- Members and their list. -/
theorem w_body {k d a1 nx : Nat} {c2 c3 : List PV} {F : Tree → Nat → Prop} {G : Int → Nat → Prop} {X : PV → Out} {Kc : PV → Out} {one : Ps Tree} [Sp one] (hone : OneF pre post n S d one a1 (c2 ++ [] ++ c3)) (hs : Fit S nx) (h : Rn (bodyP one g) S nx F G)
    (h1 : ∀ l m, l.length ≤ 1000000 → Fit S m → F (listT (endT S.T m) l) m → Kc (.list false (kidRows l)) (psg pre post S m)) (hX : ∀ a m, G a m → X (stopV a) (psg pre post S m) := by exact fun _ _ h => h) (hg : g ≤ n := by omega) (hk : 7 ≤ k := by omega) (hd : d + 1 ≤ k := by omega) :
    cP (callW (En n) k) 117 [.ptr pre.length 0, .fn a1 c2 c3] (psg pre post S nx) X Kc := by
  simp only [bodyP, Rn_bind, Rn_end, Rn_pure] at h
  rw [cP, callW_at (by omega) rfl, syntax_parser_members.eq]
  refine w_need hs h (fun hs h => ?_) (fun a m h => hX a m h)
  rw [C_eq, syntax_parser_members.cut0]
  refine members_loop (by omega) (by omega) hone g n _ [] _ _ _ _ _ _ hg (Nat.zero_le _) (fun _ => rfl) (fun _ => rfl) (fun _ => rfl) (fun _ => rfl) (fun _ => rfl) hs ?_
  refine Rn_mono (Rn_fw hs.le h) (fun l m hl => ?_) fun a m h => hX a m h
  obtain ⟨e, _, h3, h4⟩ := hl
  have hs2 := hs.mv h3
  have hl := members_len hs.le (Nat.zero_le _) e
  rw [← body_ne e] at h4
  exact h1 l m (by have := hs2.le; have := hs2.len; omega) hs2 h4
theorem member_one (hg : g ≤ n) (hn : 101 ≤ n) : OneF pre post n S (dD g + 1) (memberP g) 118 ([] ++ [] ++ [.eaddr [.ptr pre.length 0] 0]) := fun k nx X Y hk hs h => by
  have hd : dD g = dX g + dS g g + 40 := rfl
  have i : Fw (memberP g) := Sp.fw'
  rw [callF_118]
  refine w_nd (fun K h => ?_) hs h fun x m _ hs h => h
  unfold memberP at h
  rw [callW_at (by omega) rfl]
  show B n _ 118 _ [.eaddr [.ptr pre.length 0] 0] _
  rw [syntax_parser_class_1.eq]
  rw [show decide (1 ≤ [PV.ptr pre.length 0].length) = true from rfl, chk_t]
  show cB _ 58 [.ptr pre.length 0, _] _ _ _
  refine w_is hs h (fun _ h => ?_) fun _ h => ?_
  · rw [chk_t]
    show cNd _ 73 [.ptr pre.length 0] _ _ _
    exact w_nd (fun K h => variable_spec hg hn _ _ K (by omega) hs h) hs h fun x m _ hs h => h
  · rw [chk_t]
    show cNd _ 80 [.ptr pre.length 0, _] _ _ _
    exact w_nd (fun K h => fun_spec hg hn true (by omega) hs h) hs h fun x m _ hs h => h
theorem sig_one (hg : g ≤ n) (hn : 101 ≤ n) : OneF pre post n S (dD g + 1) (funP g false) 119 ([] ++ [] ++ [.eaddr [.ptr pre.length 0] 0]) := fun k nx X Y hk hs h => by
  rw [callF_119]
  refine w_nd (fun K h => ?_) hs h fun x m _ hs h => h
  rw [callW_at (by omega) rfl]
  show B n _ 119 _ [.eaddr [.ptr pre.length 0] 0] _
  rw [syntax_parser_iface_1.eq, show decide (1 ≤ [PV.ptr pre.length 0].length) = true from rfl, chk_t]
  show cNd _ 80 [.ptr pre.length 0, _] _ _ _
  exact w_nd (fun K h => fun_spec hg hn false (by omega) hs h) hs h fun x m _ hs h => h
theorem class_spec (hg : g ≤ n) (hn : 101 ≤ n) {k nx : Nat} {K : Res → Out} (hk : dD g + 8 ≤ k) (hs : Fit S nx) (hc : isT S.T nx ⟨#[99, 108, 97, 115, 115]⟩ = true) (h : RT pre post (classP g) S nx K) : callW (En n) k 78 [.ptr pre.length 0] (psg pre post S nx) K := by
  have hd : dD g = dX g + dS g g + 40 := rfl
  have i : Fw (memberP g) := Sp.fw'
  simp only [RT, classP, Rn_bind, Rn_end] at h
  rw [callW_at (by omega) rfl, syntax_parser_class.eq]
  refine w_peek hs h fun t _ h => ?_
  rw [C_eq, syntax_parser_class.cut0]
  obtain ⟨hs', h⟩ := w_knownT hs h hc
  refine w_inc hs ?_
  refine w_kind hs' h fun nm _ _ hs h => ?_
  rw [C_eq, syntax_parser_class.cut1]
  refine w_take hs h (fun hs h => ?_) fun h => ?_
  all_goals
    first
    | (simp only [oneP, Rn_bind, Rn_pure] at h
       refine w_nd (fun K h => typ_spec hs h) hs h fun x m _ hs h => ?_
       rw [C_eq, syntax_parser_class.cut2]
       refine w_list hs ?_ (ks := [x])
       rw [C_eq, syntax_parser_class.cut3])
    | (simp only [Rn_pure] at h
       rw [C_eq, syntax_parser_class.cut2]
       refine w_list hs ?_ (ks := [])
       rw [C_eq, syntax_parser_class.cut3])
    refine w_take hs h (fun hs h => ?_) fun h => ?_
    all_goals
      first
      | (refine w_ls (fun K h => row_spec typ_one hs h) hs h fun l m e _ hs2 h => ?_
         have hl : l.length ≤ 1000000 := by have := row_len hs.le (Nat.zero_le _) e; have := hs2.le; have := hs2.len; omega
         rw [listT_ne (row_ne e) _ (endT S.T m)] at h
         rw [C_eq, syntax_parser_class.cut4]
         show cNd _ 77 [_, .list false (kidRows l)] _ _ _
         refine w_list hs2 ?_ (hl := hl)
         replace hs := hs2)
      | (simp only [Rn_pure] at h
         rw [C_eq, syntax_parser_class.cut4]
         show cNd _ 77 [_, .list false (kidRows [])] _ _ _
         refine w_list hs ?_ (ks := []))
      show C n _ 78 _ _ _ _
      rw [C_eq, syntax_parser_class.cut5]
      refine w_body (member_one hg hn) hs h fun l m hl hs2 h => ?_
      rw [C_eq, syntax_parser_class.cut6]
      show cNd _ 77 [_, .list false (kidRows l)] _ _ _
      refine w_list hs2 ?_ (hl := hl)
      show C n _ 78 _ _ _ _
      rw [C_eq, syntax_parser_class.cut7]
      refine w_need hs2 h fun hs h => ?_
      rw [C_eq, syntax_parser_class.cut8]
      exact w_node hs h fun x _ h => h
theorem iface_spec (hg : g ≤ n) (hn : 101 ≤ n) {k nx : Nat} {K : Res → Out} (hk : dD g + 8 ≤ k) (hs : Fit S nx) (hc : isT S.T nx ⟨#[105, 110, 116, 101, 114, 102, 97, 99, 101]⟩ = true) (h : RT pre post (ifaceP g) S nx K) : callW (En n) k 79 [.ptr pre.length 0] (psg pre post S nx) K := by
  have hd : dD g = dX g + dS g g + 40 := rfl
  simp only [RT, ifaceP, Rn_bind, Rn_end] at h
  rw [callW_at (by omega) rfl, syntax_parser_iface.eq]
  refine w_peek hs h fun t _ h => ?_
  rw [C_eq, syntax_parser_iface.cut0]
  obtain ⟨hs', h⟩ := w_knownT hs h hc
  refine w_inc hs ?_
  refine w_kind hs' h fun nm _ _ hs h => ?_
  rw [C_eq, syntax_parser_iface.cut1]
  refine w_take hs h (fun hs h => ?_) fun h => ?_
  all_goals
    first
    | (refine w_ls (fun K h => row_spec typ_one hs h) hs h fun l m e _ hs2 h => ?_
       have hl : l.length ≤ 1000000 := by have := row_len hs.le (Nat.zero_le _) e; have := hs2.le; have := hs2.len; omega
       rw [listT_ne (row_ne e) _ (endT S.T m)] at h
       rw [C_eq, syntax_parser_iface.cut2]
       show cNd _ 77 [_, .list false (kidRows l)] _ _ _
       refine w_list hs2 ?_ (hl := hl)
       replace hs := hs2)
    | (simp only [Rn_pure] at h
       rw [C_eq, syntax_parser_iface.cut2]
       show cNd _ 77 [_, .list false (kidRows [])] _ _ _
       refine w_list hs ?_ (ks := []))
    show C n _ 79 _ _ _ _
    rw [C_eq, syntax_parser_iface.cut3]
    refine ⟨?_, ?_⟩
    · refine w_body (sig_one hg hn) hs h fun l m hl hs2 h => ?_
      refine ⟨?_, ?_⟩
      · show cNd _ 77 [_, .list false (kidRows l)] _ _ _
        refine w_list hs2 ?_ (hl := hl)
        show C n _ 79 _ _ _ _
        rw [C_eq, syntax_parser_iface.cut4]
        refine w_need hs2 h fun hs h => ?_
        rw [C_eq, syntax_parser_iface.cut5]
        exact w_node hs h fun x _ h => h
      · show chk true _
        rw [chk_t]
        show cNd _ 77 [_, .list false (kidRows l)] _ _ _
        refine w_list hs2 ?_ (hl := hl)
        rw [C_eq, syntax_parser_iface.cut4]
        refine w_need hs2 h fun hs h => ?_
        rw [C_eq, syntax_parser_iface.cut5]
        exact w_node hs h fun x _ h => h
    · show chk true _
      rw [chk_t]
      refine w_body (sig_one hg hn) hs h fun l m hl hs2 h => ?_
      show cNd _ 77 [_, .list false (kidRows l)] _ _ _
      refine w_list hs2 ?_ (hl := hl)
      rw [C_eq, syntax_parser_iface.cut4]
      refine w_need hs2 h fun hs h => ?_
      rw [C_eq, syntax_parser_iface.cut5]
      exact w_node hs h fun x _ h => h
theorem decl_spec (hg : g ≤ n) (hn : 101 ≤ n) : SpF pre post n S (dD g + 10) 41 (declP g) := fun k nx K hk hs h => by
  have hd : dD g = dX g + dS g g + 40 := rfl
  have i1 : Fw (classP g) := Sp.fw'
  have i2 : Fw (ifaceP g) := Sp.fw'
  unfold declP at h
  rw [callW_at (by omega) rfl, syntax_parser_decl.eq]
  refine w_is hs h (fun hc h => ?_) fun _ h => w_is hs h (fun hc h => ?_) fun _ h => w_is hs h (fun _ h => ?_) fun _ h => w_is hs h (fun _ h => ?_) fun _ h => ?_
  · exact w_nd (fun K h => class_spec hg hn (by omega) hs hc h) hs h fun x m _ hs h => h
  · exact w_nd (fun K h => iface_spec hg hn (by omega) hs hc h) hs h fun x m _ hs h => h
  · exact w_nd (fun K h => fun_spec hg hn true (by omega) hs h) hs h fun x m _ hs h => h
  · exact w_nd (fun K h => variable_spec hg hn _ _ K (by omega) hs h) hs h fun x m _ hs h => h
  · rw [cP_pan (fun K => fail_spec (by omega) hs)]
    exact h
theorem decls_loop {k : Nat} {K : Res → Out} (hg : g ≤ n) (hn : 101 ≤ n) (hk : dD g + 10 ≤ k) {p2 p3 : PV} {b4 : Bool} : ∀ (j m nx : Nat) (acc : List Tree) (p5 : PV), j ≤ m → acc.length ≤ nx → Fit S nx →
    Rn (declsP g j acc) S nx (fun l m => K ⟨false, nodeV (.mk 1 ⟨#[]⟩ 0 S.sz l)⟩ (psg pre post S m)) (fun a m => K ⟨true, stopV a⟩ (psg pre post S m)) →
    L n (callW (En n) k) 34 [1, 1, 1, 0, 0, 0] (syntax_parser_module.S4 pre.length (kidRows acc) p2 p3 b4 p5) (psg pre post S nx) (syntax_parser_module.K4 (callW (En n) k) n K) m
  | 0, m, nx, acc, p5, _, _, _, h => h.elim
  | j + 1, 0, nx, acc, p5, hm, _, _, h => by omega
  | j + 1, m + 1, nx, acc, p5, hm, hl, hs, h => by
    have hl' : acc.length ≤ 1000000 := by have := hs.le; have := hs.len; omega
    rw [L_succ, syntax_parser_module.loop4, psg_nx, psg_T, List.length_map]
    unfold declsP Rn moreC at h
    by_cases hc : nx < S.T.length
    · rw [if_pos hc] at h
      have h : Rn (declP g >>= fun x => declsP g j (acc ++ [x])) S nx (fun l m => K ⟨false, nodeV (.mk 1 ⟨#[]⟩ 0 S.sz l)⟩ (psg pre post S m)) (fun a m => K ⟨true, stopV a⟩ (psg pre post S m)) := h
      have e : decide ((nx : Int) < (S.T.length : Int)) = true := decide_eq_true (by omega)
      rw [Rn_bind] at h
      have h := Rn_sp (p := declP g) hs.le h
      rw [e, bcond_t]
      refine w_nd (fun K h => decl_spec hg hn _ _ K (by omega) hs h) hs h fun x m2 _ hs2 h => ?_
      rw [app_ok acc hl', kidRows_snoc]
      exact decls_loop hg hn hk j m _ _ _ (by omega) (by simp; have := h.1; omega) hs2 h.2
    · rw [if_neg hc] at h
      have e : decide ((nx : Int) < (S.T.length : Int)) = false := decide_eq_false (by omega)
      rw [e, bcond_f, C_eq, syntax_parser_module.cut6, psg_sz]
      exact h
theorem imports_loop {k : Nat} {K : Res → Out} (hg : g ≤ n) (hn : 101 ≤ n) (hk : dD g + 10 ≤ k) : ∀ (j m nx : Nat) (acc : List Tree) (p2 p3 p4 : PV), j ≤ m → acc.length ≤ nx → NB p3 → Fit S nx →
    Rn (importsP j acc) S nx (fun l m => Rn (declsP g g l) S m (fun l m => K ⟨false, nodeV (.mk 1 ⟨#[]⟩ 0 S.sz l)⟩ (psg pre post S m)) (fun a m => K ⟨true, stopV a⟩ (psg pre post S m))) (fun a m => K ⟨true, stopV a⟩ (psg pre post S m)) →
    L n (callW (En n) k) 34 [1, 1, 0, 0, 0] (syntax_parser_module.S0 pre.length (kidRows acc) p2 p3 p4) (psg pre post S nx) (syntax_parser_module.K0 (callW (En n) k) n K) m
  | 0, m, nx, acc, _, _, _, _, _, _, _, h => h.elim
  | j + 1, 0, nx, acc, _, _, _, hm, _, _, _, h => by omega
  | j + 1, m + 1, nx, acc, p2, p3, p4, hm, hl, h3, hs, h => by
    have hl' : acc.length ≤ 1000000 := by have := hs.le; have := hs.len; omega
    unfold importsP at h
    rw [L_succ, syntax_parser_module.loop0]
    refine w_is hs h (fun hc h => ?_) fun _ h => ?_
    · simp only [importP, Rn_bind] at h
      rw [C_eq, syntax_parser_module.cut1]
      refine w_peek hs h fun t _ h => ?_
      obtain ⟨hs', h⟩ := w_knownT hs h hc
      rw [C_eq, syntax_parser_module.cut3]
      refine w_inc hs ?_
      refine w_kind hs' h fun nm _ _ hs2 h => ?_
      rw [h3 5]
      show C n _ 34 _ _ _ _
      rw [C_eq, syntax_parser_module.cut5]
      refine w_need hs2 h fun hs3 h => ?_
      rw [C_eq, syntax_parser_module.cut7]
      refine w_node hs3 h fun x _ h => ?_
      rw [app_ok acc hl', kidRows_snoc]
      exact imports_loop hg hn hk j m _ _ _ _ _ (by omega) (by simp; omega) (fun _ => rfl) hs3 h
    · simp only [Rn_pure] at h
      rw [C_eq, syntax_parser_module.cut2]
      exact decls_loop hg hn hk g n _ _ _ hg hl hs h
theorem module_spec (hg : g ≤ n) (hn : 101 ≤ n) : SpF pre post n S (dD g + 12) 34 (moduleP g) := fun k nx K hk hs h => by
  simp only [RT, moduleP, Rn_bind, Rn_pure] at h
  rw [callW_at (by omega) rfl, syntax_parser_module.eq]
  exact imports_loop hg hn (by omega) g n _ [] _ _ _ hg (Nat.zero_le _) (fun _ => rfl) hs h
end
end Go.Ev
