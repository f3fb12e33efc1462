/- What Module and Fragment give lies within the source, in order; a module has the shape of one. -/
import Derived.Test.YtmofhelddcnecaaGreatDoorNN
import Derived.Test.YtmofhelddcnecaaGreatDoorNM
import Derived.Test.YtmofhelddcnecaaGreatDoorNW
set_option linter.unusedVariables false
set_option linter.unusedSimpArgs false
set_option linter.unusedSectionVars false
set_option maxRecDepth 4000
namespace Go.Ev
open PV
mutual
/-- A node's source contains that of its kids, which are in order. -/
def nsT : Tree → Bool
  | .mk _ _ a e ks => nsL a e ks
def nsL (lo hi : Int) : List Tree → Bool
  | [] => decide (lo ≤ hi)
  | x :: r => decide (lo ≤ x.at_) && (nsT x && nsL x.end_ hi r)
end
theorem nsT_eq (x : Tree) : nsT x = nsL x.at_ x.end_ x.kids := by cases x; rw [nsT]; rfl
theorem nsL_nil {lo hi : Int} : nsL lo hi [] = true ↔ lo ≤ hi := by rw [nsL]; exact decide_eq_true_iff
theorem nsL_cons {lo hi : Int} {x : Tree} {r : List Tree} : nsL lo hi (x :: r) = true ↔ lo ≤ x.at_ ∧ nsT x = true ∧ nsL x.end_ hi r = true := by
  rw [nsL, Bool.and_eq_true, Bool.and_eq_true, decide_eq_true_iff]
mutual
theorem nsT_le : ∀ x : Tree, nsT x = true → x.at_ ≤ x.end_
  | .mk k t a e ks, h => by
    rw [nsT] at h
    exact nsL_le ks a e h
theorem nsL_le : ∀ (ks : List Tree) (lo hi : Int), nsL lo hi ks = true → lo ≤ hi
  | [], lo, hi, h => nsL_nil.1 h
  | x :: r, lo, hi, h => by
    obtain ⟨h1, h2, h3⟩ := nsL_cons.1 h
    have := nsT_le x h2
    have := nsL_le r _ _ h3
    omega
end
theorem nsL_lo {lo lo' hi : Int} {l : List Tree} (hl : lo' ≤ lo) (h : nsL lo hi l = true) : nsL lo' hi l = true := by
  cases l with
  | nil => have := nsL_nil.1 h; exact nsL_nil.2 (by omega)
  | cons x r => obtain ⟨h1, h2, h3⟩ := nsL_cons.1 h; exact nsL_cons.2 ⟨by omega, h2, h3⟩
theorem nsL_hi {hi hi' : Int} (hh : hi ≤ hi') : ∀ {l : List Tree} {lo : Int}, nsL lo hi l = true → nsL lo hi' l = true
  | [], lo, h => by have := nsL_nil.1 h; exact nsL_nil.2 (by omega)
  | x :: r, lo, h => by obtain ⟨h1, h2, h3⟩ := nsL_cons.1 h; exact nsL_cons.2 ⟨h1, h2, nsL_hi hh h3⟩
theorem nsL_snoc {h hi : Int} {x : Tree} (h1 : h ≤ x.at_) (h2 : nsT x = true) (h3 : x.end_ ≤ hi) : ∀ {l : List Tree} {lo : Int}, nsL lo h l = true → nsL lo hi (l ++ [x]) = true
  | [], lo, hh => by have := nsL_nil.1 hh; exact nsL_cons.2 ⟨by omega, h2, nsL_nil.2 h3⟩
  | y :: r, lo, hh => by obtain ⟨a, b, c⟩ := nsL_cons.1 hh; exact nsL_cons.2 ⟨a, b, nsL_snoc h1 h2 h3 c⟩
theorem nsL_last : ∀ (r : List Tree) (x : Tree) {lo hi : Int}, nsL lo hi (x :: r) = true → nsL x.at_ ((x :: r).getD r.length default).end_ (x :: r) = true ∧ ((x :: r).getD r.length default).end_ ≤ hi
  | [], x, lo, hi, h => by
    obtain ⟨a, b, c⟩ := nsL_cons.1 h
    exact ⟨nsL_cons.2 ⟨Int.le_refl _, b, nsL_nil.2 (Int.le_refl _)⟩, nsL_nil.1 c⟩
  | y :: r, x, lo, hi, h => by
    obtain ⟨a, b, c⟩ := nsL_cons.1 h
    obtain ⟨i1, i2⟩ := nsL_last r y c
    obtain ⟨d, _, _⟩ := nsL_cons.1 c
    exact ⟨nsL_cons.2 ⟨Int.le_refl _, b, nsL_lo d i1⟩, i2⟩
/-- A list's node lies where its kids lie, or where it is said to. -/
theorem ns_list {lo hi e : Int} {l : List Tree} (h : nsL lo hi l = true) (h1 : lo ≤ e) (h2 : e ≤ hi) : lo ≤ (listT e l).at_ ∧ (listT e l).end_ ≤ hi ∧ nsT (listT e l) = true := by
  cases l with
  | nil => exact ⟨h1, h2, by rw [nsT_eq]; exact nsL_nil.2 (Int.le_refl _)⟩
  | cons x r =>
    obtain ⟨i1, i2⟩ := nsL_last r x h
    exact ⟨(nsL_cons.1 h).1, i2, by rw [nsT_eq]; exact i1⟩
def posA (S : Src) (i : Nat) : Int := (peekT S.T S.sz i).at_
def posE (S : Src) (i : Nat) : Int := endT S.T i
structure OS (S : Src) : Prop where
  ea : ∀ i, i ≤ S.T.length → posE S i ≤ posA S i
  ae : ∀ i, i < S.T.length → posA S i ≤ posE S (i + 1)
theorem OS.mono {S : Src} (h : OS S) {i : Nat} : ∀ {j : Nat}, i ≤ j → j ≤ S.T.length → posE S i ≤ posE S j
  | 0, hi, _ => by obtain rfl : i = 0 := by omega
                   exact Int.le_refl _
  | j + 1, hi, hj => by
    by_cases e : i = j + 1
    · subst e; exact Int.le_refl _
    · have := h.mono (i := i) (j := j) (by omega) (by omega)
      have := h.ea j (by omega)
      have := h.ae j (by omega)
      omega
theorem OS.lt {S : Src} (h : OS S) {i j : Nat} (hi : i < j) (hj : j ≤ S.T.length) : posA S i ≤ posE S j := by
  have := h.ae i (by omega)
  have := h.mono (i := i + 1) (j := j) (by omega) hj
  omega
/-- No metavariable; names, numbers and texts as they must be. -/
def Pl (S : Src) : Prop := ∀ i, i < S.T.length → (peekT S.T S.sz i).kind ≠ 6 ∧ (peekT S.T S.sz i).kind ≠ 7 ∧ ((peekT S.T S.sz i).kind = 1 → plainB (peekT S.T S.sz i).text = true) ∧ ((peekT S.T S.sz i).kind = 3 → digitsB (peekT S.T S.sz i).text = true) ∧ ((peekT S.T S.sz i).kind = 4 → textB (peekT S.T S.sz i).text = true)
section
variable {α β : Type} {S : Src} {nx : Nat}
/-- From a place on, what is read is as Q says. -/
def NG (S : Src) (nx : Nat) (p : Ps α) (Q : α → Nat → Prop) : Prop := nx ≤ S.T.length → ∀ x m, p S nx = .ok x m → nx ≤ m ∧ m ≤ S.T.length ∧ Q x m
theorem NG.bind {p : Ps α} {f : α → Ps β} {Q : α → Nat → Prop} {R : β → Nat → Prop} (hp : NG S nx p Q) (hf : ∀ y k, nx ≤ k → k ≤ S.T.length → Q y k → NG S k (f y) R) : NG S nx (p >>= f) R := fun h x m e => by
  obtain ⟨y, k, e1, e2⟩ := PR.bind_ok e
  obtain ⟨a, b, c⟩ := hp h y k e1
  obtain ⟨a', b', c'⟩ := hf y k a b c b x m e2
  exact ⟨by omega, b', c'⟩
theorem NG.mono {p : Ps α} {Q R : α → Nat → Prop} (h : NG S nx p Q) (hq : ∀ x m, nx ≤ m → m ≤ S.T.length → Q x m → R x m) : NG S nx p R := fun hn x m e => by
  obtain ⟨a, b, c⟩ := h hn x m e
  exact ⟨a, b, hq x m a b c⟩
theorem NG.pure {x : α} {Q : α → Nat → Prop} (h : Q x nx) : NG S nx (Pure.pure x : Ps α) Q := fun hn y m e => by cases e; exact ⟨Nat.le_refl _, hn, h⟩
theorem NG.fail {Q : α → Nat → Prop} : NG S nx (failP : Ps α) Q := fun _ _ _ e => by cases e
theorem NG.out {Q : α → Nat → Prop} : NG S nx (outP : Ps α) Q := fun _ _ _ e => by cases e
theorem NG.peek {f : Tok → Ps α} {Q : α → Nat → Prop} (h : NG S nx (f (peekT S.T S.sz nx)) Q) : NG S nx (peekP >>= f) Q := h
theorem NG.endp {f : Int → Ps α} {Q : α → Nat → Prop} (h : NG S nx (f (posE S nx)) Q) : NG S nx (endP >>= f) Q := h
theorem NG.size {f : Int → Ps α} {Q : α → Nat → Prop} (h : NG S nx (f S.sz) Q) : NG S nx (sizeP >>= f) Q := h
theorem NG.node {kd a : Int} {t : ByteArray} {ks : List Tree} {Q : Tree → Nat → Prop} (h : Q (.mk kd t a (posE S nx) ks) nx) : NG S nx (nodeP kd t a ks) Q := fun hn y m e => by cases e; exact ⟨Nat.le_refl _, hn, h⟩
theorem NG.need {t : ByteArray} {f : Unit → Ps α} {Q : α → Nat → Prop} (h : nx < S.T.length → NG S (nx + 1) (f ()) Q) : NG S nx (needP t >>= f) Q := fun hn x m e => by
  obtain ⟨y, k, e1, e2⟩ := PR.bind_ok e
  unfold needP at e1
  split at e1
  · rename_i hi
    cases e1
    have hl := isT_lt hi
    obtain ⟨a, b, c⟩ := h hl (by omega) x m e2
    exact ⟨by omega, b, c⟩
  · cases e1
theorem NG.kind {kd : Int} {f : Tok → Ps α} {Q : α → Nat → Prop} (h : nx < S.T.length → (peekT S.T S.sz nx).kind = kd → NG S (nx + 1) (f (peekT S.T S.sz nx)) Q) : NG S nx (kindP kd >>= f) Q := fun hn x m e => by
  obtain ⟨y, k, e1, e2⟩ := PR.bind_ok e
  unfold kindP at e1
  split at e1
  · rename_i hi
    cases e1
    obtain ⟨a, b, c⟩ := h hi.1 hi.2 (by omega) x m e2
    exact ⟨by omega, b, c⟩
  · cases e1
theorem NG.ite {c : Prop} [Decidable c] {a b : Ps α} {Q : α → Nat → Prop} (h1 : c → NG S nx a Q) (h2 : ¬ c → NG S nx b Q) : NG S nx (if c then a else b) Q := by split <;> rename_i h <;> first | exact h1 h | exact h2 h
theorem isT_text {t : ByteArray} {T : List Tok} {sz : Int} (h : isT T nx t = true) : (peekT T sz nx).text = t := by
  have hl := isT_lt h
  unfold isT at h
  have e : peekT T 0 nx = peekT T sz nx := by unfold peekT; rw [if_pos hl, if_pos hl]
  rw [e, Bool.and_eq_true] at h
  exact ba_ext (beq_iff_eq.1 (by rw [← str_eqb]; exact h.2))
theorem NG.isC {t : ByteArray} {p q : Ps α} {Q : α → Nat → Prop} (h1 : NG S nx p Q) (h2 : NG S nx q Q) : NG S nx (isC t p q) Q := fun hn x m e => by
  unfold Ev.isC at e
  split at e
  · exact h1 hn x m e
  · exact h2 hn x m e
theorem NG.tak {t : ByteArray} {p q : Ps α} {Q : α → Nat → Prop} (h1 : nx < S.T.length → (peekT S.T S.sz nx).text = t → NG S (nx + 1) p Q) (h2 : NG S nx q Q) : NG S nx (takeC t p q) Q := fun hn x m e => by
  unfold takeC at e
  split at e
  · rename_i hi
    have hl := isT_lt hi
    obtain ⟨a, b, c⟩ := h1 hl (isT_text hi) (by omega) x m e
    exact ⟨by omega, b, c⟩
  · exact h2 hn x m e
theorem NG.more {p q : Ps α} {Q : α → Nat → Prop} (h1 : NG S nx p Q) (h2 : NG S nx q Q) : NG S nx (moreC p q) Q := fun hn x m e => by
  unfold moreC at e
  split at e
  · exact h1 hn x m e
  · exact h2 hn x m e
end
section
variable {t : ByteArray} {a e : Int} {x y z : Tree} {l : List Tree}
theorem noB_nil : noB ⟨#[]⟩ = true := by unfold noB eqB; exact beq_self_eq_true _
theorem n15 : fitT .ex (.mk 15 t a e []) = plainB t := by rw [fit_M]; exact (fitM_nil _ _).trans rfl
theorem n16 : fitT .ex (.mk 16 t a e []) = digitsB t := by rw [fit_M]; exact (fitM_nil _ _).trans rfl
theorem n17 : fitT .ex (.mk 17 t a e []) = textB t := by rw [fit_M]; exact (fitM_nil _ _).trans rfl
theorem n18 : fitT .ex (.mk 18 t a e []) = constB t := by rw [fit_M]; exact (fitM_nil _ _).trans rfl
theorem n19 : fitT .ex (.mk 19 t a e [x]) = (plainB t && fitT .ex x) := by rw [fit_M]; exact (fitM_ok _ _ _).trans (by rw [show (Tree.mk 19 t a e [x]).kids = [x] from rfl, all_of_sing]; rfl)
theorem n20 : fitT .ex (.mk 20 ⟨#[]⟩ a e (x :: l)) = (x :: l).all (fitT .ex) := by rw [fit_M]; exact (fitM_all _ _ (x :: l)).trans (by rw [show noB (Tree.mk 20 ⟨#[]⟩ a e (x :: l)).text = true from noB_nil]; rfl)
theorem n21 : fitT .ex (.mk 21 t a e l) = (typeB t && l.all (fitT .ex)) := by rw [fit_M]; exact fitM_all _ _ l
theorem n22 : fitT .ex (.mk 22 t a e [x]) = ((eqB t ⟨#[33]⟩ || eqB t ⟨#[45]⟩) && fitT .ex x) := by rw [fit_M]; exact (fitM_ok _ _ _).trans (by rw [show (Tree.mk 22 t a e [x]).kids = [x] from rfl, all_of_sing]; rfl)
theorem n23 : fitT .ex (.mk 23 t a e [x, y]) = (operB t && (fitT .ex x && fitT .ex y)) := by rw [fit_M]; exact (fitM_ok _ _ _).trans (by rw [show (Tree.mk 23 t a e [x, y]).kids = [x, y] from rfl, fit_two]; rfl)
theorem n8 : fitT .ty (.mk 8 t a e []) = typeB t := by rw [fit_M]; exact (fitM_nil _ _).trans rfl
theorem n7 : fitT .pa (.mk 7 t a e [x]) = (plainB t && fitT .ty x) := by rw [fit_pa]; show ((true && (plainB t && true)) && fitS [.ty] [x]) = _; rw [all_of_sing, Bool.and_true, Bool.true_and]
theorem n6 : fitT .va (.mk 6 t a e [x, y]) = (plainB t && (fitT .ty x && fitT (.row .ex 0 (some 1)) y)) := by rw [fit_va]; show ((true && (plainB t && true)) && fitS [.ty, .row .ex 0 (some 1)] [x, y]) = _; rw [fit_two, Bool.and_true, Bool.true_and]
theorem n24 {w : W} {lo : Nat} {hi : Option Nat} : fitT (.row w lo hi) (listT e l) = ((decide (lo ≤ l.length) && atMost l.length hi) && l.all (fitT w)) := by
  rw [fit_row]
  have h1 : noB (listT e l).text = true := by cases l <;> exact noB_nil
  have h2 : (listT e l).kids = l := by cases l <;> rfl
  have h3 : ((listT e l).kind == 24) = true := by cases l <;> rfl
  rw [h1, h2, h3, Bool.true_and, Bool.true_and]
theorem n9 : fitT .bl (.mk 9 ⟨#[]⟩ a e l) = l.all (fitT .st) := by rw [fit_bl, show noB (Tree.mk 9 ⟨#[]⟩ a e l).text = true from noB_nil]; rfl
theorem n5 {b : Bool} : fitT (.fu b) (.mk 5 t a e [x, y, z]) = (plainB t && (fitT (.row .pa 0 none) x && (fitT (.row .ty 0 (some 1)) y && fitT (.row .bl b.toNat (some b.toNat)) z))) := by
  rw [fit_fu]
  show ((true && (plainB t && true)) && fitS _ [x, y, z]) = _
  rw [fit_three, Bool.and_true, Bool.true_and]
theorem fit_st {kd : Int} (hk : kd ≠ 6) : fitT .st (.mk kd ⟨#[]⟩ a e l) = fitM (if kd = 9 then needBl kd ⟨#[]⟩ l.length else if kd = 10 then okIf (decide (l.length ≤ 1)) (List.replicate l.length .ex)
    else if kd = 11 then okIf (l.length == 3) [.ex, .bl, .row .bl 0 (some 1)] else if kd = 12 then okIf (l.length == 2) [.ex, .bl] else if kd = 13 then okIf (l.length == 2) [.ex, .ex] else if kd = 14 then okIf (l.length == 1) [.ex] else none) l := by
  rw [fit_M]
  show fitM (needSt kd ⟨#[]⟩ l.length) l = _
  unfold needSt
  rw [if_neg hk, if_neg (by rw [noB_nil]; simp)]
theorem st10 : fitT .st (.mk 10 ⟨#[]⟩ a e l) = (decide (l.length ≤ 1) && l.all (fitT .ex)) := by exact (fit_st (by omega)).trans (fitM_all _ _ l)
theorem st11 : fitT .st (.mk 11 ⟨#[]⟩ a e [x, y, z]) = (fitT .ex x && (fitT .bl y && fitT (.row .bl 0 (some 1)) z)) := by refine (fit_st (by omega)).trans ?_; show fitM (okIf true [.ex, .bl, .row .bl 0 (some 1)]) [x, y, z] = _; rw [fitM_ok, fit_three, Bool.true_and]
theorem st12 : fitT .st (.mk 12 ⟨#[]⟩ a e [x, y]) = (fitT .ex x && fitT .bl y) := by refine (fit_st (by omega)).trans ?_; show fitM (okIf true [.ex, .bl]) [x, y] = _; rw [fitM_ok, fit_two, Bool.true_and]
theorem st13 : fitT .st (.mk 13 ⟨#[]⟩ a e [x, y]) = (fitT .ex x && fitT .ex y) := by refine (fit_st (by omega)).trans ?_; show fitM (okIf true [.ex, .ex]) [x, y] = _; rw [fitM_ok, fit_two, Bool.true_and]
theorem st14 : fitT .st (.mk 14 ⟨#[]⟩ a e [x]) = fitT .ex x := by refine (fit_st (by omega)).trans ?_; show fitM (okIf true [.ex]) [x] = _; rw [fitM_ok, all_of_sing, Bool.true_and]
theorem de3 : fitT .de (.mk 3 t a e [x, y, z]) = (plainB t && (fitT (.row .ty 0 (some 1)) x && (fitT (.row .ty 0 none) y && fitT (.row .me 0 none) z))) := by
  rw [fit_M]
  exact (fitM_ok _ _ _).trans (by rw [show (Tree.mk 3 t a e [x, y, z]).kids = [x, y, z] from rfl, fit_three]; show ((plainB t && true) && _) = _; rw [Bool.and_true])
theorem de4 : fitT .de (.mk 4 t a e [x, y]) = (plainB t && (fitT (.row .ty 0 none) x && fitT (.row .si 0 none) y)) := by
  rw [fit_M]
  exact (fitM_ok _ _ _).trans (by rw [show (Tree.mk 4 t a e [x, y]).kids = [x, y] from rfl, fit_two]; show ((plainB t && true) && _) = _; rw [Bool.and_true])
theorem va_kind (h : fitT .va x = true) : x.kind = 6 := by
  rw [fit_va, Bool.and_eq_true, Bool.and_eq_true] at h
  exact beq_iff_eq.1 h.1.1
theorem fu_kind {b : Bool} (h : fitT (.fu b) x = true) : x.kind = 5 := by
  rw [fit_fu, Bool.and_eq_true, Bool.and_eq_true] at h
  exact beq_iff_eq.1 h.1.1
theorem va_st (h : fitT .va x = true) : fitT .st x = true := by
  have hk := va_kind h
  rw [fit_M] at h ⊢
  show fitM (needSt x.kind x.text x.kids.length) x.kids = true
  unfold needSt
  rw [if_pos hk]
  exact h
theorem va_me (h : fitT .va x = true) : fitT .me x = true := by rw [fit_me, h]; rfl
theorem fu_me (h : fitT (.fu true) x = true) : fitT .me x = true := by rw [fit_me, h, Bool.or_true]
theorem me_de (h : fitT .me x = true) : fitT .de x = true := by
  have hk : x.kind = 6 ∨ x.kind = 5 := by
    rw [fit_me, Bool.or_eq_true] at h
    exact h.imp va_kind fu_kind
  rw [fit_M] at h ⊢
  show fitM (needDe x.kind x.text x.kids.length) x.kids = true
  unfold needDe
  rw [if_neg (by omega), if_neg (by omega)]
  exact h
theorem fu_si (h : fitT (.fu false) x = true) : fitT .si x = true := by rw [fit_si]; exact h
theorem fit_same {w : W} (h1 : x.kind = y.kind) (h2 : x.text = y.text) (h3 : x.kids = y.kids) : fitT w x = fitT w y := by rw [fit_M, fit_M, h1, h2, h3]
end
end Go.Ev
set_option maxRecDepth 4000
namespace Go.Ev
open PV
/-- A tree that was read from nx to m. -/
structure NT (S : Src) (G : Tree → Bool) (nx : Nat) (x : Tree) (m : Nat) : Prop where
  lo : posA S nx ≤ x.at_
  hi : x.end_ ≤ posE S m
  ns : nsT x = true
  lt : nx < m
  fit : Pl S → G x = true
/-- A list that was read from nx to m. -/
structure NL (S : Src) (G : Tree → Bool) (nx : Nat) (l : List Tree) (m : Nat) : Prop where
  ns : nsL (posE S nx) (posE S m) l = true
  fit : Pl S → l.all G = true
/-- It lies between two places. -/
def Seg (S : Src) (i : Nat) (x : Tree) (k : Nat) : Prop := posE S i ≤ x.at_ ∧ x.end_ ≤ posE S k ∧ nsT x = true
theorem seg_cons {S : Src} {lo hi : Int} {i k : Nat} {x : Tree} {r : List Tree} (h : Seg S i x k) (h1 : lo ≤ posE S i) (h2 : nsL (posE S k) hi r = true) : nsL lo hi (x :: r) = true :=
  nsL_cons.2 ⟨by have := h.1; omega, h.2.2, nsL_lo h.2.1 h2⟩
theorem plain_nodot {s : ByteArray} (h : plainB s = true) : s.data.toList.any isDotB = false := by
  rw [plainB_eq, Bool.and_eq_true] at h
  rw [List.any_eq_false]
  intro c hc hd
  have hw := List.all_eq_true.1 h.1 c hc
  have : c = 46 := beq_iff_eq.1 hd
  subst this
  exact absurd hw (by decide)
theorem type_one {s : ByteArray} (h : plainB s = true) : typeB s = true := by
  unfold typeB typeL
  rw [plain_nodot h, tw_all _ (plain_nodot h), tx_data, h]
  rfl
theorem tw_dot {a : List UInt8} {c : UInt8} {t : List UInt8} (ha : a.any isDotB = false) (hc : isDotB c = true) :
    (a ++ c :: t).any isDotB = true ∧ (a ++ c :: t).takeWhile (fun c => !isDotB c) = a ∧ (a ++ c :: t).dropWhile (fun c => !isDotB c) = c :: t := by
  induction a with
  | nil => simp [hc]
  | cons x a ih =>
    rw [List.any_cons, Bool.or_eq_false_iff] at ha
    obtain ⟨i1, i2, i3⟩ := ih ha.2
    refine ⟨by rw [List.cons_append, List.any_cons, i1, Bool.or_true], ?_, ?_⟩
    · rw [List.cons_append, List.takeWhile_cons, ha.1, i2]; rfl
    · rw [List.cons_append, List.dropWhile_cons, ha.1, i3]; rfl
theorem type_two {a b : ByteArray} (ha : plainB a = true) (hb : plainB b = true) : typeB (a ++ (⟨#[46]⟩ ++ b)) = true := by
  have e : (a ++ (⟨#[46]⟩ ++ b)).data.toList = a.data.toList ++ 46 :: b.data.toList := by simp
  obtain ⟨e1, e2, e3⟩ := tw_dot (t := b.data.toList) (plain_nodot ha) (show isDotB 46 = true from rfl)
  unfold typeB typeL
  rw [e, e1, e2, e3, tx_data, ha]
  show (true && (false || plainB (tx b.data.toList))) = true
  rw [tx_data, hb]
  rfl
theorem row01 {w : W} {e : Int} {l : List Tree} (h : l.length ≤ 1) (ha : l.all (fitT w) = true) : fitT (.row w 0 (some 1)) (listT e l) = true := by
  rw [n24, ha]; simp [atMost, h]
theorem row0n {w : W} {e : Int} {l : List Tree} (ha : l.all (fitT w) = true) : fitT (.row w 0 none) (listT e l) = true := by
  rw [n24, ha]; simp [atMost]
theorem bl_fit_st {x : Tree} (h : fitT .bl x = true) : fitT .st x = true := by
  have h' := h
  rw [fit_bl, Bool.and_eq_true, Bool.and_eq_true] at h'
  have hk : x.kind = 9 := beq_iff_eq.1 h'.1.1
  rw [fit_M] at h ⊢
  show fitM (needSt x.kind x.text x.kids.length) x.kids = true
  unfold needSt
  rw [if_neg (by omega), if_neg (by simp [h'.1.2]), if_pos hk]
  exact h
section
variable {S : Src} (hS : OS S) {nx : Nat} {G : Tree → Bool}
include hS
theorem NT.seg {i k : Nat} {x : Tree} (h : NT S G i x k) (hi : i ≤ S.T.length) : Seg S i x k := ⟨by have := hS.ea i hi; have := h.lo; omega, h.hi, h.ns⟩
theorem NT.up {i k k' : Nat} {x : Tree} (h : NT S G i x k) (hk : k ≤ k') (hl : k' ≤ S.T.length) : NT S G i x k' := ⟨h.lo, by have := hS.mono hk hl; have := h.hi; omega, h.ns, by have := h.lt; omega, h.fit⟩
omit hS in
theorem NT.fits {G' : Tree → Bool} {i k : Nat} {x : Tree} (h : NT S G i x k) (hg : G x = true → G' x = true) : NT S G' i x k := ⟨h.lo, h.hi, h.ns, h.lt, fun p => hg (h.fit p)⟩
theorem NL.seg {i j k : Nat} {l : List Tree} (h : NL S G j l k) (hij : i ≤ j) (hjk : j ≤ k) (hk : k ≤ S.T.length) : Seg S i (listT (posE S i) l) k :=
  ns_list (nsL_lo (hS.mono hij (by omega)) h.ns) (Int.le_refl _) (hS.mono (by omega) hk)
theorem NL.up {i i' k k' : Nat} {l : List Tree} (h : NL S G i l k) (hi : i' ≤ i) (hik : i ≤ k) (hk : k ≤ k') (hl : k' ≤ S.T.length) : NL S G i' l k' :=
  ⟨nsL_lo (hS.mono hi (by omega)) (nsL_hi (hS.mono hk hl) h.ns), h.fit⟩
theorem NL.nil {i k : Nat} (h : i ≤ k) (hk : k ≤ S.T.length) : NL S G i [] k := ⟨nsL_nil.2 (hS.mono h hk), fun _ => rfl⟩
theorem NL.snoc {i j k : Nat} {l : List Tree} {x : Tree} (h : NL S G i l j) (hx : NT S G j x k) (hj : j ≤ S.T.length) : NL S G i (l ++ [x]) k :=
  ⟨nsL_snoc (hx.seg hS hj).1 hx.ns hx.hi h.ns, fun p => by rw [List.all_append, h.fit p, List.all_cons, hx.fit p]; rfl⟩
theorem nt_node {m : Nat} {kd : Int} {t : ByteArray} {ks : List Tree} (hl : nx < m) (hk : nsL (posA S nx) (posE S m) ks = true) (hf : Pl S → G (.mk kd t (posA S nx) (posE S m) ks) = true) : NT S G nx (.mk kd t (posA S nx) (posE S m) ks) m :=
  ⟨Int.le_refl _, Int.le_refl _, by rw [nsT_eq]; exact hk, hl, hf⟩
theorem nt_leaf {m : Nat} {kd : Int} {t : ByteArray} (hl : nx < m) (hm : m ≤ S.T.length) (hf : Pl S → G (.mk kd t (posA S nx) (posE S m) []) = true) : NT S G nx (.mk kd t (posA S nx) (posE S m) []) m :=
  nt_node hS hl (nsL_nil.2 (hS.lt hl hm)) hf
omit hS in
theorem meta_no {tk : Int} (h : tk = 6 ∨ tk = 7) (hl : nx < S.T.length) (hk : (peekT S.T S.sz nx).kind = tk) (p : Pl S) : False := by
  obtain ⟨h6, h7, _⟩ := p nx hl
  omega
theorem ng_meta {tk kd : Int} (h : tk = 6 ∨ tk = 7) : NG S nx (metaP tk kd) (NT S G nx) :=
  NG.peek (NG.kind fun hl hk => NG.node (nt_leaf hS (by omega) (by omega) fun p => (meta_no h hl hk p).elim))
theorem ng_part {tk kd : Int} (h : tk = 6 ∨ tk = 7) : NG S nx (partK tk kd) (NT S G nx) :=
  NG.peek (NG.kind fun hl hk => NG.need fun hl2 => NG.node (nt_leaf hS (by omega) (by omega) fun p => (meta_no h hl hk p).elim))
theorem ng_partC {α : Type} {p : Tree → Ps α} {q : Ps α} {Q : α → Nat → Prop} (h1 : ∀ x m, nx ≤ m → m ≤ S.T.length → NT S G nx x m → NG S m (p x) Q) (h2 : NG S nx q Q) : NG S nx (partC p q) Q := fun hn x m e => by
  unfold Ev.partC at e
  split at e
  · exact NG.bind (p := Ev.partK 7 26) (ng_part hS (.inr rfl)) h1 hn x m e
  · split at e
    · exact NG.bind (p := Ev.partK 6 25) (ng_part hS (.inl rfl)) h1 hn x m e
    · exact h2 hn x m e
omit hS in
theorem ng_names : NG S nx nameS (fun s m => nx < m ∧ (Pl S → typeB s = true)) :=
  NG.kind fun hl hk => NG.tak (fun hl2 _ => NG.kind fun hl3 hk3 => NG.pure ⟨by omega, fun p => type_two ((p _ hl).2.2.1 hk) ((p _ hl3).2.2.1 hk3)⟩) (NG.pure ⟨by omega, fun p => type_one ((p _ hl).2.2.1 hk)⟩)
theorem ng_name : NG S nx nameP (NT S (fitT .ty) nx) :=
  NG.peek (NG.bind ng_names fun s k h1 h2 hs => NG.node (nt_leaf hS hs.1 h2 fun p => by rw [n8]; exact hs.2 p))
theorem ng_typ : NG S nx typP (NT S (fitT .ty) nx) := NG.peek (NG.ite (fun _ => ng_meta hS (.inl rfl)) fun _ => ng_name hS)
section
variable {one : Ps Tree} (ho : ∀ nx, NG S nx one (NT S G nx))
include ho
theorem ng_many : NG S nx (manyOr one) (NT S G nx) := NG.peek (NG.ite (fun _ => ng_meta hS (.inr rfl)) fun _ => ho nx)
theorem ng_rowE {i : Nat} : ∀ (g : Nat) (acc : List Tree) (nx : Nat), i ≤ nx → nx ≤ S.T.length → NL S G i acc nx → NG S nx (rowP one g acc) (fun l m => NL S G i l m ∧ nx < m)
  | 0, acc, nx, hi, hn, h => NG.out
  | g + 1, acc, nx, hi, hn, h => by
    unfold rowP
    refine NG.bind (ng_many hS ho) fun x k h1 h2 hx => ?_
    have hl := h.snoc hS hx hn
    have := hx.lt
    exact NG.tak (fun hl2 _ => (ng_rowE g _ (k + 1) (by omega) (by omega) (hl.up hS (Nat.le_refl _) (by omega) (by omega) (by omega))).mono fun l m h1 h2 h => ⟨h.1, by omega⟩) (NG.pure ⟨hl, by omega⟩)
theorem ng_row {g : Nat} : NG S nx (rowP one g []) (fun l m => NL S G nx l m ∧ nx < m) := fun hn => ng_rowE hS ho g [] nx (Nat.le_refl _) hn (NL.nil hS (Nat.le_refl _) hn) hn
theorem ng_parens {g : Nat} : NG S nx (parensP one g) (NL S G nx) := fun hn => NG.isC (NG.pure (NL.nil hS (Nat.le_refl _) hn)) ((ng_row hS ho).mono fun l m _ _ h => h.1) hn
theorem ng_one : NG S nx (oneP one) (fun l m => NL S G nx l m ∧ l.length ≤ 1) := fun hn => NG.bind (ho nx) (fun x k h1 h2 hx => NG.pure ⟨by simpa using (NL.nil hS (Nat.le_refl _) hn).snoc hS hx hn, by simp⟩) hn
theorem ng_opt {t : ByteArray} : NG S nx (takeC t (oneP one) (Pure.pure [])) (fun l m => NL S G nx l m ∧ l.length ≤ 1) := fun hn =>
  NG.tak (fun hl _ => (ng_one hS ho).mono fun l m h1 h2 h => ⟨h.1.up hS (by omega) (by omega) (Nat.le_refl _) h2, h.2⟩) (NG.pure ⟨NL.nil hS (Nat.le_refl _) hn, by simp⟩) hn
theorem ng_rows {g : Nat} {t : ByteArray} : NG S nx (takeC t (rowP one g []) (Pure.pure [])) (NL S G nx) := fun hn =>
  NG.tak (fun hl _ => (ng_row hS ho).mono fun l m h1 h2 h => h.1.up hS (by omega) (by omega) (Nat.le_refl _) h2) (NG.pure (NL.nil hS (Nat.le_refl _) hn)) hn
end
theorem ng_param : NG S nx paramP (NT S (fitT .pa) nx) :=
  NG.peek (NG.kind fun hl hk => NG.need fun hl2 => NG.bind (ng_typ hS) fun y k h1 h2 hy => NG.node (nt_node hS (by omega)
    (seg_cons (hy.seg hS (by omega)) (hS.lt (by omega) (by omega)) (nsL_nil.2 (Int.le_refl _))) fun p => by rw [n7, hy.fit p, (p _ hl).2.2.1 hk]; rfl))
section
variable {g : Nat} {E : Ps Tree} (hE : ∀ nx, NG S nx E (NT S (fitT .ex) nx))
include hE
theorem ng_args : NG S nx (argsP g E) (fun l m => NL S (fitT .ex) nx l m ∧ nx < m) :=
  NG.need fun hl => NG.bind (ng_parens hS hE) fun l k h1 h2 h => NG.need fun hl2 => NG.pure ⟨h.up hS (by omega) (by omega) (by omega) (by omega), by omega⟩
theorem ng_new {i : Nat} (hi : i < nx) : NG S nx (newP g E (peekT S.T S.sz i)) (NT S (fitT .ex) i) :=
  NG.bind ng_names fun s k h1 h2 hs => NG.bind (ng_args hS hE) fun l m h3 h4 h => NG.node (nt_node hS (by omega)
    (nsL_lo (hS.lt (by omega) h2) h.1.ns) fun p => by rw [n21, hs.2 p, h.1.fit p]; rfl)
theorem ng_inner {i : Nat} (hi : i < nx) : NG S nx (innerP E (peekT S.T S.sz i)) (NT S (fitT .ex) i) := fun hn =>
  NG.bind (hE nx) (fun x k h1 h2 hx => NG.need fun hl => NG.endp (NG.pure (by
    have h3 := hS.lt hi hn
    have h4 := (hx.seg hS hn).1
    have h5 := hS.mono (i := k) (j := k + 1) (by omega) (by omega)
    have h6 := hx.hi
    have h7 := hx.ns
    rw [nsT_eq] at h7
    exact nt_node hS (by omega) (nsL_lo (by omega) (nsL_hi (by omega) h7)) fun p => (fit_same (x := .mk x.kind x.text (posA S i) (posE S (k + 1)) x.kids) (y := x) rfl rfl rfl).trans (hx.fit p)))) hn
theorem ng_rest : NG S nx (restP g E (peekT S.T S.sz nx)) (NT S (fitT .ex) nx) :=
  NG.tak (fun hl ht => NG.node (nt_leaf hS (by omega) (by omega) fun p => by rw [n18, ht]; kernel_rfl))
  (NG.tak (fun hl ht => NG.node (nt_leaf hS (by omega) (by omega) fun p => by rw [n18, ht]; kernel_rfl))
  (NG.tak (fun hl ht => NG.node (nt_leaf hS (by omega) (by omega) fun p => by rw [n18, ht]; kernel_rfl))
  (NG.tak (fun hl ht => NG.node (nt_leaf hS (by omega) (by omega) fun p => by rw [n18, ht]; kernel_rfl))
  (NG.tak (fun hl ht => ng_new hS hE (by omega)) (NG.tak (fun hl ht => ng_inner hS hE (by omega)) NG.fail)))))
theorem ng_primary : NG S nx (primaryP g E) (NT S (fitT .ex) nx) :=
  NG.peek (NG.ite (fun _ => NG.kind fun hl hk => NG.node (nt_leaf hS (by omega) (by omega) fun p => by rw [n15]; exact (p _ hl).2.2.1 hk)) fun _ =>
    NG.ite (fun _ => NG.kind fun hl hk => NG.node (nt_leaf hS (by omega) (by omega) fun p => by rw [n16]; exact (p _ hl).2.2.2.1 hk)) fun _ =>
    NG.ite (fun _ => NG.kind fun hl hk => NG.node (nt_leaf hS (by omega) (by omega) fun p => by rw [n17]; exact (p _ hl).2.2.2.2 hk)) fun _ =>
    NG.ite (fun _ => ng_meta hS (.inl rfl)) fun _ => ng_rest hS hE)
theorem ng_post {i : Nat} : ∀ (m : Nat) (x : Tree) (nx : Nat), NT S (fitT .ex) i x nx → NG S nx (postP g E m x) (NT S (fitT .ex) i)
  | 0, x, nx, h => NG.out
  | m + 1, x, nx, hx => by
    unfold postP
    have hlt := hx.lt
    refine NG.tak (fun hl _ => NG.kind fun hl2 hk => NG.bind (Q := NT S (fitT .ex) i) (NG.node ?_) fun y k h1 h2 hy => ng_post m y k hy)
      (NG.isC (NG.bind (ng_args hS hE) fun l k h1 h2 hl => NG.bind (Q := NT S (fitT .ex) i) (NG.node ?_) fun y k2 h3 h4 hy => ng_post m y k2 hy) (NG.pure hx))
    · have h5 := hS.mono (i := nx) (j := nx + 1 + 1) (by omega) (by omega)
      have h6 := hx.hi
      exact ⟨hx.lo, Int.le_refl _, by rw [nsT_eq]; exact nsL_cons.2 ⟨Int.le_refl _, hx.ns, nsL_nil.2 (by show x.end_ ≤ posE S (nx + 1 + 1); omega)⟩, by omega, fun p => by rw [n19, (p _ hl2).2.2.1 hk, hx.fit p]; rfl⟩
    · exact ⟨hx.lo, Int.le_refl _, by rw [nsT_eq]; exact nsL_cons.2 ⟨Int.le_refl _, hx.ns, nsL_lo hx.hi hl.1.ns⟩, by omega, fun p => by rw [n20, List.all_cons, hx.fit p, hl.1.fit p]; rfl⟩
theorem ng_unaryB {U : Ps Tree} (hU : ∀ nx, NG S nx U (NT S (fitT .ex) nx)) : NG S nx (unaryB g E U) (NT S (fitT .ex) nx) := by
  have sg : ∀ t : ByteArray, (eqB t ⟨#[33]⟩ || eqB t ⟨#[45]⟩) = true → nx < S.T.length → (peekT S.T S.sz nx).text = t → NG S (nx + 1) (signP U (peekT S.T S.sz nx)) (NT S (fitT .ex) nx) := fun t ho hl ht =>
    NG.bind (hU (nx + 1)) fun x k h1 h2 hx => NG.node (nt_node hS (by have := hx.lt; omega) (seg_cons (hx.seg hS (by omega)) (hS.lt (by omega) (by omega)) (nsL_nil.2 (Int.le_refl _))) fun p => by rw [n22, ht, ho, hx.fit p]; rfl)
  exact NG.peek (NG.tak (sg _ (by kernel_rfl)) (NG.tak (sg _ (by kernel_rfl)) (NG.bind (ng_primary hS hE) fun x k h1 h2 hx => ng_post hS hE g x k hx)))
theorem ng_knotU : ∀ (m nx : Nat), NG S nx (knotU g E m) (NT S (fitT .ex) nx)
  | 0, nx => NG.out
  | m + 1, nx => ng_unaryB hS hE (ng_knotU m)
theorem ng_unary : NG S nx (unaryP g E) (NT S (fitT .ex) nx) := ng_unaryB hS hE (ng_knotU hS hE g)
omit hE in
theorem ng_binLoop {i : Nat} {ops : List ByteArray} {sub : Ps Tree} (hs : ∀ nx, NG S nx sub (NT S (fitT .ex) nx)) (ho : ∀ o ∈ ops, operB o = true) : ∀ (m : Nat) (x : Tree) (nx : Nat), NT S (fitT .ex) i x nx → NG S nx (binLoop ops sub m x) (NT S (fitT .ex) i)
  | 0, x, nx, h => NG.out
  | m + 1, x, nx, hx => by
    unfold Ev.binLoop
    refine NG.peek (NG.ite (fun hc => NG.kind fun hl hk => NG.bind (hs _) fun y k h1 h2 hy => NG.bind (Q := NT S (fitT .ex) i) (NG.node ?_) fun z k2 h3 h4 hz => ng_binLoop hs ho m z k2 hz) fun _ => NG.pure hx)
    have hlt := hx.lt
    have hop : operB (peekT S.T S.sz nx).text = true := by
      obtain ⟨o, hm, he⟩ := List.any_eq_true.1 hc.2
      rw [ba_ext (beq_iff_eq.1 (by rw [← str_eqb]; exact he)) (a := (peekT S.T S.sz nx).text) (b := o)]
      exact ho o hm
    have h5 := hS.mono (i := nx) (j := nx + 1) (by omega) (by omega)
    have h6 := hx.hi
    exact ⟨hx.lo, Int.le_refl _, by
      rw [nsT_eq]
      exact nsL_cons.2 ⟨Int.le_refl _, hx.ns, seg_cons (hy.seg hS (by omega)) (by show x.end_ ≤ _; omega) (nsL_nil.2 (Int.le_refl _))⟩, by omega, fun p => by rw [n23, hop, hx.fit p, hy.fit p]; rfl⟩
theorem ng_bin : ∀ (l : List (List ByteArray)) (nx : Nat), (∀ ops ∈ l, ∀ o ∈ ops, operB o = true) → NG S nx (binP g E l) (NT S (fitT .ex) nx)
  | [], nx, _ => ng_unary hS hE
  | ops :: r, nx, h => by
    have ih := fun nx => ng_bin r nx fun o ho => h o (List.mem_cons_of_mem _ ho)
    exact NG.bind (ih nx) fun x k h1 h2 hx => ng_binLoop hS ih (h ops List.mem_cons_self) g x k hx
end
omit hS in
theorem oper_levels : ∀ ops ∈ levels, ∀ o ∈ ops, operB o = true := by
  have h : (levels.all fun ops => ops.all operB) = true := by kernel_rfl
  intro ops h1 o h2
  exact List.all_eq_true.1 (List.all_eq_true.1 h ops h1) o h2
theorem ng_knotE {g : Nat} : ∀ (m nx : Nat), NG S nx (knotE g m) (NT S (fitT .ex) nx)
  | 0, nx => NG.out
  | m + 1, nx => ng_bin hS (ng_knotE m) levels nx oper_levels
theorem ng_expr {g : Nat} (nx : Nat) : NG S nx (exprP g) (NT S (fitT .ex) nx) := ng_bin hS (ng_knotE hS g) levels nx oper_levels
theorem ng_variable {g : Nat} (nx : Nat) : NG S nx (variableP g) (NT S (fitT .va) nx) :=
  NG.peek (NG.need fun hl => NG.kind fun hl2 hk => NG.need fun hl3 => NG.bind (ng_typ hS) fun y k h1 h2 hy => NG.endp (NG.bind (ng_opt hS (ng_expr hS)) fun l k2 h3 h4 hl4 => NG.need fun hl5 => NG.node (nt_node hS (by omega)
    (seg_cons (hy.seg hS (by omega)) (hS.lt (by omega) (by omega)) (seg_cons (hl4.1.seg hS (Nat.le_refl _) h3 h4) (Int.le_refl _) (nsL_nil.2 (hS.mono (by omega) (by omega))))) fun p => by
      rw [n6, (p _ hl2).2.2.1 hk, hy.fit p, row01 hl4.2 (hl4.1.fit p)]; rfl)))
theorem ng_cond {g : Nat} : NG S nx (condP g) (fun x m => NT S (fitT .ex) (nx + 1) x m ∧ nx + 1 ≤ S.T.length) :=
  NG.need fun hl => NG.bind (ng_expr hS _) fun x k h1 h2 hx => NG.need fun hl2 => NG.pure ⟨hx.up hS (by omega) (by omega), by omega⟩
section
variable {g : Nat} {R : Ps Tree} (hR : ∀ nx, NG S nx R (NT S (fitT .st) nx))
include hR
theorem ng_stmts {i : Nat} : ∀ (m : Nat) (acc : List Tree) (nx : Nat), nx ≤ S.T.length → NL S (fitT .st) i acc nx → NG S nx (stmtsP R m acc) (NL S (fitT .st) i)
  | 0, acc, nx, hn, h => NG.out
  | m + 1, acc, nx, hn, h => by
    unfold stmtsP
    exact NG.isC (NG.pure h) (NG.bind (hR nx) fun x k h1 h2 hx => ng_stmts m _ k h2 (h.snoc hS hx hn))
theorem ng_blockB (nx : Nat) : NG S nx (blockB g R) (NT S (fitT .bl) nx) :=
  NG.peek (NG.need fun hl => NG.bind (ng_stmts hS hR g [] (nx + 1) (by omega) (NL.nil hS (Nat.le_refl _) (by omega))) fun l k h1 h2 hl2 => NG.need fun hl3 => NG.node (nt_node hS (by omega)
    (nsL_lo (hS.lt (by omega) (by omega)) (nsL_hi (hS.mono (by omega) (by omega)) hl2.ns)) fun p => by rw [n9]; exact hl2.fit p))
omit hR in
theorem ng_return {i : Nat} (hi : i < nx) : NG S nx (returnP g (peekT S.T S.sz i)) (NT S (fitT .st) i) := fun hn =>
  NG.bind (Q := fun l m => NL S (fitT .ex) nx l m ∧ l.length ≤ 1) (NG.isC (NG.pure ⟨NL.nil hS (Nat.le_refl _) hn, by simp⟩) (ng_one hS (ng_expr hS))) (fun l k h1 h2 hl => NG.need fun hl2 => NG.node (nt_node hS (by omega)
    (nsL_lo (hS.lt hi hn) (nsL_hi (hS.mono (by omega) (by omega)) hl.1.ns)) fun p => by rw [st10, hl.1.fit p]; simp [hl.2])) hn
theorem ng_if {i : Nat} (hi : i < nx) : NG S nx (ifP g R (peekT S.T S.sz i)) (NT S (fitT .st) i) :=
  NG.bind (ng_cond hS) fun x k h1 h2 hx => NG.bind (ng_blockB hS hR k) fun y k2 h3 h4 hy => NG.endp (NG.bind (ng_opt hS (ng_blockB hS hR)) fun l k3 h5 h6 hl => NG.node (nt_node hS (by omega)
    (seg_cons (hx.1.seg hS hx.2) (hS.lt (by omega) hx.2) (seg_cons (hy.seg hS h2) (Int.le_refl _) (seg_cons (hl.1.seg hS (Nat.le_refl _) h5 h6) (Int.le_refl _) (nsL_nil.2 (Int.le_refl _))))) fun p => by
      rw [st11, hx.1.fit p, hy.fit p, row01 hl.2 (hl.1.fit p)]; rfl))
theorem ng_while {i : Nat} (hi : i < nx) : NG S nx (whileP g R (peekT S.T S.sz i)) (NT S (fitT .st) i) :=
  NG.bind (ng_cond hS) fun x k h1 h2 hx => NG.bind (ng_blockB hS hR k) fun y k2 h3 h4 hy => NG.node (nt_node hS (by omega)
    (seg_cons (hx.1.seg hS hx.2) (hS.lt (by omega) hx.2) (seg_cons (hy.seg hS h2) (Int.le_refl _) (nsL_nil.2 (Int.le_refl _)))) fun p => by
      rw [st12, hx.1.fit p, hy.fit p]; rfl)
omit hR in
theorem ng_set : NG S nx (setP g (peekT S.T S.sz nx)) (NT S (fitT .st) nx) := fun hn =>
  NG.bind (ng_expr hS nx) (fun x k h1 h2 hx => NG.tak (fun hl _ => NG.bind (ng_expr hS (k + 1)) fun y k2 h3 h4 hy => NG.need fun hl2 => NG.node (nt_node hS (by omega)
      (nsL_cons.2 ⟨hx.lo, hx.ns, nsL_lo hx.hi (nsL_lo (hS.mono (i := k) (j := k + 1) (by omega) (by omega)) (seg_cons (hy.seg hS (by omega)) (Int.le_refl _) (nsL_nil.2 (hS.mono (by omega) (by omega)))))⟩) fun p => by rw [st13, hx.fit p, hy.fit p]; rfl))
    (NG.need fun hl => NG.node (nt_node hS (by omega) (nsL_cons.2 ⟨hx.lo, hx.ns, nsL_lo hx.hi (nsL_nil.2 (hS.mono (by omega) (by omega)))⟩) fun p => by rw [st14, hx.fit p]))) hn
theorem ng_stmtB (nx : Nat) : NG S nx (stmtB g R) (NT S (fitT .st) nx) :=
  NG.peek (ng_partC hS (fun x m h1 h2 hx => fun hm => NG.pure (Q := NT S (fitT .st) nx) hx hm) (NG.isC ((ng_variable hS nx).mono fun x m _ _ h => h.fits va_st) (NG.isC ((ng_blockB hS hR nx).mono fun x m _ _ h => h.fits bl_fit_st)
    (NG.tak (fun hl _ => ng_return hS (by omega)) (NG.tak (fun hl _ => ng_if hS hR (by omega)) (NG.tak (fun hl _ => ng_while hS hR (by omega)) (ng_set hS)))))))
end
theorem ng_knotS {g : Nat} : ∀ (m nx : Nat), NG S nx (knotS g m) (NT S (fitT .st) nx)
  | 0, nx => NG.out
  | m + 1, nx => ng_stmtB hS (ng_knotS m) nx
theorem ng_stmt {g : Nat} (nx : Nat) : NG S nx (stmtP g) (NT S (fitT .st) nx) := ng_stmtB hS (ng_knotS hS g) nx
theorem ng_block {g : Nat} (nx : Nat) : NG S nx (blockP g) (NT S (fitT .bl) nx) := ng_blockB hS (ng_knotS hS g) nx
omit hS in
theorem row11 {w : W} {e : Int} {x : Tree} (ha : fitT w x = true) : fitT (.row w 1 (some 1)) (listT e [x]) = true := by rw [n24, List.all_cons, ha]; rfl
omit hS in
theorem row00 {w : W} {e : Int} : fitT (.row w 0 (some 0)) (listT e []) = true := by rw [n24]; rfl
theorem ng_fun {g : Nat} {b : Bool} (nx : Nat) : NG S nx (funP g b) (NT S (fitT (.fu b)) nx) := by
  refine NG.peek (NG.need fun hl => NG.kind fun hl2 hk => NG.need fun hl3 => NG.endp (NG.bind (ng_parens hS (fun nx => ng_param hS)) fun l k h1 h2 hp => NG.need fun hl4 => NG.endp (NG.bind (ng_opt hS (fun nx => ng_typ hS)) fun l2 k2 h3 h4 ht => NG.endp ?_)))
  have s1 := hp.seg hS (Nat.le_refl _) h1 h2
  have s2 := ht.1.seg hS (Nat.le_refl _) h3 h4
  refine NG.ite (fun hb => NG.bind (ng_block hS k2) fun x k3 h5 h6 hx => NG.node (nt_node hS (by omega) ?_ fun p => ?_)) fun hb => NG.need fun hl5 => NG.node (nt_node hS (by omega) ?_ fun p => ?_)
  · have hn : NL S (fitT .bl) k2 [x] k3 := by simpa using (NL.nil hS (Nat.le_refl _) h4).snoc hS hx h4
    exact seg_cons s1 (hS.lt (by omega) (by omega)) (seg_cons s2 (hS.mono (by omega) (by omega)) (seg_cons (hn.seg hS (Nat.le_refl _) h5 h6) (Int.le_refl _) (nsL_nil.2 (Int.le_refl _))))
  · subst hb
    rw [n5, (p _ hl2).2.2.1 hk, row0n (hp.fit p), row01 ht.2 (ht.1.fit p)]
    exact row11 (e := posE S k2) (hx.fit p)
  · have hn : NL S (fitT .bl) k2 [] (k2 + 1) := NL.nil hS (by omega) (by omega)
    exact seg_cons s1 (hS.lt (by omega) (by omega)) (seg_cons s2 (hS.mono (by omega) (by omega)) (seg_cons (hn.seg hS (Nat.le_refl _) (by omega) (by omega)) (Int.le_refl _) (nsL_nil.2 (Int.le_refl _))))
  · obtain rfl : b = false := by simpa using hb
    rw [n5, (p _ hl2).2.2.1 hk, row0n (hp.fit p), row01 ht.2 (ht.1.fit p)]
    exact row00 (e := posE S k2)
theorem ng_member {g : Nat} (nx : Nat) : NG S nx (memberP g) (NT S (fitT .me) nx) :=
  NG.isC ((ng_variable hS nx).mono fun x m _ _ h => h.fits va_me) ((ng_fun hS nx).mono fun x m _ _ h => h.fits fu_me)
section
variable {w : W} {one : Ps Tree} (ho : ∀ nx, NG S nx one (NT S (fitT w) nx))
include ho
theorem ng_members {i : Nat} : ∀ (m : Nat) (acc : List Tree) (nx : Nat), nx ≤ S.T.length → NL S (fitT w) i acc nx → NG S nx (membersP one m acc) (NL S (fitT w) i)
  | 0, acc, nx, hn, h => NG.out
  | m + 1, acc, nx, hn, h => by
    unfold membersP
    exact NG.isC (NG.pure h) (NG.peek (NG.ite (fun _ => NG.bind (ng_part hS (.inl rfl)) fun x k h1 h2 hx => ng_members m _ k h2 (h.snoc hS hx hn)) fun _ =>
      ng_partC hS (fun x k h1 h2 hx => ng_members m _ k h2 (h.snoc hS hx hn)) (NG.bind (ho nx) fun x k h1 h2 hx => ng_members m _ k h2 (h.snoc hS hx hn))))
theorem ng_body {g : Nat} : NG S nx (bodyP one g) (fun d m => Seg S nx d m ∧ (Pl S → fitT (.row w 0 none) d = true)) :=
  NG.need fun hl => NG.endp (NG.bind (ng_members hS ho g [] (nx + 1) (by omega) (NL.nil hS (Nat.le_refl _) (by omega))) fun l k h1 h2 hm => NG.pure ⟨by
    obtain ⟨a, b, c⟩ := hm.seg hS (Nat.le_refl _) h1 h2
    have := hS.mono (i := nx) (j := nx + 1) (by omega) (by omega)
    exact ⟨by omega, b, c⟩, fun p => row0n (hm.fit p)⟩)
end
theorem ng_class {g : Nat} (nx : Nat) : NG S nx (classP g) (NT S (fitT .de) nx) :=
  NG.peek (NG.need fun hl => NG.kind fun hl2 hk => NG.endp (NG.bind (ng_opt hS (fun nx => ng_typ hS)) fun l k h1 h2 hp => NG.endp (NG.bind (ng_rows hS (fun nx => ng_typ hS)) fun l2 k2 h3 h4 ht => NG.bind (ng_body hS (ng_member hS)) fun d k3 h5 h6 hd => NG.need fun hl3 => NG.node (nt_node hS (by omega)
    (seg_cons (hp.1.seg hS (Nat.le_refl _) h1 h2) (hS.lt (by omega) (by omega)) (seg_cons (ht.seg hS (Nat.le_refl _) h3 h4) (Int.le_refl _) (seg_cons hd.1 (Int.le_refl _) (nsL_nil.2 (hS.mono (by omega) (by omega)))))) fun p => by
      rw [de3, (p _ hl2).2.2.1 hk, row01 hp.2 (hp.1.fit p), row0n (ht.fit p), hd.2 p]; rfl))))
theorem ng_iface {g : Nat} (nx : Nat) : NG S nx (ifaceP g) (NT S (fitT .de) nx) :=
  NG.peek (NG.need fun hl => NG.kind fun hl2 hk => NG.endp (NG.bind (ng_rows hS (fun nx => ng_typ hS)) fun l k h1 h2 hp => NG.bind (ng_body hS (w := .si) fun nx => (ng_fun hS nx).mono fun x m _ _ h => h.fits fu_si) fun d k3 h5 h6 hd => NG.need fun hl3 => NG.node (nt_node hS (by omega)
    (seg_cons (hp.seg hS (Nat.le_refl _) h1 h2) (hS.lt (by omega) (by omega)) (seg_cons hd.1 (Int.le_refl _) (nsL_nil.2 (hS.mono (by omega) (by omega))))) fun p => by
      rw [de4, (p _ hl2).2.2.1 hk, row0n (hp.fit p), hd.2 p]; rfl)))
theorem ng_decl {g : Nat} (nx : Nat) : NG S nx (declP g) (NT S (fitT .de) nx) :=
  NG.isC (ng_class hS nx) (NG.isC (ng_iface hS nx) (NG.isC ((ng_fun hS nx).mono fun x m _ _ h => h.fits fun h => me_de (fu_me h)) (NG.isC ((ng_variable hS nx).mono fun x m _ _ h => h.fits fun h => me_de (va_me h)) NG.fail)))
theorem ng_import (nx : Nat) : NG S nx importP (NT S isImp nx) :=
  NG.peek (NG.need fun hl => NG.kind fun hl2 hk => NG.need fun hl3 => NG.node (nt_leaf hS (by omega) (by omega) fun p => by
    show (true && (plainB (peekT S.T S.sz (nx + 1)).text && true)) = true
    rw [(p _ hl2).2.2.1 hk]; rfl))
theorem ng_imports : ∀ (m : Nat) (acc : List Tree) (nx : Nat), nx ≤ S.T.length → NL S isImp 0 acc nx → NG S nx (importsP m acc) (NL S isImp 0)
  | 0, acc, nx, hn, h => NG.out
  | m + 1, acc, nx, hn, h => by
    unfold importsP
    exact NG.isC (NG.bind (ng_import hS nx) fun x k h1 h2 hx => ng_imports m _ k h2 (h.snoc hS hx hn)) (NG.pure h)
/-- A module's kids. -/
def kidsR (l : List Tree) : Bool := (l.dropWhile isImp).all (fitT .de)
omit hS in
theorem kidsR_imp : ∀ {l : List Tree}, l.all isImp = true → kidsR l = true
  | [], _ => rfl
  | x :: r, h => by
    rw [List.all_cons, Bool.and_eq_true] at h
    unfold kidsR
    rw [List.dropWhile_cons, if_pos h.1]
    exact kidsR_imp h.2
omit hS in
theorem kidsR_snoc {x : Tree} (hx : fitT .de x = true) : ∀ {l : List Tree}, kidsR l = true → kidsR (l ++ [x]) = true
  | [], _ => by
    unfold kidsR
    rw [List.nil_append, List.dropWhile_cons]
    split
    · rfl
    · rw [List.all_cons, hx]; rfl
  | y :: r, h => by
    unfold kidsR at h ⊢
    rw [List.dropWhile_cons] at h
    rw [List.cons_append, List.dropWhile_cons]
    split
    · rename_i hy
      rw [if_pos hy] at h
      exact kidsR_snoc hx h
    · rename_i hy
      rw [if_neg hy] at h
      rw [← List.cons_append, List.all_append, h, List.all_cons, hx]
      rfl
theorem ng_decls {g : Nat} : ∀ (m : Nat) (acc : List Tree) (nx : Nat), nx ≤ S.T.length → (nsL 0 (posE S nx) acc = true ∧ (Pl S → kidsR acc = true)) → NG S nx (declsP g m acc) (fun l m => nsL 0 (posE S m) l = true ∧ (Pl S → kidsR l = true))
  | 0, acc, nx, hn, h => NG.out
  | m + 1, acc, nx, hn, h => by
    unfold declsP
    exact NG.more (NG.bind (ng_decl hS nx) fun x k h1 h2 hx => ng_decls m _ k h2 ⟨nsL_snoc (hx.seg hS hn).1 hx.ns hx.hi h.1, fun p => kidsR_snoc (hx.fit p) (h.2 p)⟩) (NG.pure h)
theorem ng_module {g : Nat} : NG S 0 (moduleP g) (fun x m => x.at_ = 0 ∧ x.end_ = S.sz ∧ nsT x = true ∧ (Pl S → (x.kind == 1 && noB x.text) = true ∧ kidsR x.kids = true)) := fun hn =>
  NG.bind (ng_imports hS g [] 0 hn (NL.nil hS (Nat.le_refl _) hn)) (fun l k h1 h2 hl => NG.bind (ng_decls hS g l k h2 ⟨hl.ns, fun p => kidsR_imp (hl.fit p)⟩) fun l2 k2 h3 h4 hl2 => NG.size (NG.pure ⟨rfl, rfl, by
    have h5 := hS.mono h4 (Nat.le_refl _)
    have h6 := hS.ea _ (Nat.le_refl _)
    have h7 : posA S S.T.length = S.sz := by unfold posA peekT; rw [if_neg (by omega)]
    rw [nsT_eq]
    exact nsL_hi (by show _ ≤ S.sz; omega) hl2.1, fun p => ⟨by show (true && noB ⟨#[]⟩) = true; rw [noB_nil]; rfl, hl2.2 p⟩⟩)) hn
theorem ng_frag {g : Nat} {what : Int} (nx : Nat) : NG S nx (fragP g what) (fun x m => posA S nx ≤ x.at_ ∧ x.end_ ≤ posE S m ∧ nsT x = true) :=
  NG.ite (fun _ => (ng_expr hS nx).mono fun x m _ _ h => ⟨h.lo, h.hi, h.ns⟩) fun _ => NG.ite (fun _ => (ng_stmt hS nx).mono fun x m _ _ h => ⟨h.lo, h.hi, h.ns⟩) fun _ => (ng_decl hS nx).mono fun x m _ _ h => ⟨h.lo, h.hi, h.ns⟩
end
end Go.Ev
set_option maxRecDepth 4000
namespace Go.Ev
open PV
def OrdT (lo : Int) (l : List Tok) (hi : Int) : Prop := match l with
  | [] => lo ≤ hi
  | t :: r => lo ≤ t.at_ ∧ t.at_ ≤ t.end_ ∧ OrdT t.end_ r hi
theorem OrdT.hi {hi hi' : Int} (hh : hi ≤ hi') : ∀ {l : List Tok} {lo : Int}, OrdT lo l hi → OrdT lo l hi'
  | [], lo, h => by unfold OrdT at h ⊢; omega
  | t :: r, lo, h => by unfold OrdT at h ⊢; exact ⟨h.1, h.2.1, OrdT.hi hh h.2.2⟩
theorem OrdT.snoc {h hi : Int} {t : Tok} (h1 : h ≤ t.at_) (h2 : t.at_ ≤ t.end_) (h3 : t.end_ ≤ hi) : ∀ {l : List Tok} {lo : Int}, OrdT lo l h → OrdT lo (l ++ [t]) hi
  | [], lo, hh => by
    unfold OrdT at hh
    show OrdT lo [t] hi
    unfold OrdT
    exact ⟨by omega, h2, by unfold OrdT; exact h3⟩
  | u :: r, lo, hh => by
    unfold OrdT at hh
    show OrdT lo (u :: (r ++ [t])) hi
    unfold OrdT
    exact ⟨hh.1, hh.2.1, OrdT.snoc h1 h2 h3 hh.2.2⟩
theorem scan_ot (pat : Bool) {L : Nat} : ∀ (f : Nat) (l : List UInt8) (at_ : Nat) (acc : List Tok), at_ + l.length ≤ L → OrdT 0 acc at_ → OrdT 0 (scanW pat f l at_ acc).toks L
  | 0, l, at_, acc, hL, h => h.hi (by omega)
  | f + 1, [], at_, acc, hL, h => h.hi (by omega)
  | f + 1, c :: t, at_, acc, hL, h => by
    have h0 : OrdT 0 [] (L : Int) := by unfold OrdT; omega
    unfold scanW
    by_cases he : (rdTok pat (c :: t)).err = 0
    · simp only [if_pos he]
      have hlen := rdTok_len pat _ he
      by_cases h6 : 600 ≤ acc.length
      · simp only [if_pos h6]; exact h0
      · simp only [if_neg h6]
        have h1 := List.length_drop (i := (rdTok pat (c :: t)).len) (l := c :: t)
        have h2 := List.length_drop (i := skipGo false ((c :: t).drop (rdTok pat (c :: t)).len)) (l := (c :: t).drop (rdTok pat (c :: t)).len)
        have h3 := skipGo_le ((c :: t).drop (rdTok pat (c :: t)).len) false
        exact scan_ot pat f _ _ _ (by omega) (h.snoc (Int.le_refl _) (by show (at_ : Int) ≤ ((at_ + (rdTok pat (c :: t)).len : Nat) : Int); omega) (by show ((at_ + (rdTok pat (c :: t)).len : Nat) : Int) ≤ _; omega))
    · simp only [if_neg he]; exact h0
theorem scan_order (pat : Bool) (l : List UInt8) : OrdT 0 (scanR pat l).toks l.length :=
  scan_ot pat _ _ _ _ (by have := skipGo_le l false; simp; omega) (by unfold OrdT; omega)
theorem OrdT.idx : ∀ {l : List Tok} {lo hi : Int}, OrdT lo l hi → (∀ i, i < l.length → (if i = 0 then lo else (l.getD (i - 1) default).end_) ≤ (l.getD i default).at_ ∧ (l.getD i default).at_ ≤ (l.getD i default).end_) ∧ (if l.length = 0 then lo else (l.getD (l.length - 1) default).end_) ≤ hi
  | [], lo, hi, h => ⟨fun i hi => by simp at hi, by unfold OrdT at h; simpa using h⟩
  | t :: r, lo, hi, h => by
    unfold OrdT at h
    obtain ⟨i1, i2⟩ := OrdT.idx h.2.2
    refine ⟨fun i hi => ?_, ?_⟩
    · cases i with
      | zero => exact ⟨h.1, h.2.1⟩
      | succ j =>
        have := i1 j (by simpa using hi)
        cases j with
        | zero => exact this
        | succ k => exact this
    · rw [if_neg (by simp)]
      cases r with
      | nil => exact i2
      | cons u r => exact i2
theorem os_of {T : List Tok} {sz : Int} (h : OrdT 0 T sz) : OS ⟨T, sz⟩ := by
  obtain ⟨h1, h2⟩ := h.idx
  refine ⟨fun i hi => ?_, fun i hi => ?_⟩
  · show endT T i ≤ (peekT T sz i).at_
    unfold endT peekT
    by_cases e : i < T.length
    · rw [if_pos e]; exact (h1 i e).1
    · have hi : i ≤ T.length := hi
      obtain rfl : i = T.length := by omega
      rw [if_neg e]; exact h2
  · have hi : i < T.length := hi
    show (peekT T sz i).at_ ≤ endT T (i + 1)
    unfold endT peekT
    rw [if_pos hi, if_neg (by omega)]
    exact (h1 i hi).2
theorem litGo_in : ∀ (k : Nat) (l : List UInt8) (n : Nat) (acc : List UInt8), l.length ≤ k → acc.all inText = true → (litGo l n acc).err = 0 → (litGo l n acc).text.all inText = true
  | 0, [], n, acc, _, _, h => by simp [litGo, RK.bad] at h
  | 0, c :: t, n, acc, hk, _, h => by simp at hk
  | k + 1, [], n, acc, _, _, h => by simp [litGo, RK.bad] at h
  | k + 1, c :: t, n, acc, hk, ha, h => by
    simp only [List.length_cons] at hk
    have sn : ∀ b : UInt8, inText b = true → (acc ++ [b]).all inText = true := fun b hb => by rw [List.all_append, ha, List.all_cons, hb]; rfl
    by_cases h1 : c.toNat = 34
    · rw [litGo_q h1] at h ⊢
      split at h
      · simp [RK.bad] at h
      · rename_i hx
        rw [if_neg hx]
        exact ha
    · by_cases h2 : c.toNat < 32 ∨ 126 < c.toNat
      · rw [litGo_bad h1 h2] at h; simp [RK.bad] at h
      · by_cases h3 : c.toNat = 92
        · cases t with
          | nil => rw [litGo_end h3] at h; simp [RK.bad] at h
          | cons d u =>
            simp only [List.length_cons] at hk
            by_cases h4 : d.toNat = 34 ∨ d.toNat = 92
            · rw [litGo_esc h3 h4] at h ⊢
              exact litGo_in k u (n + 2) _ (by omega) (sn d (by unfold inText; rcases h4 with h4 | h4 <;> rw [h4] <;> rfl)) h
            · by_cases h5 : d.toNat = 110
              · rw [litGo_escn h3 h5] at h ⊢
                exact litGo_in k u (n + 2) _ (by omega) (sn 10 rfl) h
              · rw [litGo_escx h3 (by omega) (by omega) h5] at h; simp [RK.bad] at h
        · rw [litGo_ch h1 (by omega) (by omega) h3] at h ⊢
          refine litGo_in k t (n + 1) _ (by omega) (sn c ?_) h
          unfold inText
          rw [decide_eq_true (show 32 ≤ c.toNat by omega), decide_eq_true (show c.toNat ≤ 126 by omega), Bool.and_self, Bool.or_true]
/-- A token of a module. -/
def TokPl (t : Tok) : Prop := t.kind ≠ 6 ∧ t.kind ≠ 7 ∧ (t.kind = 1 → plainB t.text = true) ∧ (t.kind = 3 → digitsB t.text = true) ∧ (t.kind = 4 → textB t.text = true)
theorem rdTok_pl (l : List UInt8) (a b : Int) (h : (rdTok false l).err = 0) : TokPl ⟨(rdTok false l).kind, tx (rdTok false l).text, a, b⟩ := by
  unfold TokPl
  simp only
  cases l with
  | nil => simp [rdTok, RK.bad] at h
  | cons c t =>
    unfold rdTok at h ⊢
    simp only at h ⊢
    by_cases h1 : isLetterI c.toNat = true
    · rw [if_pos h1] at h ⊢
      unfold wordR at h ⊢
      by_cases h2 : isKwL (wordT (c :: t)) = true
      · rw [if_pos h2]; simp
      · rw [if_neg h2] at h ⊢
        by_cases h3 : 24 < (wordT (c :: t)).length
        · rw [if_pos h3] at h; simp [RK.bad] at h
        · rw [if_neg h3]
          refine ⟨by simp, by simp, fun _ => ?_, by simp, by simp⟩
          have e : wordT (c :: t) = (c :: t).takeWhile isWordB := (tw_take (c :: t) isWordB).1
          unfold plainB nameL
          rw [wordLen_all, tx_list, tx_size, show decide ((wordT (c :: t)).length ≤ 24) = true from decide_eq_true (by omega), show isKwL (wordT (c :: t)) = false by simpa using h2, e, List.all_takeWhile, List.takeWhile_cons, if_pos (show isWordB c = true by unfold isWordB; rw [h1]; rfl)]
          simp [h1]
    · rw [if_neg h1] at h ⊢
      by_cases h2 : isDigitI c.toNat = true
      · rw [if_pos h2] at h ⊢
        unfold intR at h ⊢
        split at h
        · simp [RK.bad] at h
        · rename_i hx
          rw [if_neg hx]
          split at h
          · simp [RK.bad] at h
          · rename_i hy
            rw [if_neg hy]
            refine ⟨by simp, by simp, by simp, fun _ => ?_, by simp⟩
            have e : (c :: t).take (digLen (c :: t)) = (c :: t).takeWhile isDigitB := (tw_take (c :: t) isDigitB).1
            have hl : ((c :: t).takeWhile isDigitB).length = digLen (c :: t) := rfl
            have hp : 0 < digLen (c :: t) := by rw [digLen_cons, if_pos (show isDigitB c = true from h2)]; omega
            have hh : ((c :: t).takeWhile isDigitB).head? = some c := by rw [List.takeWhile_cons, if_pos (show isDigitB c = true from h2)]; rfl
            unfold digitsB
            rw [tx_list, tx_size, e, List.all_takeWhile, hl, hh, decide_eq_true hp, decide_eq_true (show digLen (c :: t) ≤ 9 by omega)]
            simp only [List.head?_cons, Bool.and_eq_true, decide_eq_true_eq, not_and, beq_iff_eq] at hx
            by_cases h48 : (some c == some (48 : UInt8)) = true
            · have := hx (beq_iff_eq.1 h48)
              rw [show (digLen (c :: t) == 1) = true by simp; omega]; rfl
            · rw [show (some c == some (48 : UInt8)) = false by simpa using h48]; simp
      · rw [if_neg h2] at h ⊢
        by_cases h3 : c.toNat = 34
        · rw [if_pos h3] at h ⊢
          have h5 := litGo_acc _ _ _ _ (Nat.le_refl _) h
          have h6 := litGo_in _ _ _ _ (Nat.le_refl _) rfl h
          unfold litR
          rw [h5.2]
          refine ⟨by simp, by simp, by simp, by simp, fun _ => ?_⟩
          unfold textB
          rw [tx_list, tx_size, h6, decide_eq_true h5.1]; rfl
        · rw [if_neg h3] at h ⊢
          rw [if_neg (by simp)] at h ⊢
          unfold markR at h ⊢
          split at h
          · rename_i hx; rw [if_pos hx]; simp
          · rename_i hx
            rw [if_neg hx]
            split at h
            · rename_i hy; rw [if_pos hy]; simp
            · simp [RK.bad] at h
theorem scan_pl (l : List UInt8) (sz : Int) : Pl ⟨(scanR false l).toks, sz⟩ := by
  have h := (scan_all (P := TokPl) false l fun l' a he _ => rdTok_pl l' _ _ he).1
  intro i hi
  have hi : i < (scanR false l).toks.length := hi
  have e : peekT (scanR false l).toks sz i = (scanR false l).toks[i] := by
    unfold peekT
    rw [if_pos hi, List.getD_eq_getElem?_getD, List.getElem?_eq_getElem hi]; rfl
  show (peekT (scanR false l).toks sz i).kind ≠ 6 ∧ _
  rw [e]
  exact h _ (List.getElem_mem hi)
theorem depthL_le {l : Int} : ∀ {ks : List Tree} {acc : Int}, 0 ≤ acc → acc ≤ l → (∀ x ∈ ks, depthT x ≤ l) → 0 ≤ depthL acc ks ∧ depthL acc ks ≤ l
  | [], acc, h0, h1, h => by rw [depthL]; exact ⟨h0, h1⟩
  | x :: r, acc, h0, h1, h => by
    rw [depthL]
    have hx := h x List.mem_cons_self
    by_cases e : depthT x > acc
    · rw [decide_eq_true e, bcond_t]
      exact depthL_le (by omega) hx fun y hy => h y (List.mem_cons_of_mem _ hy)
    · rw [decide_eq_false e, bcond_f]
      exact depthL_le h0 h1 fun y hy => h y (List.mem_cons_of_mem _ hy)
theorem deep_depth : ∀ (l : Nat) (t : Tree), l ≤ 100 → deepT l t = none → depthT t ≤ l
  | 0, t, _, h => by unfold deepT at h; cases h
  | l + 1, .mk kd tx a e ks, hl, h => by
    have h' : ks.findSome? (deepT l) = none := h
    rw [List.findSome?_eq_none_iff] at h'
    obtain ⟨h1, h2⟩ := depthL_le (l := (l : Int)) (acc := 0) (ks := ks) (by omega) (by omega) fun x hx => deep_depth l x (by omega) (h' x hx)
    rw [depthT, wrap_id _ (by omega) (by omega)]
    omega
theorem eqB_size {a b : ByteArray} (h : eqB a b = true) : a.size = b.size := by
  unfold eqB at h
  rw [str_eqb, beq_iff_eq] at h
  rw [← len_data, ← len_data, h]
theorem any_size {m : Nat} {l : List ByteArray} (hl : l.all (fun b => decide (b.size ≤ m)) = true) {t : ByteArray} (h : l.any (eqB t) = true) : t.size ≤ m := by
  obtain ⟨b, hb, he⟩ := List.any_eq_true.1 h
  rw [eqB_size he]
  exact of_decide_eq_true (List.all_eq_true.1 hl b hb)
theorem plainB_size {t : ByteArray} (h : plainB t = true) : t.size ≤ 24 := by
  unfold plainB at h
  rw [Bool.and_eq_true] at h
  exact of_decide_eq_true h.2
theorem typeB_size {t : ByteArray} (h : typeB t = true) : t.size ≤ 49 := by
  unfold typeB typeL at h
  rw [Bool.and_eq_true, Bool.or_eq_true] at h
  have h1 := plainB_size h.1
  rw [tx_size] at h1
  have h2 := congrArg List.length (List.takeWhile_append_dropWhile (p := fun c => !isDotB c) (l := t.data.toList))
  rw [List.length_append, len_data] at h2
  rcases h.2 with h3 | h3
  · have : t.data.toList.any isDotB = false := by simpa using h3
    rw [tw_all _ this, len_data] at h1
    omega
  · have h4 := plainB_size h3
    rw [tx_size, List.length_drop] at h4
    omega
theorem okIf_some {b : Bool} {l ws : List W} (h : okIf b l = some ws) : b = true ∧ l = ws := by
  cases b with
  | true => exact ⟨rfl, by cases h; rfl⟩
  | false => cases h
theorem need_ok (w : W) (k : Int) (t : ByteArray) (n : Nat) (ws : List W) (h : needW w k t n = some ws) : t.size < 100 ∧ ws.length = n := by
  have nz : noB t = true → t.size < 100 := fun h => by have := eqB_size h; have : (⟨#[]⟩ : ByteArray).size = 0 := rfl; omega
  have va : needVa k t n = some ws → t.size < 100 ∧ ws.length = n := fun h => by
    obtain ⟨h1, rfl⟩ := okIf_some h
    simp only [Bool.and_eq_true, beq_iff_eq] at h1
    exact ⟨by have := plainB_size h1.2.1; omega, by simp [h1.2.2]⟩
  have fu : ∀ b, needFu b k t n = some ws → t.size < 100 ∧ ws.length = n := fun b h => by
    obtain ⟨h1, rfl⟩ := okIf_some h
    simp only [Bool.and_eq_true, beq_iff_eq] at h1
    exact ⟨by have := plainB_size h1.2.1; omega, by simp [h1.2.2]⟩
  have bl : needBl k t n = some ws → t.size < 100 ∧ ws.length = n := fun h => by
    obtain ⟨h1, rfl⟩ := okIf_some h
    simp only [Bool.and_eq_true, beq_iff_eq] at h1
    exact ⟨nz h1.2, by simp⟩
  have me : needMe k t n = some ws → t.size < 100 ∧ ws.length = n := fun h => by
    unfold needMe at h
    split at h
    · exact va h
    · exact fu _ h
  cases w with
  | ex =>
    replace h : needEx k t n = some ws := h
    unfold needEx at h
    split at h
    · obtain ⟨h1, rfl⟩ := okIf_some h
      simp only [Bool.and_eq_true, beq_iff_eq] at h1
      exact ⟨by have := plainB_size h1.2; omega, by simp [h1.1]⟩
    split at h
    · obtain ⟨h1, rfl⟩ := okIf_some h
      simp only [Bool.and_eq_true, beq_iff_eq, digitsB, decide_eq_true_eq] at h1
      exact ⟨by omega, by simp [h1.1]⟩
    split at h
    · obtain ⟨h1, rfl⟩ := okIf_some h
      simp only [Bool.and_eq_true, beq_iff_eq, textB, decide_eq_true_eq] at h1
      exact ⟨by omega, by simp [h1.1]⟩
    split at h
    · obtain ⟨h1, rfl⟩ := okIf_some h
      simp only [Bool.and_eq_true, beq_iff_eq] at h1
      exact ⟨by have := any_size (m := 10) (by kernel_rfl) h1.2; omega, by simp [h1.1]⟩
    split at h
    · obtain ⟨h1, rfl⟩ := okIf_some h
      simp only [Bool.and_eq_true, beq_iff_eq] at h1
      exact ⟨by have := plainB_size h1.2; omega, by simp [h1.1]⟩
    split at h
    · obtain ⟨h1, rfl⟩ := okIf_some h
      simp only [Bool.and_eq_true] at h1
      exact ⟨nz h1.2, by simp⟩
    split at h
    · obtain ⟨h1, rfl⟩ := okIf_some h
      exact ⟨by have := typeB_size h1; omega, by simp⟩
    split at h
    · obtain ⟨h1, rfl⟩ := okIf_some h
      simp only [Bool.and_eq_true, beq_iff_eq, Bool.or_eq_true] at h1
      exact ⟨by rcases h1.2 with h2 | h2 <;> · have := eqB_size h2; rw [this]; decide, by simp [h1.1]⟩
    split at h
    · obtain ⟨h1, rfl⟩ := okIf_some h
      simp only [Bool.and_eq_true, beq_iff_eq] at h1
      exact ⟨by have := any_size (m := 10) (by kernel_rfl) h1.2; omega, by simp [h1.1]⟩
    · cases h
  | ty =>
    obtain ⟨h1, rfl⟩ := okIf_some h
    simp only [Bool.and_eq_true, beq_iff_eq] at h1
    exact ⟨by have := typeB_size h1.2.2; omega, by simp [h1.2.1]⟩
  | pa =>
    obtain ⟨h1, rfl⟩ := okIf_some h
    simp only [Bool.and_eq_true, beq_iff_eq] at h1
    exact ⟨by have := plainB_size h1.2.1; omega, by simp [h1.2.2]⟩
  | st =>
    replace h : needSt k t n = some ws := h
    unfold needSt at h
    split at h
    · exact va h
    split at h
    · cases h
    rename_i hz
    have hz : noB t = true := by simpa using hz
    split at h
    · exact bl h
    split at h
    · obtain ⟨h1, rfl⟩ := okIf_some h
      exact ⟨nz hz, by simp⟩
    split at h
    · obtain ⟨h1, rfl⟩ := okIf_some h
      exact ⟨nz hz, by simp [beq_iff_eq.1 h1]⟩
    split at h
    · obtain ⟨h1, rfl⟩ := okIf_some h
      exact ⟨nz hz, by simp [beq_iff_eq.1 h1]⟩
    split at h
    · obtain ⟨h1, rfl⟩ := okIf_some h
      exact ⟨nz hz, by simp [beq_iff_eq.1 h1]⟩
    split at h
    · obtain ⟨h1, rfl⟩ := okIf_some h
      exact ⟨nz hz, by simp [beq_iff_eq.1 h1]⟩
    · cases h
  | bl => exact bl h
  | de =>
    replace h : needDe k t n = some ws := h
    unfold needDe at h
    split at h
    · obtain ⟨h1, rfl⟩ := okIf_some h
      simp only [Bool.and_eq_true, beq_iff_eq] at h1
      exact ⟨by have := plainB_size h1.1; omega, by simp [h1.2]⟩
    split at h
    · obtain ⟨h1, rfl⟩ := okIf_some h
      simp only [Bool.and_eq_true, beq_iff_eq] at h1
      exact ⟨by have := plainB_size h1.1; omega, by simp [h1.2]⟩
    · exact me h
  | me => exact me h
  | si => exact fu _ h
  | va => exact va h
  | fu b => exact fu _ h
  | row w lo hi =>
    obtain ⟨h1, rfl⟩ := okIf_some h
    simp only [Bool.and_eq_true, beq_iff_eq] at h1
    exact ⟨nz h1.2.1, by simp⟩
mutual
theorem fit_txt : ∀ (x : Tree) (w : W), fitT w x = true → Txt 100 x
  | .mk k t a e ks, w, h => by
    rw [fitT] at h
    cases hn : needW w k t ks.length with
    | none => rw [hn] at h; cases h
    | some ws =>
      rw [hn] at h
      obtain ⟨h1, h2⟩ := need_ok w k t _ ws hn
      exact .mk k t a e ks h1 (fitS_txt ks ws h2 h)
theorem fitS_txt : ∀ (ks : List Tree) (ws : List W), ws.length = ks.length → fitS ws ks = true → ∀ x ∈ ks, Txt 100 x
  | [], ws, hl, h => fun x hx => by cases hx
  | y :: r, [], hl, h => by simp at hl
  | y :: r, w :: ws, hl, h => by
    rw [fitS, Bool.and_eq_true] at h
    have h1 := fit_txt y w h.1
    have h2 := fitS_txt r ws (by simpa using hl) h.2
    intro x hx
    rcases List.mem_cons.1 hx with rfl | hx
    · exact h1
    · exact h2 x hx
end
theorem kidsR_txt : ∀ {l : List Tree}, kidsR l = true → ∀ x ∈ l, Txt 100 x
  | [], _, x, hx => by cases hx
  | y :: r, h, x, hx => by
    unfold kidsR at h
    rw [List.dropWhile_cons] at h
    split at h
    · rename_i hy
      rcases List.mem_cons.1 hx with rfl | hx
      · unfold isImp at hy
        simp only [Bool.and_eq_true, beq_iff_eq] at hy
        have := plainB_size hy.2.1
        have hk : x.kids = [] := List.eq_nil_of_length_eq_zero hy.2.2
        cases x with
        | mk k t a e ks =>
          have hk : ks = [] := hk
          subst hk
          exact .mk k t a e [] (by show t.size < 100; have : t.size ≤ 24 := this; omega) fun _ h => by cases h
      · exact kidsR_txt (l := r) h x hx
    · exact fit_txt x .de (List.all_eq_true.1 h x hx)
theorem whole_ok0 {p : Ps Tree} {S : Src} {x : Tree} {m : Nat} (h : wholeP p S 0 = .ok x m) : p S 0 = .ok x m := by
  obtain ⟨y, k, e1, e2⟩ := PR.bind_ok h
  unfold moreC at e2
  dsimp only at e2
  split at e2
  · cases e2
  · cases e2; exact e1
theorem outM_ok {r : SR} {sz : Int} {p : Ps Tree} (h : (outM r sz p).2.2 = 0) (ho : wholeP p ⟨r.toks, sz⟩ 0 ≠ .out) : ∃ x m, p ⟨r.toks, sz⟩ 0 = .ok x m ∧ deepT 12 x = none ∧ (outM r sz p).1 = x := by
  unfold outM at h ⊢
  by_cases he : r.err ≠ 0
  · rw [if_pos he] at h; exact absurd h he
  · rw [if_neg he] at h ⊢
    cases hw : wholeP p ⟨r.toks, sz⟩ 0 with
    | ok x m =>
      rw [hw] at h
      refine ⟨x, m, whole_ok0 hw, ?_⟩
      unfold outT at h ⊢
      dsimp only at h ⊢
      cases hd : deepT 12 x with
      | none => exact ⟨rfl, rfl⟩
      | some a => rw [hd] at h; cases h
    | bad a m => rw [hw] at h; cases h
    | out => exact absurd hw ho
theorem resM_ok {s : ByteArray} (hs : s.size ≤ 1000000000) (h : (resM s).2.2 = 0) : 0 ≤ (resM s).1.at_ ∧ (resM s).1.end_ ≤ s.size ∧ nsT (resM s).1 = true ∧ rightT (resM s).1 = true ∧ Txt 100 (resM s).1 := by
  obtain ⟨hf, h6⟩ := scan_fit false s.data.toList s.size (by rw [len_data]; exact hs)
  obtain ⟨x, m, e1, e2, e3⟩ := outM_ok h (To.whole (To.module_ (m := 600) (by omega)) 0 (Nat.zero_le _) (by show _ - 0 ≤ 600; exact h6))
  have hS : OS ⟨(scanR false s.data.toList).toks, s.size⟩ := os_of (by have := scan_order false s.data.toList; rw [len_data] at this; exact this)
  obtain ⟨_, _, a1, a2, a3, a4⟩ := ng_module hS (Nat.zero_le _) x m e1
  obtain ⟨a5, a6⟩ := a4 (scan_pl _ _)
  have hd := deep_depth 12 x (by omega) e2
  have e : (resM s).1 = x := e3
  rw [e]
  refine ⟨by omega, by rw [a2]; exact Int.le_refl _, a3, ?_, ?_⟩
  · unfold rightT
    rw [a5, decide_eq_true (show depthT x ≤ 12 from hd), show (x.kids.dropWhile isImp).all (fitT .de) = true from a6]
    rfl
  · have hk := kidsR_txt a6
    rw [Bool.and_eq_true] at a5
    have hz := eqB_size a5.2
    cases x with
    | mk kd t a b ks => exact .mk kd t a b ks (by have : t.size = 0 := hz; omega) hk
theorem resG_ok {what : Int} {s : ByteArray} (hs : s.size ≤ 1000000000) (h : (resG what s).2.2 = 0) : 0 ≤ (resG what s).1.at_ ∧ (resG what s).1.end_ ≤ s.size ∧ nsT (resG what s).1 = true := by
  obtain ⟨hf, h6⟩ := scan_fit true s.data.toList s.size (by rw [len_data]; exact hs)
  unfold resG outG at h ⊢
  split at h
  · cases h
  · rename_i hw
    rw [if_neg hw]
    obtain ⟨x, m, e1, e2, e3⟩ := outM_ok h (To.whole (To.frag (m := 600) (by omega)) 0 (Nat.zero_le _) (by show _ - 0 ≤ 600; exact h6))
    have hS : OS ⟨(scanR true s.data.toList).toks, s.size⟩ := os_of (by have := scan_order true s.data.toList; rw [len_data] at this; exact this)
    obtain ⟨_, b2, a1, a2, a3⟩ := ng_frag hS 0 (Nat.zero_le _) x m e1
    rw [e3]
    have h7 := hS.ea 0 (Nat.zero_le _)
    have h8 := hS.ea m b2
    have h9 := hS.ea _ (Nat.le_refl _)
    have h10 := hS.mono b2 (Nat.le_refl _)
    have h11 : posE ⟨(scanR true s.data.toList).toks, s.size⟩ 0 = 0 := rfl
    have h12 : posA ⟨(scanR true s.data.toList).toks, s.size⟩ (scanR true s.data.toList).toks.length = s.size := by unfold posA peekT; rw [if_neg (by show ¬ (_ < _); exact Nat.lt_irrefl _)]
    have h9 : posE ⟨(scanR true s.data.toList).toks, s.size⟩ (scanR true s.data.toList).toks.length ≤ posA ⟨(scanR true s.data.toList).toks, s.size⟩ (scanR true s.data.toList).toks.length := h9
    have h10 : posE ⟨(scanR true s.data.toList).toks, s.size⟩ m ≤ posE ⟨(scanR true s.data.toList).toks, s.size⟩ (scanR true s.data.toList).toks.length := h10
    exact ⟨by omega, by omega, a3⟩
end Go.Ev
