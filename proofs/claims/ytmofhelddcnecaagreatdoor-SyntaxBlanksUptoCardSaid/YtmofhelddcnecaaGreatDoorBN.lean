/- The shapes of trees. -/
import Derived.Test.YtmofhelddcnecaaGreatDoorBM
import Derived.Test.YtmofhelddcnecaaGreatDoorB3
import Derived.Test.YtmofhelddcnecaaGreatDoorBK
import Derived.Test.YtmofhelddcnecaaGreatDoorBZb
set_option linter.unusedVariables false
set_option linter.unusedSimpArgs false
set_option maxRecDepth 4000
namespace Go.Ev
open PV
/-- What a node can stand for. -/
inductive W where
  | ex | ty | pa | st | bl | de | me | si | va
  | fu (b : Bool)
  | row (w : W) (lo : Nat) (hi : Option Nat)
def plainB (s : ByteArray) : Bool := nameL s.data.toList && decide (s.size ≤ 24)
def isDotB (c : UInt8) : Bool := c == 46
def typeL (l : List UInt8) : Bool := plainB (tx (l.takeWhile (fun c => !isDotB c))) && (!(l.any isDotB) || plainB (tx ((l.dropWhile (fun c => !isDotB c)).drop 1)))
def typeB (s : ByteArray) : Bool := typeL s.data.toList
def digitsB (s : ByteArray) : Bool := s.data.toList.all isDigitB && (decide (0 < s.size) && (decide (s.size ≤ 9) && (s.size == 1 || !(s.data.toList.head? == some 48))))
def inText (c : UInt8) : Bool := c.toNat == 10 || (decide (32 ≤ c.toNat) && decide (c.toNat ≤ 126))
def textB (s : ByteArray) : Bool := s.data.toList.all inText && decide (s.size ≤ 60)
def eqB (t s : ByteArray) : Bool := t.toList == s.toList
def constB (t : ByteArray) : Bool := [⟨#[116, 114, 117, 101]⟩, ⟨#[102, 97, 108, 115, 101]⟩, ⟨#[110, 117, 108, 108]⟩, ⟨#[116, 104, 105, 115]⟩].any (eqB t)
def operB (t : ByteArray) : Bool := [⟨#[124, 124]⟩, ⟨#[38, 38]⟩, ⟨#[61, 61]⟩, ⟨#[33, 61]⟩, ⟨#[60]⟩, ⟨#[62]⟩, ⟨#[43]⟩, ⟨#[45]⟩, ⟨#[42]⟩, ⟨#[47]⟩, ⟨#[37]⟩].any (eqB t)
def noB (t : ByteArray) : Bool := eqB t ⟨#[]⟩
def okIf (b : Bool) (l : List W) : Option (List W) := match b with
  | true => some l
  | false => none
def atMost (n : Nat) : Option Nat → Bool
  | none => true
  | some m => decide (n ≤ m)
def needEx (k : Int) (t : ByteArray) (n : Nat) : Option (List W) :=
  if k = 15 then okIf (n == 0 && plainB t) []
  else if k = 16 then okIf (n == 0 && digitsB t) []
  else if k = 17 then okIf (n == 0 && textB t) []
  else if k = 18 then okIf (n == 0 && constB t) []
  else if k = 19 then okIf (n == 1 && plainB t) [.ex]
  else if k = 20 then okIf (!(n == 0) && noB t) (List.replicate n .ex)
  else if k = 21 then okIf (typeB t) (List.replicate n .ex)
  else if k = 22 then okIf (n == 1 && (eqB t ⟨#[33]⟩ || eqB t ⟨#[45]⟩)) [.ex]
  else if k = 23 then okIf (n == 2 && operB t) [.ex, .ex]
  else none
def needVa (k : Int) (t : ByteArray) (n : Nat) : Option (List W) := okIf (k == 6 && (plainB t && n == 2)) [.ty, .row .ex 0 (some 1)]
def needFu (b : Bool) (k : Int) (t : ByteArray) (n : Nat) : Option (List W) := okIf (k == 5 && (plainB t && n == 3)) [.row .pa 0 none, .row .ty 0 (some 1), .row .bl b.toNat (some b.toNat)]
def needBl (k : Int) (t : ByteArray) (n : Nat) : Option (List W) := okIf (k == 9 && noB t) (List.replicate n .st)
def needSt (k : Int) (t : ByteArray) (n : Nat) : Option (List W) :=
  if k = 6 then needVa k t n
  else if noB t = false then none
  else if k = 9 then needBl k t n
  else if k = 10 then okIf (decide (n ≤ 1)) (List.replicate n .ex)
  else if k = 11 then okIf (n == 3) [.ex, .bl, .row .bl 0 (some 1)]
  else if k = 12 then okIf (n == 2) [.ex, .bl]
  else if k = 13 then okIf (n == 2) [.ex, .ex]
  else if k = 14 then okIf (n == 1) [.ex]
  else none
def needMe (k : Int) (t : ByteArray) (n : Nat) : Option (List W) := if k = 6 then needVa k t n else needFu true k t n
def needDe (k : Int) (t : ByteArray) (n : Nat) : Option (List W) :=
  if k = 3 then okIf (plainB t && n == 3) [.row .ty 0 (some 1), .row .ty 0 none, .row .me 0 none]
  else if k = 4 then okIf (plainB t && n == 2) [.row .ty 0 none, .row .si 0 none]
  else needMe k t n
/-- What the kids of a node must stand for; none: the node does not stand for it. -/
def needW : W → Int → ByteArray → Nat → Option (List W)
  | .ex, k, t, n => needEx k t n
  | .ty, k, t, n => okIf (k == 8 && (n == 0 && typeB t)) []
  | .pa, k, t, n => okIf (k == 7 && (plainB t && n == 1)) [.ty]
  | .st, k, t, n => needSt k t n
  | .bl, k, t, n => needBl k t n
  | .de, k, t, n => needDe k t n
  | .me, k, t, n => needMe k t n
  | .si, k, t, n => needFu false k t n
  | .va, k, t, n => needVa k t n
  | .fu b, k, t, n => needFu b k t n
  | .row w lo hi, k, t, n => okIf (k == 24 && (noB t && (decide (lo ≤ n) && atMost n hi))) (List.replicate n w)
mutual
def fitT : W → Tree → Bool
  | w, .mk k t _ _ ks => match needW w k t ks.length with
    | none => false
    | some ws => fitS ws ks
def fitS : List W → List Tree → Bool
  | _, [] => true
  | [], _ :: _ => true
  | w :: ws, x :: r => fitT w x && fitS ws r
end
theorem fitT_eq (w : W) (t : Tree) : fitT w t = match needW w t.kind t.text t.kids.length with
    | none => false
    | some ws => fitS ws t.kids := by
  cases t; rw [fitT]; rfl
theorem fitS_rep (w : W) : ∀ l : List Tree, fitS (List.replicate l.length w) l = l.all (fitT w)
  | [] => by simp [fitS]
  | x :: r => by
    rw [List.length_cons, List.replicate_succ, fitS, fitS_rep w r]
    rfl
theorem fitS_nil : ∀ l : List Tree, fitS [] l = true
  | [] => by rw [fitS]
  | x :: r => by rw [fitS]
theorem fitS_cons (w : W) (ws : List W) (x : Tree) (r : List Tree) : fitS (w :: ws) (x :: r) = (fitT w x && fitS ws r) := by rw [fitS]
/-- A module that can be written. -/
def isImp (t : Tree) : Bool := t.kind == 2 && (plainB t.text && t.kids.length == 0)
def rightT (t : Tree) : Bool := (t.kind == 1 && noB t.text) && (decide (depthT t ≤ 12) && (t.kids.dropWhile isImp).all (fitT .de))
/-- No text in a tree has n bytes or more. -/
inductive Txt (n : Nat) : Tree → Prop
  | mk (kd : Int) (t : ByteArray) (a e : Int) (ks : List Tree) (h : t.size < n) (hk : ∀ x ∈ ks, Txt n x) : Txt n (.mk kd t a e ks)
theorem Txt.here {n : Nat} {t : Tree} (h : Txt n t) : t.text.size < n := by cases h; assumption
theorem Txt.kid {n : Nat} {t x : Tree} (h : Txt n t) (hx : x ∈ t.kids) : Txt n x := by
  cases h with
  | mk kd tx a e ks h hk => exact hk x hx
theorem Txt.mono {n m : Nat} (hm : n ≤ m) {t : Tree} (h : Txt n t) : Txt m t := by
  induction h with
  | mk kd t a e ks h hk ih => exact .mk kd t a e ks (by omega) ih
end Go.Ev
set_option linter.unusedSectionVars false
set_option maxRecDepth 4000
namespace Go.Ev
open PV
theorem letter_if (c : Int) (X : Bool → Prop) : bcond (c == 95) (X true) (bcond (decide (c ≥ 97)) (bcond (decide (c ≤ 122)) (X true) (bcond (decide (c ≥ 65)) (X (decide (c ≤ 90))) (X false))) (bcond (decide (c ≥ 65)) (X (decide (c ≤ 90))) (X false))) = X (isLetterI c) := by
  have e : isLetterI c = ((decide (c ≥ 97) && decide (c ≤ 122)) || (decide (c ≥ 65) && decide (c ≤ 90)) || c == 95) := rfl
  rw [e]
  generalize decide (c ≥ 97) = a
  generalize decide (c ≤ 122) = b
  generalize decide (c ≥ 65) = d
  generalize decide (c ≤ 90) = f
  generalize (c == 95) = g
  cases a <;> cases b <;> cases d <;> cases f <;> cases g <;> rfl
def headOk (l : List UInt8) : Bool := match l with
  | [] => true
  | c :: _ => isLetterI c.toNat
theorem wordLen_all : ∀ l : List UInt8, (wordLen l == l.length) = l.all isWordB
  | [] => rfl
  | c :: t => by
    rw [wordLen_cons, List.all_cons, ← wordLen_all t]
    cases isWordB c with
    | true => simp
    | false => simp
theorem plainB_eq (s : ByteArray) : plainB s = (s.data.toList.all isWordB && (headOk s.data.toList && (!(s.data.toList == []) && (decide (s.size ≤ 24) && !isKwL s.data.toList)))) := by
  unfold plainB nameL
  rw [wordLen_all]
  generalize hk : isKwL s.data.toList = kw
  generalize decide (s.size ≤ 24) = d
  cases hl : s.data.toList with
  | nil => rfl
  | cons c t =>
    show ((isLetterI c.toNat && (c :: t).all isWordB) && !kw && d) = ((c :: t).all isWordB && (isLetterI c.toNat && (true && (d && !kw))))
    generalize (c :: t).all isWordB = x
    generalize isLetterI c.toNat = y
    cases x <;> cases y <;> cases d <;> cases kw <;> rfl
section
variable {n : Nat} {sg : List (List PV)} {K : Res → Out}
theorem kw_eq {k : Nat} (hk : 1 ≤ k) (s : ByteArray) : callW (En n) k 94 [.str s] sg K = K ⟨false, .bool (isKwL s.data.toList)⟩ sg := by
  rw [callW_for hk rfl]
  refine propext ⟨fun ⟨s', e, h⟩ => ?_, fun h => ⟨s, rfl, h⟩⟩
  injection e with e _
  injection e with e
  subst e
  exact h
theorem nil_eqb (s : ByteArray) : (s.toList == (⟨#[]⟩ : ByteArray).toList) = (s.data.toList == []) := by rw [str_eqb]
theorem le24 (s : ByteArray) : decide ((s.size : Int) ≤ 24) = decide (s.size ≤ 24) := by rw [Bool.eq_iff_iff, decide_eq_true_iff, decide_eq_true_iff]; omega
theorem plain_loop {k : Nat} {s : ByteArray} (hk : 1 ≤ k) (hn : s.size < n) (hL : n ≤ 4611686018427387904) : ∀ (l : List UInt8) (p m : Nat) (p1 p2 p3 p6 p7 : PV), s.data.toList.drop p = l → p ≤ s.size → l.length < m →
    L n (callW (En n) k) 46 [1, 0, 1, 0, 0] (syntax_plain.S0 s p1 p2 p3 (s.size : Int) (p : Int) p6 p7) sg (syntax_plain.K0 (callW (En n) k) n K) m =
      K ⟨false, .bool (l.all isWordB && ((p != 0 || headOk l) && (!(s.data.toList == []) && (decide (s.size ≤ 24) && !isKwL s.data.toList))))⟩ sg
  | l, p, 0, p1, p2, p3, p6, p7, hl, hp, hm => by omega
  | [], p, m + 1, p1, p2, p3, p6, p7, hl, hp, hm => by
    obtain rfl := at_end hl hp
    rw [L_succ, syntax_plain.loop0, decide_eq_false (show ¬ ((s.size : Int) < (s.size : Int)) by omega), bcond_f, nil_eqb, le24]
    show _ = K ⟨false, .bool (true && ((s.size != 0 || true) && _))⟩ sg
    rw [Bool.or_true, Bool.true_and, Bool.true_and]
    cases (s.data.toList == []) with
    | true => rfl
    | false =>
      rw [Bool.not_false, bcond_t]
      cases decide (s.size ≤ 24) with
      | false => rfl
      | true => rw [bcond_t, cB_of _ (fun K => kw_eq hk s)]; rfl
  | c :: t, p, m + 1, p1, p2, p3, p6, p7, hl, hp, hm => by
    obtain ⟨h1, h2, h3⟩ := at_cons hl
    have ew : IntKind.i64.wrap ((p : Int) + 1) = ((p + 1 : Nat) : Int) := wrap_id _ (by omega) (by omega)
    have ht : t.length < m := by simp at hm; omega
    rw [L_succ, syntax_plain.loop0, h2, decide_eq_true (show ((p : Int) < (s.size : Int)) by omega), decide_eq_true (show (0 : Int) ≤ (p : Int) by omega), bcond_t, Bool.and_self, chk_t]
    refine (letter_if (c.toNat : Int) (fun b => C n _ 46 _ (syntax_plain.S1 s (p : Int) (c.toNat : Int) b (s.size : Int) (p : Int) true p7) sg (syntax_plain.K1 _ n m K))).trans ?_
    show C n _ 46 _ _ _ _ = _
    rw [C_eq, syntax_plain.cut1, ew, List.all_cons]
    have hw : isWordB c = (isLetterI c.toNat || isDigitI c.toNat) := rfl
    rw [hw]
    have go : ∀ (x1 x2 x3 x6 x7 : PV), L n (callW (En n) k) 46 [1, 0, 1, 0, 0] (syntax_plain.S0 s x1 x2 x3 (s.size : Int) ((p + 1 : Nat) : Int) x6 x7) sg (syntax_plain.K0 (callW (En n) k) n K) m = K ⟨false, .bool (t.all isWordB && (!(s.data.toList == []) && (decide (s.size ≤ 24) && !isKwL s.data.toList)))⟩ sg := by
      intro x1 x2 x3 x6 x7
      rw [plain_loop hk hn hL t (p + 1) m _ _ _ _ _ h3 (by omega) ht]
      have : (p + 1 != 0) = true := by simp
      rw [this, Bool.true_or, Bool.true_and]
    show bcond (!isLetterI c.toNat) (bcond ((p : Int) == 0) _ _) _ = K ⟨false, .bool ((isLetterI c.toNat || isDigitI c.toNat) && t.all isWordB && ((p != 0 || isLetterI c.toNat) && _))⟩ sg
    have e0 : ((p : Int) == 0) = (p == 0) := by rw [Bool.eq_iff_iff]; simp
    rw [e0, go, go]
    cases hc : isLetterI c.toNat with
    | true => simp only [Bool.not_true, bcond_f, Bool.true_or, Bool.or_true, Bool.true_and]
    | false =>
      rw [Bool.not_false, bcond_t]
      cases hp0 : (p == 0) with
      | true =>
        have : (p != 0) = false := by simp only [bne, hp0]; rfl
        rw [this, bcond_t, Bool.or_self, Bool.false_and, Bool.and_false]
      | false =>
        have : (p != 0) = true := by simp only [bne, hp0]; rfl
        rw [this, bcond_f]
        have ed : isDigitI c.toNat = (!decide ((c.toNat : Int) < 48) && !decide ((c.toNat : Int) > 57)) := by
          unfold isDigitI
          rw [Bool.eq_iff_iff]; simp
        rw [ed]
        cases decide ((c.toNat : Int) < 48) with
        | true => rfl
        | false =>
          rw [bcond_f]
          cases decide ((c.toNat : Int) > 57) with
          | true => rfl
          | false => rw [bcond_f]; rfl
theorem plain_spec {k : Nat} {s : ByteArray} (hk : 2 ≤ k) (hn : s.size < n) (hL : n ≤ 4611686018427387904) : callW (En n) k 46 [.str s] sg K = K ⟨false, .bool (plainB s)⟩ sg := by
  rw [callW_at (by omega) rfl, syntax_plain.eq]
  have := plain_loop (n := n) (sg := sg) (K := K) (s := s) (k := k - 1) (by omega) hn hL s.data.toList 0 n .skip .skip .skip .skip .skip rfl (by omega) (by rw [len_data]; omega)
  rw [plainB_eq]
  exact this
theorem digits_loop {k : Nat} {s : ByteArray} (hn : s.size < n) (hL : n ≤ 4611686018427387904) : ∀ (l : List UInt8) (p m : Nat) (p1 p4 p5 : PV), s.data.toList.drop p = l → p ≤ s.size → l.length < m →
    L n (callW (En n) k) 163 [1, 0, 1, 0, 0] (syntax_digits.S0 s p1 (s.size : Int) (p : Int) p4 p5) sg (syntax_digits.K0 (callW (En n) k) n K) m =
      K ⟨false, .bool (l.all isDigitB && (decide (0 < s.size) && (decide (s.size ≤ 9) && (s.size == 1 || !(s.data.toList.head? == some 48)))))⟩ sg
  | l, p, 0, p1, p4, p5, hl, hp, hm => by omega
  | [], p, m + 1, p1, p4, p5, hl, hp, hm => by
    obtain rfl := at_end hl hp
    rw [L_succ, syntax_digits.loop0, decide_eq_false (show ¬ ((s.size : Int) < (s.size : Int)) by omega), bcond_f, nil_eqb, str_eqb]
    show _ = K ⟨false, .bool (true && _)⟩ sg
    rw [Bool.true_and]
    cases hl' : s.data.toList with
    | nil =>
      have h0 : s.size = 0 := by rw [← len_data, hl']; rfl
      rw [decide_eq_false (show ¬ (0 < s.size) by omega)]
      rfl
    | cons c t =>
      have hz : s.size = t.length + 1 := by rw [← len_data, hl']; rfl
      have h0 := at_cons (p := 0) hl'
      have hb : byteAt s 0 = (c.toNat : Int) := h0.2.1
      rw [decide_eq_true (show 0 < s.size by omega), Bool.true_and]
      show bcond ((c :: t) == [48]) _ (bcond true (bcond (decide ((s.size : Int) ≤ 9)) _ _) _) = _
      have e9 : decide ((s.size : Int) ≤ 9) = decide (s.size ≤ 9) := by rw [Bool.eq_iff_iff, decide_eq_true_iff, decide_eq_true_iff]; omega
      rw [e9, bcond_t]
      by_cases hs1 : (c :: t) = [48]
      · injection hs1 with e1 e2
        subst e1 e2
        simp at hz
        rw [hz]
        rfl
      · have e1 : ((c :: t) == [48]) = false := by simpa using hs1
        rw [e1, bcond_f, hb, decide_eq_true (show (0 : Int) < (s.size : Int) by omega), chk_t]
        have e2 : (s.size == 1 || !((c :: t).head? == some 48)) = ((c.toNat : Int) != 48) := by
          have hc48 : (c = 48) ↔ ((c.toNat : Int) = 48) := by
            constructor
            · intro h; subst h; rfl
            · intro h; exact UInt8.toNat_inj.1 (by show c.toNat = 48; omega)
          rw [Bool.eq_iff_iff]
          simp only [List.head?_cons, Bool.or_eq_true, beq_iff_eq, Bool.not_eq_true', bne_iff_ne, ne_eq, beq_eq_false_iff_ne, Option.some.injEq]
          rw [← hc48]
          constructor
          · rintro (h | h)
            · intro hc
              have : t = [] := List.eq_nil_of_length_eq_zero (by omega)
              exact hs1 (by rw [hc, this])
            · exact h
          · intro h; exact .inr h
        rw [e2]
        cases decide (s.size ≤ 9) with
        | true => rfl
        | false => rfl
  | c :: t, p, m + 1, p1, p4, p5, hl, hp, hm => by
    obtain ⟨h1, h2, h3⟩ := at_cons hl
    have ew : IntKind.i64.wrap ((p : Int) + 1) = ((p + 1 : Nat) : Int) := wrap_id _ (by omega) (by omega)
    rw [L_succ, syntax_digits.loop0, h2, decide_eq_true (show ((p : Int) < (s.size : Int)) by omega), decide_eq_true (show (0 : Int) ≤ (p : Int) by omega), bcond_t, Bool.and_self, chk_t, chk_t, ew, List.all_cons]
    have ed : isDigitB c = (!decide ((c.toNat : Int) < 48) && !decide ((c.toNat : Int) > 57)) := by
      unfold isDigitB isDigitI
      rw [Bool.eq_iff_iff]; simp
    rw [ed]
    cases decide ((c.toNat : Int) < 48) with
    | true => rfl
    | false =>
      rw [bcond_f]
      cases decide ((c.toNat : Int) > 57) with
      | true => rfl
      | false =>
        rw [bcond_f, digits_loop hn hL t (p + 1) m _ _ _ h3 (by omega) (by simp at hm; omega)]
        rfl
theorem digits_spec {k : Nat} {s : ByteArray} (hk : 1 ≤ k) (hn : s.size < n) (hL : n ≤ 4611686018427387904) : callW (En n) k 163 [.str s] sg K = K ⟨false, .bool (digitsB s)⟩ sg := by
  rw [callW_at (by omega) rfl, syntax_digits.eq]
  exact digits_loop (n := n) (sg := sg) (K := K) (s := s) (k := k - 1) hn hL s.data.toList 0 n .skip .skip .skip rfl (by omega) (by rw [len_data]; omega)
theorem text_loop {k : Nat} {s : ByteArray} (hn : s.size < n) (hL : n ≤ 4611686018427387904) : ∀ (l : List UInt8) (p m : Nat) (p1 p4 p5 : PV), s.data.toList.drop p = l → p ≤ s.size → l.length < m →
    L n (callW (En n) k) 164 [1, 0, 1, 0, 0] (syntax_contents.S0 s p1 (s.size : Int) (p : Int) p4 p5) sg (syntax_contents.K0 (callW (En n) k) n K) m = K ⟨false, .bool (l.all inText && decide (s.size ≤ 60))⟩ sg
  | l, p, 0, p1, p4, p5, hl, hp, hm => by omega
  | [], p, m + 1, p1, p4, p5, hl, hp, hm => by
    obtain rfl := at_end hl hp
    have e : decide ((s.size : Int) ≤ 60) = decide (s.size ≤ 60) := by rw [Bool.eq_iff_iff, decide_eq_true_iff, decide_eq_true_iff]; omega
    rw [L_succ, syntax_contents.loop0, decide_eq_false (show ¬ ((s.size : Int) < (s.size : Int)) by omega), bcond_f, e]
    rfl
  | c :: t, p, m + 1, p1, p4, p5, hl, hp, hm => by
    obtain ⟨h1, h2, h3⟩ := at_cons hl
    have ew : IntKind.i64.wrap ((p : Int) + 1) = ((p + 1 : Nat) : Int) := wrap_id _ (by omega) (by omega)
    rw [L_succ, syntax_contents.loop0, h2, decide_eq_true (show ((p : Int) < (s.size : Int)) by omega), decide_eq_true (show (0 : Int) ≤ (p : Int) by omega), bcond_t, Bool.and_self, chk_t, chk_t, chk_t, ew, List.all_cons]
    have ed : inText c = (!((c.toNat : Int) != 10) || (!decide ((c.toNat : Int) < 32) && !decide ((c.toNat : Int) > 126))) := by
      unfold inText
      rw [Bool.eq_iff_iff]; simp; omega
    rw [ed, text_loop hn hL t (p + 1) m _ _ _ h3 (by omega) (by simp at hm; omega), text_loop hn hL t (p + 1) m _ _ _ h3 (by omega) (by simp at hm; omega)]
    cases ((c.toNat : Int) != 10) with
    | false => rfl
    | true =>
      rw [bcond_t]
      cases decide ((c.toNat : Int) < 32) with
      | true => rfl
      | false =>
        rw [bcond_f]
        cases decide ((c.toNat : Int) > 126) with
        | true => rfl
        | false => rfl
theorem text_spec {k : Nat} {s : ByteArray} (hk : 1 ≤ k) (hn : s.size < n) (hL : n ≤ 4611686018427387904) : callW (En n) k 164 [.str s] sg K = K ⟨false, .bool (textB s)⟩ sg := by
  rw [callW_at (by omega) rfl, syntax_contents.eq]
  exact text_loop (n := n) (sg := sg) (K := K) (s := s) (k := k - 1) hn hL s.data.toList 0 n .skip .skip .skip rfl (by omega) (by rw [len_data]; omega)
theorem or_if1 {K : Res → Out} (b c : Bool) : bcond b (K ⟨false, .bool true⟩ sg) (K ⟨false, .bool c⟩ sg) = K ⟨false, .bool (b || c)⟩ sg := by cases b <;> rfl
theorem last_if {K : Res → Out} (b : Bool) : bcond b (K ⟨false, .bool true⟩ sg) (K ⟨false, .bool false⟩ sg) = K ⟨false, .bool b⟩ sg := by cases b <;> rfl
theorem oper_spec {k : Nat} {s : ByteArray} (hk : 1 ≤ k) : callW (En n) k 165 [.str s] sg K = K ⟨false, .bool (operB s)⟩ sg := by
  rw [callW_at (by omega) rfl, syntax_operator.eq]
  simp only [last_if, bcond_or']
  unfold operB
  simp only [List.any_cons, List.any_nil, Bool.or_false]
  rfl
end
end Go.Ev
set_option maxRecDepth 4000
namespace Go.Ev
open PV
theorem fit_ok (b : Bool) (ws : List W) (ks : List Tree) : (match okIf b ws with
    | none => false
    | some ws => fitS ws ks) = (b && fitS ws ks) := by cases b <;> rfl
theorem fit_row (w : W) (lo : Nat) (hi : Option Nat) (t : Tree) : fitT (.row w lo hi) t = ((t.kind == 24 && (noB t.text && (decide (lo ≤ t.kids.length) && atMost t.kids.length hi))) && t.kids.all (fitT w)) := by
  rw [fitT_eq]; exact (fit_ok _ _ _).trans (by rw [fitS_rep])
theorem fit_bl (t : Tree) : fitT .bl t = ((t.kind == 9 && noB t.text) && t.kids.all (fitT .st)) := by
  rw [fitT_eq]; exact (fit_ok _ _ _).trans (by rw [fitS_rep])
theorem fit_ty (t : Tree) : fitT .ty t = (t.kind == 8 && (t.kids.length == 0 && typeB t.text)) := by
  rw [fitT_eq]; exact (fit_ok _ _ _).trans (by rw [fitS_nil, Bool.and_true])
theorem fit_pa (t : Tree) : fitT .pa t = ((t.kind == 7 && (plainB t.text && t.kids.length == 1)) && fitS [.ty] t.kids) := by
  rw [fitT_eq]; exact fit_ok _ _ _
theorem fit_va (t : Tree) : fitT .va t = ((t.kind == 6 && (plainB t.text && t.kids.length == 2)) && fitS [.ty, .row .ex 0 (some 1)] t.kids) := by
  rw [fitT_eq]; exact fit_ok _ _ _
theorem fit_fu (b : Bool) (t : Tree) : fitT (.fu b) t = ((t.kind == 5 && (plainB t.text && t.kids.length == 3)) && fitS [.row .pa 0 none, .row .ty 0 (some 1), .row .bl b.toNat (some b.toNat)] t.kids) := by
  rw [fitT_eq]; exact fit_ok _ _ _
theorem fit_me (t : Tree) : fitT .me t = (fitT .va t || fitT (.fu true) t) := by
  rw [fit_va, fit_fu, fitT_eq]
  show (match needMe t.kind t.text t.kids.length with
    | none => false
    | some ws => fitS ws t.kids) = _
  unfold needMe
  by_cases h : t.kind = 6
  · rw [if_pos h]
    refine (fit_ok _ _ _).trans ?_
    rw [h]
    simp
  · rw [if_neg h]
    refine (fit_ok _ _ _).trans ?_
    rw [show (t.kind == 6) = false by simpa using h]
    simp
theorem fit_si (t : Tree) : fitT .si t = fitT (.fu false) t := by rw [fitT_eq, fitT_eq]; rfl
theorem all_of_sing {x : Tree} (w : W) : fitS [w] [x] = fitT w x := by rw [fitS_cons, fitS_nil, Bool.and_true]
theorem fit_two {x y : Tree} (w v : W) : fitS [w, v] [x, y] = (fitT w x && fitT v y) := by rw [fitS_cons, all_of_sing]
theorem fit_three {x y z : Tree} (w v u : W) : fitS [w, v, u] [x, y, z] = (fitT w x && (fitT v y && fitT u z)) := by rw [fitS_cons, fit_two]
def hiI : Option Nat → Int
  | none => -1
  | some m => m
theorem len_eqb (a b : Nat) : ((a : Int) == (b : Int)) = (a == b) := by rw [Bool.eq_iff_iff, beq_iff_eq, beq_iff_eq]; omega
theorem kid0 (x : Tree) (r : List Tree) : rowAt (kidRows (x :: r)) 0 = [.int .i64 x.kind, .str x.text, .int .i64 x.at_, .int .i64 x.end_, .list false (kidRows x.kids)] := kid_at (x :: r) 0 (by simp)
theorem kid1 (x y : Tree) (r : List Tree) : rowAt (kidRows (x :: y :: r)) 1 = [.int .i64 y.kind, .str y.text, .int .i64 y.at_, .int .i64 y.end_, .list false (kidRows y.kids)] := kid_at (x :: y :: r) 1 (by simp)
theorem kid2 (x y z : Tree) (r : List Tree) : rowAt (kidRows (x :: y :: z :: r)) 2 = [.int .i64 z.kind, .str z.text, .int .i64 z.at_, .int .i64 z.end_, .list false (kidRows z.kids)] := kid_at (x :: y :: z :: r) 2 (by simp)
theorem kidc' (l : List Tree) (i : Int) (h : i < l.length) : (rowsOk 5 (kidRows l) && decide (i < (l.length : Int))) = true := by
  rw [kidRows_ok, decide_eq_true h]; rfl
section
variable {n : Nat}
/-- Tells a shape: f, for trees of height d. -/
def ShS (n f : Nat) (w : W) (c d : Nat) : Prop := ∀ (k : Nat) (t : Tree) (sg : List (List PV)) (K : Res → Out), Hgt d t → Wid n t → Txt n t → 6 * d + c ≤ k → callW (En n) k f [nodeV t] sg K = K ⟨false, .bool (fitT w t)⟩ sg
/-- A function value that is called gives a bool. -/
def CB (f : Nat) : Prop := ∀ (q : Caller) (args : List PV) (sg : List (List PV)) (X Y : PV → Out), callF Go.Proofs.Tryz.prog q f args sg X Y = cB q f args sg X fun b s => Y (.bool b) s
theorem cb48 : CB 48 := by intro q args sg X Y; kernel_rfl
theorem cb96 : CB 96 := by intro q args sg X Y; kernel_rfl
theorem cb129 : CB 129 := by intro q args sg X Y; kernel_rfl
theorem cb128 : CB 128 := by intro q args sg X Y; kernel_rfl
theorem cb130 : CB 130 := by intro q args sg X Y; kernel_rfl
theorem cb166 : CB 166 := by intro q args sg X Y; kernel_rfl
theorem cb97 : CB 97 := by intro q args sg X Y; kernel_rfl
theorem cb100 : CB 100 := by intro q args sg X Y; kernel_rfl
section
variable {f : Nat} {w : W} {sg : List (List PV)}
theorem each_loop {k : Nat} {K : Res → Out} {r0 : List (List PV)} (hf : CB f) (hL : n ≤ 4611686018427387904) (l : List Tree)
    (ih : ∀ t ∈ l, ∀ K : Res → Out, callW (En n) k f [nodeV t] sg K = K ⟨false, .bool (fitT w t)⟩ sg) (hn : l.length < n) :
    ∀ (r : List Tree) (i m : Nat) (p4 p8 p9 : PV), l.drop i = r → i ≤ l.length → r.length < m → NB p4 → NB p9 →
    L n (callW (En n) k) 47 [1, 0, 1, 0, 0] (syntax_each.S0 r0 f [] [] p4 (kidRows l) (l.length : Int) (i : Int) p8 p9) sg (syntax_each.K0 (callW (En n) k) n K) m = K ⟨false, .bool (r.all (fitT w))⟩ sg
  | r, i, 0, _, _, _, _, _, hm, _, _ => by omega
  | [], i, m + 1, p4, p8, p9, hr, hi, hm, _, _ => by
    have : i = l.length := by have := List.drop_eq_nil_iff.1 hr; omega
    subst this
    rw [L_succ, syntax_each.loop0, decide_eq_false (show ¬ ((l.length : Int) < (l.length : Int)) by omega), bcond_f]
    rfl
  | y :: r, i, m + 1, p4, p8, p9, hr, hi, hm, h4, h9 => by
    obtain ⟨hil, hy, hr'⟩ := drop_some hr
    have hmem : y ∈ l := List.mem_of_mem_drop (by rw [hr]; exact List.mem_cons_self)
    have ew : IntKind.i64.wrap ((i : Int) + 1) = ((i + 1 : Nat) : Int) := wrap_id _ (by omega) (by omega)
    rw [L_succ, syntax_each.loop0, decide_eq_true (show (i : Int) < (l.length : Int) by omega), bcond_t, kid_chk l i hil, kid_at l i hil, hy, h4 6, h9 6]
    show chk true (chk true (chk true (chk true (chk true (chk true (chk true (chk true (chk true (callF Go.Proofs.Tryz.prog (callW (En n) k) f [nodeV y] sg _ _))))))))) = _
    simp only [chk_t]
    rw [hf, cB_of _ (fun K => ih y hmem K), List.all_cons]
    show chk true (bcond (!fitT w y) _ _) = _
    rw [chk_t]
    cases fitT w y with
    | false => rfl
    | true =>
      rw [Bool.not_true, bcond_f, ew, Bool.true_and]
      exact each_loop hf hL l ih hn r (i + 1) m _ _ _ hr' (by omega) (by simp at hm; omega) (fun _ => rfl) (fun _ => rfl)
theorem each_spec {k : Nat} {K : Res → Out} (hf : CB f) (hL : n ≤ 4611686018427387904) (l : List Tree) (hk : 1 ≤ k)
    (ih : ∀ t ∈ l, ∀ K : Res → Out, callW (En n) (k - 1) f [nodeV t] sg K = K ⟨false, .bool (fitT w t)⟩ sg) (hn : l.length < n) :
    callW (En n) k 47 [.list false (kidRows l), .fn f [] []] sg K = K ⟨false, .bool (l.all (fitT w))⟩ sg := by
  rw [callW_at hk rfl, syntax_each.eq, kidRows_len]
  exact each_loop hf hL l ih hn l 0 n _ _ _ rfl (by omega) hn (fun _ => rfl) (fun _ => rfl)
theorem sp_kids {c d k : Nat} (h : ShS n f w c d) (l : List Tree) (h1 : ∀ x ∈ l, Hgt d x) (h2 : ∀ x ∈ l, Wid n x) (h3 : ∀ x ∈ l, Txt n x) (hk : 6 * d + c ≤ k) : ∀ t ∈ l, ∀ K : Res → Out, callW (En n) k f [nodeV t] sg K = K ⟨false, .bool (fitT w t)⟩ sg :=
  fun t ht K => h k t sg K (h1 t ht) (h2 t ht) (h3 t ht) hk
theorem rowOf_spec {c d k : Nat} {K : Res → Out} (hs : ShS n f w c d) (hf : CB f) (hL : n ≤ 4611686018427387904) (t : Tree) (lo : Nat) (hi : Option Nat) (h1 : Hgt (d + 1) t) (h2 : Wid n t) (h3 : Txt n t) (hk : 6 * d + c + 2 ≤ k) :
    callW (En n) k 95 [nodeV t, .int .i64 lo, .int .i64 (hiI hi), .fn f [] []] sg K = K ⟨false, .bool (fitT (.row w lo hi) t)⟩ sg := by
  rw [callW_at (by omega) rfl, fit_row]
  show B n _ 95 sg [.agg [.int .i64 t.kind, .str t.text, .int .i64 t.at_, .int .i64 t.end_, .list false (kidRows t.kids)], _, _, _] K = _
  rw [syntax_rowOf.eq, kidRows_len]
  have he : ∀ K : Res → Out, callW (En n) (k - 1) 47 [.list false (kidRows t.kids), .fn f [] []] sg K = K ⟨false, .bool (t.kids.all (fitT w))⟩ sg := fun K =>
    each_spec hf hL t.kids (by omega) (sp_kids hs t.kids (fun x hx => h1.kid hx) (fun x hx => h2.kid hx) (fun x hx => h3.kid hx) (by omega)) h2.len
  show bcond (t.kind == 24) (bcond (noB t.text) _ _) _ = _
  cases (t.kind == 24) with
  | false => rfl
  | true =>
    rw [bcond_t]
    cases noB t.text with
    | false => rfl
    | true =>
      rw [bcond_t, show decide ((t.kids.length : Int) ≥ (lo : Int)) = decide (lo ≤ t.kids.length) by rw [Bool.eq_iff_iff, decide_eq_true_iff, decide_eq_true_iff]; omega]
      cases decide (lo ≤ t.kids.length) with
      | false => rfl
      | true =>
        rw [bcond_t]
        cases hi with
        | none =>
          show bcond true _ _ = _
          rw [bcond_t, cB_of _ he]
          rfl
        | some m =>
          show bcond (decide ((m : Int) < 0)) _ (bcond (decide ((t.kids.length : Int) ≤ (m : Int))) _ _) = _
          rw [decide_eq_false (show ¬ ((m : Int) < 0) by omega), bcond_f, show decide ((t.kids.length : Int) ≤ (m : Int)) = atMost t.kids.length (some m) by unfold atMost; rw [Bool.eq_iff_iff, decide_eq_true_iff, decide_eq_true_iff]; omega]
          cases atMost t.kids.length (some m) with
          | false => rfl
          | true => rw [bcond_t, cB_of _ he]; rfl
end
theorem idx_dot : ∀ l : List UInt8, Lib.indexByte l 46 = if l.any isDotB then ((l.takeWhile (fun c => !isDotB c)).length : Int) else -1
  | [] => rfl
  | b :: l => by
    rw [Lib.indexByte, idx_dot l, List.any_cons, List.takeWhile_cons]
    show (if isDotB b = true then (0 : Int) else _) = _
    cases isDotB b with
    | true => rfl
    | false =>
      rw [if_neg (by simp), Bool.false_or]
      cases l.any isDotB with
      | true =>
        have : ¬ ((((l.takeWhile (fun c => !isDotB c)).length : Int) == -1) = true) := by simp only [beq_iff_eq]; omega
        rw [if_pos rfl, if_pos rfl, if_neg this]
        simp
      | false => rfl
theorem tw_all : ∀ l : List UInt8, l.any isDotB = false → l.takeWhile (fun c => !isDotB c) = l
  | [], _ => rfl
  | b :: l, h => by
    rw [List.any_cons, Bool.or_eq_false_iff] at h
    rw [List.takeWhile_cons, h.1, tw_all l h.2]
    rfl
theorem tw_take (l : List UInt8) (p : UInt8 → Bool) : l.take (l.takeWhile p).length = l.takeWhile p ∧ l.drop (l.takeWhile p).length = l.dropWhile p := by
  have h := List.takeWhile_append_dropWhile (p := p) (l := l)
  constructor
  · conv => lhs; rw [← h]
    rw [List.takeWhile_append_dropWhile]
    have := (List.takeWhile_prefix p (l := l))
    exact (List.prefix_iff_eq_take.1 this).symm
  · have := (List.takeWhile_prefix p (l := l))
    obtain ⟨r, hr⟩ := this
    have e : l.dropWhile p = r := List.append_cancel_left (h.trans hr.symm)
    rw [e]
    conv => lhs; rw [← hr]
    rw [hr]
    conv => lhs; arg 2; rw [← hr]
    exact List.drop_left' rfl
theorem cut_dot (hL : n ≤ 4611686018427387904) {k : Nat} {s : ByteArray} {sg : List (List PV)} {K : Res → Out} (hk : 4 ≤ k) (hs : s.size < n) : callW (En n) k 162 [.str s, .str ⟨#[46]⟩] sg K =
    K ⟨false, if s.data.toList.any isDotB then .tup [.str (tx (s.data.toList.takeWhile (fun c => !isDotB c))), .str (tx ((s.data.toList.dropWhile (fun c => !isDotB c)).drop 1)), .bool true] else .tup [.str s, .str ⟨#[]⟩, .bool false]⟩ sg := by
  have hi : ∀ K : Res → Out, callW (En n) (k - 2) 181 [.str s, .str ⟨#[46]⟩] sg K = K ⟨false, .int .i64 (if s.data.toList.any isDotB then ((s.data.toList.takeWhile (fun c => !isDotB c)).length : Int) else -1)⟩ sg := by
    intro K
    have h172 : ∀ K : Res → Out, callW (En n) (k - 2 - 1) 172 [.str s, .int .u8 46] sg K = K ⟨false, .int .i64 (Lib.indexByte s.data.toList 46)⟩ sg := by
      intro K
      rw [callW_for (by omega) rfl]
      refine propext ⟨fun ⟨s', c, e, h⟩ => ?_, fun h => ⟨s, 46, rfl, h⟩⟩
      simp only [List.cons.injEq, PV.str.injEq, PV.int.injEq, and_true, true_and] at e
      obtain ⟨rfl, rfl⟩ := e
      exact h
    rw [callW_at (by omega) rfl, stringslite_Index.eq]
    by_cases he : (⟨#[46]⟩ : ByteArray).toList == s.toList
    · rw [he]
      have e2 : s = ⟨#[46]⟩ := by
        refine ba_ext ?_
        rw [str_eqb] at he
        exact (beq_iff_eq.1 he).symm
      subst e2
      rfl
    · have he : ((⟨#[46]⟩ : ByteArray).toList == s.toList) = false := by simpa using he
      rw [he, ← idx_dot]
      show bcond false _ (bcond false _ (bcond true (chk true (cI _ 172 [.str s, .int .u8 46] sg (pan K) _)) _)) = _
      rw [bcond_f, bcond_f, bcond_t, chk_t, cI_of _ h172]
  rw [callW_at (by omega) rfl, strings_Cut.eq, cP, callW_at (by omega) rfl, stringslite_Cut.eq]
  have e2 : k - 1 - 1 = k - 2 := by omega
  rw [e2, cI_of _ hi, C_eq, stringslite_Cut.cut0]
  cases ha : s.data.toList.any isDotB with
  | false =>
    rw [if_neg (by simp), if_neg (by simp)]
    rfl
  | true =>
    rw [if_pos rfl, if_pos rfl]
    have htw := tw_take s.data.toList (fun c => !isDotB c)
    have hlen : (s.data.toList.takeWhile (fun c => !isDotB c)).length + 1 ≤ s.size := by
      have h1 : (s.data.toList.takeWhile (fun c => !isDotB c)).length ≤ s.data.toList.length := (List.takeWhile_sublist _).length_le
      have h2 := congrArg List.length (List.takeWhile_append_dropWhile (p := fun c => !isDotB c) (l := s.data.toList))
      rw [List.length_append, len_data] at h2
      have h3 : s.data.toList.dropWhile (fun c => !isDotB c) ≠ [] := by
        intro h
        obtain ⟨x, hx, hd⟩ := List.any_eq_true.1 ha
        have := (List.takeWhile_append_dropWhile (p := fun c => !isDotB c) (l := s.data.toList))
        rw [h, List.append_nil] at this
        rw [← this] at hx
        have := List.all_eq_true.1 (List.all_takeWhile (p := fun c => !isDotB c) (l := s.data.toList)) x hx
        simp [hd] at this
      have := List.length_pos_iff.2 h3
      omega
    generalize hm : (s.data.toList.takeWhile (fun c => !isDotB c)).length = m at hlen
    rw [hm] at htw
    have ew : IntKind.i64.wrap ((m : Int) + ((⟨#[46]⟩ : ByteArray).size : Int)) = ((m + 1 : Nat) : Int) := wrap_id _ (by show (_ : Int) ≤ (m : Int) + 1; omega) (by show (m : Int) + 1 ≤ _; omega)
    rw [ew, decide_eq_true (show ((m : Int) ≥ 0) by omega), bcond_t, decide_eq_true (show (m : Int) ≤ (s.size : Int) by omega), decide_eq_true (show (0 : Int) ≤ ((m + 1 : Nat) : Int) by omega), decide_eq_true (show ((m + 1 : Nat) : Int) ≤ (s.size : Int) by omega), decide_eq_true (show (s.size : Int) ≤ (s.size : Int) by omega), Bool.and_self, Bool.and_self, chk_t, chk_t, Int.toNat_natCast, Int.toNat_natCast, Int.toNat_natCast, ext0_tx, htw.1]
    have e3 : s.extract (m + 1) s.size = tx ((s.data.toList.dropWhile (fun c => !isDotB c)).drop 1) := by
      refine ba_ext ?_
      rw [extE_list, tx_list, ← htw.2, List.drop_drop]
    rw [e3]
    rfl
theorem type_spec (hL : n ≤ 4611686018427387904) {k : Nat} {s : ByteArray} {sg : List (List PV)} {K : Res → Out} (hk : 5 ≤ k) (hs : s.size < n) : callW (En n) k 127 [.str s] sg K = K ⟨false, .bool (typeB s)⟩ sg := by
  rw [callW_at (by omega) rfl, syntax_typeName.eq, cP, cut_dot hL (by omega) hs]
  unfold typeB typeL
  cases ha : s.data.toList.any isDotB with
  | false =>
    rw [if_neg (by simp), tw_all _ ha, tx_data]
    show C n _ 127 _ (syntax_typeName.S0 s s ⟨#[]⟩ false) sg _ = _
    rw [C_eq, syntax_typeName.cut0, cB_of _ (fun K => plain_spec (by omega) hs hL)]
    cases plainB s <;> rfl
  | true =>
    rw [if_pos rfl]
    show C n _ 127 _ (syntax_typeName.S0 s (tx (s.data.toList.takeWhile (fun c => !isDotB c))) (tx ((s.data.toList.dropWhile (fun c => !isDotB c)).drop 1)) true) sg _ = _
    have l1 : (s.data.toList.takeWhile (fun c => !isDotB c)).length ≤ s.size := by rw [← len_data]; exact (List.takeWhile_sublist _).length_le
    have l2 : ((s.data.toList.dropWhile (fun c => !isDotB c)).drop 1).length ≤ s.size := by
      rw [← len_data]
      exact ((List.drop_sublist _ _).trans (List.dropWhile_sublist _)).length_le
    rw [C_eq, syntax_typeName.cut0, cB_of _ (fun K => plain_spec (by omega) (by rw [tx_size]; omega) hL)]
    cases plainB (tx (s.data.toList.takeWhile (fun c => !isDotB c))) with
    | false => rfl
    | true =>
      rw [bcond_t, Bool.not_true, bcond_f, cB_of _ (fun K => plain_spec (by omega) (by rw [tx_size]; omega) hL)]
      rfl
end
end Go.Ev
set_option maxRecDepth 4000
namespace Go.Ev
open PV
theorem len_z (n : Nat) : ((n : Int) == 0) = (n == 0) := len_eqb n 0
theorem len_1 (n : Nat) : ((n : Int) == 1) = (n == 1) := len_eqb n 1
theorem len_2 (n : Nat) : ((n : Int) == 2) = (n == 2) := len_eqb n 2
theorem len_3 (n : Nat) : ((n : Int) == 3) = (n == 3) := len_eqb n 3
theorem kk {A : Prop} : chk true (chk true (chk true (chk true (chk true (chk true (chk true (chk true A))))))) = A := rfl
section
variable {n : Nat} {sg : List (List PV)} {K : Res → Out}
theorem len2 {l : List Tree} (h : (l.length == 2) = true) : ∃ x y, l = [x, y] := by
  match l, h with
  | [x, y], _ => exact ⟨x, y, rfl⟩
theorem len3 {l : List Tree} (h : (l.length == 3) = true) : ∃ x y z, l = [x, y, z] := by
  match l, h with
  | [x, y, z], _ => exact ⟨x, y, z, rfl⟩
theorem len1 {l : List Tree} (h : (l.length == 1) = true) : ∃ x, l = [x] := List.length_eq_one_iff.1 (by simpa using h)
theorem isType_spec (hL : n ≤ 4611686018427387904) {k : Nat} (t : Tree) (h3 : Txt n t) (hk : 6 ≤ k) : callW (En n) k 96 [nodeV t] sg K = K ⟨false, .bool (fitT .ty t)⟩ sg := by
  rw [callW_at (by omega) rfl, fit_ty]
  show B n _ 96 sg [.agg [.int .i64 t.kind, .str t.text, .int .i64 t.at_, .int .i64 t.end_, .list false (kidRows t.kids)]] K = _
  rw [syntax_isType.eq, kidRows_len, len_z]
  cases (t.kind == 8) with
  | false => rfl
  | true =>
    rw [bcond_t]
    cases (t.kids.length == 0) with
    | false => rfl
    | true => rw [bcond_t, cB_of _ (fun K => type_spec hL (by omega) h3.here)]; rfl
theorem ty_S (hL : n ≤ 4611686018427387904) (d : Nat) : ShS n 96 .ty 6 d := fun k t sg K h1 h2 h3 hk => isType_spec hL t h3 (by omega)
theorem pa_S (hL : n ≤ 4611686018427387904) (d : Nat) : ShS n 129 .pa 7 d := fun k t sg K h1 h2 h3 hk => by
  rw [callW_at (by omega) rfl, fit_pa]
  show B n _ 129 sg [.agg [.int .i64 t.kind, .str t.text, .int .i64 t.at_, .int .i64 t.end_, .list false (kidRows t.kids)]] K = _
  rw [syntax_isParam.eq, kidRows_len, len_1]
  cases (t.kind == 7) with
  | false => rfl
  | true =>
    rw [bcond_t, cB_of _ (fun K => plain_spec (by omega) h3.here hL)]
    cases plainB t.text with
    | false => rfl
    | true =>
      rw [bcond_t]
      cases hl : (t.kids.length == 1) with
      | false => rfl
      | true =>
        obtain ⟨x, hx⟩ := len1 hl
        have h3x : Txt n x := h3.kid (by rw [hx]; simp)
        rw [bcond_t, hx, kidc' _ 0 (by simp), kid0, all_of_sing]
        show chk true (chk true (chk true (chk true (chk true (chk true (chk true (chk true (cB _ 96 [nodeV x] sg (pan K) _)))))))) = _
        rw [kk, cB_of _ (fun K => isType_spec hL x h3x (by omega))]
        rfl
theorem va_S (hL : n ≤ 4611686018427387904) (d : Nat) (hex : ∀ d', d' ≤ d → ShS n 128 .ex 6 d') : ShS n 98 .va 7 d := fun k t sg K h1 h2 h3 hk => by
  rw [callW_at (by omega) rfl, fit_va]
  show B n _ 98 sg [.agg [.int .i64 t.kind, .str t.text, .int .i64 t.at_, .int .i64 t.end_, .list false (kidRows t.kids)]] K = _
  rw [syntax_isVar.eq, kidRows_len, len_2]
  cases (t.kind == 6) with
  | false => rfl
  | true =>
    rw [bcond_t, cB_of _ (fun K => plain_spec (by omega) h3.here hL)]
    cases plainB t.text with
    | false => rfl
    | true =>
      rw [bcond_t]
      cases hl : (t.kids.length == 2) with
      | false => rfl
      | true =>
        obtain ⟨x, y, hx⟩ := len2 hl
        have h3x : Txt n x := h3.kid (by rw [hx]; simp)
        have hy : y ∈ t.kids := by rw [hx]; simp
        rw [bcond_t, hx, kidc' _ 0 (by simp), kid0, kidc' _ 1 (by simp), kid1, fit_two]
        show chk true (chk true (chk true (chk true (chk true (chk true (chk true (chk true (cB _ 96 [nodeV x] sg (pan K) _)))))))) = _
        rw [kk, cB_of _ (fun K => isType_spec hL x h3x (by omega))]
        cases fitT .ty x with
        | false => rfl
        | true =>
          rw [bcond_t]
          show chk true (chk true (chk true (chk true (chk true (chk true (chk true (chk true (cB _ 95 [nodeV y, .int .i64 (0 : Nat), .int .i64 (hiI (some 1)), .fn 128 [] []] sg (pan K) _)))))))) = _
          obtain ⟨d', rfl⟩ : ∃ d', d = d' + 1 := by cases h1; exact ⟨_, rfl⟩
          rw [kk, cB_of _ (fun K => rowOf_spec (hex d' (by omega)) cb128 hL y 0 (some 1) ((h1.kid hy).mono (by omega)) (h2.kid hy) (h3.kid hy) (by omega))]
          rfl
def fitM (o : Option (List W)) (ks : List Tree) : Bool := match o with
  | none => false
  | some ws => fitS ws ks
theorem fitM_ok (b : Bool) (ws : List W) (ks : List Tree) : fitM (okIf b ws) ks = (b && fitS ws ks) := by cases b <;> rfl
theorem fitM_all (b : Bool) (w : W) (ks : List Tree) : fitM (okIf b (List.replicate ks.length w)) ks = (b && ks.all (fitT w)) := by rw [fitM_ok, fitS_rep]
theorem fitM_nil (b : Bool) (ks : List Tree) : fitM (okIf b []) ks = b := by rw [fitM_ok, fitS_nil, Bool.and_true]
theorem fit_M (w : W) (t : Tree) : fitT w t = fitM (needW w t.kind t.text t.kids.length) t.kids := fitT_eq w t
section
variable {q : Caller} {f : Nat} {args : List PV} {r R : Bool} {Y : Out} {Z : Prop}
theorem b_then (b : Bool) (hR : b = true → Z = K ⟨false, .bool R⟩ sg) : bcond b Z (K ⟨false, .bool false⟩ sg) = K ⟨false, .bool (b && R)⟩ sg := by
  cases b with
  | false => rfl
  | true => exact hR rfl
theorem c_last (h : ∀ K : Res → Out, q f args sg K = K ⟨false, .bool r⟩ sg) : cB q f args sg (pan K) (fun b s => K ⟨false, .bool b⟩ s) = K ⟨false, .bool r⟩ sg := cB_of _ h
theorem c_then (h : ∀ K : Res → Out, q f args sg K = K ⟨false, .bool r⟩ sg) (hR : r = true → Y sg = K ⟨false, .bool R⟩ sg) : cB q f args sg (pan K) (fun b s => bcond b (Y s) (K ⟨false, .bool false⟩ s)) = K ⟨false, .bool (r && R)⟩ sg := by
  rw [cB_of _ h]
  exact b_then r hR
end
theorem kb {a b : Int} (h : a = b) : (a == b) = true := beq_iff_eq.2 h
theorem kn {a b : Int} (h : ¬ a = b) : (a == b) = false := beq_eq_false_iff_ne.2 h
theorem ex_S (hL : n ≤ 4611686018427387904) : ∀ d, ShS n 128 .ex 6 d
  | 0 => fun k t sg K h1 h2 h3 hk => by cases h1
  | d + 1 => fun k t sg K h1 h2 h3 hk => by
    have ih := ex_S hL d
    have he : ∀ K : Res → Out, callW (En n) (k - 1) 47 [.list false (kidRows t.kids), .fn 128 [] []] sg K = K ⟨false, .bool (t.kids.all (fitT .ex))⟩ sg := fun K =>
      each_spec cb128 hL t.kids (by omega) (sp_kids ih t.kids (fun x hx => h1.kid hx) (fun x hx => h2.kid hx) (fun x hx => h3.kid hx) (by omega)) h2.len
    have h1k : ∀ x, t.kids = [x] → ∀ K : Res → Out, callW (En n) (k - 1) 128 [nodeV x] sg K = K ⟨false, .bool (fitT .ex x)⟩ sg := fun x hx K => by
      have hm : x ∈ t.kids := by rw [hx]; simp
      exact ih _ x sg K (h1.kid hm) (h2.kid hm) (h3.kid hm) (by omega)
    have hp : ∀ K : Res → Out, callW (En n) (k - 1) 46 [.str t.text] sg K = K ⟨false, .bool (plainB t.text)⟩ sg := fun K => plain_spec (by omega) h3.here hL
    rw [callW_at (by omega) rfl, fit_M]
    show B n _ 128 sg [.agg [.int .i64 t.kind, .str t.text, .int .i64 t.at_, .int .i64 t.end_, .list false (kidRows t.kids)]] K = K ⟨false, .bool (fitM (needEx t.kind t.text t.kids.length) t.kids)⟩ sg
    rw [syntax_isExpr.eq, kidRows_len, len_z, len_1, len_2]
    unfold needEx
    by_cases e15 : t.kind = 15
    · rw [kb e15, if_pos e15, bcond_t, fitM_nil]
      exact b_then _ fun _ => c_last hp
    rw [kn e15, if_neg e15, bcond_f]
    by_cases e16 : t.kind = 16
    · rw [kb e16, if_pos e16, bcond_t, fitM_nil]
      exact b_then _ fun _ => c_last fun K => digits_spec (by omega) h3.here hL
    rw [kn e16, if_neg e16, bcond_f]
    by_cases e17 : t.kind = 17
    · rw [kb e17, if_pos e17, bcond_t, fitM_nil]
      exact b_then _ fun _ => c_last fun K => text_spec (by omega) h3.here hL
    rw [kn e17, if_neg e17, bcond_f]
    by_cases e18 : t.kind = 18
    · rw [kb e18, if_pos e18, bcond_t, fitM_nil]
      refine b_then _ fun _ => ?_
      rw [or_if1, or_if1, or_if1]
      unfold constB
      simp only [List.any_cons, List.any_nil, Bool.or_false]
      rfl
    rw [kn e18, if_neg e18, bcond_f]
    by_cases e19 : t.kind = 19
    · rw [kb e19, if_pos e19, bcond_t, fitM_ok, Bool.and_assoc]
      refine b_then _ fun hl => c_then hp fun _ => ?_
      obtain ⟨x, hx⟩ := len1 hl
      rw [hx, all_of_sing]
      rw [kidc' _ 0 (by simp), kid0]
      show chk true (chk true (chk true (chk true (chk true (chk true (chk true (chk true (cB _ 128 [nodeV x] sg (pan K) _)))))))) = _
      rw [kk]
      exact c_last (h1k x hx)
    rw [kn e19, if_neg e19, bcond_f]
    by_cases e20 : t.kind = 20
    · rw [kb e20, if_pos e20, bcond_t, fitM_all, Bool.and_assoc]
      exact b_then _ fun _ => b_then _ fun _ => c_last he
    rw [kn e20, if_neg e20, bcond_f]
    by_cases e21 : t.kind = 21
    · rw [kb e21, if_pos e21, bcond_t, fitM_all]
      exact c_then (fun K => type_spec hL (by omega) h3.here) fun _ => c_last he
    rw [kn e21, if_neg e21, bcond_f]
    by_cases e22 : t.kind = 22
    · rw [kb e22, if_pos e22, bcond_t, fitM_ok, Bool.and_assoc]
      refine b_then _ fun hl => ?_
      obtain ⟨x, hx⟩ := len1 hl
      rw [hx, all_of_sing]
      rw [kidc' _ 0 (by simp), kid0]
      have go : chk true (chk true (chk true (chk true (chk true (chk true (chk true (chk true (cB (callW (En n) (k - 1)) 128 [nodeV x] sg (pan K) (fun b s => K ⟨false, .bool b⟩ s))))))))) = K ⟨false, .bool (fitT .ex x)⟩ sg := by
        rw [kk]; exact c_last (h1k x hx)
      show bcond (eqB t.text ⟨#[33]⟩) _ (bcond (eqB t.text ⟨#[45]⟩) _ _) = _
      cases eqB t.text ⟨#[33]⟩ with
      | true => exact go
      | false =>
        rw [bcond_f, Bool.false_or]
        exact b_then _ fun _ => go
    rw [kn e22, if_neg e22, bcond_f]
    by_cases e23 : t.kind = 23
    · rw [kb e23, if_pos e23, bcond_t, fitM_ok, Bool.and_assoc]
      refine b_then _ fun hl => ?_
      have e2 : fitS [.ex, .ex] t.kids = t.kids.all (fitT .ex) := by
        rw [← fitS_rep, show t.kids.length = 2 by simpa using hl]; rfl
      rw [e2]
      exact c_then (fun K => oper_spec (by omega)) fun _ => c_last he
    rw [kn e23, if_neg e23, bcond_f]
    rfl
theorem bl_of (hL : n ≤ 4611686018427387904) {d : Nat} (hst : ShS n 166 .st 8 d) : ShS n 130 .bl 7 (d + 1) := fun k t sg K h1 h2 h3 hk => by
  have he : ∀ K : Res → Out, callW (En n) (k - 1) 47 [.list false (kidRows t.kids), .fn 166 [] []] sg K = K ⟨false, .bool (t.kids.all (fitT .st))⟩ sg := fun K =>
    each_spec cb166 hL t.kids (by omega) (sp_kids hst t.kids (fun x hx => h1.kid hx) (fun x hx => h2.kid hx) (fun x hx => h3.kid hx) (by omega)) h2.len
  rw [callW_at (by omega) rfl, fit_bl, Bool.and_assoc]
  show B n _ 130 sg [.agg [.int .i64 t.kind, .str t.text, .int .i64 t.at_, .int .i64 t.end_, .list false (kidRows t.kids)]] K = _
  rw [syntax_isBlock.eq]
  exact b_then _ fun _ => b_then _ fun _ => c_last he
theorem bl_0 : ShS n 130 .bl 7 0 := fun k t sg K h1 h2 h3 hk => by cases h1
theorem st_of (hL : n ≤ 4611686018427387904) {d : Nat} (hbl : ∀ d', d' ≤ d + 1 → ShS n 130 .bl 7 d') : ShS n 166 .st 8 (d + 1) := fun k t sg K h1 h2 h3 hk => by
  have ih := ex_S hL d
  have he : ∀ K : Res → Out, callW (En n) (k - 1) 47 [.list false (kidRows t.kids), .fn 128 [] []] sg K = K ⟨false, .bool (t.kids.all (fitT .ex))⟩ sg := fun K =>
    each_spec cb128 hL t.kids (by omega) (sp_kids ih t.kids (fun x hx => h1.kid hx) (fun x hx => h2.kid hx) (fun x hx => h3.kid hx) (by omega)) h2.len
  have hx : ∀ x ∈ t.kids, ∀ K : Res → Out, callW (En n) (k - 1) 128 [nodeV x] sg K = K ⟨false, .bool (fitT .ex x)⟩ sg := fun x hm K => ih _ x sg K (h1.kid hm) (h2.kid hm) (h3.kid hm) (by omega)
  have hb : ∀ x ∈ t.kids, ∀ K : Res → Out, callW (En n) (k - 1) 130 [nodeV x] sg K = K ⟨false, .bool (fitT .bl x)⟩ sg := fun x hm K => hbl d (by omega) _ x sg K (h1.kid hm) (h2.kid hm) (h3.kid hm) (by omega)
  rw [callW_at (by omega) rfl, fit_M]
  show B n _ 166 sg [.agg [.int .i64 t.kind, .str t.text, .int .i64 t.at_, .int .i64 t.end_, .list false (kidRows t.kids)]] K = K ⟨false, .bool (fitM (needSt t.kind t.text t.kids.length) t.kids)⟩ sg
  rw [syntax_isStmt.eq]
  unfold needSt
  by_cases e6 : t.kind = 6
  · rw [kb e6, if_pos e6, bcond_t]
    have := fit_M .va t
    rw [show needW .va t.kind t.text t.kids.length = needVa t.kind t.text t.kids.length from rfl] at this
    rw [← this]
    exact c_last fun K => va_S hL (d + 1) (fun d' _ => ex_S hL d') _ t sg K h1 h2 h3 (by omega)
  rw [kn e6, if_neg e6, bcond_f, C_eq, syntax_isStmt.cut0, kidRows_len, len_1, len_2, len_3]
  show bcond (!noB t.text) _ _ = _
  cases hn : noB t.text with
  | false => rfl
  | true =>
    rw [if_neg (by simp), Bool.not_true, bcond_f]
    by_cases e9 : t.kind = 9
    · rw [kb e9, if_pos e9, bcond_t]
      have := fit_M .bl t
      rw [show needW .bl t.kind t.text t.kids.length = needBl t.kind t.text t.kids.length from rfl] at this
      rw [← this]
      exact c_last fun K => hbl (d + 1) (by omega) _ t sg K h1 h2 h3 (by omega)
    rw [kn e9, if_neg e9, bcond_f]
    by_cases e10 : t.kind = 10
    · rw [kb e10, if_pos e10, bcond_t, fitM_all, show decide ((t.kids.length : Int) ≤ 1) = decide (t.kids.length ≤ 1) by rw [Bool.eq_iff_iff, decide_eq_true_iff, decide_eq_true_iff]; omega]
      exact b_then _ fun _ => c_last he
    rw [kn e10, if_neg e10, bcond_f]
    by_cases e11 : t.kind = 11
    · rw [kb e11, if_pos e11, bcond_t, fitM_ok]
      refine b_then _ fun hl => ?_
      obtain ⟨x, y, z, hk3⟩ := len3 hl
      rw [hk3, fit_three, kidc' _ 0 (by simp), kid0, kidc' _ 1 (by simp), kid1, kidc' _ 2 (by simp), kid2]
      show chk true (chk true (chk true (chk true (chk true (chk true (chk true (chk true (cB _ 128 [nodeV x] sg (pan K) _)))))))) = _
      rw [kk]
      refine c_then (hx x (by rw [hk3]; simp)) fun _ => ?_
      show chk true (chk true (chk true (chk true (chk true (chk true (chk true (chk true (cB _ 130 [nodeV y] sg (pan K) _)))))))) = _
      rw [kk]
      refine c_then (hb y (by rw [hk3]; simp)) fun _ => ?_
      show chk true (chk true (chk true (chk true (chk true (chk true (chk true (chk true (cB _ 95 [nodeV z, .int .i64 (0 : Nat), .int .i64 (hiI (some 1)), .fn 130 [] []] sg (pan K) _)))))))) = _
      rw [kk]
      have hz : z ∈ t.kids := by rw [hk3]; simp
      refine c_last fun K => ?_
      cases d with
      | zero => have := h1.kid hz; cases this
      | succ d => exact rowOf_spec (hbl d (by omega)) cb130 hL z 0 (some 1) (h1.kid hz) (h2.kid hz) (h3.kid hz) (by omega)
    rw [kn e11, if_neg e11, bcond_f]
    by_cases e12 : t.kind = 12
    · rw [kb e12, if_pos e12, bcond_t, fitM_ok]
      refine b_then _ fun hl => ?_
      obtain ⟨x, y, hk3⟩ := len2 hl
      rw [hk3, fit_two, kidc' _ 0 (by simp), kid0, kidc' _ 1 (by simp), kid1]
      show chk true (chk true (chk true (chk true (chk true (chk true (chk true (chk true (cB _ 128 [nodeV x] sg (pan K) _)))))))) = _
      rw [kk]
      refine c_then (hx x (by rw [hk3]; simp)) fun _ => ?_
      show chk true (chk true (chk true (chk true (chk true (chk true (chk true (chk true (cB _ 130 [nodeV y] sg (pan K) _)))))))) = _
      rw [kk]
      exact c_last (hb y (by rw [hk3]; simp))
    rw [kn e12, if_neg e12, bcond_f]
    by_cases e13 : t.kind = 13
    · rw [kb e13, if_pos e13, bcond_t, fitM_ok]
      refine b_then _ fun hl => ?_
      have e2 : fitS [.ex, .ex] t.kids = t.kids.all (fitT .ex) := by
        rw [← fitS_rep, show t.kids.length = 2 by simpa using hl]; rfl
      rw [e2]
      exact c_last he
    rw [kn e13, if_neg e13, bcond_f]
    by_cases e14 : t.kind = 14
    · rw [kb e14, if_pos e14, bcond_t, fitM_ok]
      refine b_then _ fun hl => ?_
      have e2 : fitS [.ex] t.kids = t.kids.all (fitT .ex) := by
        rw [← fitS_rep, show t.kids.length = 1 by simpa using hl]; rfl
      rw [e2]
      exact c_last he
    rw [kn e14, if_neg e14, bcond_f]
    rfl
theorem bl_st (hL : n ≤ 4611686018427387904) : ∀ d, (∀ d', d' ≤ d → ShS n 130 .bl 7 d') ∧ ∀ d', d' ≤ d → ShS n 166 .st 8 d'
  | 0 => ⟨fun d' h => by obtain rfl : d' = 0 := by omega
                         exact bl_0, fun d' h => by obtain rfl : d' = 0 := by omega
                                                    exact fun k t sg K h1 h2 h3 hk => by cases h1⟩
  | d + 1 => by
    obtain ⟨i1, i2⟩ := bl_st hL d
    have b : ∀ d', d' ≤ d + 1 → ShS n 130 .bl 7 d' := fun d' h => by
      by_cases e : d' = d + 1
      · subst e; exact bl_of hL (i2 d (by omega))
      · exact i1 d' (by omega)
    exact ⟨b, fun d' h => by
      by_cases e : d' = d + 1
      · subst e; exact st_of hL b
      · exact i2 d' (by omega)⟩
theorem isFunc_spec (hL : n ≤ 4611686018427387904) {d k : Nat} (b : Bool) (i : Int) (hi : i = ((b.toNat : Nat) : Int)) (t : Tree) (h1 : Hgt d t) (h2 : Wid n t) (h3 : Txt n t) (hk : 6 * d + 7 ≤ k) : callW (En n) k 99 [nodeV t, .int .i64 i] sg K = K ⟨false, .bool (fitT (.fu b) t)⟩ sg := by
  subst hi
  have hp : ∀ K : Res → Out, callW (En n) (k - 1) 46 [.str t.text] sg K = K ⟨false, .bool (plainB t.text)⟩ sg := fun K => plain_spec (by omega) h3.here hL
  rw [callW_at (by omega) rfl, fit_fu, Bool.and_assoc, Bool.and_assoc]
  show B n _ 99 sg [.agg [.int .i64 t.kind, .str t.text, .int .i64 t.at_, .int .i64 t.end_, .list false (kidRows t.kids)], _] K = _
  rw [syntax_isFunc.eq, kidRows_len, len_3]
  refine b_then _ fun _ => c_then hp fun _ => b_then _ fun hl => ?_
  obtain ⟨x, y, z, hk3⟩ := len3 hl
  have hx : x ∈ t.kids := by rw [hk3]; simp
  have hy : y ∈ t.kids := by rw [hk3]; simp
  have hz : z ∈ t.kids := by rw [hk3]; simp
  obtain ⟨d', rfl⟩ : ∃ d', d = d' + 1 := by cases h1; exact ⟨_, rfl⟩
  rw [hk3, fit_three, kidc' _ 0 (by simp), kid0, kidc' _ 1 (by simp), kid1, kidc' _ 2 (by simp), kid2]
  show chk true (chk true (chk true (chk true (chk true (chk true (chk true (chk true (cB _ 95 [nodeV x, .int .i64 (0 : Nat), .int .i64 (hiI none), .fn 129 [] []] sg (pan K) _)))))))) = _
  rw [kk]
  have hd : ∃ e, d' = e + 1 := by
    have := h1.kid hx
    cases this; exact ⟨_, rfl⟩
  obtain ⟨e, rfl⟩ := hd
  refine c_then (fun K => rowOf_spec (pa_S hL e) cb129 hL x 0 none (h1.kid hx) (h2.kid hx) (h3.kid hx) (by omega)) fun _ => ?_
  show chk true (chk true (chk true (chk true (chk true (chk true (chk true (chk true (cB _ 95 [nodeV y, .int .i64 (0 : Nat), .int .i64 (hiI (some 1)), .fn 96 [] []] sg (pan K) _)))))))) = _
  rw [kk]
  refine c_then (fun K => rowOf_spec (ty_S hL e) cb96 hL y 0 (some 1) (h1.kid hy) (h2.kid hy) (h3.kid hy) (by omega)) fun _ => ?_
  show chk true (chk true (chk true (chk true (chk true (chk true (chk true (chk true (cB _ 95 [nodeV z, .int .i64 (b.toNat : Nat), .int .i64 (hiI (some b.toNat)), .fn 130 [] []] sg (pan K) _)))))))) = _
  rw [kk]
  exact c_last fun K => rowOf_spec ((bl_st hL e).1 e (by omega)) cb130 hL z b.toNat (some b.toNat) (h1.kid hz) (h2.kid hz) (h3.kid hz) (by omega)
theorem va_all (hL : n ≤ 4611686018427387904) (d : Nat) : ShS n 98 .va 7 d := va_S hL d fun d' _ => ex_S hL d'
theorem me_S (hL : n ≤ 4611686018427387904) (d : Nat) : ShS n 97 .me 8 d := fun k t sg K h1 h2 h3 hk => by
  rw [callW_at (by omega) rfl, fit_me]
  show B n _ 97 sg [.agg [.int .i64 t.kind, .str t.text, .int .i64 t.at_, .int .i64 t.end_, .list false (kidRows t.kids)]] K = _
  rw [syntax_isDecl_1.eq]
  show cB _ 98 [nodeV t] sg (pan K) _ = _
  rw [cB_of _ (fun K => va_all hL d _ t sg K h1 h2 h3 (by omega))]
  cases fitT .va t with
  | true => rfl
  | false => exact c_last fun K => isFunc_spec hL true 1 rfl t h1 h2 h3 (by omega)
theorem si_S (hL : n ≤ 4611686018427387904) (d : Nat) : ShS n 100 .si 8 d := fun k t sg K h1 h2 h3 hk => by
  rw [callW_at (by omega) rfl, fit_si]
  show B n _ 100 sg [.agg [.int .i64 t.kind, .str t.text, .int .i64 t.at_, .int .i64 t.end_, .list false (kidRows t.kids)]] K = _
  rw [syntax_isDecl_2.eq]
  exact c_last fun K => isFunc_spec hL false 0 rfl t h1 h2 h3 (by omega)
theorem de_S (hL : n ≤ 4611686018427387904) (d : Nat) : ShS n 48 .de 8 d := fun k t sg K h1 h2 h3 hk => by
  have hp : ∀ K : Res → Out, callW (En n) (k - 1) 46 [.str t.text] sg K = K ⟨false, .bool (plainB t.text)⟩ sg := fun K => plain_spec (by omega) h3.here hL
  rw [callW_at (by omega) rfl, fit_M]
  show B n _ 48 sg [.agg [.int .i64 t.kind, .str t.text, .int .i64 t.at_, .int .i64 t.end_, .list false (kidRows t.kids)]] K = K ⟨false, .bool (fitM (needDe t.kind t.text t.kids.length) t.kids)⟩ sg
  rw [syntax_isDecl.eq, kidRows_len, len_2, len_3]
  unfold needDe
  by_cases e3 : t.kind = 3
  · rw [kb e3, if_pos e3, bcond_t, fitM_ok, Bool.and_assoc]
    refine c_then hp fun _ => b_then _ fun hl => ?_
    obtain ⟨x, y, z, hk3⟩ := len3 hl
    have hx : x ∈ t.kids := by rw [hk3]; simp
    have hy : y ∈ t.kids := by rw [hk3]; simp
    have hz : z ∈ t.kids := by rw [hk3]; simp
    obtain ⟨d', rfl⟩ : ∃ d', d = d' + 1 := by cases h1; exact ⟨_, rfl⟩
    obtain ⟨e, rfl⟩ : ∃ e, d' = e + 1 := by
      have := h1.kid hx
      cases this; exact ⟨_, rfl⟩
    rw [hk3, fit_three, kidc' _ 0 (by simp), kid0, kidc' _ 1 (by simp), kid1, kidc' _ 2 (by simp), kid2]
    show chk true (chk true (chk true (chk true (chk true (chk true (chk true (chk true (cB _ 95 [nodeV x, .int .i64 (0 : Nat), .int .i64 (hiI (some 1)), .fn 96 [] []] sg (pan K) _)))))))) = _
    rw [kk]
    refine c_then (fun K => rowOf_spec (ty_S hL e) cb96 hL x 0 (some 1) (h1.kid hx) (h2.kid hx) (h3.kid hx) (by omega)) fun _ => ?_
    show chk true (chk true (chk true (chk true (chk true (chk true (chk true (chk true (cB _ 95 [nodeV y, .int .i64 (0 : Nat), .int .i64 (hiI none), .fn 96 [] []] sg (pan K) _)))))))) = _
    rw [kk]
    refine c_then (fun K => rowOf_spec (ty_S hL e) cb96 hL y 0 none (h1.kid hy) (h2.kid hy) (h3.kid hy) (by omega)) fun _ => ?_
    show chk true (chk true (chk true (chk true (chk true (chk true (chk true (chk true (cB _ 95 [nodeV z, .int .i64 (0 : Nat), .int .i64 (hiI none), .fn 97 [] []] sg (pan K) _)))))))) = _
    rw [kk]
    exact c_last fun K => rowOf_spec (me_S hL e) cb97 hL z 0 none (h1.kid hz) (h2.kid hz) (h3.kid hz) (by omega)
  rw [kn e3, if_neg e3, bcond_f]
  by_cases e4 : t.kind = 4
  · rw [kb e4, if_pos e4, bcond_t, fitM_ok, Bool.and_assoc]
    refine c_then hp fun _ => b_then _ fun hl => ?_
    obtain ⟨x, y, hk3⟩ := len2 hl
    have hx : x ∈ t.kids := by rw [hk3]; simp
    have hy : y ∈ t.kids := by rw [hk3]; simp
    obtain ⟨d', rfl⟩ : ∃ d', d = d' + 1 := by cases h1; exact ⟨_, rfl⟩
    obtain ⟨e, rfl⟩ : ∃ e, d' = e + 1 := by
      have := h1.kid hx
      cases this; exact ⟨_, rfl⟩
    rw [hk3, fit_two, kidc' _ 0 (by simp), kid0, kidc' _ 1 (by simp), kid1]
    show chk true (chk true (chk true (chk true (chk true (chk true (chk true (chk true (cB _ 95 [nodeV x, .int .i64 (0 : Nat), .int .i64 (hiI none), .fn 96 [] []] sg (pan K) _)))))))) = _
    rw [kk]
    refine c_then (fun K => rowOf_spec (ty_S hL e) cb96 hL x 0 none (h1.kid hx) (h2.kid hx) (h3.kid hx) (by omega)) fun _ => ?_
    show chk true (chk true (chk true (chk true (chk true (chk true (chk true (chk true (cB _ 95 [nodeV y, .int .i64 (0 : Nat), .int .i64 (hiI none), .fn 100 [] []] sg (pan K) _)))))))) = _
    rw [kk]
    exact c_last fun K => rowOf_spec (si_S hL e) cb100 hL y 0 none (h1.kid hy) (h2.kid hy) (h3.kid hy) (by omega)
  rw [kn e4, if_neg e4, bcond_f, C_eq, syntax_isDecl.cut0]
  have := fit_M .me t
  rw [show needW .me t.kind t.text t.kids.length = needMe t.kind t.text t.kids.length from rfl] at this
  rw [← this, fit_me]
  show cB _ 98 [nodeV t] sg (pan K) _ = _
  rw [cB_of _ (fun K => va_all hL d _ t sg K h1 h2 h3 (by omega))]
  cases fitT .va t with
  | true => rfl
  | false => exact c_last fun K => isFunc_spec hL true 1 rfl t h1 h2 h3 (by omega)
theorem de_imp {t : Tree} (h : t.kind = 2) : fitT .de t = false := by
  rw [fit_M]
  show fitM (needDe t.kind t.text t.kids.length) t.kids = false
  unfold needDe needMe needFu
  rw [h, if_neg (by decide), if_neg (by decide), if_neg (by decide), fitM_ok]
  rfl
theorem kid_i (l : List Tree) (i : Nat) (h : i < l.length) : chk (rowsOk 5 (kidRows l) && (decide ((0 : Int) ≤ (i : Int)) && decide ((i : Int) < ((kidRows l).length : Int)))) = chk true := by rw [kid_chk l i h]
theorem right_loop {k : Nat} {i0 i2 i3 i5 i7 i8 : Int} {t1 t6 : ByteArray} {r4 : List (List PV)} {b11 : Bool} (hL : n ≤ 4611686018427387904) (l : List Tree) (hk : 2 ≤ k) (hn : l.length < n) (ht : ∀ x ∈ l, Txt n x)
    (he : ∀ (i : Nat), i ≤ l.length → ∀ K : Res → Out, callW (En n) k 47 [.list false (kidRows (l.drop i)), .fn 48 [] []] sg K = K ⟨false, .bool ((l.drop i).all (fitT .de))⟩ sg) :
    ∀ (r : List Tree) (i m : Nat) (p12 p13 : PV), l.drop i = r → i ≤ l.length → r.length < m →
    L n (callW (En n) k) 17 [1, 1, 1, 0, 0, 0] (syntax_Right.S1 i0 t1 i2 i3 r4 i5 t6 i7 i8 (kidRows l) (i : Int) b11 p12 p13) sg (syntax_Right.K1 (callW (En n) k) n K) m = K ⟨false, .bool ((r.dropWhile isImp).all (fitT .de))⟩ sg := by
  have rest : ∀ (i : Nat) (b12 : Bool) (p13 : PV), i ≤ l.length → C n (callW (En n) k) 17 [1, 1, 1, 1] (syntax_Right.S3 i0 t1 i2 i3 r4 i5 t6 i7 i8 (kidRows l) (i : Int) b11 b12 p13) sg (syntax_Right.K3 (callW (En n) k) n K) = K ⟨false, .bool ((l.drop i).all (fitT .de))⟩ sg := by
    intro i b12 p13 hi
    have e1 : ((kidRows l).drop i).take (l.length - i) = kidRows (l.drop i) := by
      rw [kidRows_map, kidRows_map, ← List.map_drop, List.take_of_length_le (by simp)]
    rw [C_eq, syntax_Right.cut3, kidRows_ok, kidRows_len, decide_eq_true (show (0 : Int) ≤ (i : Int) by omega), decide_eq_true (show (i : Int) ≤ (l.length : Int) by omega), decide_eq_true (show (l.length : Int) ≤ (l.length : Int) by omega), Bool.and_self, Bool.and_self, Bool.and_self, chk_t, Int.toNat_natCast, Int.toNat_natCast, e1]
    exact c_last (he i hi)
  intro r
  induction r with
  | nil =>
    intro i m p12 p13 hr hi hm
    obtain ⟨m, rfl⟩ : ∃ m', m = m' + 1 := ⟨m - 1, by simp at hm; omega⟩
    have : i = l.length := by have := List.drop_eq_nil_iff.1 hr; omega
    rw [L_succ, syntax_Right.loop1, kidRows_len, decide_eq_false (show ¬ ((i : Int) < (l.length : Int)) by omega), bcond_f, rest i _ _ hi, hr]
    rfl
  | cons y r ih =>
    intro i m p12 p13 hr hi hm
    obtain ⟨m, rfl⟩ : ∃ m', m = m' + 1 := ⟨m - 1, by simp at hm; omega⟩
    obtain ⟨hil, hy, hr'⟩ := drop_some hr
    have hmem : y ∈ l := List.mem_of_mem_drop (by rw [hr]; exact List.mem_cons_self)
    have ew : IntKind.i64.wrap ((i : Int) + 1) = ((i + 1 : Nat) : Int) := wrap_id _ (by omega) (by omega)
    rw [L_succ, syntax_Right.loop1, kid_i l i hil, kidRows_len, decide_eq_true (show ((i : Int) < (l.length : Int)) by omega), bcond_t, kid_at l i hil, hy]
    show chk true (chk true (chk true (bcond (y.kind == 2) (C n _ 17 _ (syntax_Right.S2 i0 t1 i2 i3 r4 i5 t6 i7 i8 (kidRows l) (i : Int) b11 _ p13) sg _) (C n _ 17 _ (syntax_Right.S3 i0 t1 i2 i3 r4 i5 t6 i7 i8 (kidRows l) (i : Int) b11 _ p13) sg _)))) = _
    rw [chk_t, chk_t, chk_t, List.dropWhile_cons]
    by_cases h2 : y.kind = 2
    · rw [kb h2, bcond_t, C_eq, syntax_Right.cut2, kid_i l i hil, kid_at l i hil, hy]
      show chk true (chk true (chk true (cB _ 46 [.str y.text] sg (pan K) fun b s => bcond (!b) _ (chk true (chk true (chk true (bcond (decide (((kidRows y.kids).length : Int) > 0)) _ _))))))) = _
      rw [chk_t, chk_t, chk_t, cB_of _ (fun K => plain_spec (by omega) (ht y hmem).here hL), kidRows_len]
      have hd : ∀ b : Bool, isImp y = false → K ⟨false, .bool false⟩ sg = K ⟨false, .bool ((if isImp y = true then r.dropWhile isImp else y :: r).all (fitT .de))⟩ sg := by
        intro _ h
        rw [if_neg (by simp [h]), List.all_cons, de_imp h2]
        rfl
      cases hp : plainB y.text with
      | false => exact hd true (by unfold isImp; rw [hp]; simp)
      | true =>
        rw [Bool.not_true, bcond_f]
        simp only [chk_t]
        by_cases h0 : y.kids.length = 0
        · rw [decide_eq_false (show ¬ ((y.kids.length : Int) > 0) by omega), bcond_f, if_pos (by unfold isImp; rw [hp, h0, h2]; rfl), ew]
          exact ih (i + 1) m _ _ hr' (by omega) (by simp at hm; omega)
        · rw [decide_eq_true (show ((y.kids.length : Int) > 0) by omega), bcond_t]
          exact hd true (by unfold isImp; simp [h0])
    · rw [kn h2, bcond_f, rest i _ _ hi, hr, if_neg (by unfold isImp; rw [kn h2]; simp)]
theorem right_spec (hL : n ≤ 4611686018427387904) {d k : Nat} (t : Tree) (h1 : Hgt d t) (h2 : Wid n t) (h3 : Txt n t) (hk : 6 * d + 10 ≤ k) : callW (En n) k 17 [nodeV t] sg K = K ⟨false, .bool (rightT t)⟩ sg := by
  rw [callW_at (by omega) rfl]
  show B n _ 17 sg [.agg [.int .i64 t.kind, .str t.text, .int .i64 t.at_, .int .i64 t.end_, .list false (kidRows t.kids)]] K = _
  rw [syntax_Right.eq]
  unfold rightT
  show bcond (!(t.kind == 1)) _ (bcond (!noB t.text) _ _) = _
  cases (t.kind == 1) with
  | false => rfl
  | true =>
    rw [Bool.not_true, bcond_f]
    cases noB t.text with
    | false => rfl
    | true =>
      rw [Bool.not_true, bcond_f]
      show cI _ 28 [nodeV t] sg (pan K) _ = _
      rw [cI_of _ (fun K => depth_spec hL d (k - 1) t K h1 (by omega) h2)]
      have e : decide (depthT t > 12) = !decide (depthT t ≤ 12) := by
        rw [Bool.eq_iff_iff]; simp
      rw [e]
      cases decide (depthT t ≤ 12) with
      | false => rfl
      | true =>
        rw [Bool.not_true, bcond_f, C_eq, syntax_Right.cut0]
        obtain ⟨d', rfl⟩ : ∃ d', d = d' + 1 := by cases h1; exact ⟨_, rfl⟩
        refine (right_loop hL t.kids (by omega) h2.len (fun x hx => h3.kid hx) (fun i hi K => ?_) t.kids 0 n _ _ rfl (by omega) h2.len).trans ?_
        · have hm : ∀ x ∈ t.kids.drop i, x ∈ t.kids := fun x hx => List.mem_of_mem_drop hx
          exact each_spec cb48 hL _ (by omega) (sp_kids (de_S hL d') _ (fun x hx => h1.kid (hm x hx)) (fun x hx => h2.kid (hm x hx)) (fun x hx => h3.kid (hm x hx)) (by omega)) (by have := h2.len; simp; omega)
        · simp
end
end Go.Ev
